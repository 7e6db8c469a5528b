/- Contracts of the functions that the statements of this seat reach, part 22: each says what the call answers and what it leaves of the memory. -/
import Derived.Test.YtofibccplbnaiaaGreatDoorP21
import Derived.Test.YtofibccplbnaiaaGreatDoorP2
import Derived.Lib.AppendZeros
set_option linter.unusedVariables false
set_option linter.unusedSimpArgs false
set_option maxRecDepth 100000
set_option maxHeartbeats 64000000
namespace Go.Proofs.YtofibccplbnaiaaGreatDoor
section
open Go.RowKit
theorem Zeb (l:List KV) (key:List UInt8):Xa l key=l.take (Xa l key).length∧l.dropWhile (fun x=>decide (x.1<key))=l.drop (Xa l key).length:=by have h:Xa l key++l.dropWhile (fun x=>decide (x.1<key))=l:=List.takeWhile_append_dropWhile;refine⟨List.prefix_iff_eq_take.1 (List.takeWhile_prefix _),?_⟩;have h2:=congrArg (List.drop (Xa l key).length) h;rwa[List.drop_left] at h2
theorem getL_no {l:List KV} {key:List UInt8} (h:(Zab l key).2=false):Zab l key=([],false)∧Zaz l key=l.drop (Xa l key).length:=by
 obtain⟨_,e2⟩:=Zeb l key;unfold Zab at h ⊢;unfold Zaz;rw[e2] at h ⊢
 cases hd:l.drop (Xa l key).length with
 | nil=>exact⟨rfl,rfl⟩
 | cons x r =>
  rw[hd] at h;simp only at h ⊢;by_cases e:x.1=key
  ·rw[if_pos e] at h;simp at h
  ·rw[if_neg e,if_neg e];exact⟨rfl,rfl⟩
theorem getL_yes {l:List KV} {key:List UInt8} (h:(Zab l key).2=true):∃hk:(Xa l key).length<l.length,l[(Xa l key).length].2=(Zab l key).1∧l[(Xa l key).length].1=key∧Zaz l key=l.drop ((Xa l key).length+1):=by
 obtain⟨_,e2⟩:=Zeb l key
 have hk:(Xa l key).length<l.length:=by
  rcases Nat.lt_or_ge (Xa l key).length l.length with h1 | h1
  ·exact h1
  ·rw[(get_end (l:=l) (key:=key) (by rw[e2];exact List.drop_eq_nil_of_le h1)).1] at h;simp at h
 obtain⟨e3,e4⟩:=get_at hk e2;rw[e3] at h;by_cases e:l[(Xa l key).length].1=key
 ·rw[if_pos e] at e3 e4;exact⟨hk,by rw[e3],e,e4⟩
 ·rw[if_neg e] at h;simp at h
theorem Qj.tailAny {w:World} {a:Option Addr} {n cap:Nat} {l:List KV} (h:Qj w (.slice a n cap) l) (k:Nat) (hk:k≤l.length):Qj w (.slice (if cap=k then a else a.map (fun x=>x.add (k*2))) (l.length - k) (cap - k)) (l.drop k):=by
 rcases Nat.lt_or_ge k l.length with hlt | hge
 ·obtain⟨b,o,rfl,_⟩:=h.at k hlt
  have hn:n=l.length:=by obtain⟨_,_,hv,_⟩:=h;injection hv
  have hc:¬cap=k:=by obtain⟨_,_,hv,h2,_⟩:=h;injection hv with _ _ e;omega
  rw[if_neg hc,Option.map_some,Addr.add_mid];exact h.drop k hk
 ·obtain⟨a',cap',hv,hl,hm,hn,hc⟩:=h
  injection hv with e1 e2 e3;subst e1 e2 e3;have e:l.drop k=[]:=List.drop_eq_nil_of_le hge
  rw[e];refine⟨_,cap - k,by rw[show l.length - k=0 by omega];rfl,by simp,by omega,fun h0=>?_,fun x _=>⟨fun h=>by simp at h,fun i hi=>by simp at hi⟩⟩
  split at h0
  ·omega
  ·rw[Option.map_eq_none_iff] at h0;have:=hn h0;omega
theorem run_make_pv (w:World) (base c:Nat) (z:Int) (hzc:z=c) (hc:c≤1000001) (hb:base≤w.heap.size):∃w',(Instr.makeSlice 28 (.int .i64 0) (.int .i64 z)).run Tryz.prog w=.ok (.slice (some ⟨w.heap.size,0,none⟩) 0 c) w'∧Xo base w' (.slice (some ⟨w.heap.size,0,none⟩) 0 c) []∧Below base w w':=by subst hzc;obtain⟨i,hi,hz,hs1,hb1⟩:=info_parts (P:=Tryz.prog) (e:=35) info_pair;obtain⟨w',h1,h2,h3⟩:=run_makeSlice_owned (P:=Tryz.prog) (w:=w) base 28 35 i _ 2 Tryz.underlying28 hi hz hs1 .i64 .i64 c (by omega) (by rw[hb1];omega) (by unfold maxLen;omega) hb;exact⟨w',h1,h2,(Below.refl base w).grown h3 hb fun k hk=>by cases hk⟩
theorem pv_app {B:Nat} {w:World} {v u:Value} {l m:List KV} (h:Xo B w v l) (hu:Qj w u m) (hB:B≤w.heap.size) (hL:l.length+m.length≤1000000) :
  ∃a n k w',(Builtin.append_ #[28,28] 28 #[v,u]).run Tryz.prog w=.ok (.slice a n k) w'∧Xo B w' (.slice a n k) (l++m)∧Below B w w':=by
 obtain⟨v',w',hr,hm,hg,_⟩:=h.app hu hB hL;obtain⟨a,k,rfl,_⟩:=hm.isE;exact⟨a,_,k,w',hr,hm,(Below.refl B w).grown hg hB fun k hk=>(h.lt hk).1⟩
theorem pv_lit (w:World) (x:KV):Qj (w.alloc (.cells #[.string ⟨x.1.toArray⟩,.string ⟨x.2.toArray⟩] 35)) (.slice (some ⟨w.heap.size,0,none⟩) 1 1) [x]:=by
 refine⟨_,1,rfl,by simp,by unfold maxLen;omega,fun e=>(by cases e),?_⟩;rintro y ⟨⟩;refine⟨fun _=>rfl,fun i hi=>?_⟩;obtain rfl:i=0:=by simpa using hi
 have hh:(w.alloc (.cells #[.string ⟨x.1.toArray⟩,.string ⟨x.2.toArray⟩] 35)).heap[w.heap.size]?=some (.cells #[.string ⟨x.1.toArray⟩,.string ⟨x.2.toArray⟩] 35 (0,0)):=heap_alloc_new w _;exact⟨(cell_of_row _ _ 0 _ _ _ hh).trans rfl,(cell_of_row _ _ 1 _ _ _ hh).trans rfl⟩
theorem Xo.alloc {B:Nat} {w:World} {v:Value} {l:List KV} (h:Xo B w v l) (o:Obj):Xo B (w.alloc o) v l:=h.below (Zj w o)
theorem Zgw {ops:Array Oper} {w w':World} {K:Act→World→Prop} {Q:Exit→Act→World→Prop} {a:Act} {o:Oper} {E:Prop} (hg:o.guard=none) (s x:Operand) (t t':TypeId) (ho:o.op=.call { callee:=.builtin .append,args:=#[s,x],argTypes:=#[t,t'] }) (u v r:Value)
  (hs:a.eval s=u) (hx:a.eval x=v) (hr:(Builtin.append_ #[t,t'] o.type #[u,v]).run Tryz.prog w=.ok r w') (h:K (a.put o.dst r) w'):if Region.wanted o (yielded ops a.tmps)=true then Oper.wp Tryz.prog o a w K Q else E:=by
 rw[if_pos (by simp[Region.wanted,hg])];unfold Oper.wp execOp;simp only[ho,resolve,invoke,builtin,Sem.run_bind,Sem.run_pure,Result.andThen_ok,List.map_toArray,List.map_cons,List.map_nil,hs,hx,hr];exact h
theorem rget_any (w:World) {v:Value} {l:List KV} (h:Qj w v l) (key:List UInt8) :
  Calls Tryz.prog 9 #[v,.string ⟨key.toArray⟩] w fun e w'=>e=.returned (.tuple #[.string ⟨(Zab l key).1.toArray⟩,.bool (Zab l key).2])∧Below w.heap.size w w':=by
 have HP:=Hd (place_any w h key);obtain⟨a,cap,rfl,hl1,hl2⟩:=h.form;unfold maxLen at hl2;have H:=Hd h;clear h;go_enter Tryz.func9,Tryz.ntmps9;go_wp2_with fail;refine HP.out.mono ?_;rintro e w1 ⟨⟨rfl,hk⟩,hb1⟩;have H1:=Hd (H.out.below hb1);have HB:=Hd hb1;clear hb1;by_cases hg:(Zab l key).2=true
 ·obtain⟨hlt,h2,_,_⟩:=getL_yes hg
  obtain⟨k,hkk⟩:∃k,k=(Xa l key).length:=⟨_,rfl⟩;obtain⟨G,hG⟩:∃G,G=(Zab l key).1:=⟨_,rfl⟩;have HG:Hid (Zab l key=(G,true)):=Hd (by rw[←hg,hG])
  rw[hg];obtain⟨b,o,rfl,c0,c1⟩:=H1.out.at _ hlt;rw[h2,←hG,←hkk] at c1;rw[←hkk];rw[←hkk] at hlt hk;have hi0:(0:Int)≤(k:Int):=by omega
  have hi1:(k:Int)<(l.length:Int):=by omega
  have hd2:decide (k<l.length)=true:=by simpa using hlt
  clear hg h2 hkk hG c0;go_wp2_with fail;go_ret2;exact⟨by rw[HG.out];rfl,HB.out⟩
 ·replace hg:(Zab l key).2=false:=by simpa using hg
  have HG:=Hd (getL_no hg).1;rw[hg];clear hg hk;go_wp2_with fail;go_ret2;exact⟨by rw[HG.out];rfl,HB.out⟩
attribute [local irreducible] wpStill
theorem rput_any (w:World) {v:Value} {l:List KV} (h:Qj w v l) (key val:List UInt8) (hl:l.length≤999999) :
  Calls Tryz.prog 10 #[v,.string ⟨key.toArray⟩,.string ⟨val.toArray⟩] w fun e w'=>∃v',e=.returned v'∧Xo w.heap.size w' v' (putL l key val)∧Below w.heap.size w w':=by
 have HP:=Hd (place_any w h key);obtain⟨a,cap,rfl,hl1,hl2⟩:=h.form;unfold maxLen at hl2;have H:=Hd h;clear h;go_enter Tryz.func10,Tryz.ntmps10;go_wp2_with fail;refine HP.out.mono ?_;rintro e w1 ⟨⟨rfl,hk⟩,hb1⟩;have H1:=Hd (H.out.below hb1);have HB:=Hd hb1;have hs1:=hb1.size;clear hb1;obtain⟨t1,_⟩:=Zeb l key;obtain⟨k,hkk⟩:∃k,k=(Xa l key).length:=⟨_,rfl⟩;obtain⟨m,hm⟩:∃m,m=if (Zab l key).2=true then k+1 else k:=⟨_,rfl⟩
 have hrest:Zaz l key=l.drop m∧m≤l.length:=by
  by_cases hg:(Zab l key).2=true
  ·rw[if_pos hg] at hm;obtain⟨hlt,_,_,e⟩:=getL_yes hg;rw[hm,hkk];exact⟨e,hlt⟩
  ·rw[if_neg hg] at hm;obtain⟨_,e⟩:=getL_no (by simpa using hg);rw[hm,hkk];exact⟨e,hk⟩
 have hput:putL l key val=l.take k++[(key,val)]++l.drop m:=by unfold putL;rw[hrest.1,t1,←hkk,List.append_assoc];rfl
 have HPUT:=Hd hput;rw[←hkk] at hk;rw[←hkk];have hml:=hrest.2
 have hmk:k≤m:=by rw[hm];split<;>omega
 clear t1 hkk hrest hput;have hkl:(k:Int)≤(cap:Int):=by omega
 have hk0:(0:Int)≤(k:Int):=by omega
 have hwr:IntKind.i64.wrap ((l.length:Int)+1)=(l.length:Int)+1:=IntWalk.i64_in _ (by omega);have hwr2:IntKind.i64.wrap ((k:Int)+1)=(k:Int)+1:=IntWalk.i64_in _ (by omega);obtain⟨w3,hr3,m3,b3⟩:=run_make_pv w1.drew w.heap.size (l.length+1) ((l.length:Int)+1) (by omega) (by omega) hs1;have hs3:w.heap.size≤w3.heap.size:=Nat.le_trans hs1 b3.size;have hI3:Qj w3 (.slice a l.length cap) l:=(H.out.below ((HB.out.drew).trans b3));obtain⟨a4,n4,k4,w4,hr4,m4,b4⟩:=pv_app m3 (hI3.take k hk) hs3 (by rw[List.length_take,List.length_nil];omega);rw[List.nil_append] at m4;have hs4:w.heap.size≤w4.heap.size:=Nat.le_trans hs3 b4.size;have hb4:Below w.heap.size w w4:=((HB.out.drew).trans b3).trans b4;obtain⟨a5,n5,k5,w5,hr5,m5,b5⟩:=pv_app (m4.alloc (.cells #[.string ⟨key.toArray⟩,.string ⟨val.toArray⟩] 35)) (pv_lit w4 (key,val)) (by simp;omega) (by rw[List.length_take];simp;omega);have hb5:Below w.heap.size w w5:=(hb4.alloc (by have:=hb4.size;omega) _).trans b5;have hs5:=hb5.size;obtain⟨a6,n6,k6,w6,hr6,m6,b6⟩:=pv_app m5 ((H.out.below hb5).tailAny m hml) hs5 (by rw[List.length_append,List.length_take,List.length_drop,List.length_singleton];omega);have HEND:=Hd (And.intro m6 (hb5.trans b6));have HR6:=Hd hr6;have HR5:=Hd hr5;have HR4:=Hd hr4;clear m3 b3 hI3 m4 b4 hb4 m5 b5 hb5 m6 b6 hr4 hr5 hr6 hs3 hs4 hs5;have hS:(fun _:World=>True) w1:=trivial
 go_wp2_with fail;refine rgA (S:=(fun _:World=>True)) hS (fun hH=>?_);refine tkB 0 rfl (v:=?_) ?_ hH ?_;rotate_left
 ·intro w hSw;skip;go_simp;try with_reducible rfl
 try simp only[Act.put,zA,zB,zC]
 refine tkB 1 rfl (v:=?_) ?_ hH ?_;rotate_left
 ·intro w hSw;skip;go_simp;try with_reducible rfl
 try simp only[Act.put,zA,zB,zC]
 refine tkB 2 rfl (v:=?_) ?_ hH ?_;rotate_left
 ·intro w hSw;skip;go_simp;try with_reducible rfl
 try simp only[Act.put,zA,zB,zC]
 refine tkB 4 rfl (v:=?_) ?_ hH ?_;rotate_left
 ·intro w hSw;skip;go_simp;try with_reducible rfl
 try simp only[Act.put,zA,zB,zC]
 refine tkB 5 rfl (v:=?_) ?_ hH ?_;rotate_left
 ·intro w hSw;skip;go_simp;try with_reducible rfl
 try simp only[Act.put,zA,zB,zC]
 refine tkB 6 rfl (v:=?_) ?_ hH ?_;rotate_left
 ·intro w hSw;skip;go_simp;try with_reducible rfl
 try simp only[Act.put,zA,zB,zC]
 refine rdA 3 rfl (fun K hK=>?_);go_simp;refine hK.out _ _ trivial (fun hH=>?_);clear hK K;try simp only[Act.put,zA,zB,zC]
 refine rdA 7 rfl (fun K hK=>?_);refine Zgw rfl (.tmp 19) (.tmp 22) 28 28 (by rfl) _ _ _ (by rfl) (by rfl) HR4.out ?_;refine hK.out _ _ trivial (fun hH=>?_);clear hK K;try simp only[Act.put,zA,zB,zC]
 refine tkB 8 rfl (v:=?_) ?_ hH ?_;rotate_left
 ·intro w hSw;skip;go_simp;try with_reducible rfl
 try simp only[Act.put,zA,zB,zC]
 refine dnA ?_;clear hr3 hH
 cases hg:(Zab l key).2 with
 | false =>
  rw[hg,if_neg (by simp)] at hm;subst hm;go_upto_region 6 with (at_builtin;refine Lib.wpList_append_run _ rfl _ _ _ _ rfl _ _ rfl rfl _ _ HR5.out ?_);go_wp2_with (at_builtin;refine Lib.wpList_append_run _ rfl _ _ _ _ rfl _ _ rfl rfl _ _ HR6.out ?_)
  all_goals
   go_ret
   exact⟨_,rfl,by rw[HPUT.out];exact HEND.out.1,HEND.out.2⟩
 | true =>
  rw[hg,if_pos rfl] at hm;subst hm;have hkl2:(k:Int)+1≤(cap:Int):=by omega
  have hk02:(0:Int)≤(k:Int)+1:=by omega
  go_upto_region 6 with (at_builtin;refine Lib.wpList_append_run _ rfl _ _ _ _ rfl _ _ rfl rfl _ _ HR5.out ?_);go_wp2_with (at_builtin;refine Lib.wpList_append_run _ rfl _ _ _ _ rfl _ _ rfl rfl _ _ HR6.out ?_)
  all_goals
   go_ret
   exact⟨_,rfl,by rw[HPUT.out];exact HEND.out.1,HEND.out.2⟩
end
end Go.Proofs.YtofibccplbnaiaaGreatDoor
