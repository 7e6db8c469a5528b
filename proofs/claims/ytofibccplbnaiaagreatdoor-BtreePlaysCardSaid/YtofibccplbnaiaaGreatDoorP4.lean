/- Contracts of the functions that the statements of this seat reach, part 4: each says what the call answers and what it leaves of the memory. -/
import Derived.Test.YtofibccplbnaiaaGreatDoorP1
import Derived.RangeFuncNested
import Derived.RangeFuncBound
import Derived.RangeFuncCalls
import Derived.RangeFuncLeaves
import Derived.RangeFuncBox
import Derived.OwnWalkIn
import Derived.LoopTactic
import Derived.Laws.MakeOwn
import Derived.WalkSpells
import Derived.Test.YtofibccplbnaiaaGreatDoorP3
import Derived.Shelf.Abstract
import Derived.TacticsInMore
import Derived.LoopNIn
import Derived.LoopIn
import Derived.Shelf.Sort.Plain
import Derived.LoopN
import Derived.Sort.Grow
import Derived.Test.YtofibccplbnaiaaGreatDoorP2
import Derived.Maps.RangeRun
import Derived.Maps.Range
import Derived.Deep.Onto
import Derived.Deep.RegionLaw
import Derived.StillTailTactics
import Derived.Deep.OwnRows
set_option linter.unusedVariables false
set_option linter.unusedSimpArgs false
set_option maxRecDepth 100000
set_option maxHeartbeats 64000000
namespace Go.Proofs.YtofibccplbnaiaaGreatDoor
section
open Go.RowKit
def Zcb (W:World) (b k:Nat):Prop:=∃o s n c,W.cell? ⟨b,0,none⟩=some (.slice (some ⟨k,o,s⟩) n c)
structure Zci (b:Nat) (W W':World):Prop where
 size:W.heap.size≤W'.heap.size
 cells:∀k c e fr,W.heap[k]?=some (.cells c e fr)→k≠b→¬Zcb W b k→W'.heap[k]?=some (.cells c e fr)
 points:∀k,Zcb W' b k→Zcb W b k∨W.heap.size≤k
theorem Zci.refl (b:Nat) (W:World):Zci b W W:=⟨Nat.le_refl _,fun k c e fr h _ _=>h,fun k h=>.inl h⟩
theorem Zci.trans {b:Nat} {A B C:World} (h:Zci b A B) (k:Zci b B C):Zci b A C:=by
 refine⟨Nat.le_trans h.size k.size,fun i c e fr hi hb hp=>k.cells i c e fr (h.cells i c e fr hi hb hp) hb fun hp2=>?_,fun i hi=>?_⟩
 ·rcases h.points i hp2 with h2 | h2
  ·exact hp h2
  ·have:=Za hi;omega
 ·rcases k.points i hi with h2 | h2
  ·exact h.points i h2
  ·exact .inr (Nat.le_trans h.size h2)
theorem Zci.put {b:Nat} (W:World) (l:Nat) (o o':Obj) (hl:W.heap[l]?=some o) (ho:o.isCells=false) (hb:b≠l):Zci b W (W.putObj l o'):=by
 have hne:∀k c e fr,W.heap[k]?=some (.cells c e fr)→k≠l:=fun k c e fr hk e=>by subst e;rw[hl] at hk;obtain rfl:=Option.some.inj hk;cases ho
 have hcell:(W.putObj l o').cell? ⟨b,0,none⟩=W.cell? ⟨b,0,none⟩:=World.cell?_of_block (World.putObj_heap_other hb);refine⟨by simp,fun k c e fr hk _ _=>(World.putObj_heap_other (hne k c e fr hk)).trans hk,fun k hk=>.inl ?_⟩;obtain⟨o1,s,n,c,h⟩:=hk;exact⟨o1,s,n,c,by rw[←hcell];exact h⟩
theorem Zcb.below {b k:Nat} {W W':World} (hb:b<W.heap.size) (h:Below W.heap.size W W'):Zcb W' b k↔Zcb W b k:=by have e:W'.cell? ⟨b,0,none⟩=W.cell? ⟨b,0,none⟩:=World.cell?_of_block (h.block b hb);unfold Zcb;rw[e]
theorem Zci.of_below {b:Nat} {W W':World} (hb:b<W.heap.size) (h:Below W.heap.size W W'):Zci b W W' :=
 ⟨h.size,fun k c e fr hk _ _=>(h.block k (Za hk)).trans hk,fun k hk=>.inl ((Zcb.below hb h).1 hk)⟩
theorem grown_of_below {W W':World} (h:Below W.heap.size W W'):W.grownBy W' none:=⟨h.os,h.tape,h.output,h.size,fun k hk _=>h.block k hk⟩
theorem abides_below {β:Type} {J:β→World→Prop} {B:Nat} (hJ:AbidesFrom B J) {s:β} {W W':World} (hs:J s W) (h:Below W.heap.size W W'):J s W':=hJ s W W' none hs (grown_of_below h) fun r e=>by cases e
theorem nil_points {W:World} {b:Nat} (h:W.cell? ⟨b,0,none⟩=some (.slice none 0 0)) (k:Nat):¬Zcb W b k:=by rintro⟨o,s,n,c,e⟩;rw[h] at e;cases e
theorem Zgz {F:Fence} {n:Nat} {P:Program} {w:World} {ops:Array Oper} {rest:List Oper} {o:Oper} {a:Act} {Q:Exit→Act→World→Prop}
  (hg:o.guard=none) (s x:Operand) (t t':TypeId) (hop:o.op=Op.call { callee:=Callee.builtin Builtin.append,args:=#[s,x],argTypes:=#[t,t'] }) (u v:Value) (hs:a.eval s=u) (hx:a.eval x=v) {v':Value} {w':World}
  (hrun:(Builtin.append_ #[t,t'] o.type #[u,v]).run P w=.ok v' w') (hK:wpListIn F n P ops Q rest (a.put o.dst v') w'):wpListIn F n P ops Q (o::rest) a w:=by
 refine wpListIn_plain hg fun K hK'=>?_;unfold Oper.wpIn;refine⟨?_,?_⟩
 ·simp[Oper.about,hop,resolve,Target.leads,Sem.run_pure]
 ·rw[Oper.semAt_plain F _ _ (by rw[hop];intro c hc';cases hc')];simp[execOp,hop,resolve,invoke,builtin,hs,hx,hrun,Result.andThen];exact hK' _ _ hK
theorem own_points {W:World} {b:Nat} {t:TypeId} {v:Value} {base:Nat} {e:TypeId} {size n:Nat} {xs:List Value} (hv:Boxed W b t v) (hr:W.ownsRow base e size v n xs) (k:Nat):some k=v.ownBlock↔Zcb W b k:=by
 have hc:=hv.cell;rcases hr.2 with ⟨rfl,_⟩ | ⟨g,cap,cur,rfl,_⟩
 ·constructor
  ·intro h;cases h
  ·rintro⟨o,s,n',c,h⟩;rw[hc] at h;cases h
 ·constructor
  ·intro h
   obtain rfl:k=g:=by simpa [Value.ownBlock] using h
   exact⟨0,none,n,cap,hc⟩
  ·rintro⟨o,s,n',c,h⟩;rw[hc] at h;simp only[Option.some.injEq,Value.slice.injEq,Addr.mk.injEq] at h;rw[←h.1.1];rfl
theorem Zci.appended {W w1:World} {b:Nat} {t:TypeId} {v v':Value} {tmp:Obj} {base:Nat} {e:TypeId} {size n n':Nat} {xs ys:List Value} (hv:Boxed W b t v) (hv':Boxed (w1.setCell ⟨b,0,none⟩ v') b t v') (hr:W.ownsRow base e size v n xs)
  (hr':(w1.setCell ⟨b,0,none⟩ v').ownsRow base e size v' n' ys) (hg:(W.alloc tmp).grownBy w1 v.ownBlock) (hown:v'.ownBlock=v.ownBlock∨v'.ownBlock=some (W.alloc tmp).heap.size):Zci b W (w1.setCell ⟨b,0,none⟩ v'):=by
 have hsz:W.heap.size≤w1.heap.size:=by have:=hg.size;simp at this;omega
 refine⟨by simpa [World.setCell] using hsz,fun k c e' fr hk hb hp=>?_,fun k hk=>?_⟩
 ·have hlt:=Za hk;refine(Below.heap_setCell _ _ _ _ hb).trans ((hg.block k (by simp;omega) (fun he=>hp ((own_points hv hr k).1 he))).trans ((Below.heap_alloc _ _ _ hlt).trans hk))
 ·have h2:=(own_points hv' hr' k).2 hk
  rcases hown with h | h
  ·exact .inl ((own_points hv hr k).1 (h2.trans h))
  ·rw[h] at h2;simp at h2;exact .inr (by omega)
end
section
open Go.RowKit
theorem Zcy:(Tryz.prog.info? 5).map (fun i=>(i.zero,i.size,i.bytes))=some (some (.int .u8 0),1,1):=by kernel_rfl
def pickN (c:Int) (n:Nat):Nat:=(if c<0 then -(c+1) else c).toNat % n
theorem pickN_lt (c:Int) {n:Nat} (h:0<n):pickN c n<n:=Nat.mod_lt _ h
end
section
open Go.RowKit
theorem clone_any (v:Value) (l:List UInt8) (w:World) (hv:IsB w v l) (hl:l.length≤140737488355328) :
  Calls Tryz.prog 105 #[v] w fun e w'=>∃u,e=.returned u∧Qs 5 w.heap.size w' u l∧Below w.heap.size w w':=by
 have hv':=hv;obtain⟨a,cap,rfl,hlc,hm,hnil,hc⟩:=hv';have hnl:=fun(w:World) (a:Option Addr) (n c:Nat)=>Lib.run_eql_slice_nil (P:=Tryz.prog) w 106 5 a n c 0 0 Tryz.underlying106;have hbs:∀w:World,(Instr.buildSlice 106 0 #[]).run Tryz.prog w=.ok (.slice (some ⟨w.heap.size,0,none⟩) 0 0) (w.alloc (.cells #[] 5)):=fun w=>by kernel_rfl
 cases a with
 | none =>
  obtain rfl:cap=0:=hnil rfl;obtain rfl:l=[]:=List.eq_nil_of_length_eq_zero (by omega);clear hv hlc hm hnil hc;go_enter Tryz.func105,Tryz.ntmps105;go_wp2;go_ret;exact⟨_,rfl,Qs.nil _ _ _,Below.refl _ _⟩
 | some x =>
  clear hc hlc hm hnil;go_enter Tryz.func105,Tryz.ntmps105;go_wp2_with (at_builtin;refine Zgn rfl (.tmp 5) (.tmp 6) 106 rfl w.heap.size 5 Zcy Tryz.underlying106 _ [] rfl (Qs.lit [] (Nat.le_refl _) (by simp[maxLen])) _ l rfl (hv.alloc _) (by simpa using hl) (by simp) ?_);intro v' w' hm' _ hb' _ _;go_wp2;go_ret;exact⟨_,rfl,hm',((Below.refl _ _).alloc (Nat.le_refl _) _).trans hb'⟩
end
section
open Go.RowKit
section
variable {P : Program}
theorem run_cut1_l (w:World) {t e:TypeId} (ht:P.underlying t=some (.slice e)) (hsz:(P.info? e).map (·.size)=some 1) (a:Option Addr) (len cap n:Nat) (hn:n≤len) :
  (Instr.slice t (.slice a len cap) (some (.int .i64 (n:Int))) none none).run P w=.ok (.slice (cutA a cap n) (len - n) (cap - n)) w:=by
 obtain⟨i,hi,hs1⟩:=Option.map_eq_some_iff.1 hsz;have h2:(n:Int)≤(len:Int):=by omega
 simp[Instr.slice,run_underlying ht,Instr.sliceBounds,run_sliceBound,sizeOf,typeInfo,hi,hs1,h2,cutA]
end
def Zbb (B:Nat) (w:World) (v:Value) (us:List Value):Prop:=w.ownsRow B 106 1 v us.length us
theorem Zbb.keep {B:Nat} {w w':World} {v:Value} {us:List Value} (h:Zbb B w v us) (hw:∀k,B≤k→k<w.heap.size→w'.heap[k]?=w.heap[k]?):Zbb B w' v us:=Zfp h hw
theorem Zbb.below {B:Nat} {w w':World} {v:Value} {us:List Value} (h:Zbb B w v us) (hb:Below w.heap.size w w'):Zbb B w' v us:=h.keep fun k _ hl=>hb.block k hl
theorem Zbb.form {B:Nat} {w:World} {v:Value} {us:List Value} (h:Zbb B w v us):∃a cap,v=.slice a us.length cap∧us.length≤cap∧cap≤maxLen:=by
 rcases h.2 with ⟨rfl,hn⟩ | ⟨g,cap,cur,rfl,hb,hg,hn,hc,hs,htake⟩
 ·exact⟨none,0,by rw[hn],by omega,by simp[maxLen]⟩
 ·exact⟨_,cap,rfl,hn,hc⟩
theorem Zbb.isBs {B:Nat} {w:World} {v:Value} {us:List Value} (h:Zbb B w v us) {ls:List (List UInt8)} (hl:us.length=ls.length) (hb:∀i (h1:i<us.length) (h2:i<ls.length),IsB w us[i] ls[i]):IsBs w v ls:=by
 rcases h.2 with ⟨rfl,hn⟩ | ⟨g,cap,cur,rfl,hB,hg,hn,hc,hs,htake⟩
 ·obtain rfl:ls=[]:=List.eq_nil_of_length_eq_zero (by omega);exact⟨none,0,rfl,Nat.le_refl _,by simp[maxLen],fun _=>rfl,fun x h=>by cases h⟩
 ·refine⟨_,cap,by rw[hl],by omega,hc,(fun h=>by cases h),fun x hx=>?_⟩
  obtain rfl:=Option.some.inj hx;refine⟨fun _=>rfl,fun i hi=>⟨us[i],?_,hb i (by omega) hi⟩⟩;rw[cell_of_row _ _ _ _ _ _ hg];have e:(cur.toList.take (us.length*1))[i]?=some us[i]:=by rw[htake];exact List.getElem?_eq_getElem (by omega)
  rw[List.getElem?_take,if_pos (by omega)] at e;simpa using e
theorem Qt.cell {B:Nat} {w:World} {v:Value} {zs:List Int} (h:Qt B w v zs) (h0:zs≠[]):∃g cap,v=.slice (some ⟨g,0,none⟩) zs.length cap∧zs.length≤cap∧cap≤maxLen∧∀i (hi:i<zs.length),w.cell? ⟨g,i,none⟩=some (.int .i64 zs[i]):=by
 rcases h.2 with ⟨rfl,hn⟩ | ⟨g,cap,cur,rfl,hb,hg,hnc,hcm,hcs,htake⟩
 ·exact absurd (List.eq_nil_of_length_eq_zero hn) h0
 ·refine⟨g,cap,rfl,hnc,hcm,fun i hi=>?_⟩
  rw[cell_of_row _ _ _ _ _ _ hg];have e:(iv zs)[i]?=some (.int .i64 zs[i]):=iv_get zs i hi
  rw[←htake,List.getElem?_take,if_pos (by omega)] at e;simpa using e
end
section
open Go.RowKit Go.Shelf
attribute [local go_sem] Oper.semAt_some
theorem info_byte1:(Tryz.prog.info? 5).map (·.size)=some 1:=by kernel_rfl
theorem run_cut3 (w:World) (g N c q:Nat) (h:q+112≤c) :
  (Instr.slice 106 (.slice (some ⟨g,0,none⟩) N c) (some (.int .i64 (q:Int))) (some (.int .i64 ((q:Int)+112))) (some (.int .i64 ((q:Int)+112)))).run Tryz.prog w=.ok (.slice (some ⟨g,q,none⟩) 112 112) w:=by
 obtain⟨i,hi,hs1⟩:=Option.map_eq_some_iff.1 info_byte1;obtain⟨r,hr⟩:∃r,r=q+112:=⟨_,rfl⟩;have e:((q:Int)+112)=(r:Int):=by omega
 have h1:(r:Int)≤(c:Int):=by omega
 have h2:(q:Int)≤(r:Int):=by omega
 have h3:¬r=q:=by omega
 have h4:r - q=112:=by omega
 rw[e];simp[Instr.slice,run_underlying Tryz.underlying106,Instr.sliceBounds,run_sliceBound,sizeOf,typeInfo,hi,hs1,h1,h2,h3,h4,Addr.add];exact fun h=>h.symm
abbrev Zcl (g i:Nat):Value:=.slice (some ⟨g,112*i,none⟩) 112 112
theorem range_take (m k:Nat) (h:k≤m):(List.range m).take k=List.range k:=by rw[List.take_range,Nat.min_eq_left h]
set_option maxRecDepth 100000 in
theorem chunk_stops (n:Nat) (hn:1≤n) (b bb bn g c m:Nat) (w:World) (hbb:w.heap[bb]?=some (.cells #[.slice (some ⟨g,0,none⟩) (112*m) c] 106 (0,0))) (hbn:w.heap[bn]?=some (.cells #[.int .i64 112] 3 (0,0)))
  (hc:112*m≤c) (hm:m≤10000) (hnil:w.cell? ⟨b,0,none⟩=some (.slice none 0 0)) (n1:b≠bb) (n2:b≠bn) :
  SeqStopsK Fence.wide n Tryz.prog 113 #[.pointer (some ⟨bb,0,none⟩),.pointer (some ⟨bn,0,none⟩)] (fun x:Nat=>#[Zcl g x]) (Zci b) (fun ys=>ys=List.range m) (fun pre=>pre <+: List.range m) m w:=fun l J Jx W hW hJ hJx hY h0=>by
 have hb:=World.block_lt_of_cell? w _ hnil;dsimp only at hb;have hbbW:=(hW.block bb (Za hbb)).trans hbb;have hbnW:=(hW.block bn (Za hbn)).trans hbn;have hnilW:W.cell? ⟨b,0,none⟩=some (.slice none 0 0):=(hW.cell (p:=⟨b,0,none⟩) hb).trans hnil;have HY:=Hd hY;have HJ:=Hd hJ;have H0:=Hd h0;have HBB:=Hd hbbW;have HBN:=Hd hbnW;have HNIL:=Hd hnilW;have HW:=Hd hW;have hbW:b<W.heap.size:=Nat.lt_of_lt_of_le hb hW.size;clear hJ hY h0 hbb hbn hnil hbbW hbnW hnilW hJx hW;refine callsIn_of_wp Tryz.func113 rfl trivial ?_ rfl;simp only[Tryz.ntmps113,List.size_toArray,List.length_cons,List.length_nil,Nat.reduceAdd,Nat.reduceSub,Array.replicate_succ,Array.replicate_zero,List.push_toArray,List.append_toArray,List.nil_append,List.cons_append];gi_wp2_with fail;gi_loopw [4] (fun i wr=>∃k q:Nat,k≤m∧q=112*k∧i=.int .i64 (q:Int)∧J (List.range k) wr∧Zci b W wr) (fun i _=>112*m - (intOf i).toNat)
 case atStart=>exact⟨0,0,Nat.zero_le _,rfl,rfl,H0.out,Zci.refl b W⟩
 case round =>
  obtain⟨k,q,hk,hq,rfl,hJs,hkv⟩:=hrel;have HKV:=Hd hkv
  have HJs:=Hd hJs;have hbr:b<wr.heap.size:=Nat.lt_of_lt_of_le hbW hkv.size;have hbb:=hkv.cells bb _ _ _ HBB.out (fun e=>n1 e.symm) (nil_points HNIL.out bb);have hbn:=hkv.cells bn _ _ _ HBN.out (fun e=>n2 e.symm) (nil_points HNIL.out bn);have cb:wr.cell? ⟨bb,0,none⟩=some (.slice (some ⟨g,0,none⟩) (112*m) c):=(cell_of_row _ _ _ _ _ _ hbb).trans rfl;have cn:wr.cell? ⟨bn,0,none⟩=some (.int .i64 112):=(cell_of_row _ _ _ _ _ _ hbn).trans rfl;clear hkv hJs hbb hbn;obtain⟨N,hN⟩:∃N,N=112*m:=⟨_,rfl⟩;have HN:=Hd hN;rw[←hN] at cb hc;have HQ:=Hd hq;clear hN hq;by_cases hlt:k<m
  ·have hqN:q+112≤N:=by have:=HN.out;have:=HQ.out;omega
   have hd:decide ((q:Int)<(N:Int))=true:=decide_eq_true (by omega);obtain⟨R,hR⟩:∃R,R=N - q:=⟨_,rfl⟩;have hdn:decide (q<N)=true:=decide_eq_true (by omega);have hcut1:=fun W=>run_cut1_l (P:=Tryz.prog) W Tryz.underlying106 info_byte1 (some ⟨g,0,none⟩) N c q (by omega);rw[←hR] at hcut1;have hR112:(112:Int)≤(R:Int):=by omega
   have hcut3:=fun W=>run_cut3 W g N c q (by omega);have hmin:min (112:Int) (R:Int)=112:=by omega
   have hw1:IntKind.i64.wrap ((q:Int)+112)=(q:Int)+112:=IntWalk.i64_in _ (by have:=HN.out;omega);generalize cutA (some ⟨g,0,none⟩) c q=ca at *;generalize c - q=cc at *;clear hR hqN;have bd:Below wr.heap.size wr wr.drew:=(Below.refl _ _).drew;have hJ3:=abides_below HJ.out HJs.out bd;have KV3:=Hd (HKV.out.trans (Zci.of_below hbr bd));have hyk:=HY.out (List.range k) k wr.drew hJ3 (by simpa using hlt);have HTK:Hid (List.range k++[k]=List.range (k+1)):=Hd (by rw[List.range_succ]);have HQ1:Hid (q+112=112*(k+1)):=Hd (by have:=HQ.out;omega);have HLT:=Hd hlt;simp only[Zcl,←HQ.out] at hyk;obtain⟨fn,tmps,assign,body,hy,hR⟩:=hyk;clear hJ3 bd hlt;gi_wp2_with fail;gi_region;gi_wp2_with fail;refine hR.mono ?_;rintro e w5 (⟨rfl,hJ5,kv5⟩ | ⟨rfl,hJx5⟩)
   ·have HJ5:=Hd hJ5
    have KV5:=Hd (KV3.out.trans kv5);have hbn5:=KV5.out.cells bn _ _ _ HBN.out (fun e=>n2 e.symm) (nil_points HNIL.out bn);have cn5:w5.cell? ⟨bn,0,none⟩=some (.int .i64 112):=(cell_of_row _ _ _ _ _ _ hbn5).trans rfl;clear hJ5 kv5 hbn5;gi_wp2_with fail;go_roundw
    case rel=>exact⟨k+1,q+112,HLT.out,HQ1.out,by go_num,by rw[←HTK.out];exact HJ5.out,KV5.out⟩
    case measure=>have:=HN.out;have:=HQ1.out;have:=HLT.out;simp[intOf];omega
   ·have HJX:=Hd hJx5;clear hJx5;gi_wp2_with fail;refine bodyPost_ret (results_none rfl _ _ _) rfl ?_;exact⟨⟨_,rfl⟩,.inr ⟨_,by rw[HTK.out,←range_take m (k+1) HLT.out];exact List.take_prefix _ _,HJX.out⟩⟩
  ·obtain rfl:k=m:=by omega
   have hqN:q=N:=by rw[HQ.out,HN.out]
   subst hqN;have hd:decide ((q:Int)<(q:Int))=false:=by simp
   have hdn:decide (q<q)=false:=by simp
   gi_wp2_with fail;go_end0;exact⟨⟨_,rfl⟩,.inl ⟨_,rfl,HJs.out⟩⟩
end
section
open Go.Shelf Go.Sort Go.RowKit
def sortR:Go.Shelf.Ren:=⟨fun | 189=>93 | 125=>115 | 257=>114 | 128=>129 | 129=>130 | 294=>120 | 295=>121 | 296=>122 | 297=>123 | 298=>124 | 299=>125 | 216=>126 | 300=>127 | 301=>128 | 328=>131 | 329=>132 | 330=>133 | 331=>134 | 332=>135 | 215=>136 | 343=>137 | n=>n,fun | 28=>109 | 3=>3 | 46=>157 | 0=>0 | 51=>162 | 53=>123 | 4=>4 | 183=>185 | 182=>184 | 131=>74 | 5=>5 | 9=>9 | 218=>193 | 222=>170 | 228=>197 | 229=>198 | n=>n,fun | n=>n⟩
theorem sortLays:Go.Proofs.Lays.n189 Tryz.prog sortR:={
 mixed:=by kernel_rfl
 f125:=Tryz.func115.trans (congrArg some (by kernel_rfl))
 f128:=Tryz.func129.trans (congrArg some (by kernel_rfl))
 f129:=Tryz.func130.trans (congrArg some (by kernel_rfl))
 f189:=Tryz.func93.trans (congrArg some (by kernel_rfl))
 f215:=Tryz.func136.trans (congrArg some (by kernel_rfl))
 f216:=Tryz.func126.trans (congrArg some (by kernel_rfl))
 f257:=Tryz.func114.trans (congrArg some (by kernel_rfl))
 f294:=Tryz.func120.trans (congrArg some (by kernel_rfl))
 f295:=Tryz.func121.trans (congrArg some (by kernel_rfl))
 f296:=Tryz.func122.trans (congrArg some (by kernel_rfl))
 f297:=Tryz.func123.trans (congrArg some (by kernel_rfl))
 f298:=Tryz.func124.trans (congrArg some (by kernel_rfl))
 f299:=Tryz.func125.trans (congrArg some (by kernel_rfl))
 f300:=Tryz.func127.trans (congrArg some (by kernel_rfl))
 f301:=Tryz.func128.trans (congrArg some (by kernel_rfl))
 f328:=Tryz.func131.trans (congrArg some (by kernel_rfl))
 f329:=Tryz.func132.trans (congrArg some (by kernel_rfl))
 f330:=Tryz.func133.trans (congrArg some (by kernel_rfl))
 f331:=Tryz.func134.trans (congrArg some (by kernel_rfl))
 f332:=Tryz.func135.trans (congrArg some (by kernel_rfl))
 f343:=Tryz.func137.trans (congrArg some (by kernel_rfl))
 t0:=Tryz.underlying0
 a0:=Tryz.isAgg0
 z0:=Tryz.sizeOf0
 v0:=Tryz.zeroValue0
 t3:=Tryz.underlying3
 a3:=Tryz.isAgg3
 z3:=Tryz.sizeOf3
 v3:=Tryz.zeroValue3
 t4:=Tryz.underlying4
 a4:=Tryz.isAgg4
 z4:=Tryz.sizeOf4
 v4:=Tryz.zeroValue4
 t5:=Tryz.underlying5
 a5:=Tryz.isAgg5
 z5:=Tryz.sizeOf5
 v5:=Tryz.zeroValue5
 t9:=Tryz.underlying9
 a9:=Tryz.isAgg9
 z9:=Tryz.sizeOf9
 v9:=Tryz.zeroValue9
 t28:=Tryz.underlying109
 a28:=Tryz.isAgg109
 z28:=Tryz.sizeOf109
 v28:=Tryz.zeroValue109
 t46:=Tryz.underlying157
 a46:=Tryz.isAgg157
 z46:=Tryz.sizeOf157
 v46:=Tryz.zeroValue157
 t51:=Tryz.underlying162
 a51:=Tryz.isAgg162
 z51:=Tryz.sizeOf162
 v51:=Tryz.zeroValue162
 t53:=Tryz.underlying123
 a53:=Tryz.isAgg123
 z53:=Tryz.sizeOf123
 v53:=Tryz.zeroValue123
 t131:=Tryz.underlying74
 a131:=Tryz.isAgg74
 z131:=Tryz.sizeOf74
 v131:=Tryz.zeroValue74
 t182:=Tryz.underlying184
 a182:=Tryz.isAgg184
 z182:=Tryz.sizeOf184
 v182:=Tryz.zeroValue184
 t183:=Tryz.underlying185
 a183:=Tryz.isAgg185
 z183:=Tryz.sizeOf185
 v183:=Tryz.zeroValue185
 t218:=Tryz.underlying193
 a218:=Tryz.isAgg193
 z218:=Tryz.sizeOf193
 v218:=Tryz.zeroValue193
 t222:=Tryz.underlying170
 a222:=Tryz.isAgg170
 z222:=Tryz.sizeOf170
 v222:=Tryz.zeroValue170
 t228:=Tryz.underlying197
 a228:=Tryz.isAgg197
 z228:=Tryz.sizeOf197
 v228:=Tryz.zeroValue197
 t229:=Tryz.underlying198
 a229:=Tryz.isAgg198
 z229:=Tryz.sizeOf198
 v229:=Tryz.zeroValue198 }
theorem sortI_any (w:World) (blk cap:Nat) (zs:List Int) (hH:Holds (Value.int .i64) w blk 0 zs.toArray) (hblk:blk<w.heap.size) (hsz:zs.length<4611686018427387904) :
  Calls Tryz.prog 93 #[.slice (some ⟨blk,0,none⟩) zs.length cap] w fun e w'=>e=.returned (.tuple #[])∧∃n os,w'=grow (putRow (Value.int .i64) (Sort.ahead w n) blk 0 (zs.mergeSort fun x y=>decide (x≤y)).toArray) os :=
 Any.slices_Sort_int sortLays blk 0 cap zs w hH hblk hsz
end
section
open Go.RowKit
theorem insertNil_any (w:World):Calls Tryz.prog 120 #[.slice none 0 0,.int .i64 0,.int .i64 0] w fun e w'=>e=.returned (.tuple #[])∧w'=w:=by go_enter Tryz.func120,Tryz.ntmps120;go_wp2;refine wp_loop_rounds 1 ?_;rw[rounds_succ];go_wp2;go_end0;exact⟨rfl,rfl⟩
theorem lenNil_any (w:World):Calls Tryz.prog 115 #[.int .u64 0] w fun e w'=>e=.returned (.int .i64 0)∧w'=w:=by go_enter Tryz.func115,Tryz.ntmps115;go_wp2;go_ret;exact⟨by kernel_rfl,rfl⟩
theorem pdqNil_any (w:World):Calls Tryz.prog 114 #[.slice none 0 0,.int .i64 0,.int .i64 0,.int .i64 0] w fun e w'=>e=.returned (.tuple #[])∧w'=w:=by have HI:=insertNil_any;go_enter Tryz.func114,Tryz.ntmps114;go_wp2;refine wp_loop_rounds 1 ?_;rw[rounds_succ];go_wp2_with (go_at_call 120;refine(HI _).mono ?_;rintro e wx ⟨rfl,rfl⟩);exact bodyPost_ret (results_none (fn:=Tryz.f114) rfl _ _ _) rfl ⟨rfl,rfl⟩
theorem sortNil_any (w:World):Calls Tryz.prog 93 #[.slice none 0 0] w fun e w'=>e=.returned (.tuple #[])∧w'=w:=by have HL:=lenNil_any;have HP:=pdqNil_any;go_enter Tryz.func93,Tryz.ntmps93;go_wp2_with (first | (go_at_call 115;refine(HL _).mono ?_;rintro e wx ⟨rfl,rfl⟩) | (go_at_call 114;refine(HP _).mono ?_;rintro e wx ⟨rfl,rfl⟩));go_end0;exact⟨rfl,rfl⟩
end
section
open Go.Shelf Go.Sort Go.RowKit
def upI (zs:List Int):List Int:=zs.mergeSort fun x y=>decide (x≤y)
theorem upI_length (zs:List Int):(upI zs).length=zs.length:=by simp[upI]
theorem holds_ints {w:World} {g:Nat} {cur:Array Value} {e:TypeId} {zs:List Int} (hb:w.heap[g]?=some (.cells cur e (0,0))) (ht:cur.toList.take zs.length=iv zs):Holds (Value.int .i64) w g 0 zs.toArray:=by
 intro j hj;have hj':j<zs.length:=by simpa using hj
 refine⟨?_,by simp[World.frozen?,hb]⟩;have h1:(cur.toList.take zs.length)[j]?=(iv zs)[j]?:=by rw[ht]
 rw[List.getElem?_take_of_lt hj'] at h1;simp only[World.cell?,hb,Nat.zero_add];simp only[Option.isSome_none,Bool.false_eq_true,if_false];rw[←Array.getElem?_toList,h1];simp[hj',iv]
theorem sorted_block {w:World} {g n:Nat} {os:Array Obj} {cur:Array Value} {e:TypeId} {fr:Nat × Nat} (d:Array Int) (hb:w.heap[g]?=some (.cells cur e fr)) :
  (grow (putRow (Value.int .i64) (Sort.ahead w n) g 0 d) os).heap[g]?=some (.cells (putCells (Value.int .i64) 0 d cur) e fr):=by
 have hg:g<w.heap.size:=Za hb;rw[heap_grow_old _ _ (by simpa using hg)];simp[putRow,mapBlock,Sort.ahead,Array.getElem?_modify,hb,onCells]
theorem sorted_turned {w:World} {g n:Nat} {os:Array Obj} (d:Array Int):Zb (·=g) w (grow (putRow (Value.int .i64) (Sort.ahead w n) g 0 d) os):=by
 refine⟨rfl,rfl,rfl,by simp,fun k hk hne=>?_⟩;rw[heap_grow_old _ _ (by simpa using hk)];have:g≠k:=fun e=>hne e.symm
 simp[putRow,mapBlock,Sort.ahead,Array.getElem?_modify,this]
theorem sorted_cells (cur:Array Value) (ts:List Int) (h:ts.length≤cur.size):(putCells (Value.int .i64) 0 ts.toArray cur).toList.take ts.length=iv ts:=by
 apply List.ext_getElem?;intro j;by_cases hj:j<ts.length
 ·rw[List.getElem?_take_of_lt hj,Array.getElem?_toList];simp[putCells,hj,iv,show j<cur.size by omega]
 ·rw[List.getElem?_take_eq_none (by omega),List.getElem?_eq_none (by simp[iv];omega)]
theorem sortMine_any (w:World) (B:Nat) (v:Value) (zs:List Int) (h:Qt B w v zs) (hz:zs.length≤1000000) :
  Calls Tryz.prog 93 #[v] w fun e w'=>e=.returned (.tuple #[])∧Qt B w' v (upI zs)∧Zb (B≤·) w w':=by
 rcases id h.2 with ⟨rfl,hn⟩ | ⟨g,cap,cur,rfl,hb,hg,hnc,hcm,hcs,htake⟩
 ·obtain rfl:zs=[]:=List.eq_nil_of_length_eq_zero hn;refine(sortNil_any w).mono ?_;rintro e w' ⟨rfl,rfl⟩;exact⟨rfl,by simpa [upI] using h,Zb.refl _ _⟩
 ·have htake':cur.toList.take zs.length=iv zs:=by simpa using htake
  refine(sortI_any w g cap zs (holds_ints hg htake') (Za hg) (by omega)).mono ?_;rintro e w' ⟨rfl,n,os,rfl⟩;refine⟨rfl,?_,(sorted_turned _).mono fun k _ hk=>by rw[hk];exact hb⟩;have hl:=upI_length zs
  refine⟨by simp[iv],.inr ⟨g,cap,_,by rw[hl],hb,sorted_block _ hg,by rw[hl];exact hnc,hcm,by simp[putCells,hcs],?_⟩⟩;rw[Nat.mul_one];exact sorted_cells cur (upI zs) (by rw[hl,hcs];omega)
end
section
open Go.RowKit
open Go.MapKept (Stamped IsKey)
abbrev kvOf (es:List MapEntry) (kv:List (Int × Value)):Prop:=es.map (fun e=>(e.key,e.val))=kv.map fun x=>(Value.int .i64 x.1,x.2)
def OTab (w:World) (M:Nat) (kv:List (Int × Value)):Prop:=∃(es:List MapEntry) (clock:Nat),w.heap[M]?=some (.map es.toArray clock)∧kvOf es kv∧Stamped es.toArray clock
theorem OTab.kmap {w:World} {M:Nat} {kv:List (Int × Value)} (h:OTab w M kv):KMap w M kv:=by obtain⟨es,cl,h1,h2,_⟩:=h;exact⟨es,cl,h1,h2⟩
theorem OTab.made (w:World):OTab (w.alloc (.map #[] 0)) w.heap.size []:=⟨[],0,heap_alloc_new w _,rfl,Go.MapKept.stamped_empty 0⟩
theorem OTab.keep {w w':World} {M:Nat} {kv:List (Int × Value)} (h:OTab w M kv) (hw:w'.heap[M]?=w.heap[M]?):OTab w' M kv:=by obtain⟨es,cl,h1,h2⟩:=h;exact⟨es,cl,hw.trans h1,h2⟩
theorem OTab.lt {w:World} {M:Nat} {kv:List (Int × Value)} (h:OTab w M kv):M<w.heap.size:=h.kmap.lt
theorem kv_keys {es:List MapEntry} {kv:List (Int × Value)} (h:kvOf es kv):es.map (·.key)=kv.map fun x=>Value.int .i64 x.1:=by have:=congrArg (List.map Prod.fst) h;simpa [List.map_map,Function.comp_def] using this
theorem OTab.nodup {w:World} {M:Nat} {kv:List (Int × Value)} (h:OTab w M kv):(kv.map (·.1)).Nodup:=by
 obtain⟨es,cl,h1,h2,hs⟩:=h;have h3:(es.map (·.key)).Nodup:=hs.2.2
 rw[kv_keys h2] at h3;rw[List.Nodup,List.pairwise_map] at h3 ⊢;exact h3.imp fun hne e=>hne (by rw[e])
def vPut (kv:List (Int × Value)) (n:Int) (v:Value):List (Int × Value):=if (Zal kv n).isSome then kv.map fun x=>if x.1=n then (n,v) else x else kv++[(n,v)]
def vDel (kv:List (Int × Value)) (n:Int):List (Int × Value):=kv.filter fun x=>x.1 != n
theorem Zgr (kv:List (Int × Value)) (n:Int):Zal kv n=none↔∀x∈kv,x.1≠n:=by
 induction kv with
 | nil=>simp[Zal,kAt]
 | cons x r ih =>
  rw[kLook_cons];by_cases h:x.1=n
  ·simp[h]
  ·simp[h,ih]
theorem kAt_some {kv:List (Int × Value)} {n:Int}:∀{k j:Nat} {v:Value},kAt kv n k=some (j,v)→∃i,j=k+i∧kv[i]?=some (n,v):=by
 induction kv with
 | nil=>intro k j v h;simp[kAt] at h
 | cons x r ih =>
  intro k j v h;simp only[kAt] at h;split at h
  ·rename_i hx;simp only[Option.some.injEq,Prod.mk.injEq] at h;exact⟨0,by omega,by rw[←h.2,←hx];rfl⟩
  ·obtain⟨i,hi,hg⟩:=ih h;exact⟨i+1,by omega,by simpa using hg⟩
theorem only_at {kv:List (Int × Value)} (hn:(kv.map (·.1)).Nodup) {i:Nat} {n:Int} {v:Value} (h:kv[i]?=some (n,v)):∀j x,kv[j]?=some x→x.1=n→j=i:=by
 intro j x hj hx;have h1:(kv.map (·.1))[j]?=some n:=by rw[List.getElem?_map,hj];simp[hx]
 have h2:(kv.map (·.1))[i]?=some n:=by rw[List.getElem?_map,h];rfl
 have hjl:j<(kv.map (·.1)).length:=(List.getElem?_eq_some_iff.1 h1).1;exact(List.getElem?_inj hjl hn).1 (h1.trans h2.symm)
theorem modify_at {kv:List (Int × Value)} (hn:(kv.map (·.1)).Nodup) {i:Nat} {n:Int} {v u:Value} (h:kv[i]?=some (n,v)):kv.modify i (fun _=>(n,u))=kv.map fun x=>if x.1=n then (n,u) else x:=by
 apply List.ext_getElem?;intro j;rw[List.getElem?_modify,List.getElem?_map]
 cases hj:kv[j]? with
 | none=>simp
 | some x =>
  by_cases hx:x.1=n
  ·have:=only_at hn h j x hj hx;simp[this,hx]
  ·have:i≠j:=by
    rintro rfl;rw[h] at hj;exact hx (by cases hj;rfl)
   simp[this,hx]
theorem erase_at:∀{kv:List (Int × Value)} (hn:(kv.map (·.1)).Nodup) {i:Nat} {n:Int} {v:Value} (h:kv[i]?=some (n,v)),kv.eraseIdx i=vDel kv n
 | [],_,i,n,v,h=>by simp at h
 | x::r,hn,0,n,v,h=>by
  obtain rfl:x=(n,v):=by simpa using h
  have hr:∀y∈r,y.1≠n:=fun y hy e=>by have:=(List.nodup_cons.1 hn).1;exact this (List.mem_map.2 ⟨y,hy,e⟩)
  simp only[List.eraseIdx_zero,List.tail_cons,vDel,List.filter_cons,bne_self_eq_false,Bool.false_eq_true,if_false];exact(List.filter_eq_self.2 fun y hy=>by simpa using hr y hy).symm
 | x::r,hn,i+1,n,v,h=>by
  have h':r[i]?=some (n,v):=by simpa using h
  have hx:x.1≠n:=fun e=>by have:=(List.nodup_cons.1 hn).1;exact this (List.mem_map.2 ⟨_,List.mem_of_getElem? h',e.symm⟩)
  have ih:=erase_at (List.nodup_cons.1 hn).2 h';simp only[List.eraseIdx_cons_succ,vDel,List.filter_cons,hx,bne_iff_ne,ne_eq,not_false_eq_true,if_true] at ih ⊢;rw[ih]
theorem map_erase {α β:Type} (f:α→β):∀(l:List α) (i:Nat),(l.eraseIdx i).map f=(l.map f).eraseIdx i
 | [],i=>rfl
 | x::l,0=>rfl
 | x::l,i+1=>by simp[map_erase f l i]
section
variable {P : Program} {T K E : TypeId}
theorem OTab.run_put {w:World} {M:Nat} {kv:List (Int × Value)} (h:OTab w M kv) (hT:P.underlying T=some (.map K E)) (hK:P.underlying K=some (.int .i64)) (n:Int) (v:Value) :
  ∃w',(Instr.mapUpdate T (.map (some M)) (.int .i64 n) v).run P w=.ok () w'∧OTab w' M (vPut kv n v)∧Zb (·=M) w w':=by
 have hnd:=h.nodup;obtain⟨es,cl,hm,he,hs⟩:=h;have hf:=Zcw es kv n 0 he
 have turned:∀o,Zb (·=M) w { w with heap:=w.heap.setIfInBounds M o }:=fun o=>⟨rfl,rfl,rfl,by simp,fun k hk hne=>by
  show (w.heap.setIfInBounds M _)[k]?=_
  rw[Array.getElem?_setIfInBounds_ne (fun e=>hne e.symm)]⟩
 have held:∀o,(w.heap.setIfInBounds M o)[M]?=some o:=fun o=>by rw[Array.getElem?_setIfInBounds_self_of_lt (Za hm)]
 cases hk:kAt kv n 0 with
 | none =>
  rw[hk] at hf;have hl:Zal kv n=none:=by simp[Zal,hk]
  refine⟨{ w with heap:=w.heap.setIfInBounds M (.map (es.toArray.push ⟨.int .i64 n,v,cl⟩) (cl+1)) },?_,?_,turned _⟩
  ·simp[Instr.mapUpdate,run_underlying hT,Go.MapKept.run_getObj_map hm,Go.MapKept.run_checkKey (P:=P) (k:=.int .i64 n) hK (by simp[Go.MapKept.IsKey]),Go.MapKept.run_findKey (P:=P) hK hf,Go.MapKept.run_setObj_map _ hm,Result.andThen]
  ·refine⟨es++[⟨.int .i64 n,v,cl⟩],cl+1,(held _).trans (by simp),?_,?_⟩
   ·show kvOf _ (vPut kv n v)
    simp[vPut,hl,kvOf,he]
   ·have hq:∀x∈es.toArray.toList,x.key≠.int .i64 n:=by
     intro x hx e;have hx':x.key∈es.map (·.key):=List.mem_map.2 ⟨x,by simpa using hx,rfl⟩
     rw[kv_keys he,e] at hx';obtain⟨y,hy,e2⟩:=List.mem_map.1 hx';simp only[Value.int.injEq,true_and] at e2;exact(Zgr kv n).1 hl y hy e2
    have:=Go.MapKept.stamped_push (val:=v) hs hq;simpa using this
 | some x =>
  obtain⟨j,u⟩:=x;rw[hk] at hf;obtain⟨i,rfl,hi⟩:=kAt_some hk;rw[Nat.zero_add] at hf hk;have hl:(Zal kv n).isSome=true:=by simp[Zal,hk]
  obtain⟨e,hei,hek,hev⟩:∃e,es[i]?=some e∧e.key=.int .i64 n∧e.val=u:=by
   have:=congrArg (fun l=>l[i]?) he;simp only[List.getElem?_map,hi,Option.map_some] at this
   cases hei:es[i]? with
   | none=>rw[hei] at this;simp at this
   | some e =>
    rw[hei] at this;simp only[Option.map_some,Option.some.injEq,Prod.mk.injEq] at this;exact⟨e,rfl,this.1,this.2⟩
  have hej:es.toArray[i]?=some e:=by simpa using hei
  refine⟨{ w with heap:=w.heap.setIfInBounds M (.map (es.toArray.modify i fun e=>{ e with key:=.int .i64 n,val:=v }) cl) },?_,?_,turned _⟩
  ·simp[Instr.mapUpdate,run_underlying hT,Go.MapKept.run_getObj_map hm,Go.MapKept.run_checkKey (P:=P) (k:=.int .i64 n) hK (by simp[Go.MapKept.IsKey]),Go.MapKept.run_findKey (P:=P) hK hf,hei,hek,Go.MapKept.run_keyThatStays (P:=P) (d:=.int .i64) (k:=.int .i64 n) (by simp[Go.MapKept.IsKey]),Go.MapKept.run_setObj_map _ hm,Result.andThen]
  ·refine⟨es.modify i fun e=>{ e with key:=.int .i64 n,val:=v },cl,(held _).trans (by simp),?_,?_⟩
   ·show kvOf _ (vPut kv n v)
    rw[vPut,if_pos hl,←modify_at hnd hi];unfold kvOf at he ⊢;apply List.ext_getElem?;intro q;have hq:=congrArg (fun l=>l[q]?) he
    simp only[List.getElem?_map,List.getElem?_modify] at hq ⊢;by_cases hiq:i=q
    ·subst hiq;simp[hi,hei]
    ·simpa [hiq] using hq
   ·have:=Go.MapKept.stamped_modify hs i (fun e=>{ e with key:=.int .i64 n,val:=v }) (fun _ _=>rfl) (fun e' _ he'=>by
     rw[hej] at he';cases he'
     exact hek.symm)
    simpa using this
theorem OTab.run_del {w:World} {M:Nat} {kv:List (Int × Value)} (h:OTab w M kv) (hT:P.underlying T=some (.map K E)) (hK:P.underlying K=some (.int .i64)) (n:Int) (ty:TypeId) :
  ∃w',(Builtin.delete_ #[T,K] ty #[.map (some M),.int .i64 n]).run P w=.ok (.tuple #[]) w'∧OTab w' M (vDel kv n)∧Zb (·=M) w w':=by
 have hnd:=h.nodup;obtain⟨es,cl,hm,he,hs⟩:=h;have hf:=Zcw es kv n 0 he
 have turned:∀o,Zb (·=M) w { w with heap:=w.heap.setIfInBounds M o }:=fun o=>⟨rfl,rfl,rfl,by simp,fun k hk hne=>by
  show (w.heap.setIfInBounds M _)[k]?=_
  rw[Array.getElem?_setIfInBounds_ne (fun e=>hne e.symm)]⟩
 have held:∀o,(w.heap.setIfInBounds M o)[M]?=some o:=fun o=>by rw[Array.getElem?_setIfInBounds_self_of_lt (Za hm)]
 cases hk:kAt kv n 0 with
 | none =>
  rw[hk] at hf;have hl:Zal kv n=none:=by simp[Zal,hk]
  refine⟨{ w with heap:=w.heap.setIfInBounds M (.map es.toArray cl) },?_,⟨es,cl,held _,?_,hs⟩,turned _⟩
  ·simp[Builtin.delete_,run_underlying hT,Go.MapKept.run_getObj_map hm,Go.MapKept.run_checkKey (P:=P) (k:=.int .i64 n) hK (by simp[Go.MapKept.IsKey]),Go.MapKept.run_findKey (P:=P) hK hf,Go.MapKept.run_setObj_map _ hm,Result.andThen]
  ·have:vDel kv n=kv:=List.filter_eq_self.2 fun y hy=>by simpa using (Zgr kv n).1 hl y hy
   rw[this];exact he
 | some x =>
  obtain⟨j,u⟩:=x;rw[hk] at hf;obtain⟨i,rfl,hi⟩:=kAt_some hk;rw[Nat.zero_add] at hf hk
  have hlt:i<es.length:=by
   have h1:es.length=kv.length:=by simpa using congrArg List.length he
   have:=(List.getElem?_eq_some_iff.1 hi).1;omega
  refine⟨{ w with heap:=w.heap.setIfInBounds M (.map (es.toArray.eraseIdxIfInBounds i) cl) },?_,⟨es.eraseIdx i,cl,(held _).trans ?_,?_,?_⟩,turned _⟩
  ·simp[Builtin.delete_,run_underlying hT,Go.MapKept.run_getObj_map hm,Go.MapKept.run_checkKey (P:=P) (k:=.int .i64 n) hK (by simp[Go.MapKept.IsKey]),Go.MapKept.run_findKey (P:=P) hK hf,Go.MapKept.run_setObj_map _ hm,Result.andThen]
  ·simp
  ·rw[←erase_at hnd hi];unfold kvOf at he ⊢;rw[map_erase,map_erase,he]
  ·have:=Go.MapKept.stamped_erase hs i;simpa using this
end
end
section
open Go.RowKit
open Go.MapKept (Stamped IsKey)
def ITab (w:World) (M r:Nat) (kv:List (Int × Value)) (done:List Int):Prop :=
 ∃(es:List MapEntry) (cl since c0:Nat) (seen:Array Nat),w.heap[M]?=some (.map es.toArray cl)∧w.heap[r]?=some (.mapIter (some M) since seen c0)∧kvOf es kv∧Stamped es.toArray cl ∧
  (∀x∈es,x.born<since)∧since≤c0∧c0=cl∧(done.map (Value.int .i64)).Perm ((es.filter fun e=>seen.contains e.born).map (·.key))
section
variable {P : Program} {T K E : TypeId}
theorem OTab.run_range {w:World} {M:Nat} {kv:List (Int × Value)} (h:OTab w M kv) (hT:P.underlying T=some (.map K E)) :
  ∃w',(Instr.range T (.map (some M))).run P w=.ok (.pointer (some ⟨w.heap.size,0,none⟩)) w'∧ITab w' M w.heap.size kv []∧Below w.heap.size w w':=by
 obtain⟨es,cl,h1,h2,hs⟩:=h;refine⟨_,run_range_map w T K E M es.toArray cl hT h1,⟨es,cl,cl,cl,#[],?_,heap_alloc_new w _,h2,hs,fun x hx=>hs.1 x (by simpa using hx),Nat.le_refl _,rfl,by simp⟩,(Below.refl _ _).alloc (Nat.le_refl _) _⟩;rw[←h1];exact((Below.refl w.heap.size w).alloc (Nat.le_refl _) _).block M (Za h1)
theorem ITab.keep {w w':World} {M r:Nat} {kv:List (Int × Value)} {done:List Int} (h:ITab w M r kv done) (h1:w'.heap[M]?=w.heap[M]?) (h2:w'.heap[r]?=w.heap[r]?):ITab w' M r kv done:=by obtain⟨es,cl,since,c0,seen,a,b,c⟩:=h;exact⟨es,cl,since,c0,seen,h1.trans a,h2.trans b,c⟩
theorem ITab.lt {w:World} {M r:Nat} {kv:List (Int × Value)} {done:List Int} (h:ITab w M r kv done):M<w.heap.size∧r<w.heap.size:=by obtain⟨es,cl,since,c0,seen,a,b,c⟩:=h;exact⟨Za a,Za b⟩
theorem perm_ints {a b:List Int} (h:(a.map (Value.int .i64)).Perm (b.map (Value.int .i64))):a.Perm b:=by
 have:=h.map fun v=>match v with | .int _ n=>n | _=>(0:Int)
 simpa [List.map_map,Function.comp_def] using this
theorem filter_seen_push {es:List MapEntry} {seen:Array Nat} {e:MapEntry} (hn:(es.map (·.born)).Nodup) (he:e∈es) (hs:seen.contains e.born=false) :
  ((es.filter fun x=>seen.contains x.born)++[e]).Perm (es.filter fun x=>(seen.push e.born).contains x.born):=by
 induction es with
 | nil=>cases he
 | cons x r ih =>
  simp only[List.map_cons,List.nodup_cons] at hn;simp only[contains_push];rcases List.mem_cons.1 he with rfl | her
  ·have hr:∀y∈r,(y.born==e.born)=false:=fun y hy=>by
    simp only[beq_eq_false_iff_ne,ne_eq];intro q;exact hn.1 (List.mem_map.2 ⟨y,hy,q⟩)
   have e1:r.filter (fun y=>seen.contains y.born||y.born==e.born)=r.filter fun y=>seen.contains y.born:=by apply List.filter_congr;intro y hy;rw[hr y hy,Bool.or_false]
   simp only[List.filter_cons,hs,Bool.false_or,beq_self_eq_true,if_true,Bool.false_eq_true,if_false,e1];exact List.perm_append_comm
  ·have hx:(x.born==e.born)=false:=by
    simp only[beq_eq_false_iff_ne,ne_eq];intro q;exact hn.1 (List.mem_map.2 ⟨e,her,q.symm⟩)
   have ih':=ih hn.2 her;simp only[contains_push] at ih';simp only[List.filter_cons,hx,Bool.or_false];by_cases hc:seen.contains x.born=true
   ·simp only[hc,if_true,List.cons_append];exact ih'.cons x
   ·simp only[hc,if_false,Bool.false_eq_true];exact ih'
theorem ITab.run_next {w:World} {M r:Nat} {kv:List (Int × Value)} {done:List Int} (h:ITab w M r kv done) (ty:TypeId) :
  (done.Perm (kv.map (·.1))∧(Instr.next (.pointer (some ⟨r,0,none⟩)) false ty).run P w=.ok (.tuple #[.bool false]) w) ∨
  ∃(n:Int) (v:Value) (w':World),n∉done∧(n,v)∈kv∧done.length<kv.length∧(Instr.next (.pointer (some ⟨r,0,none⟩)) false ty).run P w=.ok (.tuple #[.bool true,.int .i64 n,v]) w' ∧
   ITab w' M r kv (done++[n])∧Zb (·=r) w w'∧(Instr.entry (.pointer (some ⟨r,0,none⟩))).run P w'=.ok (.tuple #[.int .i64 n,v]) w':=by
 obtain⟨es,cl,since,c0,seen,hm,hr,he,hs,hb,hsc,rfl,hp⟩:=h;rcases run_next_at (P:=P) w ty r M since c0 seen es.toArray c0 hr hm (fun x hx=>hb x (by simpa using hx)) hsc with ⟨h0,hrun⟩ | ⟨e,hel,w1,hw1,hrun⟩
 ·refine .inl ⟨?_,hrun⟩;have hall:=all_seen es.toArray seen h0;have e1:(es.filter fun e=>seen.contains e.born)=es:=List.filter_eq_self.2 fun x hx=>hall x (by simpa using hx);rw[e1,kv_keys he] at hp;apply perm_ints;rw[List.map_map];exact hp
 ·refine .inr ?_
  obtain⟨hmem,hsn⟩:=mem_left hel;have hmem':e∈es:=by simpa using hmem
  have hpair:(e.key,e.val)∈kv.map fun x=>(Value.int .i64 x.1,x.2):=by rw[←he];exact List.mem_map.2 ⟨e,hmem',rfl⟩
  obtain⟨x,hx,hxe⟩:=List.mem_map.1 hpair;simp only[Prod.mk.injEq] at hxe;have hnb:(es.map (·.born)).Nodup:=by simpa using hs.2.1
  have hnk:(es.map (·.key)).Nodup:=by simpa using hs.2.2
  have hperm:(List.map (Value.int .i64) (done++[x.1])).Perm ((es.filter fun y=>(seen.push e.born).contains y.born).map (·.key)):=by have h1:=(filter_seen_push hnb hmem' hsn).map (·.key);refine List.Perm.trans ?_ h1;rw[List.map_append,List.map_append];simp only[List.map_cons,List.map_nil,hxe.1];exact hp.append_right _
  have hrM:r≠M:=by rintro rfl;rw[hr] at hm;cases hm
  have hr1:w1.heap=w.heap:=by rcases hw1 with rfl | rfl<;>rfl
  have hheap:(Go.ChangeMaps.setBlock w1 r (.mapIter (some M) since (seen.push e.born) c0)).heap=w.heap.setIfInBounds r (.mapIter (some M) since (seen.push e.born) c0):=by rw[←hr1];rfl
  have hM':(Go.ChangeMaps.setBlock w1 r (.mapIter (some M) since (seen.push e.born) c0)).heap[M]?=some (.map es.toArray c0):=by rw[hheap,Array.getElem?_setIfInBounds_ne hrM];exact hm
  have hr':(Go.ChangeMaps.setBlock w1 r (.mapIter (some M) since (seen.push e.born) c0)).heap[r]?=some (.mapIter (some M) since (seen.push e.born) c0):=by rw[hheap,Array.getElem?_setIfInBounds_self_of_lt (Za hr)]
  refine⟨x.1,x.2,Go.ChangeMaps.setBlock w1 r (.mapIter (some M) since (seen.push e.born) c0),?_,hx,?_,?_,⟨es,c0,since,c0,seen.push e.born,hM',hr',he,hs,hb,hsc,rfl,hperm⟩,?_,?_⟩
  ·intro hin
   have h1:Value.int .i64 x.1∈(es.filter fun y=>seen.contains y.born).map (·.key):=hp.mem_iff.1 (List.mem_map.2 ⟨_,hin,rfl⟩);obtain⟨y,hy,hyk⟩:=List.mem_map.1 h1;obtain⟨hy1,hy2⟩:=List.mem_filter.1 hy;have hkey:y.key=e.key:=by rw[hyk,hxe.1]
   have:y=e:=entry_eq_of_key (List.pairwise_map.1 hnk) hy1 hmem' hkey;subst this;rw[hsn] at hy2;cases hy2
  ·have h1:=hperm.length_eq
   simp only[List.length_map,List.length_append,List.length_cons,List.length_nil] at h1;have h2:(es.filter fun y=>(seen.push e.born).contains y.born).length≤es.length:=List.length_filter_le _ _
   have h3:es.length=kv.length:=by simpa using congrArg List.length he
   omega
  ·rw[hrun,hxe.1,hxe.2]
  ·rcases hw1 with rfl | rfl
   ·exact⟨rfl,rfl,rfl,by rw[hheap];simp,fun k hk hne=>by rw[hheap,Array.getElem?_setIfInBounds_ne (fun q=>hne q.symm)]⟩
   ·exact⟨rfl,rfl,rfl,by rw[hheap];simp,fun k hk hne=>by rw[hheap,Array.getElem?_setIfInBounds_ne (fun q=>hne q.symm)]⟩
  ·rw[hxe.1,hxe.2];exact run_entry_at _ r M since seen es.toArray c0 e hr' hM' (by simpa using hmem') (by simpa using hnb)
end
end
section
def Zbx (L:List UInt8) (i:Nat):Bool:=(L.getD (8+i / 8) 0).toNat.testBit (i % 8)
def Zfe (L:List UInt8) (i:Nat):List UInt8:=L.set (8+i / 8) (L.getD (8+i / 8) 0 ||| UInt8.ofNat (2 ^ (i % 8)))
theorem setBit_length (L:List UInt8) (i:Nat):(Zfe L i).length=L.length:=by simp[Zfe]
theorem setBit_low (L:List UInt8) (i k:Nat) (h:k<8):(Zfe L i)[k]?=L[k]?:=by rw[Zfe,List.getElem?_set_ne (by omega)]
theorem or_pow (x:UInt8) (a b:Nat) (ha:a<8) (hb:b<8):(x ||| UInt8.ofNat (2 ^ a)).toNat.testBit b=(x.toNat.testBit b||decide (a=b)):=by
 have hp:(2:Nat) ^ a<256:=by have:=Nat.pow_lt_pow_right (a:=2) (by omega) ha;omega
 rw[UInt8.toNat_or,UInt8.toNat_ofNat',Nat.mod_eq_of_lt (by omega),Nat.testBit_or,Nat.testBit_two_pow]
theorem bitAt_setBit (L:List UInt8) (i j:Nat) (hi:8+i / 8<L.length):Zbx (Zfe L i) j=(Zbx L j||decide (i=j)):=by
 unfold Zbx Zfe;by_cases h:8+i / 8=8+j / 8
 ·rw[List.getD_eq_getElem?_getD,←h,List.getElem?_set_self hi,Option.getD_some,or_pow _ _ _ (by omega) (by omega)]
  congr 1;by_cases e:i=j
  ·subst e;simp
  ·rw[decide_eq_false (by omega),decide_eq_false e]
 ·rw[List.getD_eq_getElem?_getD,List.getElem?_set_ne h,←List.getD_eq_getElem?_getD,decide_eq_false (by omega),Bool.or_false]
def Xl (n r:Nat):List UInt8:=[85,80,71,49,UInt8.ofNat n,UInt8.ofNat (n / 256),UInt8.ofNat r,UInt8.ofNat (r / 256)]++List.replicate 216 0
def Zaq (t:List Bool) (L:List UInt8):Nat→List UInt8
 | 0=>L
 | i+1=>if t.getD i false then Zfe (Zaq t L i) i else Zaq t L i
def Qb (t:List Bool) (r:Int):List UInt8:=Zaq t (Xl t.length (r+1).toNat) t.length
theorem Zdq (n r:Nat):(Xl n r).length=224:=by simp[Xl]
theorem Zfc (t:List Bool) (L:List UInt8) (k:Nat):(Zaq t L k).length=L.length:=by
 induction k with
 | zero=>rfl
 | succ k ih =>
  rw[Zaq];split
  ·rw[setBit_length,ih]
  ·exact ih
theorem Yc (t:List Bool) (r:Int):(Qb t r).length=224:=by rw[Qb,Zfc,Zdq]
theorem planTo_low (t:List Bool) (L:List UInt8) (i k:Nat) (h:i<8):(Zaq t L k)[i]?=L[i]?:=by
 induction k with
 | zero=>rfl
 | succ k ih =>
  rw[Zaq];split
  ·rw[setBit_low _ _ _ h,ih]
  ·exact ih
theorem planTo_bit (t:List Bool) (L:List UInt8) (hL:L.length=224) (j:Nat):∀k,k≤1728→Zbx (Zaq t L k) j=(Zbx L j||(decide (j<k)&&t.getD j false))
 | 0,_=>by simp[Zaq]
 | k+1,h=>by
  have ih:=planTo_bit t L hL j k (by omega);rw[Zaq];by_cases hk:t.getD k false=true
  ·rw[if_pos hk,bitAt_setBit _ _ _ (by rw[Zfc,hL];omega),ih]
   by_cases e:k=j
   ·subst e
    rw[decide_eq_true rfl,Bool.or_true,decide_eq_true (show k<k+1 by omega),hk]
    simp
   ·rw[decide_eq_false e,Bool.or_false];congr 2;rw[Bool.eq_iff_iff];simp;omega
  ·rw[if_neg hk,ih]
   congr 1;by_cases e:k=j
   ·subst e;simp at hk;simp[hk]
   ·congr 1;rw[Bool.eq_iff_iff];simp;omega
theorem planHead_bit (n r j:Nat) (h:j<1728):Zbx (Xl n r) j=false:=by
 have e:(Xl n r).getD (8+j / 8) 0=0:=by
  rw[Xl,List.getD_eq_getElem?_getD,List.getElem?_append_right (by simp),List.getElem?_replicate];simp
  split<;>rfl
 rw[Zbx,e];exact Nat.zero_testBit _
theorem planB_bit (t:List Bool) (r:Int) (j:Nat) (hj:j<1728) (ht:t.length≤1728):Zbx (Qb t r) j=t.getD j false:=by
 rw[Qb,planTo_bit _ _ (Zdq _ _) _ _ ht,planHead_bit _ _ _ hj,Bool.false_or];by_cases h:j<t.length
 ·simp[h]
 ·rw[decide_eq_false h,Bool.false_and,List.getD_eq_getElem?_getD,List.getElem?_eq_none (by omega)];rfl
def Yx (b:List UInt8) (n:Nat):List Bool:=(List.range n).map fun i=>Zbx b i
def Xw (b:List UInt8):Int:=((b.getD 6 0).toNat:Int)+256*((b.getD 7 0).toNat:Int) - 1
def Zcn (b:List UInt8) (n:Nat):Bool:=decide (Xw b<(n:Int))&&(decide (Xw b<0)||(Yx b n).getD (Xw b).toNat false)&&(Qb (Yx b n) (Xw b)==b)
theorem Zs (b:List UInt8) (n:Nat):(Yx b n).length=n:=by simp[Yx]
theorem takenOf_planB (t:List Bool) (r:Int) (ht:t.length≤1728):Yx (Qb t r) t.length=t:=by
 apply List.ext_getElem?;intro i;rw[Yx,List.getElem?_map];by_cases h:i<t.length
 ·rw[List.getElem?_range h,Option.map_some,planB_bit t r i (by omega) ht,List.getD_eq_getElem?_getD,List.getElem?_eq_getElem h,Option.getD_some]
 ·rw[List.getElem?_eq_none (by simpa using h),List.getElem?_eq_none (by omega),Option.map_none]
theorem rootOf_planB (t:List Bool) (r:Int) (h1:-1≤r) (h2:r<65535):Xw (Qb t r)=r:=by
 have e6:(Qb t r).getD 6 0=UInt8.ofNat (r+1).toNat:=by rw[List.getD_eq_getElem?_getD,Qb,planTo_low _ _ _ _ (by omega)];rfl
 have e7:(Qb t r).getD 7 0=UInt8.ofNat ((r+1).toNat / 256):=by rw[List.getD_eq_getElem?_getD,Qb,planTo_low _ _ _ _ (by omega)];rfl
 rw[Xw,e6,e7,UInt8.toNat_ofNat',UInt8.toNat_ofNat'];omega
def RootOk (t:List Bool) (r:Int):Prop:=-1≤r∧r<(t.length:Int)∧(r<0∨t.getD r.toNat false=true)
theorem planOk_planB {t:List Bool} {r:Int} (ht:t.length≤1728) (h:RootOk t r):Zcn (Qb t r) t.length=true:=by obtain⟨h1,h2,h3⟩:=h;rw[Zcn,rootOf_planB t r h1 (by omega),takenOf_planB t r ht];simp only[Bool.and_eq_true,decide_eq_true_eq,beq_self_eq_true,and_true,Bool.or_eq_true];exact⟨h2,h3⟩
end
section
open Go.RowKit
structure Pg where
 J:Jn
 now:List Bool
 root:Int
 was:List Bool
 wroot:Int
 own:List (Int × List UInt8)
 change:Bool
 off:Int
def Zbf:List UInt8:=List.replicate 896 0
theorem Zbo:Zbf.length=896:=by simp[Zbf]
def Yj (o:List (Int × List UInt8)) (k:Int):Option (List UInt8):=(o.find? fun x=>x.1==k).map (·.2)
def oPut (o:List (Int × List UInt8)) (k:Int) (b:List UInt8):List (Int × List UInt8):=if (Yj o k).isSome then o.map fun x=>if x.1=k then (k,b) else x else o++[(k,b)]
def oDel (o:List (Int × List UInt8)) (k:Int):List (Int × List UInt8):=o.filter fun x=>x.1 != k
def Pg.fails (P:Pg) (page:Int):Int:=if P.off≠0 then P.off else if (P.now.length:Int)≤page∨page < -1∨(0≤page∧P.now.getD page.toNat false=false) then 81 else 0
def Pg.must (P:Pg) (page:Int):Int:=if P.fails page≠0∨page≠-1 then P.fails page else 81
def freeAt (t:List Bool):Option Nat:=t.findIdx? fun b=>!b
def Pg.alloc (P:Pg):(Int × Int) × Pg :=
 if P.fails (-1)≠0 then ((0,P.fails (-1)),P) else match freeAt P.now with
 | none=>((0,80),P)
 | some k=>((k,0),{ P with now:=P.now.set k true,own:=oPut P.own k Zbf,change:=true })
def Pg.free (P:Pg) (page:Int):Int × Pg :=
 if P.must page≠0 then (P.must page,P) else if page=P.root then (2,P) else (0,{ P with now:=P.now.set page.toNat false,own:=oDel P.own page,change:=true })
def Zae (off e:Int):Int:=if e=43∨e=44 then e else off
def Jn.reads (J:Jn) (from_:Int):Nat→List UInt8 × Int × Jn
 | 0=>([],0,J)
 | k+1=>let r:=J.reads from_ k;if r.2.1≠0 then r else let s:=r.2.2.read (from_+k);if s.2.1≠0 then ([],s.2.1,s.2.2) else (r.1++s.1,0,s.2.2)
def Pg.read (P:Pg) (page:Int):List UInt8 × Int × Pg :=
 if P.must page≠0 then ([],P.must page,P) else match Yj P.own page with
 | some b=>(b,0,P)
 | none=>let r:=P.J.reads (2+page*8) 8;if r.2.1≠0 then ([],r.2.1,{ P with J:=r.2.2,off:=Zae P.off r.2.1 }) else (r.1,0,{ P with J:=r.2.2 })
def Pg.write (P:Pg) (page:Int) (b:List UInt8):Int × Pg :=
 if P.must page≠0 then (P.must page,P) else if b.length≠896 then (2,P) else (0,{ P with own:=oPut P.own page b,change:=true })
def Pg.setRoot (P:Pg) (page:Int):Int × Pg:=if P.fails page≠0 then (P.fails page,P) else (0,{ P with root:=page,change:=true })
def Xn:Nat→List UInt8→List (List UInt8)
 | 0,_=>[]
 | k+1,b=>b.take 112::Xn k (b.drop 112)
def Zo (from_:Int) (k:Nat):List Int:=(List.range k).map fun(i:Nat)=>from_+(i:Int)
def Zbk (o:List (Int × List UInt8)):List Int:=(o.map (·.1)).mergeSort fun x y=>decide (x≤y)
def Pg.places (P:Pg):List Int:=Zo 0 2++(Zbk P.own).flatMap fun k=>Zo (2+k*8) 8
def Pg.blocks (P:Pg):List (List UInt8):=Xn 2 (Qb P.now P.root)++(Zbk P.own).flatMap fun k=>Xn 8 ((Yj P.own k).getD [])
def Pg.commit (P:Pg):Int × Pg :=
 if P.fails (-1)≠0 then (P.fails (-1),P) else if P.change=false then (0,P) else
 let r:=P.J.write P.places P.blocks
 if r.1≠0 then (r.1,{ P with J:=r.2,off:=Zae P.off r.1 }) else (0,{ P with J:=r.2,was:=P.now,wroot:=P.root,own:=[],change:=false })
def Pg.abort (P:Pg):Pg:=if P.fails (-1)=0 then { P with now:=P.was,root:=P.wroot,own:=[],change:=false } else P
def Jn.pages (J:Jn):Nat:=(J.D.blocks - 2) / 8
def Jn.pformat (J:Jn):Int × Jn:=J.write (Zo 0 2) (Xn 2 (Qb (List.replicate J.pages false) (-1)))
def Jn.popen (J:Jn):Int × Jn × Option Pg :=
 let r:=J.reads 0 2
 if r.2.1≠0 then (r.2.1,r.2.2,none) else if Zcn r.1 r.2.2.pages=false then (82,r.2.2,none)
 else (0,r.2.2,some ⟨r.2.2,Yx r.1 r.2.2.pages,Xw r.1,Yx r.1 r.2.2.pages,Xw r.1,[],false,0⟩)
end
section
open Go.RowKit
theorem upI_perm {a b:List Int} (h:a.Perm b):upI a=upI b:=by
 have tr:∀a b c:Int,decide (a≤b)=true→decide (b≤c)=true→decide (a≤c)=true:=by intro a b c h1 h2;simp only[decide_eq_true_eq] at *;omega
 have tot:∀a b:Int,(decide (a≤b)||decide (b≤a))=true:=by intro a b;simp only[Bool.or_eq_true,decide_eq_true_eq];omega
 refine List.Perm.eq_of_pairwise (le:=fun a b=>decide (a≤b)=true) (fun a b _ _ h1 h2=>by simp only[decide_eq_true_eq] at h1 h2;omega) (List.pairwise_mergeSort tr tot a) (List.pairwise_mergeSort tr tot b) (((List.mergeSort_perm a _).trans h).trans (List.mergeSort_perm b _).symm)
def slen:Value→Nat | .slice _ n _=>n | _=>0
theorem Qt.form {B:Nat} {w:World} {v:Value} {zs:List Int} (h:Qt B w v zs):∃a cap,v=.slice a zs.length cap∧zs.length≤cap∧cap≤maxLen:=by obtain⟨a,c,h1,h2,h3,_⟩:=h.isI;exact⟨a,c,h1,h2,h3⟩
theorem keys_any (w:World) (M:Nat) (kv:List (Int × Value)) (h:OTab w M kv) (hl:kv.length≤100000) :
  Calls Tryz.prog 57 #[.map (some M)] w fun e w'=>∃v,e=.returned v∧Qt w.heap.size w' v (upI (kv.map (·.1)))∧Below w.heap.size w w':=by
 obtain⟨W1,hrr,hI,hb1⟩:=h.run_range (P:=Tryz.prog) (T:=98) Tryz.underlying98;have hlt:=h.lt
 have hs1:w.heap.size+1≤W1.heap.size:=by have:=hI.lt.2;omega
 clear h;go_enter Tryz.func57,Tryz.ntmps57;go_wp2;go_loopw [3,4] (fun v _ wr=>∃done:List Int,done.length≤kv.length∧ITab wr M w.heap.size kv done∧Qt (w.heap.size+1) wr v done∧Below w.heap.size w wr∧w.heap.size+1≤wr.heap.size) (fun v _ _=>kv.length - slen v)
 case atStart=>exact⟨[],by simp,hI,Qt.nil _ _,hb1,hs1⟩
 case round =>
  obtain⟨done,hdl,hit,hmi,hbr,hsr⟩:=hrel;clear hI hb1 hs1 hrr;obtain⟨a,c,rfl,hc1,hc2⟩:=hmi.form;rcases hit.run_next (P:=Tryz.prog) 0 with ⟨hp,hr⟩ | ⟨n,x,w2,hn,hx,hlt2,hr,hit2,ht2,hre⟩
  ·have HS:=Hd (sortMine_any wr (w.heap.size+1) _ done hmi (by omega));have HP:=Hd (upI_perm hp);clear hp hit hmi;go_wp2_with (go_at_call 93;refine HS.out.mono ?_;rintro e w3 ⟨rfl,hmi3,ht3⟩);go_ret;refine⟨_,rfl,?_,hbr.trans (ht3.below (B:=w.heap.size) hbr.size fun k hk=>by omega)⟩;rw[←HP.out];exact World.ownsRow.mono hmi3 (by omega)
  ·have hs2:=ht2.size
   have hmi2:=hmi.keep (w':=w2) fun k h1 h2=>ht2.block k h2 (by omega);have hmi3:=hmi2.below ((Below.refl w2.heap.size w2).alloc (Nat.le_refl _) (.cells #[.int .i64 n] 3));have hit3:=hit2.keep (w':=w2.alloc (.cells #[.int .i64 n] 3)) (((Below.refl w2.heap.size w2).alloc (Nat.le_refl _) _).block _ hit2.lt.1) (((Below.refl w2.heap.size w2).alloc (Nat.le_refl _) _).block _ hit2.lt.2);have hb3:Below w.heap.size w (w2.alloc (.cells #[.int .i64 n] 3)):=(hbr.trans (ht2.below (B:=w.heap.size) hbr.size fun k hk=>by omega)).alloc (by omega) _;have hs3:w.heap.size+1≤(w2.alloc (.cells #[.int .i64 n] 3)).heap.size:=by simp;omega
   obtain⟨v6,w5,hr6,hmi5,hg5⟩:=hmi3.grow hs3 (by omega) n w2.heap.size (heap_alloc_new _ _);have ht5:=grown_turned hmi3 hg5
   have hb5:Below w.heap.size w w5:=hb3.trans (ht5.below (B:=w.heap.size) hb3.size fun k hk=>by omega);have hs5:w.heap.size+1≤w5.heap.size:=Nat.le_trans hs3 ht5.size;have hit5:ITab w5 M w.heap.size kv (done++[n]):=hit3.keep (ht5.block _ hit3.lt.1 (by omega)) (ht5.block _ hit3.lt.2 (by omega));obtain⟨a6,c6,rfl,hc61,hc62⟩:=hmi5.form;have hl6:(done++[n]).length=done.length+1:=by simp
   clear hit hmi hit2 hmi2 hb3 hg5 hn hx hit3 hmi3 ht5;go_wp2_with (at_builtin;refine wpList_append_run rfl (.tmp 11) (.tmp 13) 109 109 rfl _ _ _ rfl rfl hr6 ?_;clear hr6);go_roundw
   case rel=>exact⟨done++[n],by omega,hit5,by rw[hl6] at hmi5;exact hmi5,hb5,hs5⟩
   case measure=>simp only[slen,hl6];omega
end
section
open Go.RowKit Go.Shelf
attribute [local go_sem] Oper.semAt_some
def Zy (g:Nat) (l:List Nat):List Value:=l.map (Zcl g)
theorem Zbb.grow2 {B:Nat} {w:World} {v:Value} {us:List Value} (h:Zbb B w v us) (hB:B≤w.heap.size) (hL:us.length≤1000000) (u:Value) (hu:u.oneCell'=true) (g:Nat) (hg:w.heap[g]?=some (.cells #[u] 106 (0,0))) :
  ∃v' w',(Builtin.append_ #[110,110] 110 #[v,.slice (some ⟨g,0,none⟩) 1 1]).run Tryz.prog w=.ok v' w'∧Zbb B w' v' (us++[u])∧w.grownBy w' v.ownBlock∧(v'.ownBlock=v.ownBlock∨v'.ownBlock=some w.heap.size):=by
 obtain⟨i,hi,hz,hs,hb⟩:=info_parts (P:=Tryz.prog) (e:=106) info_bytes2;have hcell:∀w':World,w'.heap=w.heap→∀j c,([u]:List Value)[j]?=some c→w'.cell? ((⟨g,0,none⟩:Addr).add j)=some c:=fun w' hw j c hj=>by rw[Addr.add_mid,Nat.zero_add,cell_of_row w' _ _ _ _ _ (by rw[hw];exact hg)];simpa using hj
 obtain⟨v',w',hr,ho,hgr,_,hown⟩:=Zdw (P:=Tryz.prog) w B 110 110 110 106 i _ 1 24 _ Tryz.underlying110 Tryz.underlying110 (.inl rfl) hi hz hs hb rfl (by decide) v us.length us h
  (.slice (some ⟨g,0,none⟩) 1 1) 1 [u] (fun w'=>rfl) rfl (fun w' hw=>run_firstCells_some (P:=Tryz.prog) w' 1 1 ⟨g,0,none⟩ 1 1 [u] rfl (hcell w' hw)) (by
   intro c hc
   rw[List.mem_singleton.1 hc,hu]) (by simp[maxLen];omega) (by omega) hB
 refine⟨v',w',hr,?_,hgr,hown⟩;unfold Zbb;rw[List.length_append];exact ho
set_option maxRecDepth 100000 in
theorem appendSeq_any (w:World) (bb bn g c m:Nat) (hbb:w.heap[bb]?=some (.cells #[.slice (some ⟨g,0,none⟩) (112*m) c] 106 (0,0))) (hbn:w.heap[bn]?=some (.cells #[.int .i64 112] 3 (0,0)))
  (hc:112*m≤c) (hm:m≤10000) :
  Calls Tryz.prog 112 #[.slice none 0 0,.func (.func 113) #[] #[.pointer (some ⟨bb,0,none⟩),.pointer (some ⟨bn,0,none⟩)]] w fun e w'=>∃v,e=.returned v∧Zbb w.heap.size w' v (Zy g (List.range m))∧Below w.heap.size w w':=by
 refine callsIn_wide (n:=3).1 ?_;have bO:=Boxed.new w 110 (.slice none 0 0)
 have hB0:Below w.heap.size w (w.alloc (.cells #[.slice none 0 0] 110)):=(Below.refl _ w).alloc (Nat.le_refl _) _;have hsz:(w.alloc (.cells #[.slice none 0 0] 110)).heap.size=w.heap.size+1:=by simp
 have hlb:=Za hbb;have hln:=Za hbn;refine callsIn_of_wp_marks Tryz.func112 rfl trivial ?_ rfl;simp only[Tryz.ntmps112,List.size_toArray,List.length_cons,List.length_nil,Nat.reduceAdd,Nat.reduceSub,Array.replicate_succ,Array.replicate_zero,List.push_toArray,List.append_toArray,List.nil_append,List.cons_append];gi_wp2_with fail;obtain⟨W0,hW0⟩:∃W0,w.alloc (.cells #[.slice none 0 0] 110)=W0:=⟨_,rfl⟩;rw[hW0] at bO hB0 hsz ⊢;clear hW0
 refine wpIn_rangeFunc_ownF (F:=Fence.wide) rfl (by omega) (gf:=113) (lb:=#[.pointer (some ⟨bb,0,none⟩),.pointer (some ⟨bn,0,none⟩)]) rfl trivial (enters_of Tryz.func113 (by kernel_rfl) rfl)
  (chunk_stops 2 (by omega) w.heap.size bb bn g c m W0 ((hB0.block _ hlb).trans hbb) ((hB0.block _ hln).trans hbn) hc hm bO.cell (by omega) (by omega)) Zci.trans (fun W l o o' hl h1 h2 _=>Zci.put W l o o' h1 h2 (by omega)) (Below.refl _ _) (fun _=>rfl)
  (fun pre W=>(∃v,Boxed W w.heap.size 110 v∧W.ownsRow w.heap.size 106 1 v pre.length (Zy g pre)∧True)∧Below w.heap.size w W)
  (fun _ _ _=>False)
  (OwnFrom.and (Own.from (holdsRow_own w.heap.size w.heap.size 110 106 1 (fun pre:List Nat=>pre.length) (fun pre=>Zy g pre) (fun _ _=>True)) _) (ownFrom_below (Nat.le_refl _) (by omega)))
  (fun _=>ownFrom_pure _ (fun _:List Nat=>False))
  ⟨⟨_,bO,World.ownsRow_nil _ _ _ _,trivial⟩,hB0⟩
  (fun x=>{ tmps:=#[.slice none 0 0,.func (.func 113) #[] #[.pointer (some ⟨bb,0,none⟩),.pointer (some ⟨bn,0,none⟩)],.pointer (some ⟨w.heap.size,0,none⟩),undef,.slice none 0 0,Zcl g x,.func (.func 113) #[] #[.pointer (some ⟨bb,0,none⟩),.pointer (some ⟨bn,0,none⟩)],Zcl g x,undef,undef,undef,undef,undef],defers:=[] })
  ?assign ?body ?done ?stop
 case assign =>
  intro l x W K hK;gi_wp2;exact hK
 case body =>
  rintro l pre x W ⟨⟨v,bv,rv,_⟩,hb⟩ hlt;have hsz2:=hb.size
  have bt:Below W.heap.size W (W.alloc (.cells #[Zcl g x] 106)):=(Below.refl _ W).alloc (Nat.le_refl _) _
  have rv1:Zbb w.heap.size (W.alloc (.cells #[Zcl g x] 106)) v (Zy g pre):=by
   have:(Zy g pre).length=pre.length:=by simp[Zy]
   unfold Zbb;rw[this];exact World.ownsRow.alloc rv _
  obtain⟨v',w1,hr1,m1,hg1,hown⟩:=rv1.grow2 (by simp;omega) (by simp[Zy];omega) (Zcl g x) rfl W.heap.size (heap_alloc_new _ _);have e1:Zy g pre++[Zcl g x]=Zy g (pre++[x]):=by simp[Zy]
  have e2:(Zy g (pre++[x])).length=pre.length+1:=by simp[Zy]
  rw[e1] at m1;unfold Zbb at m1;rw[e2] at m1;obtain⟨bv1,bv2,r2,k2,b2⟩:=bv.appended (by decide) rv hb.size (by omega) m1 hg1;have kv:=Zci.appended bv bv2 rv r2 hg1 hown
  have bb2:=hb.trans b2
  obtain⟨a4,N,k4,rfl,hN⟩:∃a n k,v'=.slice a n k∧n=pre.length+1:=by
   have m1':Zbb w.heap.size w1 v' (Zy g (pre++[x])):=by unfold Zbb;rw[e2];exact m1
   obtain⟨a,k,h,_⟩:=m1'.form;exact⟨a,_,k,h,e2⟩
  obtain⟨a3,N3,k3,rfl,hN3⟩:∃a n k,v=.slice a n k∧n=pre.length:=by
   rcases rv.2 with ⟨rfl,hn⟩ | ⟨g',cap,cur,rfl,_⟩
   ·exact⟨none,0,0,rfl,hn.symm⟩
   ·exact⟨_,_,cap,rfl,rfl⟩
  have cv:=bv.cell;have cv1:=bv1.cell;have fv1:=bv1.frozen;have HF:=Hd (show ∃v,Boxed (w1.setCell ⟨w.heap.size,0,none⟩ (.slice a4 N k4)) w.heap.size 110 v∧(w1.setCell ⟨w.heap.size,0,none⟩ (.slice a4 N k4)).ownsRow w.heap.size 106 1 v (pre++[x]).length (Zy g (pre++[x]))∧True from ⟨_,bv2,by simpa using r2,trivial⟩)
  have HK:=Hd k2;have HKV:=Hd kv;have HBB:=Hd bb2;clear k2 kv bb2 bv bv1 bv2 rv r2 m1 hg1 hown b2 hb e1 e2 rv1 bt hN hN3;gi_wp2_with (gi_at_builtin;refine Zgz rfl (.tmp 8) (.tmp 10) 110 110 rfl _ _ rfl rfl hr1 ?_;clear hr1);exact⟨HK.out,HKV.out,HF.out,HBB.out⟩
 case done =>
  rintro D ys W hD rfl ⟨⟨v,bv,rv,_⟩,hb⟩ hK;have hc:=bv.cell
  have RV:=Hd rv;clear rv;gi_wp2;refine⟨by simp,.inl ⟨_,_,rfl,run_takeDeferred hK,?_⟩⟩;refine⟨_,results_tmp rfl _ _ _,v,rfl,?_,hb.trans (belowK_b (w:=w) (Nat.le_refl _) W D _ _ (by omega) hK rfl rfl)⟩;unfold Zbb;rw[show (Zy g (List.range m)).length=(List.range m).length by simp[Zy]]
  exact ownsRow_putObj RV.out _ hK rfl
 case stop =>
  intro D c pre W hD hpre hF;exact hF.elim
abbrev chunkF (bb bn:Nat):Value:=.func (.func 113) #[] #[.pointer (some ⟨bb,0,none⟩),.pointer (some ⟨bn,0,none⟩)]
theorem chunk_any (w:World) (va:Option Addr) (vn vc:Nat):Calls Tryz.prog 92 #[.slice va vn vc,.int .i64 112] w fun e w'=>e=.returned (chunkF w.heap.size (w.heap.size+1))∧w'.heap[w.heap.size]?=some (.cells #[.slice va vn vc] 106 (0,0))∧w'.heap[w.heap.size+1]?=some (.cells #[.int .i64 112] 3 (0,0))∧Below w.heap.size w w':=by
 have HX:Hid (((w.alloc (.cells #[.slice va vn vc] 106)).alloc (.cells #[.int .i64 112] 3)).heap[w.heap.size]?=some (.cells #[.slice va vn vc] 106 (0,0))∧((w.alloc (.cells #[.slice va vn vc] 106)).alloc (.cells #[.int .i64 112] 3)).heap[w.heap.size+1]?=some (.cells #[.int .i64 112] 3 (0,0))∧Below w.heap.size w ((w.alloc (.cells #[.slice va vn vc] 106)).alloc (.cells #[.int .i64 112] 3))):=Hd (by
  have h1:=heap_alloc_new w (.cells #[.slice va vn vc] 106);have h2:=heap_alloc_new (w.alloc (.cells #[.slice va vn vc] 106)) (.cells #[.int .i64 112] 3);have hs:(w.alloc (.cells #[.slice va vn vc] 106)).heap.size=w.heap.size+1:=by simp
  rw[hs] at h2;have hb:=(Below.refl (w.alloc (.cells #[.slice va vn vc] 106)).heap.size (w.alloc (.cells #[.slice va vn vc] 106))).alloc (Nat.le_refl _) (.cells #[.int .i64 112] 3)
  exact⟨(hb.block _ (by omega)).trans h1,h2,((Below.refl _ _).alloc (Nat.le_refl _) _).alloc (by omega) _⟩)
 have c1:((w.alloc (.cells #[.slice va vn vc] 106)).alloc (.cells #[.int .i64 112] 3)).cell? ⟨w.heap.size+1,0,none⟩=some (.int .i64 112):=by rw[cell_of_row _ _ _ _ _ _ HX.out.2.1];rfl
 go_enter Tryz.func92,Tryz.ntmps92;go_wp2;go_ret;exact⟨rfl,HX.out⟩
theorem collect_any (w:World) (bb bn g c m:Nat) (hbb:w.heap[bb]?=some (.cells #[.slice (some ⟨g,0,none⟩) (112*m) c] 106 (0,0))) (hbn:w.heap[bn]?=some (.cells #[.int .i64 112] 3 (0,0)))
  (hc:112*m≤c) (hm:m≤10000) :
  Calls Tryz.prog 91 #[chunkF bb bn] w fun e w'=>∃v,e=.returned v∧Zbb w.heap.size w' v (Zy g (List.range m))∧Below w.heap.size w w':=by
 have HA:=Hd (appendSeq_any w bb bn g c m hbb hbn hc hm);clear hbb hbn;go_enter Tryz.func91,Tryz.ntmps91;go_wp2_with fail;refine HA.out.mono ?_;rintro e w2 ⟨v,rfl,hv,hb⟩;go_wp2_with fail;go_ret;exact⟨_,rfl,hv,hb⟩
theorem placesFrom_succ (from_:Int) (k:Nat):Zo from_ (k+1)=Zo from_ k++[from_+(k:Int)]:=by simp[Zo,List.range_succ]
theorem Ym (from_:Int) (k:Nat):(Zo from_ k).length=k:=by simp[Zo]
theorem Zbp (g:Nat) (l:List Nat):(Zy g l).length=l.length:=by simp[Zy]
theorem parts_any (w:World) (from_:Int) (g c m N:Nat) (hN:N=112*m) (hc:N≤c) (hm:m≤10000) (h1:0≤from_) (h2:from_≤1000000) :
  Calls Tryz.prog 55 #[.int .i64 from_,.slice (some ⟨g,0,none⟩) N c] w fun e w'=>∃u v,e=.returned (.tuple #[u,v])∧Qt w.heap.size w' u (Zo from_ m)∧Zbb w.heap.size w' v (Zy g (List.range m))∧Below w.heap.size w w':=by
 have HC:=Hd (chunk_any w (some ⟨g,0,none⟩) N c);have HNN:=Hd hN;clear hN;go_enter Tryz.func55,Tryz.ntmps55;go_wp2_with fail;refine HC.out.mono ?_;rintro e w1 ⟨rfl,hbb,hbn,hb1⟩;rw[HNN.out] at hbb;have HD:=Hd (collect_any w1 _ _ g c m hbb hbn (by have:=HNN.out;omega) hm);have hs1:=hb1.size;clear hbb hbn;go_wp2_with fail;refine HD.out.mono ?_;rintro e w2 ⟨v,rfl,hv,hb2⟩;have hv2:Zbb w.heap.size w2 v (Zy g (List.range m)):=World.ownsRow.mono hv hs1;obtain⟨va,vc,rfl,_,_⟩:=hv2.form;rw[Zbp,List.length_range] at *;have hb3:=hb1.trans (hb2.mono hs1);have hs2:=hb3.size;have HV:=Hd hv2;clear hv hv2 hb1 hb2;go_wp2_with fail;go_loopw [7,14] (fun u x wr=>∃k:Nat,k≤m∧x=.int .i64 (k:Int)∧Qt w.heap.size wr u (Zo from_ k)∧Zbb w.heap.size wr (.slice va m vc) (Zy g (List.range m))∧Below w.heap.size w wr) (fun _ x _=>m - (intOf x).toNat)
 case atStart=>exact⟨0,Nat.zero_le _,rfl,Qt.nil _ _,HV.out,hb3⟩
 case round =>
  clear hb3 hs2;obtain⟨k,hk,rfl,hmi,hrv,hbr⟩:=hrel;obtain⟨a,cu,rfl,hc1,hc2⟩:=hmi.form;have hlp:=Ym from_ k
  by_cases hlt:k<m
  ·have hd:decide ((k:Int)<(m:Int))=true:=decide_eq_true (by omega)
   have hw1:IntKind.i64.wrap (from_+(k:Int))=from_+(k:Int):=IntWalk.i64_in _ (by omega);have hsr:=hbr.size;have bt:Below wr.heap.size wr (wr.alloc (.cells #[.int .i64 (from_+(k:Int))] 3)):=(Below.refl _ _).alloc (Nat.le_refl _) _;have hmi2:=hmi.below bt;have hrv2:=hrv.below bt;obtain⟨v6,w5,hr6,hmi5,hg5⟩:=hmi2.grow (by simp;omega) (by omega) (from_+(k:Int)) wr.heap.size (heap_alloc_new _ _);have hrv5:Zbb w.heap.size w5 (.slice va m vc) (Zy g (List.range m)):=Zed hrv2 hmi2 (by decide) hg5;have ht5:=grown_turned hmi2 hg5;have hb5:Below w.heap.size w w5:=(hbr.trans (bt.mono hsr)).trans (ht5.below (B:=w.heap.size) (by simp;omega) fun k hk=>by omega);rw[←placesFrom_succ] at hmi5;obtain⟨a6,c6,rfl,hc61,hc62⟩:=hmi5.form;have HM:=Hd hmi5;have HR:=Hd hrv5;have HB:=Hd hb5;clear hmi hrv hbr bt hmi2 hrv2 hmi5 hg5 hrv5 ht5 hb5;go_wp2_with (at_builtin;refine wpList_append_run rfl (.tmp 17) (.tmp 21) 109 109 rfl _ _ _ rfl rfl hr6 ?_;clear hr6);go_roundw
   case rel=>exact⟨k+1,hlt,by go_num,HM.out,HR.out,HB.out⟩
   case measure=>simp[intOf];omega
  ·obtain rfl:k=m:=by omega
   have hdz:decide ((k:Int)<(k:Int))=false:=by simp
   have HM:=Hd hmi;have HR:=Hd hrv;have HB:=Hd hbr;clear hmi hrv hbr;go_wp2_with fail;go_ret2;exact⟨_,_,rfl,HM.out,HR.out,HB.out⟩
end
section
open Go.RowKit
theorem info_bool:(Tryz.prog.info? 4).map (fun i=>(i.zero,i.size,i.bytes))=some (some (.bool false),1,1):=by kernel_rfl
def bov (t:List Bool):List Value:=t.map fun b=>.bool b
theorem bov_get (t:List Bool) (i:Nat) (h:i<t.length):(bov t)[i]?=some (.bool t[i]):=by simp[bov,h]
theorem Xx (t:List Bool):(bov t).length=t.length:=by simp[bov]
def Qe (B:Nat) (w:World) (v:Value) (t:List Bool):Prop:=w.ownsRow B 4 1 v t.length (bov t)
theorem Qe.form {B:Nat} {w:World} {v:Value} {t:List Bool} (h:Qe B w v t):∃a cap,v=.slice a t.length cap∧t.length≤cap∧cap≤maxLen:=by
 rcases h.2 with ⟨rfl,hn⟩ | ⟨g,cap,cur,rfl,hb,hg,hn,hc,hs,htake⟩
 ·exact⟨none,0,by rw[hn],by omega,by simp[maxLen]⟩
 ·exact⟨_,cap,rfl,hn,hc⟩
theorem Qe.cell {B:Nat} {w:World} {v:Value} {t:List Bool} (h:Qe B w v t) (h0:t≠[]):∃g cap,v=.slice (some ⟨g,0,none⟩) t.length cap∧t.length≤cap∧cap≤maxLen∧∀i (hi:i<t.length),w.cell? ⟨g,i,none⟩=some (.bool t[i]):=by
 rcases h.2 with ⟨rfl,hn⟩ | ⟨g,cap,cur,rfl,hb,hg,hnc,hcm,hcs,htake⟩
 ·exact absurd (List.eq_nil_of_length_eq_zero hn) h0
 ·refine⟨g,cap,rfl,hnc,hcm,fun i hi=>?_⟩
  rw[cell_of_row _ _ _ _ _ _ hg];have e:(bov t)[i]?=some (.bool t[i]):=bov_get t i hi
  rw[←htake,List.getElem?_take,if_pos (by omega)] at e;simpa using e
theorem Qe.keep {B:Nat} {w w':World} {v:Value} {t:List Bool} (h:Qe B w v t) (hw:∀k,B≤k→k<w.heap.size→w'.heap[k]?=w.heap[k]?):Qe B w' v t:=Zfp h hw
theorem Qe.below {B:Nat} {w w':World} {v:Value} {t:List Bool} (h:Qe B w v t) (hb:Below w.heap.size w w'):Qe B w' v t:=h.keep fun k _ hl=>hb.block k hl
theorem Zh.set {w:World} {g:Nat} {T:TypeId} {L:List UInt8} (h:Zh w g T L) (j:Nat) (x:UInt8):Zh (w.setCell ⟨g,j,none⟩ (.int .u8 (x.toNat:Int))) g T (L.set j x):=by have:=Ze (i:=j) h (.int .u8 (x.toNat:Int));unfold Zh;rw[this];congr 2;apply Array.ext';simp[bv,List.map_set]
theorem Zh.frozen {w:World} {g:Nat} {T:TypeId} {L:List UInt8} (h:Zh w g T L) (j:Nat):w.frozen? ⟨g,j,none⟩=false:=Zf h j
theorem run_make224 (w:World):(Instr.makeSlice 106 (.int .i64 224) (.int .i64 224)).run Tryz.prog w=.ok (.slice (some ⟨w.heap.size,0,none⟩) 224 224) (w.alloc (.cells (bv (List.replicate 224 0)).toArray 5)):=by kernel_rfl
theorem run_copy_word {w:World} {g:Nat} {L:List UInt8} (h:Zh w g 5 L) (hl:L.length=224) (ty:TypeId) :
  (Builtin.copy_ #[106,9] ty #[.slice (some ⟨g,0,none⟩) 224 224,.string ⟨#[85,80,71,49]⟩]).run Tryz.prog w=.ok (.int .i64 4) (w.setCells g 0 (bv [85,80,71,49])):=by
 obtain⟨i,hi,hz,hs1,hb1⟩:=info_parts (P:=Tryz.prog) (e:=5) Zcy;have hsz:∀w,(sizeOf 5).run Tryz.prog w=.ok 1 w:=fun w=>by simp[sizeOf,typeInfo,hi,hs1]
 have hst:=run_storeCells_cells (P:=Tryz.prog) g 0 (bv [85,80,71,49]) 0 w (fun j hj=>(h.there 0 4 (by omega) j (by simpa [bv] using hj)).1) (fun j hj=>(h.there 0 4 (by omega) j (by simpa [bv] using hj)).2) (Yk _);simp only[Nat.add_zero] at hst;have hfc:(Builtin.firstCells 1 4 (.string ⟨#[85,80,71,49]⟩)).run Tryz.prog w=.ok (bv [85,80,71,49]).toArray w:=by kernel_rfl
 have hlen:(Builtin.lenOf (.string ⟨#[85,80,71,49]⟩)).run Tryz.prog w=.ok 4 w:=by kernel_rfl
 unfold Builtin.copy_;simp[run_underlying Tryz.underlying106,hsz,hlen,hst,goInt,hfc]
end
section
open Go.RowKit
theorem Zeo {P:Program} {B:Nat} {e:TypeId} {w:World} {v:Value} {n:Nat} {xs:List Value} (h:w.ownsRow B e 1 v n xs):∀w':World,w'.heap=w.heap→(Builtin.firstCells 1 n v).run P w'=.ok xs.toArray w':=by
 intro w' hw;obtain⟨hl,h2⟩:=h;rw[Nat.mul_one] at hl;rcases h2 with ⟨rfl,hn⟩ | ⟨g,cap,cur,rfl,hb,hg,hn,hc,hs,htake⟩
 ·subst hn;obtain rfl:xs=[]:=List.eq_nil_of_length_eq_zero hl;simp[Builtin.firstCells]
 ·by_cases h0:n=0
  ·subst h0;obtain rfl:xs=[]:=List.eq_nil_of_length_eq_zero hl;simp[Builtin.firstCells,loadCells,loadCellsFrom]
  refine run_firstCells_some (P:=P) w' 1 n _ _ _ xs (by simp[hl]) ?_;intro j u hj;have hlt:j<n:=by have:=(List.getElem?_eq_some_iff.1 hj).1;omega
  rw[Addr.add_mid,Nat.zero_add,cell_of_row w' _ _ _ _ _ (by rw[hw];exact hg)];have e1:(cur.toList.take (n*1))[j]?=some u:=by rw[htake];exact hj
  rw[List.getElem?_take,if_pos (by omega)] at e1;simpa using e1
theorem own_lenOf {P:Program} {B:Nat} {e:TypeId} {w:World} {v:Value} {n:Nat} {xs:List Value} (h:w.ownsRow B e 1 v n xs):∀w':World,(Builtin.lenOf v).run P w'=.ok n w':=by
 intro w';rcases h.2 with ⟨rfl,hn⟩ | ⟨g,cap,cur,rfl,_⟩
 ·subst hn;simp[Builtin.lenOf]
 ·simp[Builtin.lenOf]
end
section
open Go.RowKit
theorem isB_at {w:World} {a:Option Addr} {n cap:Nat} {l:List UInt8} (h:IsB w (.slice a n cap) l) (i:Nat) (hi:i<l.length):∃b o,a=some ⟨b,o,none⟩∧w.cell? ⟨b,o+i,none⟩=some (.int .u8 (l[i].toNat:Int)):=by
 obtain⟨a',cap',hv,hl,hm,hn,hc⟩:=h;simp only[Value.slice.injEq] at hv;obtain⟨rfl,rfl,rfl⟩:=hv
 cases a with
 | none=>have:=hn rfl;omega
 | some x =>
  obtain⟨b,o,s⟩:=x;obtain⟨hs,hc⟩:=hc _ rfl;obtain rfl:s=none:=hs (by omega);exact⟨b,o,rfl,hc i hi⟩
theorem bov_oneCell (t:List Bool):∀u∈bov t,u.oneCell'=true:=by intro u hu;obtain⟨_,_,rfl⟩:=List.mem_map.1 hu;rfl
theorem cloneO_any (w:World) (B:Nat) (v:Value) (t:List Bool) (hv:Qe B w v t) (ht:t.length≤1000000) :
  Calls Tryz.prog 95 #[v] w fun e w'=>∃u,e=.returned u∧Qe w.heap.size w' u t∧Below w.heap.size w w':=by
 have hnl:=fun(w:World) (a:Option Addr) (n c:Nat)=>Lib.run_eql_slice_nil (P:=Tryz.prog) w 94 4 a n c 0 0 Tryz.underlying94;have hbs:∀w:World,(Instr.buildSlice 94 0 #[]).run Tryz.prog w=.ok (.slice (some ⟨w.heap.size,0,none⟩) 0 0) (w.alloc (.cells #[] 4)):=fun w=>by kernel_rfl
 rcases id hv.2 with ⟨rfl,hn⟩ | ⟨g,cap,cur,hvv,hb,hg,hn,hc,hs,htake⟩
 ·obtain rfl:t=[]:=List.eq_nil_of_length_eq_zero hn;clear hv hn;go_enter Tryz.func95,Tryz.ntmps95;go_wp2;go_ret;exact⟨_,rfl,World.ownsRow_nil _ _ _ _,Below.refl _ _⟩
 ·obtain⟨i,hi,hz,hs1,hb1⟩:=info_parts (P:=Tryz.prog) (e:=4) info_bool
  obtain⟨W1,hW1⟩:∃W1,W1=w.alloc (.cells #[] 4):=⟨_,rfl⟩;have hown:W1.ownsRow w.heap.size 4 1 (.slice (some ⟨w.heap.size,0,none⟩) 0 0) 0 []:=by rw[hW1];exact⟨rfl,.inr ⟨w.heap.size,0,#[],rfl,Nat.le_refl _,heap_alloc_new w _,Nat.le_refl _,by simp[maxLen],rfl,rfl⟩⟩
  have hbw:Below w.heap.size w W1:=by rw[hW1];exact(Below.refl _ _).alloc (Nat.le_refl _) _
  have hv1:Qe B W1 v t:=hv.below hbw
  obtain⟨v',w',hr,ho,hgr,_,_⟩:=Zdw (P:=Tryz.prog) W1 w.heap.size 94 94 94 4 i _ 1 1 _ Tryz.underlying94 Tryz.underlying94 (.inl rfl) hi hz hs1 hb1 rfl (by decide) _ 0 [] hown
   v t.length (bov t) (own_lenOf hv1) (by simp[bov]) (Zeo hv1) (bov_oneCell t) (by simp[maxLen];omega) (by omega) hbw.size
  have HF:Hid (Qe w.heap.size w' v' t∧Below w.heap.size w w'):=Hd ⟨by
   unfold Qe;rw[List.nil_append,Nat.zero_add] at ho
   exact ho,hbw.grown hgr hbw.size fun k hk=>by
    simp only[Value.ownBlock,Option.some.injEq] at hk
    omega⟩
  obtain⟨a',c',hv',_,_⟩:=HF.out.1.form;clear hown hv1 ho hgr hv hbw hs htake hg hb hn hc hs1 hz hb1 hi;subst hvv hv';rw[hW1] at hr;clear hW1;go_enter Tryz.func95,Tryz.ntmps95;go_wp2_with (at_builtin;refine wpList_append_run rfl (.tmp 5) (.tmp 6) 94 94 rfl _ _ _ rfl rfl hr ?_;clear hr);go_ret;exact⟨_,rfl,HF.out⟩
def idxB (t:List Bool) (b:Bool):Int:=match t.findIdx? (·==b) with | some k=>(k:Int) | none=>-1
theorem idxB_at {t:List Bool} {b:Bool} {k:Nat} (h:k<t.length) (h1:t[k]=b) (h2:∀j (hj:j<k),t[j]'(by omega)≠b):idxB t b=(k:Int):=by have:t.findIdx? (·==b)=some k:=List.findIdx?_eq_some_iff_getElem.2 ⟨h,by simpa using h1,fun j hj=>by simpa using h2 j hj⟩;rw[idxB,this]
theorem idxB_none {t:List Bool} {b:Bool} (h:∀j (hj:j<t.length),t[j]≠b):idxB t b=-1:=by
 have:t.findIdx? (·==b)=none:=List.findIdx?_eq_none_iff.2 fun x hx=>by obtain⟨j,hj,rfl⟩:=List.getElem_of_mem hx;simpa using h j hj
 rw[idxB,this]
theorem indexO_any (w:World) (B:Nat) (v:Value) (t:List Bool) (b:Bool) (hv:Qe B w v t) (ht:t.length≤1000000) :
  Calls Tryz.prog 61 #[v,.bool b] w fun e w'=>e=.returned (.int .i64 (idxB t b))∧w=w':=by
 obtain⟨a,c,rfl,hc1,hc2⟩:=hv.form;have HV:=Hd hv
 obtain⟨n,hn⟩:∃n,n=t.length:=⟨_,rfl⟩;have Hn:=Hd hn
 rw[←hn] at ht HV hc1 ⊢;clear hv hn;go_enter Tryz.func61,Tryz.ntmps61;go_wp2;go_loop [8] (fun x=>∃k:Nat,k≤n∧x=.int .i64 (k:Int)∧∀j (hj:j<k) (h:j<t.length),t[j]≠b) (fun x=>n - (intOf x).toNat)
 case atStart=>exact⟨0,Nat.zero_le _,rfl,fun j hj=>by omega⟩
 case round =>
  obtain⟨k,hk,rfl,hall⟩:=hrel;by_cases hlt:k<n
  ·have hkt:k<t.length:=by rw[←Hn.out];exact hlt
   have hd:decide ((k:Int)<(n:Int))=true:=decide_eq_true (by omega);obtain⟨g0,cc,hv,_,_,hcs⟩:=HV.out.cell (fun e=>by rw[e] at hkt;simp at hkt);simp only[Value.slice.injEq] at hv;have hav:=hv.1;clear hv;subst hav;have hc:=hcs k hkt;by_cases hx:t[k]=b
   ·have HE:=Hd (idxB_at hkt hx fun j hj=>hall j hj (by omega));rw[hx] at hc;clear hcs hall hx;go_wp2;go_ret;rw[HE.out];exact⟨rfl,rfl⟩
   ·have HA:Hid (∀j (hj:j<k+1) (h:j<t.length),t[j]≠b):=Hd fun j hj h=>by
     by_cases e:j=k
     ·subst e;exact hx
     ·exact hall j (by omega) h
    have hbe:(b==t[k])=false:=by simpa using fun e=>hx e.symm
    clear hcs hall hx;generalize t[k]=x at *;go_wp2;go_round
    case rel=>exact⟨k+1,by omega,by go_num,HA.out⟩
    case measure=>simp[intOf];omega
  ·obtain rfl:k=n:=by omega
   have HE:=Hd (idxB_none fun j hj=>hall j (by rw[Hn.out];exact hj) hj);have hdz:decide ((k:Int)<(k:Int))=false:=by simp
   clear hall;go_wp2;go_ret;rw[HE.out];exact⟨rfl,rfl⟩
section
attribute [local irreducible] wpStill
theorem Zgc (w:World) (u v:Value) (l m:List UInt8) (hu:IsB w u l) (hv:IsB w v m) (hl:l.length≤1000000) :
  Calls Tryz.prog 103 #[u,v] w fun e w'=>e=.returned (.bool (l==m))∧Below w.heap.size w w':=by
 obtain⟨a1,c1,rfl,_,hm1⟩:=hu.form;obtain⟨a2,c2,rfl,_,hm2⟩:=hv.form;unfold maxLen at hm1 hm2;by_cases hlm:l.length=m.length
 case neg =>
  have hd:((l.length:Int) != (m.length:Int))=true:=by rw[bne_iff_ne];omega
  have HE:Hid ((l==m)=false):=Hd (by rw[beq_eq_false_iff_ne];intro e;exact hlm (by rw[e]));clear hlm hu hv;go_enter Tryz.func103,Tryz.ntmps103;go_wp2;go_ret;rw[HE.out];exact⟨rfl,Below.refl _ _⟩
 have HU:=Hd hu;have HV:=Hd hv;have Hlm:=Hd hlm;rw[←hlm] at HV ⊢;have hd:((l.length:Int) != (l.length:Int))=false:=by simp
 obtain⟨n,hn⟩:∃n,n=l.length:=⟨_,rfl⟩;have Hn:=Hd hn
 rw[←hn] at HU HV hl hd ⊢;clear hu hv hlm hn;go_enter Tryz.func103,Tryz.ntmps103;go_wp2;go_loopw [13] (fun x wr=>∃k:Nat,k≤n∧x=.int .i64 (k:Int)∧Below w.heap.size w wr∧∀j (hj:j<k) (h:j<l.length) (h2:j<m.length),l[j]=m[j]) (fun x _=>n - (intOf x).toNat)
 case atStart=>exact⟨0,Nat.zero_le _,rfl,Below.refl _ _,fun j hj=>by omega⟩
 case round =>
  obtain⟨k,hk,rfl,hb,hall⟩:=hrel;by_cases hlt:k<n
  ·have hk1:k<l.length:=by rw[←Hn.out];exact hlt
   have hk2:k<m.length:=by rw[←Hlm.out];exact hk1
   have hd1:decide ((k:Int)<(n:Int))=true:=decide_eq_true (by omega);obtain⟨b1,o1,rfl,e1⟩:=isB_at HU.out k hk1;obtain⟨b2,o2,rfl,e2⟩:=isB_at HV.out k hk2;have f1:wr.drew.cell? _=_:=Zi hb _ _ e1;have f2:wr.drew.cell? _=_:=Zi hb _ _ e2;have hbd:Below w.heap.size w wr.drew:=hb.drew;by_cases hx:l[k]=m[k]
   ·have HA:Hid (∀j (hj:j<k+1) (h:j<l.length) (h2:j<m.length),l[j]=m[j]):=Hd fun j hj h h2=>by
     by_cases e:j=k
     ·subst e;exact hx
     ·exact hall j (by omega) h h2
    rw[←hx] at f2;clear hall hx e1 e2 hb;go_upto_region 6 with fail;refine wp_region_still_tail 8 (by kernel_rfl) (by kernel_rfl) ?_;simp only[List.take_succ_cons,List.take_zero,List.drop_succ_cons,List.drop_zero];change wpStill _ _ wr.drew (fun a'=>wpList _ _ _ _ a' wr.drew) _ _;generalize wr.drew=W1 at *;iterate 8 still_step
    refine wpStill_nil ?_;go_wp2_with fail;go_roundw
    case rel=>exact⟨k+1,by omega,by go_num,hbd,HA.out⟩
    case measure=>simp[intOf];omega
   ·have HE:Hid ((l==m)=false):=Hd (by
     rw[beq_eq_false_iff_ne];intro e;subst e
     exact hx rfl)
    have hne:(((l[k].toNat:Nat):Int) != ((m[k].toNat:Nat):Int))=true:=by rw[bne_iff_ne];intro e;exact hx (UInt8.toNat_inj.1 (by omega))
    clear hall hx e1 e2 hb;go_upto_region 6 with fail;refine wp_region_still_tail 8 (by kernel_rfl) (by kernel_rfl) ?_;simp only[List.take_succ_cons,List.take_zero,List.drop_succ_cons,List.drop_zero];change wpStill _ _ wr.drew (fun a'=>wpList _ _ _ _ a' wr.drew) _ _;generalize wr.drew=W1 at *;iterate 8 still_step
    refine wpStill_nil ?_;go_wp2_with fail;go_ret;rw[HE.out];exact⟨rfl,hbd⟩
  ·obtain rfl:k=n:=by omega
   have HE:Hid ((l==m)=true):=Hd (by
    rw[beq_iff_eq]
    exact List.ext_getElem Hlm.out fun j h1 h2=>hall j (by rw[Hn.out];exact h1) h1 h2)
   have hdz:decide ((k:Int)<(k:Int))=false:=by simp
   clear hall;go_wp2;go_ret;rw[HE.out];exact⟨rfl,hb⟩
end
end
section
open Go.RowKit
theorem Zbr:(Tryz.prog.info? 96).map (·.size)=some 2:=by kernel_rfl
abbrev Qz (v:Value) (r:Int):Obj:=.cells #[v,.int .i64 r] 96 (0,0)
theorem Zx {W:World} {g:Nat} {v:Value} {r:Int} (h:W.heap[g]?=some (Qz v r)):W.cell? ⟨g,0,none⟩=some v∧W.cell? ⟨g,1,none⟩=some (.int .i64 r):=by
 refine⟨?_,?_⟩<;>· rw[cell_of_row _ _ _ _ _ _ h];rfl
theorem pclone_any (w:World) (B:Nat) (v:Value) (t:List Bool) (r:Int) (hv:Qe B w v t) (ht:t.length≤1000000) :
  Calls Tryz.prog 60 #[.agg #[v,.int .i64 r]] w fun e w'=>∃u,e=.returned (.agg #[u,.int .i64 r])∧Qe w.heap.size w' u t∧Below w.heap.size w w':=by
 obtain⟨W1,hW1⟩:∃W1,W1=w.alloc (.cells #[v,.int .i64 r] 96):=⟨_,rfl⟩;have hp1:W1.heap[w.heap.size]?=some (Qz v r):=by rw[hW1];exact heap_alloc_new w _
 have hb1:Below w.heap.size w W1:=by rw[hW1];exact(Below.refl _ _).alloc (Nat.le_refl _) _
 obtain⟨W2,hW2⟩:∃W2,W2=W1.alloc (.cells #[.slice none 0 0,.int .i64 0] 96):=⟨_,rfl⟩;have hq2:W2.heap[W1.heap.size]?=some (Qz (.slice none 0 0) 0):=by rw[hW2];exact heap_alloc_new W1 _
 have hb12:Below W1.heap.size W1 W2:=by rw[hW2];exact(Below.refl _ _).alloc (Nat.le_refl _) _
 have hp2:=(hb12.block _ (Za hp1)).trans hp1;have hb2:=hb1.trans (hb12.mono hb1.size);have hs1:W1.heap.size=w.heap.size+1:=by rw[hW1];simp
 rw[hs1] at hq2;have hv2:Qe B W2.drew v t:=(hv.below hb2).below (Below.refl _ _).drew
 obtain⟨a,c,rfl,_,_⟩:=hv.form;have HCL:=Hd (cloneO_any W2.drew B _ t hv2 ht)
 clear hb1 hb12 hp1 hv hv2;have HW1:=Hd hW1
 have HW2:=Hd hW2;clear hW1 hW2;go_enter Tryz.func60,Tryz.ntmps60;go_upto_region 1 with fail;rw[←HW1.out,←HW2.out];clear HW1 HW2 hs1;have hS0:(fun W:World=>W.heap[w.heap.size]?=some (Qz (.slice a t.length c) r)) W2.drew:=hp2;replace hq2:W2.drew.heap[w.heap.size+1]?=_:=hq2;replace hb2:=hb2.drew;refine rgA (S:=(fun W:World=>W.heap[w.heap.size]?=some (Qz (.slice a t.length c) r))) hS0 (fun hH=>?_);refine tkB 0 rfl (v:=?_) ?_ hH ?_;rotate_left
 ·intro w hSw;obtain⟨q0,q1⟩:=Zx hSw;go_simp;try with_reducible rfl
 try simp only[Act.put,zA,zB,zC]
 refine tkB 1 rfl (v:=?_) ?_ hH ?_;rotate_left
 ·intro w hSw;obtain⟨q0,q1⟩:=Zx hSw;go_simp;try with_reducible rfl
 try simp only[Act.put,zA,zB,zC]
 refine tkB 3 rfl (v:=?_) ?_ hH ?_;rotate_left
 ·intro w hSw;obtain⟨q0,q1⟩:=Zx hSw;go_simp;try with_reducible rfl
 try simp only[Act.put,zA,zB,zC]
 refine tkB 4 rfl (v:=?_) ?_ hH ?_;rotate_left
 ·intro w hSw;obtain⟨q0,q1⟩:=Zx hSw;go_simp;try with_reducible rfl
 try simp only[Act.put,zA,zB,zC]
 refine rdA 2 rfl (fun K hK=>?_);go_simp;refine HCL.out.mono ?_;rintro e W3 ⟨u,rfl,hm3,hb3⟩;obtain⟨au,cu,rfl,_,_⟩:=hm3.form;have hHn:=(hb3.block _ (Za hH)).trans hH
 have hq3:=(hb3.block _ (Za hq2)).trans hq2;have hb23:=hb2.trans (hb3.mono hb2.size);clear hH;go_wp2_with fail;refine hK.out _ _ hHn (fun hH=>?_);clear hHn;clear hK K;try simp only[Act.put,zA,zB,zC]
 refine tkB 5 rfl (v:=?_) ?_ hH ?_;rotate_left
 ·intro w hSw;obtain⟨q0,q1⟩:=Zx hSw;go_simp;try with_reducible rfl
 try simp only[Act.put,zA,zB,zC]
 refine rdA 6 rfl (fun K hK=>?_);go_simp;obtain⟨g00,g01⟩:=Zx hq3;have f0:W3.frozen? ⟨w.heap.size+1,0,none⟩=false:=Zf hq3 0
 have f1:W3.frozen? ⟨w.heap.size+1,1,none⟩=false:=Zf hq3 1;have ht4:=(Zd W3 (w.heap.size+1) 0 (.slice au t.length cu)).trans (Zd (W3.setCell ⟨w.heap.size+1,0,none⟩ (.slice au t.length cu)) (w.heap.size+1) 1 (.int .i64 r));have hq4:=Ze (Ze hq3 (i:=0) (.slice au t.length cu)) (i:=1) (.int .i64 r);go_wp2_with fail
 ·rename_i h;exact absurd h (by rw[f0];decide)
 rename_i hnf;clear hnf;generalize (W3.setCell ⟨w.heap.size+1,0,none⟩ (.slice au t.length cu)).setCell ⟨w.heap.size+1,1,none⟩ (.int .i64 r)=W4 at *;have hHn:=(ht4.block _ (Za hH) (by omega)).trans hH
 clear hH f0 f1 g00 g01;refine hK.out _ _ hHn (fun hH=>?_);clear hHn;clear hK K;try simp only[Act.put,zA,zB,zC]
 refine dnA ?_;clear hH;replace hq4:W4.heap[w.heap.size+1]?=some (Qz (.slice au t.length cu) r):=hq4;have hv:=run_loadVar_row (P:=Tryz.prog) W4 (w.heap.size+1) 96 96 _ (0,0) _ hq4 Tryz.underlying96 rfl (by rw[Zbr];rfl)
 have hm4:Qe w.heap.size W4 (.slice au t.length cu) t:=World.ownsRow.mono (hm3.keep fun k hk hl=>ht4.block k hl (by have:=Za hq2;omega)) hb2.size;go_wp2;refine bodyPost_ret (v:=.agg #[.slice au t.length cu,.int .i64 r]) (Zgj Tryz.results60 rfl hv) rfl ⟨_,rfl,hm4,?_⟩;exact hb23.trans (ht4.below (B:=w.heap.size) hb23.size fun k hk=>by omega)
end
section
open Go.RowKit
def BoR (w:World) (g c:Nat) (t:List Bool):Prop:=∃cur:Array Value,w.heap[g]?=some (.cells cur 4 (0,0))∧t.length≤c∧c≤maxLen∧cur.size=c∧cur.toList.take t.length=bov t
theorem BoR.lt {w:World} {g c:Nat} {t:List Bool} (h:BoR w g c t):g<w.heap.size:=by obtain⟨cur,h1,_⟩:=h;exact Za h1
theorem BoR.mine {w:World} {g c:Nat} {t:List Bool} (h:BoR w g c t) (B:Nat) (hB:B≤g):Qe B w (.slice (some ⟨g,0,none⟩) t.length c) t:=by obtain⟨cur,h1,h2,h3,h4,h5⟩:=h;exact⟨by simp[Xx],.inr ⟨g,c,cur,rfl,hB,h1,h2,h3,by simp[h4],by simpa using h5⟩⟩
theorem Qe.boR {B:Nat} {w:World} {v:Value} {t:List Bool} (h:Qe B w v t) (h0:0<t.length):∃g c,v=.slice (some ⟨g,0,none⟩) t.length c∧B≤g∧BoR w g c t:=by
 rcases h.2 with ⟨rfl,hn⟩ | ⟨g,cap,cur,rfl,hb,hg,hnc,hcm,hcs,htake⟩
 ·omega
 ·exact⟨g,cap,rfl,hb,cur,hg,hnc,hcm,by simpa using hcs,by simpa using htake⟩
theorem BoR.keep {w w':World} {g c:Nat} {t:List Bool} (h:BoR w g c t) (hw:w'.heap[g]?=w.heap[g]?):BoR w' g c t:=by obtain⟨cur,h1,h2⟩:=h;exact⟨cur,hw.trans h1,h2⟩
theorem BoR.cell {w:World} {g c:Nat} {t:List Bool} (h:BoR w g c t) (i:Nat) (hi:i<t.length):w.cell? ⟨g,i,none⟩=some (.bool t[i]):=by
 obtain⟨cur,h1,h2,h3,h4,h5⟩:=h;rw[cell_of_row _ _ _ _ _ _ h1];have e:(bov t)[i]?=some (.bool t[i]):=bov_get t i hi
 rw[←h5,List.getElem?_take,if_pos (by omega)] at e;simpa using e
theorem BoR.frozen {w:World} {g c:Nat} {t:List Bool} (h:BoR w g c t) (i:Nat):w.frozen? ⟨g,i,none⟩=false:=by obtain⟨cur,h1,_⟩:=h;exact Zf h1 i
theorem BoR.set {w:World} {g c:Nat} {t:List Bool} (h:BoR w g c t) (i:Nat) (b:Bool):BoR (w.setCell ⟨g,i,none⟩ (.bool b)) g c (t.set i b):=by
 obtain⟨cur,h1,h2,h3,h4,h5⟩:=h;refine⟨_,Ze h1 (i:=i) (.bool b),by simpa using h2,h3,by simpa using h4,?_⟩;rw[Array.toList_setIfInBounds,List.length_set];rw[show bov (t.set i b)=(bov t).set i (.bool b) by simp[bov,List.map_set],←h5]
 apply List.ext_getElem?;intro j;by_cases hj:j<t.length
 ·rw[List.getElem?_take_of_lt hj,List.getElem?_set,List.getElem?_set,List.getElem?_take_of_lt hj]
  simp only[List.length_take];by_cases hij:i=j
  ·subst hij
   have hc:i<cur.toList.length:=by simp;omega
   rw[if_pos rfl,if_pos rfl,if_pos hc,if_pos (by omega)]
  ·rw[if_neg hij,if_neg hij]
 ·rw[List.getElem?_take_eq_none (by omega),List.getElem?_eq_none (by simp;omega)]
structure Pf where
 q:Nat
 gn:Nat
 cn:Nat
 gw:Nat
 cw:Nat
 M:Nat
 kv:List (Int × Value)
def PT (f:Pf) (k:Nat):Prop:=k=f.q∨k=f.gn∨k=f.gw∨k=f.M∨∃x∈f.kv,x.2.ownBlock=some k
def Pgs (w:World):List (Int × Value)→List (Int × List UInt8)→Prop
 | [],[]=>True
 | x::kv,y::o=>x.1=y.1∧y.2.length=896∧Qs 5 0 w x.2 y.2∧Pgs w kv o
 | _,_=>False
theorem own_keep1 {B:Nat} {e:TypeId} {s n:Nat} {w w':World} {u:Value} {xs:List Value} (h:w.ownsRow B e s u n xs) (hw:∀k,u.ownBlock=some k→w'.heap[k]?=w.heap[k]?):w'.ownsRow B e s u n xs:=by
 obtain⟨h1,h2⟩:=h;refine⟨h1,?_⟩;rcases h2 with h2 | ⟨g,cap,cur,hu,hb,hh,r⟩
 ·exact .inl h2
 ·exact .inr ⟨g,cap,cur,hu,hb,(hw g (by rw[hu];rfl)).trans hh,r⟩
theorem Pgs.keep {w w':World}:∀{kv:List (Int × Value)} {o:List (Int × List UInt8)},Pgs w kv o→(∀x∈kv,∀k,x.2.ownBlock=some k→w'.heap[k]?=w.heap[k]?)→Pgs w' kv o
 | [],[],_,_=>trivial
 | [],_::_,h,_=>h.elim
 | _::_,[],h,_=>h.elim
 | x::kv,y::o,h,hw=>⟨h.1,h.2.1,own_keep1 h.2.2.1 (hw x (by simp)),Pgs.keep h.2.2.2 fun x hx=>hw x (by simp[hx])⟩
theorem Pgs.keys {w:World}:∀{kv:List (Int × Value)} {o:List (Int × List UInt8)},Pgs w kv o→kv.map (·.1)=o.map (·.1)
 | [],[],_=>rfl
 | [],_::_,h=>h.elim
 | _::_,[],h=>h.elim
 | x::kv,y::o,h=>by simp[h.1,Pgs.keys h.2.2.2]
theorem Pgs.look {w:World} (k:Int):∀{kv:List (Int × Value)} {o:List (Int × List UInt8)},Pgs w kv o→(Zal kv k=none∧Yj o k=none)∨∃v b,Zal kv k=some v∧Yj o k=some b∧b.length=896∧Qs 5 0 w v b∧(k,v)∈kv
 | [],[],_=>.inl ⟨rfl,rfl⟩
 | [],_::_,h=>h.elim
 | _::_,[],h=>h.elim
 | x::kv,y::o,h=>by
  obtain⟨h1,h2,h3,h4⟩:=h;rw[kLook_cons];by_cases hk:x.1=k
  ·refine .inr ⟨x.2,y.2,by rw[if_pos hk],?_,h2,h3,by rw[←hk];simp⟩
   have hy:(y.1==k)=true:=by rw[←h1];simpa using hk
   simp[Yj,List.find?_cons,hy]
  ·have hy:(y.1==k)=false:=by rw[←h1];simpa using hk
   have e:Yj (y::o) k=Yj o k:=by simp[Yj,List.find?_cons,hy]
   rw[if_neg hk,e];rcases Pgs.look k h4 with h5 | ⟨v,b,h5,h6,h7,h8,h9⟩
   ·exact .inl h5
   ·exact .inr ⟨v,b,h5,h6,h7,h8,by simp[h9]⟩
theorem Pgs.del {w:World} (k:Int):∀{kv:List (Int × Value)} {o:List (Int × List UInt8)},Pgs w kv o→Pgs w (vDel kv k) (oDel o k)
 | [],[],_=>trivial
 | [],_::_,h=>h.elim
 | _::_,[],h=>h.elim
 | x::kv,y::o,h=>by
  obtain⟨h1,h2,h3,h4⟩:=h;have ih:=Pgs.del k h4
  by_cases hk:x.1=k
  ·have hy:(y.1 != k)=false:=by rw[←h1];simpa using hk
   have hx:(x.1 != k)=false:=by simpa using hk
   simpa [vDel,oDel,List.filter_cons,hx,hy] using ih
  ·have hy:(y.1 != k)=true:=by rw[←h1];simpa using hk
   have hx:(x.1 != k)=true:=by simpa using hk
   simp only[vDel,oDel,List.filter_cons,hx,hy,if_true];exact⟨h1,h2,h3,ih⟩
theorem Pgs.snoc {w:World} {k:Int} {v:Value} {b:List UInt8} (hb:b.length=896) (hv:Qs 5 0 w v b):∀{kv:List (Int × Value)} {o:List (Int × List UInt8)},Pgs w kv o→Pgs w (kv++[(k,v)]) (o++[(k,b)])
 | [],[],_=>⟨rfl,hb,hv,trivial⟩
 | [],_::_,h=>h.elim
 | _::_,[],h=>h.elim
 | x::kv,y::o,h=>⟨h.1,h.2.1,h.2.2.1,Pgs.snoc hb hv h.2.2.2⟩
theorem Pgs.over {w:World} {k:Int} {v:Value} {b:List UInt8} (hb:b.length=896) (hv:Qs 5 0 w v b):∀{kv:List (Int × Value)} {o:List (Int × List UInt8)},Pgs w kv o →
  Pgs w (kv.map fun x=>if x.1=k then (k,v) else x) (o.map fun x=>if x.1=k then (k,b) else x)
 | [],[],_=>trivial
 | [],_::_,h=>h.elim
 | _::_,[],h=>h.elim
 | x::kv,y::o,h=>by
  obtain⟨h1,h2,h3,h4⟩:=h;have ih:=Pgs.over (k:=k) hb hv h4
  simp only[List.map_cons];by_cases hk:x.1=k
  ·rw[if_pos hk,if_pos (by rw[←h1];exact hk)];exact⟨rfl,hb,hv,ih⟩
  ·rw[if_neg hk,if_neg (by rw[←h1];exact hk)];exact⟨h1,h2,h3,ih⟩
theorem Pgs.put {w:World} {k:Int} {v:Value} {b:List UInt8} (hb:b.length=896) (hv:Qs 5 0 w v b) {kv:List (Int × Value)} {o:List (Int × List UInt8)} (h:Pgs w kv o):Pgs w (vPut kv k v) (oPut o k b):=by
 rcases h.look k with ⟨h1,h2⟩ | ⟨v',b',h1,h2,_⟩
 ·simp only[vPut,oPut,h1,h2,Option.isSome_none,Bool.false_eq_true,if_false];exact h.snoc hb hv
 ·simp only[vPut,oPut,h1,h2,Option.isSome_some,if_true];exact h.over hb hv
theorem mem_vPut {kv:List (Int × Value)} {k:Int} {v:Value} {x:Int × Value} (h:x∈vPut kv k v):x∈kv∨x.2=v:=by
 unfold vPut at h;split at h
 ·obtain⟨y,hy,rfl⟩:=List.mem_map.1 h
  split
  ·exact .inr rfl
  ·exact .inl hy
 ·rcases List.mem_append.1 h with h | h
  ·exact .inl h
  ·rw[List.mem_singleton.1 h];exact .inr rfl
theorem mem_vDel {kv:List (Int × Value)} {k:Int} {x:Int × Value} (h:x∈vDel kv k):x∈kv:=(List.mem_filter.1 h).1
abbrev pgRow (p:Nat) (f:Pf) (P:Pg):Obj:=.cells #[jptr p,.slice (some ⟨f.gn,0,none⟩) P.now.length f.cn,.int .i64 P.root,.slice (some ⟨f.gw,0,none⟩) P.was.length f.cw,.int .i64 P.wroot,.map (some f.M),.bool P.change,.int .i64 P.off] 100 (0,0)
structure Pok (P:Pg):Prop where
 n0:0<P.now.length
 n1:P.now.length≤1023
 was:P.was.length=P.now.length
 r0:-1≤P.root
 r1:P.root<(P.now.length:Int)
 s0:-1≤P.wroot
 s1:P.wroot<(P.now.length:Int)
 keys:∀x∈P.own,0≤x.1∧x.1<(P.now.length:Int)
 jn:P.now.length=P.J.pages
structure Yo (w:World) (F:Ft) (p:Nat) (f:Pf) (P:Pg):Prop where
 jat:JAt w F p P.J
 nib:Nib w
 head:w.heap[f.q]?=some (pgRow p f P)
 now:BoR w f.gn f.cn P.now
 was:BoR w f.gw f.cw P.was
 tab:OTab w f.M f.kv
 pgs:Pgs w f.kv P.own
 ok:Pok P
 apart:∀k,PT f k→¬JT F p k∧k≠0∧k<w.heap.size
 sep:f.gn≠f.gw
theorem Pgs.uint8 {w:World}:∀{kv:List (Int × Value)} {o:List (Int × List UInt8)},Pgs w kv o→∀x∈kv,∀k,x.2.ownBlock=some k→∃c,w.heap[k]?=some (.cells c 5 (0,0))
 | [],_,_,x,hx,_,_=>by cases hx
 | _::_,[],h,_,_,_,_=>h.elim
 | y::kv,z::o,h,x,hx,k,hk=>by
  rcases List.mem_cons.1 hx with rfl | hx
  ·exact(Zek h.2.2.1 hk.symm).2
  ·exact Pgs.uint8 h.2.2.2 x hx k hk
section
variable {w w' : World} {F : Ft} {p : Nat} {f : Pf} {P : Pg}
theorem nib_lt (h:Nib w):0<w.heap.size:=World.block_lt_of_cell? w _ (h 0 (by omega))
theorem Yo.keep (h:Yo w F p f P) (hw:∀k,JT F p k∨PT f k∨k=0→w'.heap[k]?=w.heap[k]?) (hs:w.heap.size≤w'.heap.size):Yo w' F p f P :=
  ⟨h.jat.keep fun k hk=>hw k (.inl hk),fun i hi=>(World.cell?_of_block (hw _ (.inr (.inr rfl)))).trans (h.nib i hi),(hw _ (.inr (.inl (.inl rfl)))).trans h.head,h.now.keep (hw _ (.inr (.inl (.inr (.inl rfl))))),h.was.keep (hw _ (.inr (.inl (.inr (.inr (.inl rfl)))))),h.tab.keep (hw _ (.inr (.inl (.inr (.inr (.inr (.inl rfl))))))),
   h.pgs.keep fun x hx k hk=>hw k (.inr (.inl (.inr (.inr (.inr (.inr ⟨x,hx,hk⟩)))))),h.ok,fun k hk=>⟨(h.apart k hk).1,(h.apart k hk).2.1,Nat.lt_of_lt_of_le (h.apart k hk).2.2 hs⟩,h.sep⟩
theorem Yo.lt (h:Yo w F p f P) {k:Nat} (hk:JT F p k∨PT f k):k<w.heap.size:=hk.elim h.jat.lt fun hk=>(h.apart k hk).2.2
theorem Yo.lt3 (h:Yo w F p f P) {k:Nat} (hk:JT F p k∨PT f k∨k=0):k<w.heap.size:=by
 rcases hk with hk | hk | hk
 ·exact h.lt (.inl hk)
 ·exact h.lt (.inr hk)
 ·rw[hk];exact nib_lt h.nib
theorem Yo.turned {T:Nat→Prop} (h:Yo w F p f P) (ht:Zb T w w') (hT:∀k,JT F p k∨PT f k∨k=0→¬T k):Yo w' F p f P:=h.keep (fun k hk=>ht.block k (h.lt3 hk) (hT k hk)) ht.size
theorem Yo.below (h:Yo w F p f P) (hb:Below w.heap.size w w'):Yo w' F p f P:=h.keep (fun k hk=>hb.block k (h.lt3 hk)) hb.size
theorem Yo.nib_ne (h:Yo w F p f P):f.q≠0∧f.gn≠0∧f.gw≠0∧f.M≠0 :=
 ⟨(h.apart _ (.inl rfl)).2.1,(h.apart _ (.inr (.inl rfl))).2.1,(h.apart _ (.inr (.inr (.inl rfl)))).2.1,(h.apart _ (.inr (.inr (.inr (.inl rfl))))).2.1⟩
theorem Yo.cells (h:Yo w F p f P):w.cell? ⟨f.q,0,none⟩=some (jptr p)∧w.cell? ⟨f.q,1,none⟩=some (.slice (some ⟨f.gn,0,none⟩) P.now.length f.cn)∧w.cell? ⟨f.q,2,none⟩=some (.int .i64 P.root) ∧
  w.cell? ⟨f.q,3,none⟩=some (.slice (some ⟨f.gw,0,none⟩) P.was.length f.cw)∧w.cell? ⟨f.q,4,none⟩=some (.int .i64 P.wroot)∧w.cell? ⟨f.q,5,none⟩=some (.map (some f.M))∧w.cell? ⟨f.q,6,none⟩=some (.bool P.change)∧w.cell? ⟨f.q,7,none⟩=some (.int .i64 P.off):=by
 refine⟨?_,?_,?_,?_,?_,?_,?_,?_⟩<;>· rw[cell_of_row _ _ _ _ _ _ h.head];rfl
theorem Yo.frozen (h:Yo w F p f P) (i:Nat):w.frozen? ⟨f.q,i,none⟩=false:=Zf h.head i
theorem Yo.qn (h:Yo w F p f P):f.q≠f.gn∧f.q≠f.gw∧f.q≠f.M∧(∀x∈f.kv,x.2.ownBlock≠some f.q)∧f.gn≠f.M∧f.gw≠f.M∧(∀x∈f.kv,x.2.ownBlock≠some f.gn)∧(∀x∈f.kv,x.2.ownBlock≠some f.gw)∧(∀x∈f.kv,x.2.ownBlock≠some f.M):=by
 obtain⟨c1,n1,_⟩:=h.now;obtain⟨c2,n2,_⟩:=h.was;obtain⟨es,cl,n3,_⟩:=h.tab;have hq:=h.head
 have hx:=fun(x:Int × Value) (hx:x∈f.kv) (k:Nat)=>h.pgs.uint8 x hx k;refine⟨fun e=>?_,fun e=>?_,fun e=>?_,fun x hm e=>?_,fun e=>?_,fun e=>?_,fun x hm e=>?_,fun x hm e=>?_,fun x hm e=>?_⟩
 ·rw[e,n1] at hq;simp at hq
 ·rw[e,n2] at hq;simp at hq
 ·rw[e,n3] at hq;simp at hq
 ·obtain⟨c,hc⟩:=hx x hm _ e;rw[hc] at hq;simp at hq
 ·rw[e,n3] at n1;simp at n1
 ·rw[e,n3] at n2;simp at n2
 ·obtain⟨c,hc⟩:=hx x hm _ e;rw[hc] at n1;simp at n1
 ·obtain⟨c,hc⟩:=hx x hm _ e;rw[hc] at n2;simp at n2
 ·obtain⟨c,hc⟩:=hx x hm _ e;rw[hc] at n3;simp at n3
end
theorem Yo.n22 {w:World} {F:Ft} {p:Nat} {f:Pf} {P:Pg} (h:Yo w F p f P):22≤P.J.D.n:=by have h1:=h.ok.jn;have h2:=h.ok.n0;rw[Jn.pages,Dk.blocks] at h1;omega
theorem Yo.put_j {w w':World} {F:Ft} {p:Nat} {f:Pf} {P:Pg} {J':Jn} (h:Yo w F p f P) (hj:JAt w' F p J') (ht:Zb (JT F p) w w') (hn:J'.D.n=P.J.D.n):Yo w' F p f { P with J:=J' }:=by
 have hT:∀k,PT f k→¬JT F p k:=fun k hk=>(h.apart k hk).1;have o:=h.ok
 refine⟨hj,h.nib.turned h.jat ht,(ht.block _ (Za h.head) (hT _ (.inl rfl))).trans h.head,h.now.keep (ht.block _ h.now.lt (hT _ (.inr (.inl rfl)))),h.was.keep (ht.block _ h.was.lt (hT _ (.inr (.inr (.inl rfl))))),h.tab.keep (ht.block _ h.tab.lt (hT _ (.inr (.inr (.inr (.inl rfl)))))),
  h.pgs.keep fun x hx k hk=>ht.block _ (h.apart k (.inr (.inr (.inr (.inr ⟨x,hx,hk⟩))))).2.2 (hT _ (.inr (.inr (.inr (.inr ⟨x,hx,hk⟩))))),⟨o.n0,o.n1,o.was,o.r0,o.r1,o.s0,o.s1,o.keys,?_⟩,fun k hk=>⟨(h.apart k hk).1,(h.apart k hk).2.1,Nat.lt_of_lt_of_le (h.apart k hk).2.2 ht.size⟩,h.sep⟩
 have:=o.jn;simp only[Jn.pages,Dk.blocks,hn] at this ⊢;exact this
abbrev Xb (q:Nat):Value:=.pointer (some ⟨q,0,none⟩)
def PJ (F:Ft) (p:Nat) (f:Pf) (k:Nat):Prop:=JT F p k∨PT f k
def Zbv (w:World) (F:Ft) (p:Nat) (f:Pf) (w':World) (P':Pg):Prop:=∃f',Yo w' F p f' P'∧f'.q=f.q∧(∀k,PT f' k→PT f k∨w.heap.size≤k)∧Zb (PJ F p f) w w'
theorem Zbv.same {w:World} {F:Ft} {p:Nat} {f:Pf} {P:Pg} (h:Yo w F p f P):Zbv w F p f w P:=⟨f,h,rfl,fun _ hk=>.inl hk,Zb.refl _ _⟩
theorem Zbv.then {w w1 w2:World} {F:Ft} {p:Nat} {f f1:Pf} {P2:Pg} (hq:f1.q=f.q) (hk:∀k,PT f1 k→PT f k∨w.heap.size≤k) (ht:Zb (PJ F p f) w w1) (h2:Zbv w1 F p f1 w2 P2):Zbv w F p f w2 P2:=by
 obtain⟨f2,a,b,c,d⟩:=h2;refine⟨f2,a,b.trans hq,fun k hk2=>?_,ht.then d fun i hi hp=>?_⟩
 ·rcases c k hk2 with h | h
  ·exact hk k h
  ·exact .inr (Nat.le_trans ht.size h)
 ·rcases hp with hp | hp
  ·exact .inl hp
  ·rcases hk i hp with h | h
   ·exact .inr h
   ·omega
theorem Zft (w:World) (F:Ft) (p:Nat) (f:Pf) (i:Nat) (v:Value):Zb (PJ F p f) w (w.setCell ⟨f.q,i,none⟩ v):=(Zd w f.q i v).mono fun k _ e=>.inr (.inl e)
end
section
open Go.RowKit
section
variable {w : World} {F : Ft} {p : Nat} {f : Pf} {P : Pg}
theorem Zfj (h:Yo w F p f P) (page:Int) (b1:-9223372036854775808≤page) (b2:page≤9223372036854775807) :
  Calls Tryz.prog 54 #[Xb f.q,.int .i64 page] w fun e w'=>e=.returned (.int .i64 (P.fails page))∧w'=w:=by
 obtain⟨c0,c1,c2,c3,c4,c5,c6,c7⟩:=h.cells;by_cases ho:P.off=0
 case neg =>
  have e:P.fails page=P.off:=by rw[Pg.fails,if_pos ho]
  have hd:(P.off != 0)=true:=by simpa using ho
  rw[e];clear e ho h;go_enter Tryz.func54,Tryz.ntmps54;go_wp2;go_ret;exact⟨rfl,rfl⟩
 have hn:=Hd h.now;obtain⟨n,hN⟩:∃n,n=P.now.length:=⟨_,rfl⟩;have HN:=Hd hN;rw[ho] at c7;have e0:P.fails page=if (n:Int)≤page∨page < -1∨(0≤page∧P.now.getD page.toNat false=false) then 81 else 0:=by rw[Pg.fails,if_neg (by simp[ho]),hN]
 rw[e0];rw[←hN] at c1;clear e0 hN ho h;by_cases h1:(n:Int)≤page
 ·rw[if_pos (.inl h1)];have d1:decide (page≥(n:Int))=true:=decide_eq_true h1;have d2:decide ((n:Int)≤page)=true:=decide_eq_true h1;go_enter Tryz.func54,Tryz.ntmps54;go_wp2;go_ret;exact⟨rfl,rfl⟩
 have d1:decide (page≥(n:Int))=false:=decide_eq_false h1;have d2:decide ((n:Int)≤page)=false:=decide_eq_false h1;by_cases h2:page < -1
 ·rw[if_pos (.inr (.inl h2))];have d3:decide (page < -1)=true:=decide_eq_true h2;go_enter Tryz.func54,Tryz.ntmps54;go_wp2;go_ret;exact⟨rfl,rfl⟩
 have d3:decide (page < -1)=false:=decide_eq_false h2;by_cases h3:0≤page
 case neg =>
  rw[if_neg (by omega)];have d4:decide (0≤page)=false:=decide_eq_false h3
  go_enter Tryz.func54,Tryz.ntmps54;go_wp2;go_ret;exact⟨rfl,rfl⟩
 have d4:decide (0≤page)=true:=decide_eq_true h3;have hlt:page<(n:Int):=by omega
 have hlt2:page.toNat<n:=by omega
 have hcl:=hn.out.cell page.toNat (by rw[←HN.out];exact hlt2);obtain⟨tr,htr⟩:∃x,x=P.now.getD page.toNat false:=⟨_,rfl⟩;have e1:P.now[page.toNat]'(by rw[←HN.out];exact hlt2)=tr:=by rw[htr,List.getD_eq_getElem?_getD,List.getElem?_eq_getElem (by rw[←HN.out];exact hlt2)];rfl
 rw[e1] at hcl;rw[←htr];clear e1 htr
 cases tr with
 | true =>
  rw[if_neg (by simp;omega)];go_enter Tryz.func54,Tryz.ntmps54;go_wp2;go_ret;exact⟨rfl,rfl⟩
 | false =>
  rw[if_pos (by simp[h3])];go_enter Tryz.func54,Tryz.ntmps54;go_wp2;go_ret;exact⟨rfl,rfl⟩
theorem must_any (h:Yo w F p f P) (page:Int) (b1:-9223372036854775808≤page) (b2:page≤9223372036854775807) :
  Calls Tryz.prog 104 #[Xb f.q,.int .i64 page] w fun e w'=>e=.returned (.int .i64 (P.must page))∧w'=w:=by
 have HF:=Hd (Zfj h page b1 b2);by_cases h0:P.fails page=0
 ·by_cases h1:page=-1
  ·have e:P.must page=81:=by rw[Pg.must,if_neg (fun a=>a.elim (fun a=>a h0) (fun a=>a h1))]
   have d1:(page != -1)=false:=by simpa using h1
   rw[e];rw[h0] at HF;clear h h0 h1 e;go_enter Tryz.func104,Tryz.ntmps104;go_wp2_with (go_at_call 54;refine HF.out.mono ?_;rintro e w2 ⟨rfl,rfl⟩);go_ret;exact⟨rfl,rfl⟩
  ·have e:P.must page=0:=by rw[Pg.must,if_pos (.inr h1),h0]
   have d1:(page != -1)=true:=by simpa using h1
   rw[e];rw[h0] at HF;clear h h0 h1 e;go_enter Tryz.func104,Tryz.ntmps104;go_wp2_with (go_at_call 54;refine HF.out.mono ?_;rintro e w2 ⟨rfl,rfl⟩);go_ret;exact⟨rfl,rfl⟩
 ·have e:P.must page=P.fails page:=by rw[Pg.must,if_pos (.inl h0)]
  have d1:(P.fails page != 0)=true:=by simpa using h0
  rw[e];clear h h0 e;generalize P.fails page=x at *;go_enter Tryz.func104,Tryz.ntmps104;go_wp2_with (go_at_call 54;refine HF.out.mono ?_;rintro e w2 ⟨rfl,rfl⟩);go_ret;exact⟨rfl,rfl⟩
theorem pages_any (h:Yo w F p f P):Calls Tryz.prog 16 #[Xb f.q] w fun e w'=>e=.returned (.int .i64 (P.now.length:Int))∧w'=w:=by obtain⟨c0,c1,c2,c3,c4,c5,c6,c7⟩:=h.cells;go_enter Tryz.func16,Tryz.ntmps16;go_wp2;go_ret;exact⟨rfl,rfl⟩
theorem root_any (h:Yo w F p f P):Calls Tryz.prog 17 #[Xb f.q] w fun e w'=>e=.returned (.int .i64 P.root)∧w'=w:=by obtain⟨c0,c1,c2,c3,c4,c5,c6,c7⟩:=h.cells;go_enter Tryz.func17,Tryz.ntmps17;go_wp2;go_ret;exact⟨rfl,rfl⟩
theorem Yo.put_off (h:Yo w F p f P) (e:Int):Yo (w.setCell ⟨f.q,7,none⟩ (.int .i64 e)) F p f { P with off:=e }:=by
 have ht:=Zd w f.q 7 (.int .i64 e);obtain⟨q1,q2,q3,q4,_⟩:=h.qn
 exact⟨h.jat.turned ht fun k hk e=>by rw[e] at hk;exact(h.apart _ (.inl rfl)).1 hk,h.nib.of_turned ht (Ne.symm h.nib_ne.1),Ze h.head _,h.now.keep (ht.block _ h.now.lt (Ne.symm q1)),h.was.keep (ht.block _ h.was.lt (Ne.symm q2)),h.tab.keep (ht.block _ h.tab.lt (Ne.symm q3)),
  h.pgs.keep fun x hx k hk=>ht.block _ (h.apart k (.inr (.inr (.inr (.inr ⟨x,hx,hk⟩))))).2.2 (fun e=>q4 x hx (by rw[hk,e])),⟨h.ok.n0,h.ok.n1,h.ok.was,h.ok.r0,h.ok.r1,h.ok.s0,h.ok.s1,h.ok.keys,h.ok.jn⟩,fun k hk=>⟨(h.apart k hk).1,(h.apart k hk).2.1,Nat.lt_of_lt_of_le (h.apart k hk).2.2 ht.size⟩,h.sep⟩
theorem Yo.put_root (h:Yo w F p f P) (e:Int) (h1:-1≤e) (h2:e<(P.now.length:Int)):Yo (w.setCell ⟨f.q,2,none⟩ (.int .i64 e)) F p f { P with root:=e }:=by
 have ht:=Zd w f.q 2 (.int .i64 e);obtain⟨q1,q2,q3,q4,_⟩:=h.qn
 exact⟨h.jat.turned ht fun k hk e=>by rw[e] at hk;exact(h.apart _ (.inl rfl)).1 hk,h.nib.of_turned ht (Ne.symm h.nib_ne.1),Ze h.head _,h.now.keep (ht.block _ h.now.lt (Ne.symm q1)),h.was.keep (ht.block _ h.was.lt (Ne.symm q2)),h.tab.keep (ht.block _ h.tab.lt (Ne.symm q3)),
  h.pgs.keep fun x hx k hk=>ht.block _ (h.apart k (.inr (.inr (.inr (.inr ⟨x,hx,hk⟩))))).2.2 (fun e=>q4 x hx (by rw[hk,e])),⟨h.ok.n0,h.ok.n1,h.ok.was,h1,h2,h.ok.s0,h.ok.s1,h.ok.keys,h.ok.jn⟩,fun k hk=>⟨(h.apart k hk).1,(h.apart k hk).2.1,Nat.lt_of_lt_of_le (h.apart k hk).2.2 ht.size⟩,h.sep⟩
theorem Yo.put_change (h:Yo w F p f P) (e:Bool):Yo (w.setCell ⟨f.q,6,none⟩ (.bool e)) F p f { P with change:=e }:=by
 have ht:=Zd w f.q 6 (.bool e);obtain⟨q1,q2,q3,q4,_⟩:=h.qn
 exact⟨h.jat.turned ht fun k hk e=>by rw[e] at hk;exact(h.apart _ (.inl rfl)).1 hk,h.nib.of_turned ht (Ne.symm h.nib_ne.1),Ze h.head _,h.now.keep (ht.block _ h.now.lt (Ne.symm q1)),h.was.keep (ht.block _ h.was.lt (Ne.symm q2)),h.tab.keep (ht.block _ h.tab.lt (Ne.symm q3)),
  h.pgs.keep fun x hx k hk=>ht.block _ (h.apart k (.inr (.inr (.inr (.inr ⟨x,hx,hk⟩))))).2.2 (fun e=>q4 x hx (by rw[hk,e])),⟨h.ok.n0,h.ok.n1,h.ok.was,h.ok.r0,h.ok.r1,h.ok.s0,h.ok.s1,h.ok.keys,h.ok.jn⟩,fun k hk=>⟨(h.apart k hk).1,(h.apart k hk).2.1,Nat.lt_of_lt_of_le (h.apart k hk).2.2 ht.size⟩,h.sep⟩
theorem heard_any (h:Yo w F p f P) (x:Int):Calls Tryz.prog 59 #[Xb f.q,.int .i64 x] w fun e w'=>e=.returned (.int .i64 x)∧Yo w' F p f { P with off:=Zae P.off x }∧Zb (PJ F p f) w w':=by
 obtain⟨c0,c1,c2,c3,c4,c5,c6,c7⟩:=h.cells;have f7:=h.frozen 7
 have HP:=Hd (And.intro (h.put_off x) (Zft w F p f 7 (.int .i64 x)));have HH:=Hd h;clear h;by_cases h1:x=43
 ·have e:Zae P.off x=x:=by rw[Zae,if_pos (.inl h1)]
  rw[e];subst h1;clear e;go_enter Tryz.func59,Tryz.ntmps59;go_wp2;go_ret;exact⟨rfl,HP.out⟩
 have d1:(x==43)=false:=by simpa using h1
 by_cases h2:x=44
 ·have e:Zae P.off x=x:=by rw[Zae,if_pos (.inr h2)]
  rw[e];subst h2;clear e;go_enter Tryz.func59,Tryz.ntmps59;go_wp2;go_ret;exact⟨rfl,HP.out⟩
 have d2:(x==44)=false:=by simpa using h2
 have e:Zae P.off x=P.off:=by rw[Zae,if_neg (by simp[h1,h2])]
 rw[e];clear e h1 h2;go_enter Tryz.func59,Tryz.ntmps59;go_wp2;go_ret;exact⟨rfl,HH.out,Zb.refl _ _⟩
theorem Pg.fails_bounds {P:Pg} {page:Int} (h:P.fails page=0):-1≤page∧page<(P.now.length:Int):=by
 unfold Pg.fails at h;split at h
 ·omega
 ·split at h
  ·omega
  ·omega
theorem setroot_any (h:Yo w F p f P) (page:Int) (b1:-9223372036854775808≤page) (b2:page≤9223372036854775807) :
  Calls Tryz.prog 40 #[Xb f.q,.int .i64 page] w fun e w'=>e=.returned (.int .i64 (P.setRoot page).1)∧Zbv w F p f w' (P.setRoot page).2:=by
 have HF:=Hd (Zfj h page b1 b2);by_cases h0:P.fails page=0
 case neg =>
  have e:P.setRoot page=(P.fails page,P):=by rw[Pg.setRoot,if_pos h0]
  have d1:(P.fails page != 0)=true:=by simpa using h0
  have HS:=Hd (Zbv.same h);rw[e];clear h h0 e;generalize P.fails page=x at *;go_enter Tryz.func40,Tryz.ntmps40;go_wp2_with (go_at_call 54;refine HF.out.mono ?_;rintro e w2 ⟨rfl,rfl⟩);go_ret;exact⟨rfl,HS.out⟩
 have e:P.setRoot page=(0,{ P with root:=page,change:=true }):=by rw[Pg.setRoot,if_neg (by simp[h0])]
 rw[e];obtain⟨k1,k2⟩:=Pg.fails_bounds h0;have h1:=h.put_root page k1 k2
 have h2:=h1.put_change true;have t1:=Zft w F p f 2 (.int .i64 page);have t2:=Zft (w.setCell ⟨f.q,2,none⟩ (.int .i64 page)) F p f 6 (.bool true);have HX:Hid (Zbv w F p f _ { P with root:=page,change:=true }):=Hd ⟨f,h2,rfl,fun _ hk=>.inl hk,t1.trans t2⟩;rw[h0] at HF;obtain⟨c0,c1,c2,c3,c4,c5,c6,c7⟩:=h.cells;obtain⟨g0,g1,g2,g3,g4,g5,g6,g7⟩:=h1.cells;have f2:=h.frozen 2;have f6:=h1.frozen 6;clear h h1 h2 t1 t2 e h0 k1 k2;go_enter Tryz.func40,Tryz.ntmps40;go_wp2_with (go_at_call 54;refine HF.out.mono ?_;rintro e w2 ⟨rfl,rfl⟩);go_ret;exact⟨rfl,HX.out⟩
end
end
section
open Go.RowKit
theorem run_make896 (w:World):(Instr.makeSlice 106 (.int .i64 896) (.int .i64 896)).run Tryz.prog w=.ok (.slice (some ⟨w.heap.size,0,none⟩) 896 896) (w.alloc (.cells (bv Zbf).toArray 5)):=by
 rw[show (896:Int)=((896:Nat):Int) from rfl,run_make_row' (P:=Tryz.prog) 106 5 (.int .u8 0) 1 Tryz.underlying106 Zcy rfl .i64 .i64 896 (by omega) (by simp) w]
 congr 3;simp only[madeCells,bv,Zbf,List.map_replicate,List.size_toArray,List.toArray_replicate];apply Array.ext
 ·simp
 ·intro i h1 h2;simp[Nat.mod_one]
theorem idxB_free (t:List Bool):idxB t false=match freeAt t with | some k=>(k:Int) | none=>-1:=by
 have e:(fun b:Bool=>b==false)=fun b=>!b:=by funext b;cases b<;>rfl
 simp only[idxB,freeAt,e];try rfl
theorem freeAt_some {t:List Bool} {k:Nat} (h:freeAt t=some k):k<t.length∧t.getD k true=false:=by unfold freeAt at h;obtain⟨hk,h1,_⟩:=List.findIdx?_eq_some_iff_getElem.1 h;refine⟨hk,?_⟩;rw[List.getD_eq_getElem?_getD,List.getElem?_eq_getElem hk];simpa using h1
section
variable {w : World} {F : Ft} {p : Nat} {f : Pf} {P : Pg}
theorem Yo.put_bit (h:Yo w F p f P) (k:Nat) (b:Bool):Yo (w.setCell ⟨f.gn,k,none⟩ (.bool b)) F p f { P with now:=P.now.set k b }:=by
 have ht:=Zd w f.gn k (.bool b);obtain⟨q1,q2,q3,q4,q5,q6,q7,q8,q9⟩:=h.qn;have hl:(P.now.set k b).length=P.now.length:=by simp
 refine⟨h.jat.turned ht fun k hk e=>by rw[e] at hk;exact(h.apart _ (.inr (.inl rfl))).1 hk,h.nib.of_turned ht (Ne.symm h.nib_ne.2.1),?_,h.now.set k b,h.was.keep (ht.block _ h.was.lt (Ne.symm h.sep)),h.tab.keep (ht.block _ h.tab.lt (Ne.symm q5)),
  h.pgs.keep fun x hx k hk=>ht.block _ (h.apart k (.inr (.inr (.inr (.inr ⟨x,hx,hk⟩))))).2.2 (fun e=>q7 x hx (by rw[hk,e])),?_,fun k hk=>⟨(h.apart k hk).1,(h.apart k hk).2.1,Nat.lt_of_lt_of_le (h.apart k hk).2.2 ht.size⟩,h.sep⟩
 ·rw[ht.block _ (Za h.head) q1,h.head];simp only[pgRow,hl]
 ·have o:=h.ok;exact⟨by rw[hl];exact o.n0,by rw[hl];exact o.n1,by rw[hl];exact o.was,o.r0,by rw[hl];exact o.r1,o.s0,by rw[hl];exact o.s1,fun x hx=>by rw[hl];exact o.keys x hx,by rw[hl];exact o.jn⟩
theorem turned_gn (w:World) (F:Ft) (p:Nat) (f:Pf) (i:Nat) (v:Value):Zb (PJ F p f) w (w.setCell ⟨f.gn,i,none⟩ v):=(Zd w f.gn i v).mono fun k _ e=>.inr (.inr (.inl e))
theorem oPut_keys {o:List (Int × List UInt8)} {k:Int} {b:List UInt8} {n:Int} (h:∀x∈o,0≤x.1∧x.1<n) (h1:0≤k) (h2:k<n):∀x∈oPut o k b,0≤x.1∧x.1<n:=by
 intro x hx;unfold oPut at hx;split at hx
 ·obtain⟨y,hy,rfl⟩:=List.mem_map.1 hx
  split
  ·exact⟨h1,h2⟩
  ·exact h y hy
 ·rcases List.mem_append.1 hx with hx | hx
  ·exact h x hx
  ·rw[List.mem_singleton.1 hx];exact⟨h1,h2⟩
theorem Yo.put_own (h:Yo w F p f P) {w1 w':World} (hb:Below w.heap.size w w1) (k:Int) (h1:0≤k) (h2:k<(P.now.length:Int)) (b:List UInt8) (hl:b.length=896) (v:Value) (hv:Qs 5 w.heap.size w1 v b) (ht:Zb (·=f.M) w1 w') (htab:OTab w' f.M (vPut f.kv k v)) :
  Yo w' F p { f with kv:=vPut f.kv k v } { P with own:=oPut P.own k b }∧(∀j,PT { f with kv:=vPut f.kv k v } j→PT f j∨w.heap.size≤j)∧Zb (PJ F p f) w w':=by
 have g:=h.below hb;obtain⟨q1,q2,q3,q4,q5,q6,q7,q8,q9⟩:=g.qn
 have hT:∀j,PT { f with kv:=vPut f.kv k v } j→PT f j∨v.ownBlock=some j:=by
  rintro j (e | e | e | e | ⟨x,hx,e⟩)
  ·exact .inl (.inl e)
  ·exact .inl (.inr (.inl e))
  ·exact .inl (.inr (.inr (.inl e)))
  ·exact .inl (.inr (.inr (.inr (.inl e))))
  ·rcases mem_vPut hx with hx | hx
   ·exact .inl (.inr (.inr (.inr (.inr ⟨x,hx,e⟩))))
   ·rw[hx] at e;exact .inr e
 have hown:∀j,v.ownBlock=some j→w.heap.size≤j∧j<w1.heap.size∧j≠f.M:=fun j hj=>by
  obtain⟨a,c,hc⟩:=Zek hv hj.symm;refine⟨a,Za hc,fun e=>?_⟩;have:=(h.apart _ (.inr (.inr (.inr (.inl rfl))))).2.2
  omega
 have hM:¬JT F p f.M:=(h.apart _ (.inr (.inr (.inr (.inl rfl))))).1;have hvm:Qs 5 0 w1 v b:=World.ownsRow.mono hv (Nat.zero_le _);refine⟨⟨g.jat.turned ht fun j hj e=>hM (by rw[←e];exact hj),g.nib.of_turned ht (Ne.symm g.nib_ne.2.2.2),(ht.block _ (Za g.head) q3).trans g.head,g.now.keep (ht.block _ g.now.lt q5),g.was.keep (ht.block _ g.was.lt q6),htab,?_,?_,fun j hj=>?_,h.sep⟩,fun j hj=>?_,?_⟩
 ·have hp:=g.pgs.put (k:=k) hl hvm
  refine hp.keep fun x hx j hj=>?_;rcases mem_vPut hx with hx | hx
  ·exact ht.block _ (g.apart j (.inr (.inr (.inr (.inr ⟨x,hx,hj⟩))))).2.2 (fun e=>q9 x hx (by rw[hj,e]))
  ·rw[hx] at hj;exact ht.block _ (hown j hj).2.1 (hown j hj).2.2
 ·have o:=h.ok;exact⟨o.n0,o.n1,o.was,o.r0,o.r1,o.s0,o.s1,oPut_keys o.keys h1 h2,o.jn⟩
 ·rcases hT j hj with hj | hj
  ·exact⟨(g.apart j hj).1,(g.apart j hj).2.1,Nat.lt_of_lt_of_le (g.apart j hj).2.2 ht.size⟩
  ·refine⟨fun e=>?_,fun e=>?_,Nat.lt_of_lt_of_le (hown j hj).2.1 ht.size⟩
   ·have:=h.jat.lt e;have:=(hown j hj).1;omega
   ·have h3:=(hown j hj).1;have h4:=nib_lt h.nib;omega
 ·rcases hT j hj with hj | hj
  ·exact .inl hj
  ·exact .inr (hown j hj).1
 ·exact(Zb.of_below hb).trans (ht.mono fun j _ e=>.inr (.inr (.inr (.inr (.inl e)))))
theorem alloc_any (h:Yo w F p f P) :
  Calls Tryz.prog 31 #[Xb f.q] w fun e w'=>e=.returned (.tuple #[.int .i64 P.alloc.1.1,.int .i64 P.alloc.1.2])∧Zbv w F p f w' P.alloc.2:=by
 have HF:=Hd (Zfj h (-1) (by omega) (by omega));by_cases h0:P.fails (-1)=0
 case neg =>
  have e:P.alloc=((0,P.fails (-1)),P):=by rw[Pg.alloc,if_pos h0]
  have d1:(P.fails (-1) != 0)=true:=by simpa using h0
  have HS:=Hd (Zbv.same h);rw[e];clear h h0 e;generalize P.fails (-1)=x at *;go_enter Tryz.func31,Tryz.ntmps31;go_wp2_with (go_at_call 54;refine HF.out.mono ?_;rintro e w2 ⟨rfl,rfl⟩);go_ret2;exact⟨rfl,HS.out⟩
 rw[h0] at HF;have HI:=Hd (indexO_any w 0 _ P.now false (h.now.mine 0 (Nat.zero_le _)) (by have:=h.ok.n1;omega))
 obtain⟨c0,c1,c2,c3,c4,c5,c6,c7⟩:=h.cells
 cases hfa:freeAt P.now with
 | none =>
  have e:P.alloc=((0,80),P):=by rw[Pg.alloc,if_neg (by simp[h0]),hfa]
  rw[idxB_free,hfa] at HI;dsimp only at HI;have HS:=Hd (Zbv.same h)
  rw[e];clear h h0 e hfa;go_enter Tryz.func31,Tryz.ntmps31;go_wp2_with (first | (go_at_call 54;refine HF.out.mono ?_;rintro e w2 ⟨rfl,rfl⟩) | (go_at_call 61;refine HI.out.mono ?_;rintro e w2 ⟨rfl,rfl⟩));go_ret2;exact⟨rfl,HS.out⟩
 | some k =>
  have e:P.alloc=(((k:Int),0),{ P with now:=P.now.set k true,own:=oPut P.own k Zbf,change:=true }):=by rw[Pg.alloc,if_neg (by simp[h0]),hfa]
  obtain⟨hk,_⟩:=freeAt_some hfa;rw[idxB_free,hfa] at HI;dsimp only at HI;rw[e];have hkn:¬((k:Int)<0):=by omega
  have hkl:(k:Int)<(P.now.length:Int):=by omega
  have hk0:(0:Int)≤(k:Int):=by omega
  obtain⟨ck,hcell⟩:∃u,w.cell? ⟨f.gn,k,none⟩=some u:=⟨_,h.now.cell k hk⟩;have hfz:=h.now.frozen k
  have H1:=Hd (h.put_bit k true);have HT1:=Hd (turned_gn w F p f k (.bool true));have HN:=Hd hk;have hmk:=run_make896;clear h h0 e hfa hk;go_enter Tryz.func31,Tryz.ntmps31;go_upto_region 8 with (first | (go_at_call 54;refine HF.out.mono ?_;rintro e w2 ⟨rfl,hw2⟩;rw[hw2];clear hw2 w2) | (go_at_call 61;refine HI.out.mono ?_;rintro e w2 ⟨rfl,hw2⟩;rw[←hw2];clear hw2 w2));have h1:=H1.out;have t1:=HT1.out;have hl1:(P.now.set k true).length=P.now.length:=by simp
  generalize w.setCell ⟨f.gn,k,none⟩ (.bool true)=w1 at *;have hb2:Below w1.heap.size w1 (w1.alloc (.cells (bv Zbf).toArray 5)).drew:=((Below.refl _ _).alloc (Nat.le_refl _) _).drew
  obtain⟨w3,hput,htab3,ht3⟩:=(h1.tab.keep (hb2.block _ h1.tab.lt)).run_put (P:=Tryz.prog) (T:=98) Tryz.underlying98 Tryz.underlying3 (k:Int) (.slice (some ⟨w1.heap.size,0,none⟩) 896 896);have hz:Qs 5 w1.heap.size ((w1.alloc (.cells (bv Zbf).toArray 5)).drew) (.slice (some ⟨w1.heap.size,0,none⟩) 896 896) Zbf:=by have:=Qs.lit (e:=5) (w:=w1) Zbf (Nat.le_refl _) (by simp[maxLen,Zbo]);rw[Zbo] at this;exact this
  obtain⟨h3,k3,t3⟩:=h1.put_own hb2 (k:Int) (by omega) (by rw[hl1];exact hkl) Zbf Zbo _ hz ht3 htab3;have h4:=h3.put_change true
  have t4:=Zft w3 F p { f with kv:=vPut f.kv k (.slice (some ⟨w1.heap.size,0,none⟩) 896 896) } 6 (.bool true);obtain⟨g0,g1,g2,g3,g4,g5,g6,g7⟩:=h1.cells;obtain⟨m0,m1,m2,m3,m4,m5,m6,m7⟩:=h3.cells;have f6:=h3.frozen 6;dsimp only at m6 f6 g5 k3 t3;clear m0 m1 m2 m3 m4 m5 m7 g0 g1 g2 g3 g4 g6 g7;have g5b:=Zi hb2 _ _ g5;have g5a:(w1.alloc (.cells (bv Zbf).toArray 5)).cell? ⟨f.q,5,none⟩=some (.map (some f.M)):=g5b
  have HX:Hid (Zbv w F p f _ { P with now:=P.now.set k true,own:=oPut P.own k Zbf,change:=true }):=Hd
   (Zbv.then (f1:=f) rfl (fun _ hk=>.inl hk) t1 (Zbv.then (f1:={ f with kv:=vPut f.kv k (.slice (some ⟨w1.heap.size,0,none⟩) 896 896) }) rfl k3 t3 ⟨_,h4,rfl,fun _ hk=>.inl hk,t4⟩))
  clear h1 t1 hb2 htab3 ht3 hz h3 k3 t3 h4 t4 H1 HT1 HN c0 c1 c2 c3 c4 c5 c6 c7 HF HI;go_region;go_wp2_with fail;go_ret2;exact⟨rfl,HX.out⟩
end
end
section
open Go.RowKit
section
variable {w : World} {F : Ft} {p : Nat} {f : Pf} {P : Pg}
theorem Pg.must_bounds {P:Pg} {page:Int} (h:P.must page=0):0≤page∧page<(P.now.length:Int)∧P.now.getD page.toNat false=true∧P.fails page=0:=by
 unfold Pg.must at h;split at h
 ·rename_i h1
  have hf:=h;unfold Pg.fails at h;have hb:=Pg.fails_bounds hf;have hp:page≠-1:=h1.elim (fun e=>absurd hf e) id;refine⟨by omega,by omega,?_,hf⟩;split at h
  ·rename_i h2;exact absurd h h2
  ·split at h
   ·omega
   ·rename_i h3
    cases hg:P.now.getD page.toNat false with
    | true=>rfl
    | false=>exact absurd (.inr (.inr ⟨by omega,hg⟩)) h3
 ·omega
theorem oDel_keys {o:List (Int × List UInt8)} {k:Int} {n:Int} (h:∀x∈o,0≤x.1∧x.1<n):∀x∈oDel o k,0≤x.1∧x.1<n:=fun x hx=>h x (List.mem_filter.1 hx).1
theorem Yo.del_own (h:Yo w F p f P) {w':World} (k:Int) (ht:Zb (·=f.M) w w') (htab:OTab w' f.M (vDel f.kv k)) :
  Yo w' F p { f with kv:=vDel f.kv k } { P with own:=oDel P.own k }∧(∀j,PT { f with kv:=vDel f.kv k } j→PT f j∨w.heap.size≤j)∧Zb (PJ F p f) w w':=by
 obtain⟨q1,q2,q3,q4,q5,q6,q7,q8,q9⟩:=h.qn
 have hT:∀j,PT { f with kv:=vDel f.kv k } j→PT f j:=by
  rintro j (e | e | e | e | ⟨x,hx,e⟩)
  ·exact .inl e
  ·exact .inr (.inl e)
  ·exact .inr (.inr (.inl e))
  ·exact .inr (.inr (.inr (.inl e)))
  ·exact .inr (.inr (.inr (.inr ⟨x,mem_vDel hx,e⟩)))
 have hM:¬JT F p f.M:=(h.apart _ (.inr (.inr (.inr (.inl rfl))))).1;refine⟨⟨h.jat.turned ht fun j hj e=>hM (by rw[←e];exact hj),h.nib.of_turned ht (Ne.symm h.nib_ne.2.2.2),(ht.block _ (Za h.head) q3).trans h.head,h.now.keep (ht.block _ h.now.lt q5),h.was.keep (ht.block _ h.was.lt q6),htab,?_,?_,fun j hj=>?_,h.sep⟩,fun j hj=>.inl (hT j hj),ht.mono fun j _ e=>.inr (.inr (.inr (.inr (.inl e))))⟩
 ·exact(h.pgs.del k).keep fun x hx j hj=>ht.block _ (h.apart j (.inr (.inr (.inr (.inr ⟨x,mem_vDel hx,hj⟩))))).2.2 (fun e=>q9 x (mem_vDel hx) (by rw[hj,e]))
 ·have o:=h.ok;exact⟨o.n0,o.n1,o.was,o.r0,o.r1,o.s0,o.s1,oDel_keys o.keys,o.jn⟩
 ·have:=h.apart j (hT j hj);exact⟨this.1,this.2.1,Nat.lt_of_lt_of_le this.2.2 ht.size⟩
theorem free_any (h:Yo w F p f P) (page:Int) (b1:-9223372036854775808≤page) (b2:page≤9223372036854775807) :
  Calls Tryz.prog 82 #[Xb f.q,.int .i64 page] w fun e w'=>e=.returned (.int .i64 (P.free page).1)∧Zbv w F p f w' (P.free page).2:=by
 have HF:=Hd (must_any h page b1 b2);by_cases h0:P.must page=0
 case neg =>
  have e:P.free page=(P.must page,P):=by rw[Pg.free,if_pos h0]
  have d1:(P.must page != 0)=true:=by simpa using h0
  have HS:=Hd (Zbv.same h);rw[e];clear h h0 e;generalize P.must page=x at *;go_enter Tryz.func82,Tryz.ntmps82;go_wp2_with (go_at_call 104;refine HF.out.mono ?_;rintro e w2 ⟨rfl,rfl⟩);go_ret;exact⟨rfl,HS.out⟩
 rw[h0] at HF;obtain⟨c0,c1,c2,c3,c4,c5,c6,c7⟩:=h.cells;by_cases hr:page=P.root
 ·have e:P.free page=(2,P):=by rw[Pg.free,if_neg (by simp[h0]),if_pos hr]
  have d1:(page==P.root)=true:=by simpa using hr
  have HS:=Hd (Zbv.same h);rw[e];clear h h0 e hr;generalize P.root=R at *;go_enter Tryz.func82,Tryz.ntmps82;go_wp2_with (go_at_call 104;refine HF.out.mono ?_;rintro e w2 ⟨rfl,rfl⟩);go_ret;exact⟨rfl,HS.out⟩
 have e:P.free page=(0,{ P with now:=P.now.set page.toNat false,own:=oDel P.own page,change:=true }):=by rw[Pg.free,if_neg (by simp[h0]),if_neg hr]
 have d1:(page==P.root)=false:=by simpa using hr
 rw[e];obtain⟨k0,k1,_,_⟩:=Pg.must_bounds h0;obtain⟨ck,hcell⟩:∃u,w.cell? ⟨f.gn,page.toNat,none⟩=some u:=⟨_,h.now.cell page.toNat (by omega)⟩;have hfz:=h.now.frozen page.toNat
 have h1:=h.put_bit page.toNat false;have t1:=turned_gn w F p f page.toNat (.bool false);obtain⟨g0,g1,g2,g3,g4,g5,g6,g7⟩:=h1.cells;obtain⟨w2,hdel,htab2,ht2⟩:=h1.tab.run_del (P:=Tryz.prog) (T:=98) Tryz.underlying98 Tryz.underlying3 page 0;obtain⟨h2,k2,t2⟩:=h1.del_own page ht2 htab2;have h3:=h2.put_change true;have t3:=Zft w2 F p { f with kv:=vDel f.kv page } 6 (.bool true);obtain⟨m0,m1,m2,m3,m4,m5,m6,m7⟩:=h2.cells;have f6:=h2.frozen 6;dsimp only at m6 f6 g5
 have HX:Hid (Zbv w F p f _ { P with now:=P.now.set page.toNat false,own:=oDel P.own page,change:=true }):=Hd
  (Zbv.then (f1:=f) rfl (fun _ hk=>.inl hk) t1 (Zbv.then (f1:={ f with kv:=vDel f.kv page }) rfl k2 t2 ⟨_,h3,rfl,fun _ hk=>.inl hk,t3⟩))
 clear h h0 e hr h1 t1 h2 k2 t2 h3 t3 htab2 ht2 m0 m1 m2 m3 m4 m5 m7 g0 g1 g2 g3 g4 g6 g7;generalize P.root=R at *;go_enter Tryz.func82,Tryz.ntmps82;go_wp2_with (go_at_call 104;refine HF.out.mono ?_;rintro e w9 ⟨rfl,hw9⟩;rw[hw9];clear hw9 w9);go_ret;exact⟨rfl,HX.out⟩
theorem pwrite_any (h:Yo w F p f P) (page:Int) (b1:-9223372036854775808≤page) (b2:page≤9223372036854775807) (v:Value) (b:List UInt8) (hv:IsB w v b) :
  Calls Tryz.prog 79 #[Xb f.q,.int .i64 page,v] w fun e w'=>e=.returned (.int .i64 (P.write page b).1)∧Zbv w F p f w' (P.write page b).2:=by
 have HF:=Hd (must_any h page b1 b2);by_cases h0:P.must page=0
 case neg =>
  have e:P.write page b=(P.must page,P):=by rw[Pg.write,if_pos h0]
  have d1:(P.must page != 0)=true:=by simpa using h0
  have HS:=Hd (Zbv.same h);rw[e];clear h h0 e;generalize P.must page=x at *;go_enter Tryz.func79,Tryz.ntmps79;go_wp2_with (go_at_call 104;refine HF.out.mono ?_;rintro e w2 ⟨rfl,rfl⟩);go_ret;exact⟨rfl,HS.out⟩
 rw[h0] at HF;obtain⟨a,c,rfl,hc1,hc2⟩:=hv.form;by_cases hr:b.length=896
 case neg =>
  have e:P.write page b=(2,P):=by rw[Pg.write,if_neg (by simp[h0]),if_pos hr]
  have d1:((b.length:Int) != 896)=true:=by rw[bne_iff_ne];omega
  have HS:=Hd (Zbv.same h);rw[e];clear h h0 e hr hv;go_enter Tryz.func79,Tryz.ntmps79;go_wp2_with (go_at_call 104;refine HF.out.mono ?_;rintro e w2 ⟨rfl,rfl⟩);go_ret;exact⟨rfl,HS.out⟩
 have e:P.write page b=(0,{ P with own:=oPut P.own page b,change:=true }):=by rw[Pg.write,if_neg (by simp[h0]),if_neg (by simp[hr])]
 rw[e];obtain⟨k0,k1,_,_⟩:=Pg.must_bounds h0;obtain⟨c0,c1,c2,c3,c4,c5,c6,c7⟩:=h.cells;have HC:=Hd (clone_any _ b w.drew hv (by omega))
 have HV:=Hd hv;have HR:=Hd hr;rw[hr] at HC HV ⊢;clear c0 c1 c2 c3 c4 c6 c7 e h0 hv hr;have HH:=Hd h;clear h;go_enter Tryz.func79,Tryz.ntmps79;go_upto_region 6 with (go_at_call 104;refine HF.out.mono ?_;rintro e w9 ⟨rfl,hw9⟩;rw[hw9];clear hw9 w9);go_region_with (first | (go_at_call 105;refine HC.out.mono ?_;rintro e w2 ⟨u,rfl,hu,hb2⟩;have hb2:=(Below.refl w.heap.size w).drew.trans hb2;obtain⟨w3,hput,htab3,ht3⟩:=((HH.out.below hb2).tab).run_put (P:=Tryz.prog) (T:=98) Tryz.underlying98 Tryz.underlying3 page u;obtain⟨h3,k3,t3⟩:=HH.out.put_own hb2 page k0 k1 b HR.out _ hu ht3 htab3;have h4:=h3.put_change true;have t4:=Zft w3 F p { f with kv:=vPut f.kv page u } 6 (.bool true);obtain⟨m0,m1,m2,m3,m4,m5,m6,m7⟩:=h3.cells;have f6:=h3.frozen 6;dsimp only at m6 f6;have g5:=(HH.out.below hb2).cells.2.2.2.2.2.1;have HX:Hid (Zbv w F p f (w3.setCell ⟨f.q,6,none⟩ (.bool true)) { P with own:=oPut P.own page b,change:=true }):=Hd (Zbv.then (f1:={ f with kv:=vPut f.kv page u }) rfl k3 t3 ⟨_,h4,rfl,fun _ hk=>.inl hk,t4⟩);clear m0 m1 m2 m3 m4 m5 m7 h3 k3 t3 h4 t4 htab3 ht3 hb2 hu))
 all_goals
  go_wp2_with fail
  go_ret
  exact⟨rfl,HX.out⟩
end
end
end Go.Proofs.YtofibccplbnaiaaGreatDoor
