/- Contracts of the functions that the statements of this seat reach, part 24: each says what the call answers and what it leaves of the memory. -/
import Derived.Test.YtofibccplbnaiaaGreatDoorP21
import Derived.Deep.Cut
import Derived.Deep.DeepCutAuto
import Derived.Deep.CutBlock
import Derived.Deep.CutRange
import Derived.Test.YtofibccplbnaiaaGreatDoorP1
import Derived.Deep.AppendSrc
import Derived.Lib.EndianMore
import Derived.Test.YtofibccplbnaiaaGreatDoorP4
import Derived.Laws.IdiomCopy
import Derived.Test.YtofibccplbnaiaaGreatDoorP22
import Derived.Test.YtofibccplbnaiaaGreatDoorP20
set_option linter.unusedVariables false
set_option linter.unusedSimpArgs false
set_option maxRecDepth 100000
set_option maxHeartbeats 64000000
namespace Go.Proofs.YtofibccplbnaiaaGreatDoor
section
open Go.RowKit Go.Shelf Go.Lib
attribute [local go_sem] Oper.semAt_some
theorem tget_nil (w:World):Calls Tryz.prog 21 #[.pointer none,.string ⟨#[]⟩] w fun e w'=>e=.returned (.tuple #[.string ⟨#[]⟩,.bool false,.int .i64 1])∧w'=w:=by have HF:Hid (Calls Tryz.prog 38 #[.pointer none,.string ⟨#[]⟩,.string ⟨#[]⟩] w fun e w'=>e=.returned (.int .i64 1)∧w'=w):=Hd (tfails_nil w [] []);go_enter Tryz.func21,Tryz.ntmps21;go_wp2_with fail;refine HF.out.mono ?_;rintro e w2 ⟨rfl,e2⟩;obtain rfl:w=w2:=e2.symm;go_wp2_with fail;go_ret3;exact⟨rfl,rfl⟩
theorem tput_nil (w:World):Calls Tryz.prog 11 #[.pointer none,.string ⟨#[]⟩,.string ⟨#[]⟩] w fun e w'=>e=.returned (.int .i64 1)∧Below w.heap.size w w':=by
 have HF:Hid (∀W:World,Calls Tryz.prog 38 #[.pointer none,.string ⟨#[]⟩,.string ⟨#[]⟩] W fun e w'=>e=.returned (.int .i64 1)∧w'=W):=Hd fun W=>tfails_nil W [] [];obtain⟨W1,hW1⟩:∃x,x=(w.alloc (Ql [])).alloc (Ql []):=⟨_,rfl⟩;have hb:Below w.heap.size w W1:=by rw[hW1];exact(Zj w _).alloc (by simp) _
 have k1:W1.heap[w.heap.size]?=some (Ql []):=by rw[hW1];exact(Below.heap_alloc _ _ _ (by simp)).trans (heap_alloc_new w _)
 have k2:W1.heap[w.heap.size+1]?=some (Ql []):=by
  rw[hW1];have:=heap_alloc_new (w.alloc (Ql [])) (Ql [])
  rwa[World.size_alloc] at this
 have c1:=(cell_of_row _ _ 0 _ _ _ k1).trans (Eq.refl (some (Value.string ⟨#[]⟩)));have c2:=(cell_of_row _ _ 0 _ _ _ k2).trans (Eq.refl (some (Value.string ⟨#[]⟩)));have HB:=Hd hb;have HW:=Hd hW1;clear hb k1 k2 hW1;go_enter Tryz.func11,Tryz.ntmps11;go_upto_region 1 with fail;rw[←HW.out];go_wp2_with fail;refine(HF.out _).mono ?_;rintro e w2 ⟨rfl,e2⟩;obtain rfl:W1=w2:=e2.symm;go_wp2_with fail;go_ret;exact⟨rfl,HB.out⟩
theorem tdel_nil (w:World):Calls Tryz.prog 13 #[.pointer none,.string ⟨#[]⟩] w fun e w'=>e=.returned (.tuple #[.bool false,.int .i64 1])∧w'=w:=by have HF:=Hd (tget_nil w);go_enter Tryz.func13,Tryz.ntmps13;go_wp2_with fail;refine HF.out.mono ?_;rintro e w2 ⟨rfl,e2⟩;obtain rfl:w=w2:=e2.symm;go_wp2_with fail;go_ret2;exact⟨rfl,rfl⟩
theorem none_any (w:World):Calls Tryz.prog 23 #[] w fun e w'=>e=.returned (.bool true)∧Below w.heap.size w w':=by
 obtain⟨W1,hW1⟩:∃x,x=w.alloc (bolO false):=⟨_,rfl⟩;have hb1:Below w.heap.size w W1:=by rw[hW1];exact Zj w _
 have hs1:W1.heap.size=w.heap.size+1:=by rw[hW1];simp
 have r1:W1.heap[w.heap.size]?=some (bolO false):=by rw[hW1];exact heap_alloc_new w _
 obtain⟨w2,hw2⟩:∃w2,w2=((W1.alloc (.cells #[.pointer none] 25)).alloc (Ql [])).alloc (Ql []):=⟨_,rfl⟩;have hb2:Below W1.heap.size W1 w2:=by rw[hw2];exact((Zj W1 _).alloc (by simp) _).alloc (by simp;omega) _
 have t2:w2.heap[W1.heap.size]?=some (.cells #[.pointer none] 25 (0,0)):=by rw[hw2];exact(Below.heap_alloc _ _ _ (by simp;omega)).trans ((Below.heap_alloc _ _ _ (by simp)).trans (heap_alloc_new W1 _))
 have r2:=(hb2.block _ (Za r1)).trans r1;have c2:w2.cell? ⟨W1.heap.size,0,none⟩=some (.pointer none):=(cell_of_row _ _ 0 _ _ _ t2).trans rfl
 have HRG:Hid (Calls Tryz.prog 19 #[.pointer none,.string ⟨#[]⟩,.string ⟨#[]⟩] W1 fun e w'=>e=.returned (rngF W1.heap.size (W1.heap.size+1) (W1.heap.size+2))∧w'=w2):=Hd (by
  have:=trange_any W1 (.pointer none) (.inl rfl) [] [];rw[←hw2] at this
  exact this)
 have HW1:=Hd hW1;have HB:=Hd (And.intro hb1 (And.intro (hb1.trans (hb2.mono hb1.size)) (Za r2)));have HR:=Hd r2;have HC:=Hd c2;have HSW:=Hd (Za t2);clear hW1 hb1 hs1 r1 hw2 hb2 t2 r2 c2;refine callsIn_wide (n:=3).1 ?_;refine callsIn_of_wp_marks Tryz.func23 rfl trivial ?_ rfl;simp only[Tryz.ntmps23,List.size_toArray,List.length_cons,List.length_nil,Nat.reduceAdd,Nat.reduceSub,Array.replicate_succ,Array.replicate_zero,List.push_toArray,List.append_toArray,List.nil_append,List.cons_append];refine wpIn_wide.2 ?_;go_wp2_with fail;rw[←HW1.out];refine HRG.out.mono ?_;rintro e w3 ⟨rfl,e3⟩;obtain rfl:w2=w3:=e3.symm;have hfn:(binOp .eql 45 (rngF W1.heap.size (W1.heap.size+1) (W1.heap.size+2)) .nilFunc).run Tryz.prog w2=.ok (.bool false) w2:=by kernel_rfl
 go_wp2_with fail;refine(tget_nil _).mono ?_;rintro e w3 ⟨rfl,e3⟩;obtain rfl:w2=w3:=e3.symm;go_wp2_with fail;refine(tput_nil _).mono ?_;rintro e w3 ⟨rfl,hb3⟩;have HB3:=Hd hb3
 clear hb3;go_wp2_with fail;refine(tdel_nil _).mono ?_;rintro e w4 ⟨rfl,e4⟩;obtain rfl:w3=w4:=e4.symm;go_upto_block 0 with fail;refine(wpIn_wide (n:=3)).1 ?_;gi_wp2_with fail;rename_i K hK0;have HKO:=Hd hK0
 clear hK0
 refine rangeT (F:=Fence.wide) rfl (by omega) (gf:=49) (lb:=#[Xc W1.heap.size,Xc (W1.heap.size+1),Xc (W1.heap.size+2)]) rfl trivial (enters_of Tryz.func49 (by kernel_rfl) rfl)
  (range_nil_seq 2 (by omega) W1.heap.size (W1.heap.size+1) (W1.heap.size+2)) (fun _=>rfl)
  (fun pre W=>Zb (fun _=>False) w3 W) (fun c pre W=>False) ?hG (fun s A h=>trivial) (fun A B h ht=>trivial) ?hI (fun k hk=>hk.elim) (fun c s A A' h ht=>h) (Zb.refl _ _)
  (fun x a' A=>True) (fun _ _ _ _ h=>h) ?assign ?body ?done ?stop
 case hG =>
  intro W hb;exact(Zi hb _ _ (Zi HB3.out _ _ HC.out))
 case hI =>
  rintro s A A' i4 ht hl;exact i4.then ht fun i hi e=>e.elim id fun e=>by omega
 case assign =>
  rintro L pre x W K1 hi hpx hsz hK1;exact absurd hpx.length_le (by simp)
 case body =>
  rintro L pre x a' W hl hr hi ha hpx hsz;exact absurd hpx.length_le (by simp)
 case stop =>
  rintro D c pre W hD hsz hpre h hK;exact h.elim
 case done =>
  rintro D W hD hsz i4 hK;have hs3:=HB3.out.size
  have hlt:=HB.out.2.2;have hr3:=(i4.block _ (by omega) (fun e=>e)).trans ((HB3.out.block _ hlt).trans HR.out);have HBW:Hid (Below w.heap.size w W):=Hd ((HB.out.2.1.trans (HB3.out.mono (Nat.le_trans HB.out.1.size (by have:=HSW.out;omega)))).trans (i4.below (by omega) fun k e=>e.elim));have HRW:=Hd (And.intro hr3 hK);have hDr:w.heap.size≠D:=by omega
  clear i4 hK hr3;dsimp only;refine HKO.out _ _ ?_;go_wp2_with fail;refine(tsound_nil _).mono ?_;rintro e w5 ⟨rfl,hb5⟩;have HB5:=Hd hb5
  clear hb5;go_wp2_with fail;refine(topen_nil _).mono ?_;rintro e w6 ⟨rfl,e6⟩;obtain rfl:w5=w6:=e6.symm;have hr5:=(HB5.out.block _ (Za HRW.out.1)).trans HRW.out.1
  have hd5:=(HB5.out.block _ (Za HRW.out.2)).trans HRW.out.2;have cr:=(cell_of_row _ _ 0 _ _ _ hr5).trans (Eq.refl (some (Value.bool false)));have fr:=Zf hr5 0;have ht6:=Zd w5 w.heap.size 0 (.bool true);have HK6:=Hd (Yg ht6 (fun e=>hDr e.symm) hd5);have HR6:Hid ((w5.setCell ⟨w.heap.size,0,none⟩ (.bool true)).heap[w.heap.size]?=some (bolO true)):=Hd (Ze hr5 _);have hbb:Below w.heap.size w w5:=HBW.out.trans (HB5.out.mono HBW.out.size)
  have HE:Hid (∀o,Below w.heap.size w ((w5.setCell ⟨w.heap.size,0,none⟩ (.bool true)).putObj D o)):=Hd fun o=>hbb.trans (((ht6.mono (T':=fun k=>k=w.heap.size∨k=D) fun k _ e=>.inl e).trans (Zak _ D o (.inr rfl))).below hbb.size fun k e=>by
   rcases e with e | e<;>omega)
  clear hr5 hd5 ht6 hbb;go_wp2_with fail;refine⟨by simp,.inl ⟨_,_,rfl,run_takeDeferred HK6.out,?_⟩⟩;exact⟨_,Qd rfl rfl (Zbs ((World.putObj_heap_other hDr).trans HR6.out)),rfl,HE.out _⟩
end
section
open Go.RowKit
section
variable {P : Program}
theorem IsB.src {w:World} {u:Value} {m:List UInt8} (hu:IsB w u m) {t e:TypeId} (ht:P.underlying t=some (.slice e)) (size:Nat) (h:size=1):Src P size t u m.length (bv m) w:=by subst h;refine⟨.inl ⟨e,ht⟩,fun w'=>?_,Qx hu w rfl,Qx hu w.drew rfl,by simp[bv],Yk m⟩;obtain⟨a,cap,rfl,_⟩:=hu;simp[Builtin.lenOf]
theorem conv_free {w:World} {g:Nat} {s:ByteArray} {cap:Nat} {e:TypeId} (hc:s.size≤cap)
  (h:w.heap[g]?=some (.cells (bytesRow s cap) e ((bytesRow s cap).size,(bytesRow s cap).size+1))) :
  ∀j,s.size≤j→j<cap→(w.cell? ⟨g,j,none⟩).isSome=true∧w.frozen? ⟨g,j,none⟩=false:=by
 intro j h1 h2;have hs:s.data.size=s.size:=rfl
 have hsz:(bytesRow s cap).size=cap:=by simp[bytesRow];omega
 rw[hsz] at h;refine⟨?_,?_⟩
 ·rw[cell_of_row _ _ _ _ _ _ h,Array.getElem?_eq_getElem (by rw[hsz];exact h2)];rfl
 ·simp only[World.frozen?,h,Bool.and_eq_false_iff,decide_eq_false_iff_not];left;omega
end
end
section
open Go.RowKit
section
variable {P : Program}
theorem wpList_app_free {w:World} {ops:Array Oper} {rest:List Oper} {o:Oper} {a:Act} {Q:Exit→Act→World→Prop} (hgd:o.guard=none) (s x:Operand) (t:TypeId)
  (ho:o.op=.call { callee:=.builtin .append,args:=#[s,x],argTypes:=#[t,t] })
  (base:Nat) (e:TypeId) (hP:(P.info? e).map (fun i=>(i.zero,i.size,i.bytes))=some (some (.int .u8 0),1,1)) (ht:P.underlying t=some (.slice e))
  (g n cap:Nat) (l:List UInt8) (hs:a.eval s=.slice (some ⟨g,0,none⟩) n cap) (hv:IsB w (.slice (some ⟨g,0,none⟩) n cap) l)
  (hg:base≤g) (hfree:∀j,n≤j→j<cap→(w.cell? ⟨g,j,none⟩).isSome=true∧w.frozen? ⟨g,j,none⟩=false)
  (u:Value) (m:List UInt8) (hx:a.eval x=u) (hu:IsB w u m)
  (hlen:l.length+m.length≤140737488355328) (hbase:base≤w.heap.size)
  (h:∀g' cap' w',IsB w' (.slice (some ⟨g',0,none⟩) (l.length+m.length) cap') (l++m)→base≤g'→Below base w w'→(∀j,l.length+m.length≤j→j<cap'→(w'.cell? ⟨g',j,none⟩).isSome=true∧w'.frozen? ⟨g',j,none⟩=false)→wpList P ops Q rest (a.put o.dst (.slice (some ⟨g',0,none⟩) (l.length+m.length) cap')) w'):wpList P ops Q (o::rest) a w:=by
 obtain⟨i,hi,hz,hs1,hb1⟩:=info_parts hP;have hsrc:=hu.src (P:=P) ht i.size hs1
 obtain⟨a',cap',hv',hlc,hm,hnil,hc⟩:=id hv;simp only[Value.slice.injEq] at hv';obtain⟨rfl,rfl,rfl⟩:=hv';obtain⟨hsp,hcells⟩:=hc _ rfl;simp only[Nat.zero_add] at hcells;refine wpList_plain hgd fun K hK=>?_;unfold Oper.wp execOp;simp only[ho,resolve,invoke,builtin,Sem.run_bind,Sem.run_pure,Result.andThen_ok,List.map_toArray,List.map_cons,List.map_nil,hs,hx];by_cases hroom:l.length+m.length≤cap
 ·have hc1:∀j,j<(bv m).length→(w.cell? ⟨g,0+l.length*i.size+j,none⟩).isSome=true:=fun j hj=>by
   rw[Zl] at hj;rw[hs1,Nat.mul_one,Nat.zero_add];exact(hfree (l.length+j) (by omega) (by omega)).1
  have hf1:∀j,j<(bv m).length→w.frozen? ⟨g,0+l.length*i.size+j,none⟩=false:=fun j hj=>by rw[Zl] at hj;rw[hs1,Nat.mul_one,Nat.zero_add];exact(hfree (l.length+j) (by omega) (by omega)).2
  rw[run_append_room_src w t t o.type e i ht hi g 0 l.length cap u m.length (bv m) hsrc hroom hc1 hf1];simp only[Result.andThen_ok];rw[hs1,Nat.mul_one,Nat.zero_add] at hc1 ⊢;refine hK _ _ (h g cap _ ⟨_,cap,by rw[List.length_append],by rw[List.length_append];exact hroom,hm,fun h=>(by cases h),?_⟩ hg (Lib.below_setCells_w hg _ _ _) fun j h1 h2=>⟨by rw[World.cell?_setCells_out _ _ _ _ _ (fun _ _=>Or.inr (by show l.length+(bv m).length≤j;rw[Zl];exact h1))];exact(hfree j (by omega) h2).1,by rw[World.frozen?_setCells];exact(hfree j (by omega) h2).2⟩)
  rintro y ⟨⟩;refine⟨fun _=>rfl,fun i hi=>?_⟩;simp only[Nat.zero_add];by_cases hil:i<l.length
  ·rw[World.cell?_setCells_out _ _ _ _ _ (by simp;omega),hcells i hil,List.getElem_append_left hil]
  ·rw[List.length_append] at hi
   have h2:=World.cell?_setCells_in g (bv m) l.length w hc1 (i - l.length) (by rw[Zl];omega);rw[show l.length+(i - l.length)=i by omega] at h2
   rw[h2,List.getElem_append_right (by omega)];simp[bv]
 ·have hold:(Builtin.firstCells i.size l.length (.slice (some ⟨g,0,none⟩) l.length cap)).run P w.drew=.ok (bv l).toArray w.drew:=by
   rw[hs1];exact Qx hv w.drew rfl
  have hfit:Builtin.nextslicecap (l.length+m.length) cap*i.bytes≤281474976710656:=growslice_fits (by omega) (by rw[hb1];omega);rw[run_append_grow_src w t t o.type e i (.int .u8 0) ht hi hz (some ⟨g,0,none⟩) l.length cap (bv l) hold u m.length (bv m) hsrc (by omega) (by omega) hfit];simp only[Result.andThen_ok];have hge:=grownCap_ge w (l.length+m.length) cap e;have hcm:grownCap w (l.length+m.length) cap e≤maxLen:=grownCap_le_maxLen w (l.length+m.length) cap e (by unfold maxLen;omega);generalize grownCap w (l.length+m.length) cap e=C at *;have hat:(w.drew.alloc (.cells ((bv l++bv m).toArray++Builtin.zeroCells (Value.int .u8 0).cells (C - (l.length+m.length))) e)).heap[w.heap.size]?=some (.cells ((bv l++bv m).toArray++Builtin.zeroCells (Value.int .u8 0).cells (C - (l.length+m.length))) e):=heap_alloc_new w.drew _;refine hK _ _ (h w.heap.size C _ ⟨_,C,by rw[List.length_append],by rw[List.length_append];exact hge,hcm,fun h=>(by cases h),?_⟩ hbase (((Below.refl _ _).drew).alloc hbase _) fun j h1 h2=>⟨?_,Zf hat j⟩)
  ·rintro y ⟨⟩
   refine⟨fun _=>rfl,fun i hi=>?_⟩;simp only[Nat.zero_add];rw[cell_of_row _ _ _ _ _ _ hat,Array.getElem?_append_left (by simp[bv];simpa using hi)];have:=Zef (l++m) i hi
   rw[Zea] at this;simpa using this
  ·have hsz:((bv l++bv m).toArray++Builtin.zeroCells (Value.int .u8 0).cells (C - (l.length+m.length))).size=C:=by
    simp[bv,Builtin.zeroCells,Value.cells];omega
   rw[cell_of_row _ _ _ _ _ _ hat,Array.getElem?_eq_getElem (by rw[hsz];exact h2)];rfl
end
def Zdt (n:Nat):List UInt8:=(List.range n).map fun i=>UInt8.ofNat (97+i % 7)
theorem longB_succ (n:Nat):Zdt (n+1)=Zdt n++[UInt8.ofNat (97+n % 7)]:=by unfold Zdt;rw[List.range_succ,List.map_append];rfl
theorem longB_len (n:Nat):(Zdt n).length=n:=by unfold Zdt;simp
def LongAt (N:Nat) (s:List UInt8) (k:Nat) (w:World) (v:Value):Prop:=∃g c,v=.slice (some ⟨g,0,none⟩) (s.length+k) c∧IsB w (.slice (some ⟨g,0,none⟩) (s.length+k) c) (s++Zdt k)∧N≤g∧∀j,s.length+k≤j→j<c→(w.cell? ⟨g,j,none⟩).isSome=true∧w.frozen? ⟨g,j,none⟩=false
theorem long_any (w:World) (s:List UInt8) (n:Nat) (hs:s.length≤140737488355000) (hn:n≤200) :
  Calls Tryz.prog 24 #[.string ⟨s.toArray⟩,.int .i64 (n:Int)] w fun e w'=>e=.returned (.string ⟨(s++Zdt n).toArray⟩)∧Below w.heap.size w w':=by
 have hss:(⟨s.toArray⟩:ByteArray).size=s.length:=by simp[ByteArray.size]
 go_enter Tryz.func24,Tryz.ntmps24;go_wp2_with ((with_reducible refine wpList_conv (.tmp 7) 9 106 5 Tryz.underlying9 Tryz.underlying106 Tryz.underlying5 ⟨s.toArray⟩ ?_ (by rw[hss];omega) ?_);(exact rfl);intro cap w2 hc1 hc2 hib2 hb2 hlt2 hat2);rw[hss] at hib2 hc1;have hfree:=conv_free (by rw[hss];exact hc1) hat2
 rw[hss] at hfree;have HI0:Hid (LongAt w.heap.size s 0 w2 (.slice (some ⟨w.heap.size,0,none⟩) s.length cap)∧Below w.heap.size w w2):=Hd ⟨⟨w.heap.size,cap,rfl,by rw[show Zdt 0=[] from rfl,List.append_nil];exact hib2,Nat.le_refl _,hfree⟩,hb2⟩
 clear hfree hib2 hc1 hc2 hb2 hlt2 hat2 hss;go_loopw [5,6] (fun v i wr=>∃k:Nat,k≤n∧i=.int .i64 (k:Int)∧LongAt w.heap.size s k wr v∧Below w.heap.size w wr) (fun _ i _=>n - (intOf i).toNat)
 case atStart=>exact⟨0,Nat.zero_le _,rfl,HI0.out.1,HI0.out.2⟩
 case round =>
  clear HI0;obtain⟨k,hk,rfl,⟨g,c,hv,hib,hg,hfree⟩,hb⟩:=hrel;have HV:=Hd hv
  clear hv;have hlen:(s++Zdt k).length=s.length+k:=by rw[List.length_append,longB_len]
  by_cases hlt:k<n
  ·have hd:decide ((k:Int)<(n:Int))=true:=decide_eq_true (by omega)
   have hd2:decide (k<n)=true:=decide_eq_true hlt;have hwr:IntKind.i64.wrap ((k:Int)+1)=(k:Int)+1:=IntWalk.i64_in _ (by omega);obtain⟨m,hm⟩:∃m,m=k % 7:=⟨_,rfl⟩;have hm7:(k:Int).tmod 7=(m:Int):=by rw[Int.tmod_eq_emod_of_nonneg (by omega),hm];rfl
   have h7:m<7:=by omega
   have hlb:Zdt (k+1)=Zdt k++[UInt8.ofNat (97+m)]:=by rw[longB_succ,hm]
   clear hm;have hw8:IntKind.u8.wrap (m:Int)=(m:Int):=IntWalk.u8_in _ (by omega)
   have hw9:IntKind.u8.wrap (97+(m:Int))=97+(m:Int):=IntWalk.u8_in _ (by omega);have hby:=isB_byte wr 5 (97+(m:Int)) (UInt8.ofNat (97+m)) (by rw[UInt8.toNat_ofNat'];omega);have hbe:Below wr.heap.size wr (wr.alloc (.cells #[.int .u8 (97+(m:Int))] 5)):=(Below.refl _ _).alloc (Nat.le_refl _) _;have hfree':∀j,s.length+k≤j→j<c→((wr.alloc (.cells #[.int .u8 (97+(m:Int))] 5)).cell? ⟨g,j,none⟩).isSome=true∧(wr.alloc (.cells #[.int .u8 (97+(m:Int))] 5)).frozen? ⟨g,j,none⟩=false:=fun j h1 h2=>by obtain⟨a1,a2⟩:=hfree j h1 h2;obtain⟨u,hu⟩:=Option.isSome_iff_exists.1 a1;exact⟨by rw[Zi hbe _ _ hu];rfl,(World.frozen?_of_block (hbe.block g (World.block_lt_of_cell? wr _ hu))).trans a2⟩
   have hib':=hib.below hbe;have hbs:=hb.size;have HBE:=Hd (hb.trans (hbe.mono hbs));have HLN:=Hd hlen;clear hib hb hfree hbe;go_wp2_with (at_builtin;refine wpList_app_free rfl (.tmp 14) (.tmp 19) 106 rfl w.heap.size 5 Zcy Tryz.underlying106 g (s.length+k) c (s++Zdt k) (show _=_ from HV.out) hib' hg hfree' _ [UInt8.ofNat (97+m)] rfl hby (by rw[HLN.out];simp;omega) (by simp;omega) ?_)
   intro g2 c2 w2 hib2 hg2 hb2 hf2;have HE:Hid (LongAt w.heap.size s (k+1) w2 (.slice (some ⟨g2,0,none⟩) (s.length+k+1) c2)∧Below w.heap.size w w2):=Hd ⟨⟨g2,c2,rfl,by rw[hlb,show s.length+(k+1)=s.length+k+1 from rfl];simpa using hib2,hg2,hf2⟩,HBE.out.trans hb2⟩
   clear hib2 hg2 hb2 hf2 hib' hfree' hby;go_wp2_with fail;go_roundw
   case rel=>exact⟨k+1,hlt,by go_num,HE.out.1,HE.out.2⟩
   case measure=>simp[intOf];omega
  ·obtain rfl:k=n:=by omega
   have hd:decide ((k:Int)<(k:Int))=false:=decide_eq_false (by omega);have hd2:decide (k<k)=false:=decide_eq_false (by omega);have hib':=hib;rw[←HV.out] at hib';have hst:=run_str (P:=Tryz.prog) hib' 106 9 5 Tryz.underlying106 Tryz.underlying5 Tryz.underlying9;have HB:=Hd hb;clear hib hib' hg hb hfree;go_wp2_with fail;go_ret;exact⟨rfl,HB.out⟩
end
section
open Go.RowKit
attribute [local go_sem] Oper.semAt_some
def Qy:List KV→Nat
 | []=>0
 | x::r=>Qy r+(8+x.1.length+x.2.length)
theorem Zbn:∀(a b:List KV),Qy (a++b)=Qy a+Qy b
 | [],b=>by simp[Qy]
 | x::r,b=>by rw[List.cons_append,Qy,Qy,Zbn r b];omega
theorem wgtB_le_wgtP:∀l:List KV,wgtB l≤Qy l
 | []=>Nat.le_refl _
 | x::r=>by have:=wgtB_le_wgtP r;rw[wgtB,Qy];omega
theorem wgtP_take {l:List KV} {k:Nat} (hk:k<l.length):Qy (l.take (k+1))=Qy (l.take k)+(8+l[k].1.length+l[k].2.length)∧Qy (l.take (k+1))≤Qy l:=by
 have h1:Qy (l.take (k+1))=Qy (l.take k)+(8+l[k].1.length+l[k].2.length):=by rw[List.take_succ_eq_append_getElem hk,Zbn];simp[Qy]
 have h2:=Zbn (l.take (k+1)) (l.drop (k+1));rw[List.take_append_drop] at h2;exact⟨h1,by omega⟩
theorem putL_wgtP (l:List KV) (key val:List UInt8):Qy (putL l key val)≤Qy l+(8+key.length+val.length):=by
 obtain⟨t1,t2⟩:=Zeb l key
 have h:Qy (Xa l key)+Qy (Zaz l key)≤Qy l:=by
  have h3:Qy l=Qy (Xa l key)+Qy (l.drop (Xa l key).length):=by
   rw[←Zbn]
   conv=>lhs;rw[←List.take_append_drop (Xa l key).length l]
   rw[←t1]
  cases hg:(Zab l key).2 with
  | false=>rw[(getL_no hg).2];omega
  | true =>
   obtain⟨hk,_,_,e⟩:=getL_yes hg;rw[e,h3,List.drop_eq_getElem_cons hk,Qy];omega
 unfold putL;rw[Zbn,Qy];dsimp only;omega
theorem delL_wgtP (l:List KV) (key:List UInt8):Qy (delL l key)≤Qy l:=by
 obtain⟨t1,t2⟩:=Zeb l key
 have h3:Qy l=Qy (Xa l key)+Qy (l.drop (Xa l key).length):=by
  rw[←Zbn]
  conv=>lhs;rw[←List.take_append_drop (Xa l key).length l]
  rw[←t1]
 unfold delL;rw[Zbn]
 cases hg:(Zab l key).2 with
 | false=>rw[(getL_no hg).2];omega
 | true =>
  obtain⟨hk,_,_,e⟩:=getL_yes hg;rw[e,h3,List.drop_eq_getElem_cons hk,Qy];omega
theorem rwgt_any (w:World) {v:Value} {l:List KV} (h:Qj w v l) (hw:Qy l≤1000000) :
  Calls Tryz.prog 53 #[v] w fun e w'=>e=.returned (.int .i64 (Qy l:Int))∧Below w.heap.size w w':=by
 obtain⟨a,cap,rfl,hl1,hl2⟩:=h.form;unfold maxLen at hl2;have H:=Hd h
 have HW:=Hd hw;clear h hw;go_enter Tryz.func53,Tryz.ntmps53;go_wp2_with fail;go_loopw [3,4] (fun n i wr=>∃k:Nat,k≤l.length∧n=.int .i64 (Qy (l.take k):Int)∧i=.int .i64 (k:Int)∧Below w.heap.size w wr) (fun _ i _=>l.length - (intOf i).toNat)
 case atStart=>exact⟨0,Nat.zero_le _,rfl,rfl,Below.refl _ _⟩
 case round =>
  obtain⟨k,hk,rfl,rfl,hb⟩:=hrel;by_cases hlt:k<l.length
  ·have hd:decide ((k:Int)<(l.length:Int))=true:=decide_eq_true (by omega)
   have hd2:decide (k<l.length)=true:=decide_eq_true hlt;have hi0:(0:Int)≤(k:Int):=by omega
   have hi1:(k:Int)<(l.length:Int):=by omega
   have hbd:=hb.drew;obtain⟨b,o,rfl,c0,c1⟩:=(H.out.below hbd).at k hlt;obtain⟨h1,h2⟩:=wgtP_take hlt;have h3:=HW.out;obtain⟨x,hx⟩:∃x,x=l[k]:=⟨_,rfl⟩;obtain⟨n,hn⟩:∃n,n=Qy (l.take k):=⟨_,rfl⟩;rw[←hx] at c0 c1 h1;rw[←hn] at h1 ⊢;have HE:Hid (Qy (l.take (k+1))=n+(8+x.1.length+x.2.length)):=Hd h1;have hw1:IntKind.i64.wrap ((n:Int)+8)=(n:Int)+8:=IntWalk.i64_in _ (by omega);have hw2:IntKind.i64.wrap ((n:Int)+8+(x.1.length:Int))=(n:Int)+8+(x.1.length:Int):=IntWalk.i64_in _ (by omega);have hw3:IntKind.i64.wrap ((n:Int)+8+(x.1.length:Int)+(x.2.length:Int))=(n:Int)+8+(x.1.length:Int)+(x.2.length:Int):=IntWalk.i64_in _ (by omega);have hwr:IntKind.i64.wrap ((k:Int)+1)=(k:Int)+1:=IntWalk.i64_in _ (by omega);have HB:=Hd hbd;clear hx hn h1 h2 h3 hb hbd;go_upto_region 5 with fail;go_region;go_wp2_with fail;go_roundw
   case rel=>exact⟨k+1,hlt,by rw[HE.out];go_num,by go_num,HB.out⟩
   case measure=>simp[intOf];omega
  ·obtain rfl:k=l.length:=by omega
   have hd:decide ((l.length:Int)<(l.length:Int))=false:=decide_eq_false (by omega);have hd2:decide (l.length<l.length)=false:=decide_eq_false (by omega);rw[List.take_length];have HB:=Hd hb;clear hb;go_wp2_with fail;go_ret;exact⟨rfl,HB.out⟩
theorem much_any (w:World) {v:Value} {l:List KV} (h:Qj w v l) (hw:Qy l≤1000000) :
  Calls Tryz.prog 25 #[v] w fun e w'=>e=.returned (.bool (decide (45000<Qy l)))∧Below w.heap.size w w':=by
 have HW:=Hd (rwgt_any w h hw)
 have hd:decide ((Qy l:Int) > 45000)=decide (45000<Qy l):=by
  by_cases e:45000<Qy l
  ·rw[decide_eq_true e,decide_eq_true (by omega)]
  ·rw[decide_eq_false e,decide_eq_false (by omega)]
 obtain⟨D,hD⟩:∃D,D=decide (45000<Qy l):=⟨_,rfl⟩;rw[←hD] at hd ⊢;obtain⟨n,hn⟩:∃n,n=Qy l:=⟨_,rfl⟩;rw[←hn] at hd HW;clear h hw hD hn;go_enter Tryz.func25,Tryz.ntmps25;go_wp2_with fail;refine HW.out.mono ?_;rintro e w1 ⟨rfl,hb⟩;have HB:=Hd hb
 clear hb;go_wp2_with fail;go_ret;exact⟨rfl,HB.out⟩
theorem rrange_any (w:World) {v:Value} {l:List KV} (h:Qj w v l) (from_ to_:List UInt8) (hl:l.length≤999999) :
  Calls Tryz.prog 27 #[v,.string ⟨from_.toArray⟩,.string ⟨to_.toArray⟩] w fun e w'=>∃v',e=.returned v'∧Xo w.heap.size w' v' (Zch from_ to_ l)∧Below w.heap.size w w':=by
 obtain⟨a,cap,rfl,hl1,hl2⟩:=h.form;unfold maxLen at hl2;have H:=Hd h
 clear h;go_enter Tryz.func27,Tryz.ntmps27;go_wp2_with fail;go_loopw [7,8] (fun v i wr=>∃k:Nat,k≤l.length∧Xo w.heap.size wr v (Zch from_ to_ (l.take k))∧i=.int .i64 (k:Int)∧Below w.heap.size w wr) (fun _ i _=>l.length - (intOf i).toNat)
 case atStart=>exact⟨0,Nat.zero_le _,Xo.nil _ _,rfl,Below.refl _ _⟩
 case round =>
  obtain⟨k,hk,hm,rfl,hb⟩:=hrel;have HM:=Hd hm
  have HB:=Hd hb;obtain⟨av,cv,rfl,_⟩:=hm.isE.form;clear hm hb;by_cases hlt:k<l.length
  ·have hd:decide ((k:Int)<(l.length:Int))=true:=decide_eq_true (by omega)
   have hd2:decide (k<l.length)=true:=decide_eq_true hlt;have hi0:(0:Int)≤(k:Int):=by omega
   have hi1:(k:Int)<(l.length:Int):=by omega
   obtain⟨b,o,rfl,c0,c1⟩:=(H.out.below HB.out).at k hlt;have hst:Zch from_ to_ (l.take (k+1))=Zch from_ to_ (l.take k)++Zch from_ to_ [l[k]]:=by rw[List.take_succ_eq_append_getElem hlt,Zdn]
   have hlen:(Zch from_ to_ (l.take k)).length≤k:=by have h1:=List.length_filter_le (fun x:KV=>!decide (x.1<from_)&&(decide (to_=[])||decide (x.1<to_))) (l.take k);rw[List.length_take] at h1;exact Nat.le_trans h1 (Nat.min_le_left _ _)
   obtain⟨x,hx⟩:∃x,x=l[k]:=⟨_,rfl⟩;rw[←hx] at c0 c1 hst;have hwr:IntKind.i64.wrap ((k:Int)+1)=(k:Int)+1:=IntWalk.i64_in _ (by omega)
   have hcc:(Hid (Zch from_ to_ [x]=[])∧(Op.bytesLess x.1 from_=true∨(Op.bytesLess x.1 from_=false∧to_.isEmpty=false∧Op.bytesLess x.1 to_=false)))∨(Hid (Zch from_ to_ [x]=[x])∧Op.bytesLess x.1 from_=false∧(to_.isEmpty=true∨(to_.isEmpty=false∧Op.bytesLess x.1 to_=true))):=by
    unfold Zch;rw[Yt,Yt];by_cases h1:x.1<from_
    ·exact .inl ⟨Hd (by simp[h1]),.inl (decide_eq_true h1)⟩
    ·by_cases h2:to_=[]
     ·exact .inr ⟨Hd (by simp[h1,h2]),decide_eq_false h1,.inl (by rw[h2];rfl)⟩
     ·by_cases h3:x.1<to_
      ·exact .inr ⟨Hd (by simp[h1,h3]),decide_eq_false h1,.inr ⟨by simpa using h2,decide_eq_true h3⟩⟩
      ·exact .inl ⟨Hd (by simp[h1,h2,h3]),.inr ⟨decide_eq_false h1,by simpa using h2,decide_eq_false h3⟩⟩
   have HST:=Hd hst;clear hst hx;rcases hcc with ⟨HE,hcc⟩ | ⟨HE,c2,hcc⟩
   ·have HST2:Hid (Zch from_ to_ (l.take (k+1))=Zch from_ to_ (l.take k)):=Hd (by rw[HST.out,HE.out,List.append_nil])
    clear c1;rcases hcc with c2 | ⟨c2,c3,c4⟩
    all_goals
     go_wp2_with fail
     go_roundw
     case rel=>exact⟨k+1,hlt,by rw[HST2.out];exact HM.out,by go_num,HB.out⟩
     case measure=>simp[intOf];omega
   ·have hs:=HB.out.size
    obtain⟨a5,n5,k5,w5,hr5,m5,b5⟩:=pv_app (HM.out.alloc (.cells #[.string ⟨x.1.toArray⟩,.string ⟨x.2.toArray⟩] 35)) (pv_lit wr x) (by simp;omega) (by simp;omega);have HEND:Hid (Xo w.heap.size w5 (.slice a5 n5 k5) (Zch from_ to_ (l.take (k+1)))∧Below w.heap.size w w5):=Hd ⟨by rw[HST.out,HE.out];exact m5,(HB.out.alloc hs _).trans b5⟩
    have HR:=Hd hr5;clear m5 b5 hr5 hs;rcases hcc with c3 | ⟨c3,c4⟩
    all_goals
     go_wp2_with (at_builtin;refine Lib.wpList_append_run _ rfl _ _ _ _ rfl _ _ rfl rfl _ _ HR.out ?_)
     go_roundw
     case rel=>exact⟨k+1,hlt,HEND.out.1,by go_num,HEND.out.2⟩
     case measure=>simp[intOf];omega
  ·obtain rfl:k=l.length:=by omega
   have hd:decide ((l.length:Int)<(l.length:Int))=false:=decide_eq_false (by omega);have hd2:decide (l.length<l.length)=false:=decide_eq_false (by omega);go_wp2_with fail;go_ret;refine⟨_,rfl,?_,HB.out⟩;have h:=HM.out;simp only[List.take_length] at h ⊢;exact h
end
section
open Go.RowKit
attribute [local irreducible] wpStill
theorem rdel_any (w:World) {v:Value} {l:List KV} (h:Qj w v l) (key:List UInt8) (hl:l.length≤999999) :
  Calls Tryz.prog 26 #[v,.string ⟨key.toArray⟩] w fun e w'=>∃v',e=.returned v'∧Qj w' v' (delL l key)∧(v'=v∨Xo w.heap.size w' v' (delL l key))∧Below w.heap.size w w':=by
 have HP:=Hd (place_any w h key);obtain⟨a,cap,rfl,hl1,hl2⟩:=h.form;unfold maxLen at hl2;have H:=Hd h;clear h;go_enter Tryz.func26,Tryz.ntmps26;go_wp2_with fail;refine HP.out.mono ?_;rintro e w1 ⟨⟨rfl,hk⟩,hb1⟩;have H1:=Hd (H.out.below hb1);have HB:=Hd hb1;have hs1:=hb1.size;clear hb1;obtain⟨t1,_⟩:=Zeb l key;obtain⟨k,hkk⟩:∃k,k=(Xa l key).length:=⟨_,rfl⟩
 cases hg:(Zab l key).2 with
 | false =>
  obtain⟨_,e⟩:=getL_no hg
  have HE:Hid (delL l key=l):=by
   refine Hd ?_;unfold delL;rw[e]
   conv=>lhs;lhs;rw[t1]
   exact List.take_append_drop _ _
  clear t1 hkk hg e hk;go_wp2_with fail;go_ret;exact⟨_,rfl,by rw[HE.out];exact H1.out,.inl rfl,HB.out⟩
 | true =>
  obtain⟨hlt,_,_,e⟩:=getL_yes hg;rw[←hkk] at hlt e t1 hk;have HD:Hid (delL l key=l.take k++l.drop (k+1)):=Hd (by unfold delL;rw[e,t1])
  rw[←hkk];clear t1 hkk hg e;have hkl:(k:Int)≤(cap:Int):=by omega
  have hk0:(0:Int)≤(k:Int):=by omega
  have hkl2:(k:Int)+1≤(cap:Int):=by omega
  have hkl3:(k:Int)+1≤(l.length:Int):=by omega
  have hk02:(0:Int)≤(k:Int)+1:=by omega
  have hwr2:IntKind.i64.wrap ((k:Int)+1)=(k:Int)+1:=IntWalk.i64_in _ (by omega);obtain⟨w3,hr3,m3,b3⟩:=run_make_pv w1.drew w.heap.size l.length (l.length:Int) rfl (by omega) hs1;have hs3:w.heap.size≤w3.heap.size:=Nat.le_trans hs1 b3.size;have hI3:Qj w3 (.slice a l.length cap) l:=(H.out.below ((HB.out.drew).trans b3));obtain⟨a4,n4,k4,w4,hr4,m4,b4⟩:=pv_app m3 (hI3.take k hk) hs3 (by rw[List.length_take,List.length_nil];omega);rw[List.nil_append] at m4;have hs4:w.heap.size≤w4.heap.size:=Nat.le_trans hs3 b4.size;have hb4:Below w.heap.size w w4:=((HB.out.drew).trans b3).trans b4;obtain⟨a5,n5,k5,w5,hr5,m5,b5⟩:=pv_app m4 ((H.out.below hb4).tailAny (k+1) hlt) hs4 (by rw[List.length_take,List.length_drop];omega);have HEND:=Hd (And.intro m5 (hb4.trans b5));have HR5:=Hd hr5;have HR4:=Hd hr4;clear m3 b3 hI3 m4 b4 hb4 m5 b5 hr4 hr5 hs3 hs4;have hS:(fun _:World=>True) w1:=trivial;go_wp2_with fail;refine rgA (S:=(fun _:World=>True)) hS (fun hH=>?_);refine tkB 0 rfl (v:=?_) ?_ hH ?_;rotate_left
  ·intro w hSw;skip;go_simp;try with_reducible rfl
  try simp only[Act.put,zA,zB,zC]
  refine tkB 1 rfl (v:=?_) ?_ hH ?_;rotate_left
  ·intro w hSw;skip;go_simp;try with_reducible rfl
  try simp only[Act.put,zA,zB,zC]
  refine tkB 3 rfl (v:=?_) ?_ hH ?_;rotate_left
  ·intro w hSw;skip;go_simp;try with_reducible rfl
  try simp only[Act.put,zA,zB,zC]
  refine tkB 4 rfl (v:=?_) ?_ hH ?_;rotate_left
  ·intro w hSw;skip;go_simp;try with_reducible rfl
  try simp only[Act.put,zA,zB,zC]
  refine tkB 5 rfl (v:=?_) ?_ hH ?_;rotate_left
  ·intro w hSw;skip;go_simp;try with_reducible rfl
  try simp only[Act.put,zA,zB,zC]
  refine tkB 7 rfl (v:=?_) ?_ hH ?_;rotate_left
  ·intro w hSw;skip;go_simp;try with_reducible rfl
  try simp only[Act.put,zA,zB,zC]
  refine tkB 8 rfl (v:=?_) ?_ hH ?_;rotate_left
  ·intro w hSw;skip;go_simp;try with_reducible rfl
  try simp only[Act.put,zA,zB,zC]
  refine tkB 9 rfl (v:=?_) ?_ hH ?_;rotate_left
  ·intro w hSw;skip;go_simp;try with_reducible rfl
  try simp only[Act.put,zA,zB,zC]
  refine tkB 10 rfl (v:=?_) ?_ hH ?_;rotate_left
  ·intro w hSw;skip;go_simp;try with_reducible rfl
  try simp only[Act.put,zA,zB,zC]
  refine rdA 2 rfl (fun K hK=>?_);go_simp;refine hK.out _ _ trivial (fun hH=>?_);clear hK K;try simp only[Act.put,zA,zB,zC]
  refine rdA 6 rfl (fun K hK=>?_);refine Zgw rfl (.tmp 18) (.tmp 21) 28 28 (by rfl) _ _ _ (by rfl) (by rfl) HR4.out ?_;refine hK.out _ _ trivial (fun hH=>?_);clear hK K;try simp only[Act.put,zA,zB,zC]
  refine rdA 11 rfl (fun K hK=>?_);refine Zgw rfl (.tmp 22) (.tmp 26) 28 28 (by rfl) _ _ _ (by rfl) (by rfl) HR5.out ?_;refine hK.out _ _ trivial (fun hH=>?_);clear hK K;try simp only[Act.put,zA,zB,zC]
  refine tkB 12 rfl (v:=?_) ?_ hH ?_;rotate_left
  ·intro w hSw;skip;go_simp;try with_reducible rfl
  try simp only[Act.put,zA,zB,zC]
  refine dnA ?_;clear hr3 hH;go_wp2_with fail
  all_goals
   go_ret
   exact⟨_,rfl,by rw[HD.out];exact HEND.out.1.isE,.inr (by rw[HD.out];exact HEND.out.1),HEND.out.2⟩
end
section
open Go.RowKit
theorem pick_any (w:World) (c:Int) (n:Nat) (h1:-9223372036854775808≤c) (h2:c≤9223372036854775807) (hn:0<n) (hm:n≤4611686018427387904) :
  Calls Tryz.prog 22 #[.int .i64 c,.int .i64 (n:Int)] w fun e w'=>e=.returned (.int .i64 (pickN c n:Int))∧w=w':=by
 by_cases h0:c<0
 ·have hd:decide (c<0)=true:=by simpa using h0
  have e1:(pickN c n:Int)=(-(c+1)) % (n:Int):=by rw[pickN,if_pos h0,Int.natCast_emod,Int.toNat_of_nonneg (by omega)]
  rw[e1];have hz:((n:Int)==0)=false:=by simp;omega
  go_enter Tryz.func22,Tryz.ntmps22;go_wp2;go_ret;exact⟨by rw[←Int.neg_tmod,Int.tmod_eq_emod_of_nonneg (by omega)];rfl,rfl⟩
 ·have hd:decide (c<0)=false:=by simpa using h0
  have e1:(pickN c n:Int)=c % (n:Int):=by rw[pickN,if_neg h0,Int.natCast_emod,Int.toNat_of_nonneg (by omega)]
  rw[e1];go_enter Tryz.func22,Tryz.ntmps22;go_wp2;go_ret;exact⟨rfl,rfl⟩
end
section
open Go.ChangeShapes Go.WideShapes Go.ChangeAt Go.RowKit Go.Deep
def rdStrR:Rd (List UInt8) where
 T:=9
 n:=1
 R:=fun _ cs x=>cs=[.string ⟨x.toArray⟩]∧x.length≤reachBytes
 size:=by kernel_rfl
 len:=fun h=>by rw[h.1];rfl
 keep:=fun h _=>h
 trod:=fun h hl=>by
  obtain⟨s,h1,h2,h3⟩:=DataW.trod_string Tryz.underlying9 h
  refine⟨s.data.toList,by rw[h1],?_⟩
  exact hl _ (by rw[h2];simp[DataW.weights])
end
section
open Go.ChangeShapes Go.WideShapes Go.ChangeAt Go.RowKit Go.Deep
structure OpT where
 kind:Int
 key:List UInt8
 val:List UInt8
 long:Int
instance : Inhabited OpT := ⟨⟨default, default, default, default⟩⟩
def OpT.At (w:World) (x:OpT) (cs:List Value):Prop:=∃c0 c1 c2 c3,cs=[c0,c1,c2,c3]∧rdInt.R w [c0] x.kind∧rdStrR.R w [c1] x.key∧rdStrR.R w [c2] x.val∧rdInt.R w [c3] x.long
def rdOpT:Rd OpT where
 T:=55
 n:=4
 R:=fun w cs x=>x.At w cs
 size:=by kernel_rfl
 len:=fun h=>by
  obtain⟨c0,c1,c2,c3,he,_⟩:=h
  rw[he];rfl
 keep:=fun h hw=>by
  obtain⟨c0,c1,c2,c3,he,k0,k1,k2,k3⟩:=h
  exact⟨c0,c1,c2,c3,he,rdInt.keep k0 hw,rdStrR.keep k1 hw,rdStrR.keep k2 hw,rdInt.keep k3 hw⟩
 trod:=fun {H enc W m cs y} h hl=>by
  have hc:=trod_cells Tryz.underlying55 h
  rw[show Tryz.prog.cellsOf 55=4 by kernel_rfl] at hc
  match cs,hc with
  | [c0,c1,c2,c3],_ =>
   obtain⟨n0,z0,f0,l0⟩:=Zgm Tryz.underlying55 h hl 0 _ rfl
   change DataW.trod enc Tryz.prog W 0 (fun _=>true) true n0 3 (List.take (Tryz.prog.cellsOf 3) (List.drop 0 [c0,c1,c2,c3]))=_ at f0
   rw[show Tryz.prog.cellsOf 3=1 from rdInt.size] at f0
   obtain⟨x0,h0⟩:=rdInt.trod (cs:=[c0]) f0 l0
   obtain⟨n1,z1,f1,l1⟩:=Zgm Tryz.underlying55 h hl 1 _ rfl
   change DataW.trod enc Tryz.prog W 0 (fun _=>true) true n1 9 (List.take (Tryz.prog.cellsOf 9) (List.drop 1 [c0,c1,c2,c3]))=_ at f1
   rw[show Tryz.prog.cellsOf 9=1 from rdStrR.size] at f1
   obtain⟨x1,h1⟩:=rdStrR.trod (cs:=[c1]) f1 l1
   obtain⟨n2,z2,f2,l2⟩:=Zgm Tryz.underlying55 h hl 2 _ rfl
   change DataW.trod enc Tryz.prog W 0 (fun _=>true) true n2 9 (List.take (Tryz.prog.cellsOf 9) (List.drop 2 [c0,c1,c2,c3]))=_ at f2
   rw[show Tryz.prog.cellsOf 9=1 from rdStrR.size] at f2
   obtain⟨x2,h2⟩:=rdStrR.trod (cs:=[c2]) f2 l2
   obtain⟨n3,z3,f3,l3⟩:=Zgm Tryz.underlying55 h hl 3 _ rfl
   change DataW.trod enc Tryz.prog W 0 (fun _=>true) true n3 3 (List.take (Tryz.prog.cellsOf 3) (List.drop 3 [c0,c1,c2,c3]))=_ at f3
   rw[show Tryz.prog.cellsOf 3=1 from rdInt.size] at f3
   obtain⟨x3,h3⟩:=rdInt.trod (cs:=[c3]) f3 l3
   exact⟨⟨x0,x1,x2,x3⟩,c0,c1,c2,c3,rfl,h0,h1,h2,h3⟩
end
end Go.Proofs.YtofibccplbnaiaaGreatDoor
