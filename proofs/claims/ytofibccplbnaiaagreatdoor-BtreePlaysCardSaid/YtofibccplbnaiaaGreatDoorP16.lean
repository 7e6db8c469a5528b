/- Contracts of the functions that the statements of this seat reach, part 16: each says what the call answers and what it leaves of the memory. -/
import Derived.Test.YtofibccplbnaiaaGreatDoorP15
import Derived.Test.YtofibccplbnaiaaGreatDoorP13
import Derived.Laws.EntriesVeiled
set_option linter.unusedVariables false
set_option linter.unusedSimpArgs false
set_option maxRecDepth 100000
set_option maxHeartbeats 64000000
namespace Go.Proofs.YtofibccplbnaiaaGreatDoor
section
open Go.RowKit Go.Shelf Go.Lib
attribute [local go_sem] Oper.semAt_some
abbrev rngF (bt bf bq:Nat):Value:=.func (.func 49) #[] #[Xc bt,Xc bf,Xc bq]
section
variable {n : Nat} {J : Jn} {seq : Int} {B : List (List UInt8)} {F : Ft} {p : Nat} {f : Pf} {R : Rp} {tb : Nat} {bt bf bq : Nat} {from_ to_ : List UInt8}
theorem range_seq (m:Nat) (hm:1≤m):SeqT Fence.wide m Tryz.prog 49 #[Xc bt,Xc bf,Xc bq] kvA (PJ F p f) (Zcj n J seq B F p f R tb bt bf bq from_ to_) (R.rangeN from_ to_) (fun W=>Zcj n J seq B F p f R tb bt bf bq from_ to_ W∧LowR F p f tb bt bf bq W.heap.size):=fun l JJ JX W hG hLv hJ hJx hY h0=>by
 obtain⟨hlv,hlow⟩:=hG;have hgood:=hlv.tr.lp.good
 have hrb:=hlv.tr.lp.root_le;have hpg:=hgood.few;have hYr:∀(m':Nat) pre x W1,JJ pre W1→pre++[x] <+: R.rangeN from_ to_→W.heap.size≤W1.heap.size→YieldAt Fence.wide m' Tryz.prog l (kvA x) W1 fun e W'=>Zb (fun k=>k<W.heap.size) W1 W'∧((e=.returned (.bool true)∧JJ (pre++[x]) W')∨(e=.returned (.bool false)∧JX (pre++[x]) W')):=fun m' pre x W1 a b c=>by obtain⟨fn,tmps,assign,body,hy,hR⟩:=hY pre x W1 a b c;exact⟨fn,tmps,assign,body,hy,roundIn_any hR⟩
 obtain⟨W1,hW1⟩:∃x,x=W.alloc (.cells #[.func (.yield l) #[] #[]] 101):=⟨_,rfl⟩;have hb1:Below W.heap.size W W1:=by rw[hW1];exact Zj W _
 have hs1:W1.heap.size=W.heap.size+1:=by rw[hW1];simp
 have hr:Rng n J seq B F p f R tb bt bf bq (W1.heap.size) W.heap.size (W1.heap.size+1) l W.heap.size from_ to_ (R.rangeN from_ to_) JJ JX:=⟨hLv,hJ,hJx,hYr,hlow,hgood,by omega,by omega,by omega,by omega,by omega⟩;have hy1:W1.heap[W.heap.size]?=some (yldO l):=by rw[hW1];exact heap_alloc_new W _
 have hj1:=hr.far h0 (Zb.of_below (T:=fun k=>W.heap.size≤k) hb1) fun k e=>e;have hl1:=hLv _ _ hj1;have ct1:W1.cell? ⟨bt,0,none⟩=some (trp tb):=by rw[cell_of_row _ _ _ _ _ _ hl1.hbt];rfl
 have cq1:W1.cell? ⟨tb,0,none⟩=some (Xb f.q):=by rw[cell_of_row _ _ _ _ _ _ hl1.tr.head];rfl
 have HPG:=Hd (lp_pages hl1.tr.lp);obtain⟨W2,hW2⟩:∃x,x=(W1.alloc (.cells #[.int .i64 (R.pages.length:Int)] 3)).alloc (.cells #[walkF bt W1.heap.size bf bq W.heap.size (W1.heap.size+1)] 102):=⟨_,rfl⟩;have hb2:Below W1.heap.size W1 W2:=by rw[hW2];exact(Zj W1 _).alloc (by simp) _
 have hs2:W2.heap.size=W.heap.size+3:=by rw[hW2];simp[hs1]
 have hy2:=(hb2.block _ (Za hy1)).trans hy1;have hl2:W2.heap[W1.heap.size]?=some (izO (R.pages.length:Int)):=by rw[hW2];exact(Below.heap_alloc _ _ _ (by simp)).trans (heap_alloc_new W1 _)
 have hw2:W2.heap[W1.heap.size+1]?=some (wlkO bt W1.heap.size bf bq W.heap.size (W1.heap.size+1)):=by
  rw[hW2];have:=heap_alloc_new (W1.alloc (.cells #[.int .i64 (R.pages.length:Int)] 3)) (.cells #[walkF bt W1.heap.size bf bq W.heap.size (W1.heap.size+1)] 102)
  rw[World.size_alloc] at this;exact this
 have hj2:=hr.far hj1 (Zb.of_below (T:=fun k=>W.heap.size≤k) hb2) fun k e=>e;have ho2:OwnR bt (W1.heap.size) bf bq W.heap.size (W1.heap.size+1) l W2 (R.pages.length:Int):=⟨hl2,hy2,hw2⟩;have hlv2:=hLv _ _ hj2;have ct2:W2.cell? ⟨bt,0,none⟩=some (trp tb):=by rw[cell_of_row _ _ _ _ _ _ hlv2.hbt];rfl
 have cq2:W2.cell? ⟨tb,0,none⟩=some (Xb f.q):=by rw[cell_of_row _ _ _ _ _ _ hlv2.tr.head];rfl
 have cw2:W2.cell? ⟨W1.heap.size+1,0,none⟩=some (walkF bt (W1.heap.size) bf bq W.heap.size (W1.heap.size+1)):=by rw[cell_of_row _ _ _ _ _ _ hw2];rfl
 have HRT:=Hd (lp_root hlv2.tr.lp);have HR:=Hd hr;have HJ2:=Hd hj2;have HO2:=Hd ho2;have HW1:=Hd hW1;have HW2:=Hd hW2;have HSS:=Hd hs1;have HS2:=Hd hs2;have HPL:Hid (R.pages.length≤1023):=Hd hpg;rw[hW1] at ct1 cq1;clear hs1 hlv hlow hgood hpg hYr hr hb1 hy1 hj1 hl1 hb2 hs2 hy2 hl2 hw2 hj2 ho2 hlv2 hLv hJ hJx hY h0 hW1 hW2;refine callsIn_of_wp Tryz.func49 rfl trivial ?_ rfl;simp only[Tryz.ntmps49,List.size_toArray,List.length_cons,List.length_nil,Nat.reduceAdd,Nat.reduceSub,Array.replicate_succ,Array.replicate_zero,List.push_toArray,List.append_toArray,List.nil_append,List.cons_append];gi_wp2_with fail;rw[←HW1.out];refine⟨trivial,?_⟩;refine(callsIn_wide.2 HPG.out).mono ?_;rintro e w1 ⟨rfl,e1⟩;obtain rfl:W1=w1:=e1.symm;clear ct1 cq1;rw[HW2.out] at ct2 cq2 cw2;gi_wp2_with fail;rw[←HW2.out];refine⟨trivial,?_⟩;refine(callsIn_wide.2 HRT.out).mono ?_;rintro e w2 ⟨rfl,e2⟩;obtain rfl:W2=w2:=e2.symm;rw[←HW2.out] at cw2;by_cases hp:0≤R.root
 ·have hd:decide (0≤R.root)=true:=decide_eq_true hp
  have hw:=rwalk_any HR.out 41 (Nat.le_refl _) R.root (R.pages.length:Int) [] W2 (by omega) (by omega) (by omega) (by have:=HPL.out;omega) HJ2.out HO2.out (by have:=HS2.out;omega) (by
   rw[List.nil_append];unfold Rp.rangeN;rw[if_pos hp]
   exact List.prefix_rfl)
  have hx:R.rangeN from_ to_=(R.walkN from_ to_ (41+1) R.root (R.pages.length:Int)).1.1:=by unfold Rp.rangeN;rw[if_pos hp]
  rw[show (41:Int) - ((41:Nat):Int)=0 by decide] at hw
  have HWW:=Hd hw;have HX:=Hd hx;clear hw hx ct2 cq2 hp;gi_wp2_with fail;refine⟨trivial,?_⟩;refine(callsIn_wide.2 HWW.out).mono ?_;rintro e w3 ⟨ok,lf',rfl,ht3,ho3,hend⟩
  have HE:Hid (W.heap.size≤w3.heap.size∧(JJ (R.rangeN from_ to_) w3∨∃pre,pre <+: R.rangeN from_ to_∧JX pre w3)):=Hd ⟨by have:=ht3.size;have:=HS2.out;omega,by
   rcases hend with ⟨_,_,_,_,h5⟩ | ⟨_,q⟩
   ·left;rw[HX.out];rw[List.nil_append] at h5;exact h5
   ·exact .inr q⟩
  clear hend ht3 ho3 cw2;gi_wp2_with fail;go_end0;exact⟨⟨_,rfl⟩,HE.out⟩
 ·have hd:decide (0≤R.root)=false:=decide_eq_false hp
  have HE:Hid (W.heap.size≤W2.heap.size∧(JJ (R.rangeN from_ to_) W2∨∃pre,pre <+: R.rangeN from_ to_∧JX pre W2)):=Hd ⟨by have:=HS2.out;omega,.inl (by
   unfold Rp.rangeN;rw[if_neg hp]
   exact HJ2.out)⟩
  clear hp ct2 cq2 cw2;gi_wp2_with fail;go_end0;exact⟨⟨_,rfl⟩,HE.out⟩
theorem range_nil_seq (m:Nat) (hm:1≤m) (bt bf bq:Nat):SeqT Fence.wide m Tryz.prog 49 #[Xc bt,Xc bf,Xc bq] kvA (fun _=>False) (fun _=>True) [] (fun W=>W.cell? ⟨bt,0,none⟩=some (.pointer none)):=fun l JJ JX W hG hLv hJ hJx hY h0=>by have hb1:Below W.heap.size W (W.alloc (.cells #[.func (.yield l) #[] #[]] 101)):=Zj W _;have hj1:=hJ _ _ _ h0 (Zb.of_below hb1) trivial;have ct:=(hb1.cell (p:=⟨bt,0,none⟩) (World.block_lt_of_cell? W _ hG)).trans hG;have HJ1:=Hd hj1;have HS:Hid (W.heap.size≤(W.alloc (.cells #[.func (.yield l) #[] #[]] 101)).heap.size):=Hd (by simp);clear hG hLv hJ hJx hY h0 hb1 hj1;refine callsIn_of_wp Tryz.func49 rfl trivial ?_ rfl;simp only[Tryz.ntmps49,List.size_toArray,List.length_cons,List.length_nil,Nat.reduceAdd,Nat.reduceSub,Array.replicate_succ,Array.replicate_zero,List.push_toArray,List.append_toArray,List.nil_append,List.cons_append];gi_wp2_with fail;refine bodyPost_ret (results_none rfl _ _ _) rfl ?_;exact⟨⟨_,rfl⟩,HS.out,.inl HJ1.out⟩
theorem trange_any (w:World) (tv:Value) (ht:tv=.pointer none∨∃b,tv=trp b) (from_ to_:List UInt8):Calls Tryz.prog 19 #[tv,.string ⟨from_.toArray⟩,.string ⟨to_.toArray⟩] w fun e w'=>e=.returned (rngF w.heap.size (w.heap.size+1) (w.heap.size+2))∧w'=((w.alloc (.cells #[tv] 25)).alloc (Ql from_)).alloc (Ql to_):=by
 rcases ht with rfl | ⟨b,rfl⟩
 ·go_enter Tryz.func19,Tryz.ntmps19;go_wp2_with fail;go_ret;exact⟨rfl,rfl⟩
 ·go_enter Tryz.func19,Tryz.ntmps19;go_wp2_with fail;go_ret;exact⟨rfl,rfl⟩
end
end
end Go.Proofs.YtofibccplbnaiaaGreatDoor
