/- Contracts of the functions that the statements of this seat reach, part 2: each says what the call answers and what it leaves of the memory. -/
import Derived.Test.YtofibccplbnaiaaGreatDoorJ1
import Derived.Test.YtofibccplbnaiaaGreatDoorChecked
import Derived.WalkKit
import Derived.Deep.RegionHeld3
import Derived.Great.BuildSlice
set_option linter.unusedVariables false
set_option linter.unusedSimpArgs false
set_option maxRecDepth 100000
namespace Go.Proofs.YtofibccplbnaiaaGreatDoor
open Go.RowKit
structure Jn where
 D : Dk
 last : Nat
 seq : Int
 off : Int
def Dk.blocks (D : Dk) : Nat:=(D.n - 2) / 2
def Dk.home (D : Dk) (i : Nat) : Nat:=2 + D.blocks + i
def Jn.lay (J : Jn) (k : Nat) (L : List UInt8) : Jn:=if J.off = 0 then { J with D:=(J.D.write k L).2,off:=(J.D.write k L).1 } else J
def Jn.flush (J : Jn) : Jn:=if J.off = 0 then { J with D:=J.D.flush.2,off:=J.D.flush.1 } else J
structure JAt (w : World) (F : Ft) (p : Nat) (J : Jn) : Prop where
 apart : ¬ F.has p
 head : w.heap[p]? = some (.cells #[F.ptr,.int .u64 (J.last : Int),.int .i64 J.seq,.int .i64 J.off] 125 (0,0))
 disk : DkAt w F J.D
def JT (F : Ft) (p : Nat) (k : Nat) : Prop:=F.has k ∨ k = p
theorem JAt.lt {w : World} {F : Ft} {p : Nat} {J : Jn} (h : JAt w F p J) {k : Nat} (hk : JT F p k) : k < w.heap.size:=by
 rcases hk with hk | rfl
 ·exact h.disk.lt hk
 ·exact lt_of_heap h.head
theorem JAt.keep {w w' : World} {F : Ft} {p : Nat} {J : Jn} (h : JAt w F p J) (hw : ∀ k,JT F p k → w'.heap[k]? = w.heap[k]?) : JAt w' F p J :=
 ⟨h.apart,(hw p (.inr rfl)).trans h.head,h.disk.keep fun k hk=>hw k (.inl hk)⟩
theorem JAt.turned {w w' : World} {F : Ft} {p : Nat} {J : Jn} {T : Nat → Prop} (h : JAt w F p J) (ht : Turned T w w') (hT : ∀ k,JT F p k → ¬ T k) : JAt w' F p J :=
 h.keep fun k hk=>ht.block k (h.lt hk) (hT k hk)
theorem JAt.below {w w' : World} {F : Ft} {p : Nat} {J : Jn} (h : JAt w F p J) (hb : Below w.heap.size w w') : JAt w' F p J:=h.keep fun k hk=>hb.block k (h.lt hk)
theorem JAt.drew {w : World} {F : Ft} {p : Nat} {J : Jn} (h : JAt w F p J) : JAt w.drew F p J:=h.keep fun _ _=>rfl
theorem JAt.cells {w : World} {F : Ft} {p : Nat} {J : Jn} (h : JAt w F p J) :
  w.cell? ⟨p,0,none⟩ = some F.ptr∧w.cell? ⟨p,1,none⟩ = some (.int .u64 (J.last : Int))∧w.cell? ⟨p,2,none⟩ = some (.int .i64 J.seq)∧w.cell? ⟨p,3,none⟩ = some (.int .i64 J.off):=by
 refine ⟨?_,?_,?_,?_⟩ <;> · rw [cell_of_row _ _ _ _ _ _ h.head];rfl
abbrev jptr (p : Nat) : Value:=.pointer (some ⟨p,0,none⟩)
theorem turned_one (w : World) (p i : Nat) (v : Value) : Turned (· = p) w (w.setCell ⟨p,i,none⟩ v) :=
 ⟨rfl,rfl,rfl,by simp [World.setCell],fun k hk hn=>Below.heap_setCell _ _ _ _ hn⟩
theorem JAt.put_disk {w w' : World} {F : Ft} {p : Nat} {J : Jn} (h : JAt w F p J) {D : Dk} (hd : DkAt w' F D) (ht : Turned F.has w w') : JAt w' F p { J with D:=D } :=
 ⟨h.apart,(ht.block p (lt_of_heap h.head) h.apart).trans h.head,hd⟩
theorem JAt.put_off {w : World} {F : Ft} {p : Nat} {J : Jn} (h : JAt w F p J) (e : Int) : JAt (w.setCell ⟨p,3,none⟩ (.int .i64 e)) F p { J with off:=e } :=
 ⟨h.apart,head_setCell h.head _,h.disk.keep fun k hk=>Below.heap_setCell _ _ _ _ (fun e=>h.apart (by rw [e] at hk;exact hk))⟩
theorem JAt.put_last {w : World} {F : Ft} {p : Nat} {J : Jn} (h : JAt w F p J) (n : Nat) : JAt (w.setCell ⟨p,1,none⟩ (.int .u64 (n : Int))) F p { J with last:=n } :=
 ⟨h.apart,head_setCell h.head _,h.disk.keep fun k hk=>Below.heap_setCell _ _ _ _ (fun e=>h.apart (by rw [e] at hk;exact hk))⟩
theorem JAt.put_seq {w : World} {F : Ft} {p : Nat} {J : Jn} (h : JAt w F p J) (n : Int) : JAt (w.setCell ⟨p,2,none⟩ (.int .i64 n)) F p { J with seq:=n } :=
 ⟨h.apart,head_setCell h.head _,h.disk.keep fun k hk=>Below.heap_setCell _ _ _ _ (fun e=>h.apart (by rw [e] at hk;exact hk))⟩
theorem Turned.jt {w w' : World} {F : Ft} (p : Nat) (h : Turned F.has w w') : Turned (JT F p) w w':=h.mono fun _ _ e=>.inl e
theorem Turned.jp {w w' : World} (F : Ft) {p : Nat} (h : Turned (· = p) w w') : Turned (JT F p) w w':=h.mono fun _ _ e=>.inr e
set_option maxHeartbeats 1000000 in
theorem blocks_any (w : World) (F : Ft) (p : Nat) (J : Jn) (h : JAt w F p J) (h2 : 2 ≤ J.D.n) : Calls Tryz.prog 63 #[jptr p] w fun e w'=>e = .returned (.int .i64 (J.D.blocks : Int))∧w = w':=by
 obtain ⟨c0,c1,c2,c3⟩:=h.cells;have hn:=h.disk.ok.nm
 have e1 : (J.D.blocks : Int) = ((J.D.n : Int) - 2) / 2:=by unfold Dk.blocks;omega
 rw [e1];clear e1;have HS:=Hd (sectors_any w F J.D h.disk)
 clear h;have h2' : (0 : Int) ≤ (J.D.n : Int) - 2:=by omega
 go_enter Tryz.func63,Tryz.ntmps63;go_wp2_with fail;refine HS.out.mono ?_;rintro e w' ⟨rfl,rfl⟩;go_wp2_with fail;go_ret;exact ⟨rfl,rfl⟩
set_option maxHeartbeats 1000000 in
theorem home_any (w : World) (F : Ft) (p : Nat) (J : Jn) (h : JAt w F p J) (h2 : 2 ≤ J.D.n) (i : Nat) (hi : i ≤ 16777216) : Calls Tryz.prog 66 #[jptr p,.int .i64 (i : Int)] w fun e w'=>e = .returned (.int .i64 (J.D.home i : Int))∧w = w':=by
 have hn:=h.disk.ok.nm;have e1 : (J.D.home i : Int) = 2 + (J.D.blocks : Int) + (i : Int):=by unfold Dk.home;omega
 rw [e1];have hb : (J.D.blocks : Int) ≤ 8191:=by unfold Dk.blocks;omega
 have HB:=Hd (blocks_any w F p J h h2);clear e1 h;generalize J.D.blocks = b at *;go_enter Tryz.func66,Tryz.ntmps66;go_wp2_with fail;refine HB.out.mono ?_;rintro e w' ⟨rfl,rfl⟩;go_wp2_with fail;go_ret;exact ⟨rfl,rfl⟩
set_option maxHeartbeats 2000000 in
theorem lay_any (w : World) (F : Ft) (p : Nat) (J : Jn) (h : JAt w F p J) (k : Nat) (hk : k ≤ 33554432) (L : List UInt8) (hl : L.length = 128) :
  Calls Tryz.prog 64 #[jptr p,.int .i64 (k : Int),.agg (bv L).toArray] w fun e w'=>e = .returned (.tuple #[])∧JAt w' F p (J.lay k L)∧Turned (JT F p) w w':=by
 obtain ⟨W1,hW1⟩ : ∃ W1,W1 = w.alloc (.cells (bv L).toArray 128):=⟨_,rfl⟩;have hr : RowB W1 w.heap.size 128 L:=by rw [hW1];exact RowB.alloc w 128 L
 have hB1 : Below w.heap.size w W1:=by rw [hW1];exact (Below.refl _ _).alloc (Nat.le_refl _) _
 have h1:=h.below hB1;obtain ⟨c0,c1,c2,c3⟩:=h1.cells;by_cases h0 : J.off = 0
 ·have e1 : J.lay k L = { J with D:=(J.D.write k L).2,off:=(J.D.write k L).1 }:=by simp [Jn.lay,h0]
  rw [e1];rw [h0] at c3;have hb:=hr.isB 0 128 128 (by omega) (by omega) (by simp [maxLen])
  rw [List.drop_zero,List.take_of_length_le (by omega)] at hb;have HW:=Hd (write_any W1.drew F J.D h1.disk.drew k _ L hb (by omega) (by omega))
  clear hb hr h0 e1;go_enter Tryz.func64,Tryz.ntmps64;go_upto_region 1 with fail;rw [← hW1];clear hW1;go_wp2_with fail;go_region_with (first | (go_at_call 96;((with_reducible refine HW.out.mono ?_);rintro e w2 ⟨rfl,hd2,t2⟩;have j2:=h1.drew.put_disk hd2 t2;have g3 : w2.cell? ⟨p,3,none⟩ = some (.int .i64 J.off):=j2.cells.2.2.2;have f3:=frozen_p j2.head 3)))
  go_end0;exact ⟨rfl,j2.put_off _,((Turned.of_below (T:=JT F p) hB1).drew.trans (t2.jt p)).trans ((turned_one w2 p 3 _).jp F)⟩
 ·have e1 : J.lay k L = J:=by simp [Jn.lay,h0]
  rw [e1];have hd : (J.off == 0) = false:=by simpa using h0
  have HF:=Hd (And.intro h1 (Turned.of_below (T:=JT F p) hB1));clear e1 h hr h1;go_enter Tryz.func64,Tryz.ntmps64;go_upto_region 1 with fail;rw [← hW1];clear hW1;go_wp2_with fail;go_end0;exact ⟨rfl,HF.out⟩
set_option maxHeartbeats 2000000 in
theorem jflush_any (w : World) (F : Ft) (p : Nat) (J : Jn) (h : JAt w F p J) :
  Calls Tryz.prog 67 #[jptr p] w fun e w'=>e = .returned (.tuple #[])∧JAt w' F p J.flush∧Turned (JT F p) w w':=by
 obtain ⟨c0,c1,c2,c3⟩:=h.cells;by_cases h0 : J.off = 0
 ·have e1 : J.flush = { J with D:=J.D.flush.2,off:=J.D.flush.1 }:=by simp [Jn.flush,h0]
  rw [e1];rw [h0] at c3;have HW:=Hd (flush_any w F J.D h.disk)
  clear h0 e1;go_enter Tryz.func67,Tryz.ntmps67;go_wp2_with fail;refine HW.out.mono ?_;rintro e w2 ⟨rfl,hd2,t2⟩;have j2:=h.put_disk hd2 t2
  have g3 : w2.cell? ⟨p,3,none⟩ = some (.int .i64 J.off):=j2.cells.2.2.2;have f3:=frozen_p j2.head 3;go_wp2_with fail;go_end0;exact ⟨rfl,j2.put_off _,(t2.jt p).trans ((turned_one w2 p 3 _).jp F)⟩
 ·have e1 : J.flush = J:=by simp [Jn.flush,h0]
  rw [e1];have hd : (J.off == 0) = false:=by simpa using h0
  have HF:=Hd h;clear e1 h;go_enter Tryz.func67,Tryz.ntmps67;go_wp2_with fail;go_end0;exact ⟨rfl,HF.out,Turned.refl _ _⟩
end Go.Proofs.YtofibccplbnaiaaGreatDoor

namespace Go.Proofs.YtofibccplbnaiaaGreatDoor
open Go.RowKit
theorem info_frame3 : (Tryz.prog.info? 128).map (fun i=>(i.zero,i.size,i.bytes)) = some (some (.agg (bv z128).toArray),128,128):=by kernel_rfl
structure MineF (base : Nat) (w : World) (v : Value) (Ls : List (List UInt8)) : Prop where
 lens : ∀ L ∈ Ls,L.length = 128
 own : w.ownsRow base 128 128 v Ls.length (bv Ls.flatten)
theorem MineF.nil (base : Nat) (w : World) : MineF base w (.slice none 0 0) []:=⟨fun _ h=>(by cases h),World.ownsRow_nil w base 128 128⟩
theorem MineF.keep {base : Nat} {w w' : World} {v : Value} {Ls : List (List UInt8)} (h : MineF base w v Ls) (hw : ∀ k,base ≤ k → k < w.heap.size → w'.heap[k]? = w.heap[k]?) : MineF base w' v Ls:=by
 obtain ⟨h0,h1,h2⟩:=h;refine ⟨h0,h1,?_⟩;rcases h2 with h2 | ⟨g,cap,cur,hv,hg,hh,r⟩
 ·exact .inl h2
 ·exact .inr ⟨g,cap,cur,hv,hg,(hw g hg (lt_of_heap hh)).trans hh,r⟩
theorem MineF.turned {base : Nat} {w w' : World} {v : Value} {Ls : List (List UInt8)} {T : Nat → Prop} (h : MineF base w v Ls) (ht : Turned T w w') (hT : ∀ k,T k → k < base) : MineF base w' v Ls :=
 h.keep fun k hk hl=>ht.block k hl fun e=>by have:=hT k e;omega
theorem MineF.below {base : Nat} {w w' : World} {v : Value} {Ls : List (List UInt8)} (h : MineF base w v Ls) (hb : Below w.heap.size w w') : MineF base w' v Ls:=h.keep fun k _ hl=>hb.block k hl
theorem MineF.drew {base : Nat} {w : World} {v : Value} {Ls : List (List UInt8)} (h : MineF base w v Ls) : MineF base w.drew v Ls:=h.keep fun _ _ _=>rfl
theorem flat_get {Ls : List (List UInt8)} (h : ∀ L ∈ Ls,L.length = 128) : ∀ i (hi : i < Ls.length),(Ls.flatten.drop (i * 128)).take 128 = Ls[i]:=by
 induction Ls with
 | nil=>intro i hi;simp at hi
 | cons L r ih =>
  intro i hi;have hL:=h L (List.mem_cons_self ..)
  rw [List.flatten_cons]
  cases i with
  | zero=>rw [Nat.zero_mul,List.drop_zero,List.take_left' hL];rfl
  | succ i =>
   rw [show (i + 1) * 128 = 128 + i * 128 by omega,← List.drop_drop,List.drop_left' hL,ih (fun x hx=>h x (List.mem_cons_of_mem _ hx)) i (by simpa using hi)]
   rfl
theorem MineF.range {base : Nat} {w : World} {v : Value} {Ls : List (List UInt8)} (h : MineF base w v Ls) : v = .slice none 0 0∧Ls = [] ∨
  ∃ g cap,v = .slice (some ⟨g,0,none⟩) Ls.length cap∧Ls.length ≤ cap∧cap ≤ maxLen∧base ≤ g∧∀ i (hi : i < Ls.length),w.rangeAt g (i * 128) (bv Ls[i]):=by
 obtain ⟨h0,h1,h2⟩:=h;rcases h2 with ⟨h2,h3⟩ | ⟨g,cap,cur,hv,hg,hh,hnc,hcm,hcs,htake⟩
 ·exact .inl ⟨h2,List.eq_nil_of_length_eq_zero h3⟩
 ·refine .inr ⟨g,cap,hv,hnc,hcm,hg,fun i hi j u hj=>?_⟩
  have hL:=h0 Ls[i] (List.getElem_mem hi);have hlt : j < 128:=by have:=(List.getElem?_eq_some_iff.1 hj).1;rw [bv_length,hL] at this;exact this
  rw [← flat_get h0 i hi] at hj;rw [cell_of_row _ _ _ _ _ _ hh];have e : (bv Ls.flatten)[i * 128 + j]? = some u:=by rw [← hj];simp only [bv,List.getElem?_map,List.getElem?_take,List.getElem?_drop,if_pos hlt]
  rw [← htake,List.getElem?_take] at e;split at e
  ·simpa using e
  ·cases e
theorem MineF.snoc {B : Nat} {w : World} {v : Value} {Ls : List (List UInt8)} (h : MineF B w v Ls) (hB : B ≤ w.heap.size) (hL : Ls.length ≤ 1000000) (L : List UInt8) (hl : L.length = 128) (g : Nat) (hg : RowB w g 128 L) :
  ∃ v' w',(Builtin.append_ #[137,137] 137 #[v,.slice (some ⟨g,0,none⟩) 1 1]).run Tryz.prog w = .ok v' w'∧MineF B w' v' (Ls ++ [L])∧Turned (fun k=>B ≤ k) w w':=by
 obtain ⟨i,hi,hz,hs,hb⟩:=info_parts (P:=Tryz.prog) (e:=128) info_frame3;have hcell : ∀ w' : World,w'.heap = w.heap → ∀ j c,(bv L)[j]? = some c → w'.cell? ((⟨g,0,none⟩ : Addr).add j) = some c:=fun w' hw j c hj=>by rw [Addr.add_mid,Nat.zero_add,cell_of_row w' _ _ _ _ _ (by rw [hw];exact hg)];simpa using hj
 obtain ⟨v',w',hr,ho,hgr,_,_⟩:=run_app (P:=Tryz.prog) w B 137 137 137 128 i _ 128 128 _ Tryz.underlying137 Tryz.underlying137 (.inl rfl) hi hz hs hb (by rw [Value.cells,List.size_toArray,bv_length,z128_length]) (by decide) v Ls.length (bv Ls.flatten) h.own
  (.slice (some ⟨g,0,none⟩) 1 1) 1 (bv L) (fun w'=>rfl) (by rw [bv_length,hl]) (fun w' hw=>run_firstCells_some (P:=Tryz.prog) w' 128 1 ⟨g,0,none⟩ 1 1 (bv L) (by rw [bv_length,hl]) (hcell w' hw)) (bv_oneCell L) (by simp [maxLen];omega) (by omega) hB
 refine ⟨v',w',hr,⟨fun x hx=>?_,?_⟩,hgr.os,hgr.tape,hgr.output,hgr.size,fun k hk hn=>hgr.block k hk fun e=>hn ?_⟩
 ·rcases List.mem_append.1 hx with hx | hx
  ·exact h.lens x hx
  ·rw [List.mem_singleton.1 hx];exact hl
 ·rw [List.flatten_append,bv_append,List.length_append];simpa using ho
 ·rcases h.own.2 with ⟨rfl,_⟩ | ⟨g',_,_,rfl,hb',_⟩
  ·cases e
  ·have : k = g':=by simpa [Value.ownBlock] using e
   omega
theorem Nib.apartD {w : World} {F : Ft} {D : Dk} (hn : Nib w) (h : DkAt w F D) : ¬ F.has 0:=by
 have h0:=hn 0 (by omega)
 have hbyte : ∀ (g cap n : Nat) (l : List UInt8),Sects w g cap n l → 1 ≤ n → g ≠ 0:=fun g cap n l hs hn1 e=>by
  have hr:=hs.range 0 (by omega);have hl : (sec l 0).length = 128:=by obtain ⟨_,_,_,_,_,hl,_⟩:=hs;exact sec_length hl (by omega)
  have h2:=hr 0 _ (bv_get (sec l 0) 0 (by omega));rw [e] at h2;simp only [Nat.zero_mul,Nat.zero_add] at h2;rw [h2] at h0;simp at h0
 rintro (e | e | e | e)
 ·have:=h.cells.1;rw [← e,h0] at this;cases this
 ·exact hbyte _ _ _ _ h.safe h.ok.n1 e.symm
 ·exact hbyte _ _ _ _ h.now h.ok.n1 e.symm
 ·obtain ⟨es,cl,hm,_⟩:=h.hung;rw [e] at h0;simp [World.cell?,hm] at h0
theorem Nib.of_turned {w w' : World} {T : Nat → Prop} (hn : Nib w) (ht : Turned T w w') (hT : ¬ T 0) : Nib w':=fun i hi=>by have h0:=hn i hi;rw [← h0];exact World.cell?_of_block (ht.block _ (World.block_lt_of_cell? w _ h0) hT)
theorem Nib.turnedD {w w' : World} {F : Ft} {D : Dk} (hn : Nib w) (h : DkAt w F D) (ht : Turned F.has w w') : Nib w':=hn.of_turned ht (hn.apartD h)
theorem Nib.apart {w : World} {F : Ft} {p : Nat} {J : Jn} (hn : Nib w) (h : JAt w F p J) : ¬ JT F p 0:=by
 have h0:=hn 0 (by omega);rintro (e | e)
 ·exact hn.apartD h.disk e
 ·have:=h.cells.1;rw [← e,h0] at this;cases this
theorem Nib.turned {w w' : World} {F : Ft} {p : Nat} {J : Jn} (hn : Nib w) (h : JAt w F p J) (ht : Turned (JT F p) w w') : Nib w':=hn.of_turned ht (hn.apart h)
end Go.Proofs.YtofibccplbnaiaaGreatDoor

namespace Go.Proofs.YtofibccplbnaiaaGreatDoor
section
variable {P : Program} {ops : Array Oper} {Q : Exit → Act → World → Prop} {md : Region.Mode} {S : World → Prop}
theorem op_at {i : Nat} {oi : Oper} {rest : List Oper} (h : ops.toList.drop i = oi :: rest) : ops[i]? = some oi:=by have h2:=congrArg (fun l : List Oper=>l[0]?) h;simp only [List.getElem?_drop,Nat.add_zero,List.getElem?_cons_zero,Array.getElem?_toList] at h2;exact h2
theorem take_at {i : Nat} {oi : Oper} {lr : List Oper} {v : Value} {fuel : Nat} {listed : Array Bool} {a : Act} {w : World} (hi : ops.toList.drop i = oi :: lr)
  (hs : Region.noSelect ops = true) (hf : Region.free md ops listed i = true) (hr : (Region.ready md ops listed).contains i = true)
  (hQ : ∀ c a w,Q (.panic c) (a.put oi.dst v) w → Q (.panic c) a w) (hy : YieldsIf P ops S oi v a) (hS : S w)
  (h : wpAnyH P md ops Q S fuel (listed.setIfInBounds i true) (a.put oi.dst v) w) : wpAnyH P md ops Q S (fuel + 1) listed a w :=
 wpAnyH_take (op_at hi) hs hf hr hQ hy hS h
theorem ready_at {fuel : Nat} {listed : Array Bool} {a : Act} {w : World} {i : Nat} {o : Oper} {lr : List Oper} {rs : List Nat} (ho : ops.toList.drop i = o :: lr)
  (h : ∀ K' : Act → World → Prop,Shut (∀ a w,S w → (S w → wpAnyH P md ops Q S fuel (listed.setIfInBounds i true) a w) → K' a w) → if Region.wanted o (yielded ops a.tmps) = true then Oper.wp P o a w K' Q else K' (a.put o.dst undef) w)
  (hs : AllReadyH P md ops Q S fuel listed a w rs) : AllReadyH P md ops Q S fuel listed a w (i :: rs):=AllReadyH.cons (op_at ho) h hs
end
section
variable {P : Program} {ops : Array Oper} {Q : Exit → Act → World → Prop} {md : Region.Mode} {S : World → Prop}
theorem tkA (i : Nat) {oi : Oper} {lr : List Oper} {v : Value} {fuel : Nat} {listed : Array Bool} {a : Act} {w : World} (hi : ops.toList.drop i = oi :: lr) (hy : YieldsIf P ops S oi v a) (hS : S w)
    (h : wpAnyH P md ops Q S fuel (listed.setIfInBounds i true) (a.put oi.dst v) w) (hs : Region.noSelect ops = true := by kernel_rfl) (hf : Region.free md ops listed i = true := by kernel_rfl) (hr : (Region.ready md ops listed).contains i = true := by kernel_rfl)
    (hQ : ∀ c a w, Q (.panic c) (a.put oi.dst v) w → Q (.panic c) a w := by exact fun _ _ _ h => h) : wpAnyH P md ops Q S (fuel + 1) listed a w := take_at hi hs hf hr hQ hy hS h
end
end Go.Proofs.YtofibccplbnaiaaGreatDoor

namespace Go.Proofs.YtofibccplbnaiaaGreatDoor
open Go.RowKit
theorem Dk.write_n (D : Dk) (k : Int) (l : List UInt8) : (D.write k l).2.n = D.n:=by
 unfold Dk.write;repeat' split
 all_goals rfl
theorem Dk.flush_n (D : Dk) : D.flush.2.n = D.n:=by
 unfold Dk.flush;repeat' split
 all_goals rfl
theorem Jn.lay_n (J : Jn) (k : Nat) (L : List UInt8) : (J.lay k L).D.n = J.D.n:=by
 unfold Jn.lay;split
 ·exact Dk.write_n _ _ _
 ·rfl
theorem Jn.flush_n (J : Jn) : J.flush.D.n = J.D.n:=by
 unfold Jn.flush;split
 ·exact Dk.flush_n _
 ·rfl
def Jn.spStep (J : Jn) (f : List UInt8) : Jn:=J.lay (J.D.home (fplace f)) (mkF (fwrite f) (3 * 16777216 + fplace f) (fbytes f))
def Jn.spreads (J : Jn) (Ls : List (List UInt8)) : Jn:=Ls.foldl Jn.spStep J
def Jn.spread (J : Jn) (Ls : List (List UInt8)) : Jn:=(J.spreads Ls).flush
theorem Jn.spreads_n (J : Jn) (Ls : List (List UInt8)) : (J.spreads Ls).D.n = J.D.n:=by
 unfold Jn.spreads
 induction Ls generalizing J with
 | nil=>rfl
 | cons f r ih=>rw [List.foldl_cons,ih,Jn.spStep,Jn.lay_n]
theorem Jn.spreads_snoc (J : Jn) (Ls : List (List UInt8)) (k : Nat) (hk : k < Ls.length) : J.spreads (Ls.take (k + 1)) = (J.spreads (Ls.take k)).spStep Ls[k]:=by rw [List.take_succ_eq_append_getElem hk,Jn.spreads,List.foldl_append];rfl
set_option maxHeartbeats 8000000 in
theorem spread_any (w : World) (F : Ft) (p : Nat) (J : Jn) (h : JAt w F p J) (hn : Nib w) (hn2 : 2 ≤ J.D.n) (B : Nat) (v : Value) (Ls : List (List UInt8)) (hm : MineF B w v Ls) (hap : ∀ k,JT F p k → k < B) :
  Calls Tryz.prog 74 #[jptr p,v] w fun e w'=>e = .returned (.tuple #[])∧JAt w' F p (J.spread Ls)∧Turned (JT F p) w w':=by
 have Hhap:=Hd hap;have hlen:=hm.range;have Hm:=Hd hm
 obtain ⟨a,cap,hv,hcap,hmx⟩ : ∃ a cap,v = .slice a Ls.length cap∧Ls.length ≤ cap∧cap ≤ maxLen:=by
  rcases hlen with ⟨rfl,rfl⟩ | ⟨g,cap,rfl,h1,h2,_⟩
  ·exact ⟨none,0,rfl,Nat.le_refl _,by simp [maxLen]⟩
  ·exact ⟨_,cap,rfl,h1,h2⟩
 unfold maxLen at hmx;clear hlen hm hap;rw [hv];have Hv:=Hd hv
 clear hv;go_enter Tryz.func74,Tryz.ntmps74;go_wp2_with fail;go_loopw [8] (fun i wr=>∃ k : Nat,k ≤ Ls.length∧i = .int .i64 (k : Int)∧JAt wr F p (J.spreads (Ls.take k))∧Nib wr∧Turned (JT F p) w wr) (fun i _=>Ls.length - (intOf i).toNat)
 case atStart=>exact ⟨0,Nat.zero_le _,rfl,h,hn,Turned.refl _ _⟩
 case round =>
  obtain ⟨k,hk,rfl,hj,hnb,ht⟩:=hrel;clear h hn;by_cases hlt : k < Ls.length
  ·have hd : decide ((k : Int) < (Ls.length : Int)) = true:=by simpa using hlt
   have hm:=Hm.out.turned ht Hhap.out
   obtain ⟨g0,rfl,hrg⟩ : ∃ g0,a = some ⟨g0,0,none⟩∧wr.rangeAt g0 (k * 128) (bv Ls[k]):=by
    rcases hm.range with ⟨_,h2⟩ | ⟨g,c,h1,_,_,_,h3⟩
    ·rw [h2] at hlt;simp at hlt
    ·have h4:=Hv.out;rw [h1] at h4;simp only [Value.slice.injEq] at h4;exact ⟨g,h4.1.symm,h3 k hlt⟩
   have hl:=hm.lens Ls[k] (List.getElem_mem hlt);have hsn:=Jn.spreads_snoc J Ls k hlt;have hnn : (J.spreads (Ls.take k)).D.n = J.D.n:=Jn.spreads_n _ _;have Hsn:=Hd hsn;rw [← hnn] at hn2;clear hsn hm hnn;generalize J.spreads (Ls.take k) = Jk at *;generalize Ls[k] = L at *;have hlb : (bv L).length = 128:=by rw [bv_length,hl]
   have hlz : (bv z128).length = 128:=by rw [bv_length,z128_length]
   go_upto_region 3 with (first | (refine wpList_alloc_frame rfl rfl ?_) | (refine wpList_load_mid rfl 128 (.tmp 10) rfl g0 (k * 128) rfl (bv L) _ hrg Tryz.underlying128 rfl (by rw [info_frame,hlb]) ?_) | (refine wpList_store_last 128 (.tmp 5) (.tmp 11) rfl _ (bv L).toArray rfl rfl rfl (by rw [info_frame,List.size_toArray,hlb]) (by rw [List.size_toArray,List.size_toArray,hlb,hlz]) (all_oneCell_toArray (bv_oneCell L)) ?_));obtain ⟨W3,hW3⟩ : ∃ W3,W3 = wr.alloc (.cells (bv L).toArray 128):=⟨_,rfl⟩;have hr3 : RowB W3 wr.heap.size 128 L:=by rw [hW3];exact RowB.alloc wr 128 L
   have hb3 : Below wr.heap.size wr W3:=by rw [hW3];exact (Below.refl _ _).alloc (Nat.le_refl _) _
   have hj3:=(hj.below hb3).drew;have hn3 : Nib W3.drew:=hnb.below hb3.drew;have ht3:=(ht.trans (Turned.of_below (T:=JT F p) hb3)).drew;rw [← hW3];have hH0 : RowB W3.drew wr.heap.size 128 L:=hr3;have hgn : ∀ k,JT F p k → k < wr.heap.size:=fun k hk=>hj.lt hk;have hpl:=fplace_lt L;have hwl:=fwrite_lt L hl;clear hW3 hr3 hb3 hj hnb ht hrg;generalize wr.heap.size = g at *;refine wp_region_noPanic ?_;refine wp_region_held_drew (S:=(fun W=>RowB W g 128 L)) (by kernel_rfl) hH0 (fun hH=>?_);refine tkA 0 rfl (v:=?_) (.inl ⟨by rfl,?_⟩) hH ?_;rotate_left
   ·(intro w hSw;skip;go_simp;try with_reducible rfl)
   try simp only [Act.put,zA,zB,zC]
   refine tkA 1 rfl (v:=?_) (.inl ⟨by rfl,?_⟩) hH ?_;rotate_left
   ·(intro w hSw;skip;go_simp;try with_reducible rfl)
   try simp only [Act.put,zA,zB,zC]
   refine take_at (i:=2) (v:=.agg (bv L).toArray) rfl (by kernel_rfl) (by kernel_rfl) (by kernel_rfl) (fun _ _ _ h=>h) (yieldsIf_load_mid rfl 128 (.tmp 5) rfl g 0 rfl (bv L) _ (fun W hW=>RowB.range hW) Tryz.underlying128 rfl (by rw [info_frame,bv_length,hl])) hH ?_;try simp only [Act.put,zA,zB,zC]
   refine take_at (i:=5) (v:=.agg (bv L).toArray) rfl (by kernel_rfl) (by kernel_rfl) (by kernel_rfl) (fun _ _ _ h=>h) (yieldsIf_load_mid rfl 128 (.tmp 5) rfl g 0 rfl (bv L) _ (fun W hW=>RowB.range hW) Tryz.underlying128 rfl (by rw [info_frame,bv_length,hl])) hH ?_;try simp only [Act.put,zA,zB,zC]
   refine take_at (i:=7) (v:=.agg (bv L).toArray) rfl (by kernel_rfl) (by kernel_rfl) (by kernel_rfl) (fun _ _ _ h=>h) (yieldsIf_load_mid rfl 128 (.tmp 5) rfl g 0 rfl (bv L) _ (fun W hW=>RowB.range hW) Tryz.underlying128 rfl (by rw [info_frame,bv_length,hl])) hH ?_;try simp only [Act.put,zA,zB,zC]
   refine take_at (i:=9) (v:=.agg (bv L).toArray) rfl (by kernel_rfl) (by kernel_rfl) (by kernel_rfl) (fun _ _ _ h=>h) (yieldsIf_load_mid rfl 128 (.tmp 5) rfl g 0 rfl (bv L) _ (fun W hW=>RowB.range hW) Tryz.underlying128 rfl (by rw [info_frame,bv_length,hl])) hH ?_;try simp only [Act.put,zA,zB,zC]
   refine wpAnyH_ready (rs:=[3]) (by kernel_rfl) (by simp) ?_;refine ready_at rfl (fun K hK=>?_) AllReadyH.nil;go_simp;refine (fplace_any _ L hl).mono ?_;rintro e W4 ⟨rfl,hb⟩;have hHn:=RowB.below hH hb
   replace hj3:=hj3.below hb;replace hn3:=hn3.below hb;replace ht3:=ht3.trans (Turned.of_below (T:=JT F p) hb);clear hb hH;go_wp2_with fail;refine hK.out _ _ hHn (fun hH=>?_);clear hHn;clear hK K;try simp only [Act.put,zA,zB,zC]
   refine wpAnyH_ready (rs:=[4]) (by kernel_rfl) (by simp) ?_;refine ready_at rfl (fun K hK=>?_) AllReadyH.nil;go_simp;refine (home_any _ F p Jk hj3 hn2 (fplace L) (by omega)).mono ?_;rintro e w' ⟨rfl,rfl⟩;go_wp2_with fail;refine hK.out _ _ hH (fun hH=>?_);clear hK K;try simp only [Act.put,zA,zB,zC]
   refine wpAnyH_ready (rs:=[6]) (by kernel_rfl) (by simp) ?_;refine ready_at rfl (fun K hK=>?_) AllReadyH.nil;go_simp;refine (fwrite_any _ L hl).mono ?_;rintro e W5 ⟨rfl,hb⟩;have hHn:=RowB.below hH hb
   replace hj3:=hj3.below hb;replace hn3:=hn3.below hb;replace ht3:=ht3.trans (Turned.of_below (T:=JT F p) hb);clear hb hH;go_wp2_with fail;refine hK.out _ _ hHn (fun hH=>?_);clear hHn;clear hK K;try simp only [Act.put,zA,zB,zC]
   refine wpAnyH_ready (rs:=[8]) (by kernel_rfl) (by simp) ?_;refine ready_at rfl (fun K hK=>?_) AllReadyH.nil;go_simp;refine (fplace_any _ L hl).mono ?_;rintro e W6 ⟨rfl,hb⟩;have hHn:=RowB.below hH hb
   replace hj3:=hj3.below hb;replace hn3:=hn3.below hb;replace ht3:=ht3.trans (Turned.of_below (T:=JT F p) hb);clear hb hH;go_wp2_with fail;refine hK.out _ _ hHn (fun hH=>?_);clear hHn;clear hK K;try simp only [Act.put,zA,zB,zC]
   refine wpAnyH_ready (rs:=[10]) (by kernel_rfl) (by simp) ?_;refine ready_at rfl (fun K hK=>?_) AllReadyH.nil;go_simp;refine (fbytes_any W6 L hl).mono ?_;rintro e W7 ⟨rfl,hw7⟩;have hb : Below W6.heap.size W6 W7:=by rw [hw7];exact (Below.refl _ _).alloc (Nat.le_refl _) _
   have hi7 : IsB W7 (.slice (some ⟨W6.heap.size,16,none⟩) 112 112) (fbytes L):=by have:=(RowB.alloc W6 128 L).isB 16 112 112 (by omega) (by omega) (by simp [maxLen]);rw [← hw7,List.take_of_length_le (by simp [hl])] at this;exact this
   clear hw7;have hHn:=RowB.below hH hb
   replace hj3:=hj3.below hb;replace hn3:=hn3.below hb;replace ht3:=ht3.trans (Turned.of_below (T:=JT F p) hb);clear hb hH;go_wp2_with fail;refine hK.out _ _ hHn (fun hH=>?_);clear hHn;clear hK K;try simp only [Act.put,zA,zB,zC]
   refine wpAnyH_ready (rs:=[11]) (by kernel_rfl) (by simp) ?_;refine ready_at rfl (fun K hK=>?_) AllReadyH.nil;go_simp;refine (framed_any W7 (fwrite L) 3 (fplace L) _ (fbytes L) hwl (by omega) hpl hi7 hn3).mono ?_;rintro e W8 ⟨rfl,hb⟩;have hHn:=RowB.below hH hb
   replace hj3:=hj3.below hb;replace hn3:=hn3.below hb;replace ht3:=ht3.trans (Turned.of_below (T:=JT F p) hb);clear hi7;clear hb hH;go_wp2_with fail;refine hK.out _ _ hHn (fun hH=>?_);clear hHn;clear hK K;try simp only [Act.put,zA,zB,zC]
   refine wpAnyH_ready (rs:=[12]) (by kernel_rfl) (by simp) ?_;refine ready_at rfl (fun K hK=>?_) AllReadyH.nil;go_simp;have hle:=hj3.disk.ok.nm
   have hhm : Jk.D.home (fplace L) ≤ 33554432:=by unfold Dk.home Dk.blocks;omega
   refine (lay_any W8 F p Jk hj3 (Jk.D.home (fplace L)) hhm _ (mkF_length _ _ _)).mono ?_;rintro e W9 ⟨rfl,hj9,ht9⟩;have hn9:=hn3.turned hj3 ht9
   have ht10:=ht3.trans ht9;have hHn : RowB W9 g 128 L:=RowB.turned hH ht9 (fun e=>Nat.lt_irrefl _ (hgn _ e));clear hH hj3 hn3 ht3 ht9 hle hhm;go_wp2_with fail;refine hK.out _ _ hHn (fun hH=>?_);clear hHn;clear hK K;try simp only [Act.put,zA,zB,zC]
   refine wpAnyH_done (by kernel_rfl) ?_ _;refine NoPanic.normal ?_;go_wp2_with fail;go_roundw
   case rel=>exact ⟨k + 1,by omega,by go_num,by rw [Hsn.out];exact hj9,hn9,ht10⟩
   case measure=>simp [intOf];omega
  ·obtain rfl : k = Ls.length:=by omega
   have hd : decide ((Ls.length : Int) < (Ls.length : Int)) = false:=by simp
   rw [List.take_length] at hj;go_wp2_with fail;refine (jflush_any wr F p _ hj).mono ?_;rintro e w1 ⟨rfl,hj1,ht1⟩;go_wp2_with fail;go_end0;exact ⟨rfl,hj1,ht.trans ht1⟩
end Go.Proofs.YtofibccplbnaiaaGreatDoor

namespace Go.Proofs.YtofibccplbnaiaaGreatDoor
open Go.RowKit
def Dk.markOk (D : Dk) (i : Nat) : Bool:=(fright (sec D.now i) && decide (fkind (sec D.now i) = 1)) && decide (fwrite (sec D.now i) % 2 = i) && decide (fplace (sec D.now i) ≤ D.blocks)
def Dk.noteOk (D : Dk) (i : Nat) : Bool:=(fright (sec D.now (2 + i)) && decide (fkind (sec D.now (2 + i)) = 2)) && decide (fplace (sec D.now (2 + i)) < D.blocks)
def Dk.mark (D : Dk) : List UInt8:=if fwrite (sec D.now 0) < fwrite (sec D.now 1) then sec D.now 1 else sec D.now 0
def Dk.lastTo (D : Dk) (m : List UInt8) : Nat → Nat
 | 0=>fwrite m
 | k + 1=>max (D.lastTo m k) (fwrite (sec D.now (2 + k)))
def Dk.againTo (D : Dk) (m : List UInt8) : Nat → List (List UInt8)
 | 0=>[]
 | k + 1=>if k < fplace m∧fwrite (sec D.now (2 + k)) = fwrite m then D.againTo m k ++ [sec D.now (2 + k)] else D.againTo m k
def toI64 (n : Nat) : Int:=if n < 9223372036854775808 then n else (n : Int) - 18446744073709551616
def mseq (m : List UInt8) : Int:=toI64 (leR ((fbytes m).take 8))
def Dk.found (D : Dk) : Jn:=⟨D,D.lastTo D.mark D.blocks,mseq D.mark,0⟩
def Dk.openJ (D : Dk) : Int × Jn :=
 if D.n < 32 then (60,⟨D,0,0,0⟩) else if D.off then (43,⟨D,0,0,0⟩)
 else if D.markOk 0 = false∧D.markOk 1 = false then (60,⟨D,0,0,0⟩)
 else if D.markOk 0 = false ∨ D.markOk 1 = false then (62,⟨D,0,0,0⟩)
 else if ∃ i,i < D.blocks∧D.noteOk i = false then (62,⟨D,0,0,0⟩)
 else if (D.againTo D.mark D.blocks).length = fplace D.mark∧0 < (D.againTo D.mark D.blocks).length
  then ((D.found.spread (D.againTo D.mark D.blocks)).off,D.found.spread (D.againTo D.mark D.blocks)) else (0,D.found)
end Go.Proofs.YtofibccplbnaiaaGreatDoor

namespace Go.Proofs.YtofibccplbnaiaaGreatDoor
open Go.RowKit
def Dk.take (D : Dk) (k kind : Nat) : List UInt8 × Bool × Int :=
 if D.off then (z128,false,43) else (sec D.now k,(fright (sec D.now k) && decide (fkind (sec D.now k) = kind)),0)
theorem run_arrayAt_frame (W : World) (a : Option Addr) (cap : Nat) : (Instr.arrayAt 128 (.slice a 128 cap)).run Tryz.prog W = .ok (.pointer a) W:=by unfold Instr.arrayAt;simp only [Sem.run_bind,run_underlying Tryz.underlying128,Result.andThen];rfl
def RowN (w : World) (g : Nat) (T : TypeId) (n : Nat) : Prop:=∃ R,RowB w g T R∧R.length = n
theorem RowB.rowN {w : World} {g : Nat} {T : TypeId} {L : List UInt8} (h : RowB w g T L) {n : Nat} (hl : L.length = n) : RowN w g T n:=⟨L,h,hl⟩
theorem RowN.below {w w' : World} {g : Nat} {T : TypeId} {n : Nat} (h : RowN w g T n) (hb : Below w.heap.size w w') : RowN w' g T n:=by obtain ⟨R,h1,h2⟩:=h;exact ⟨R,h1.below hb,h2⟩
theorem RowN.run_store {w : World} {g : Nat} {T : TypeId} {n : Nat} (h : RowN w g T n) {l : List UInt8} (hl : l.length = n) : (storeCells ⟨g,0,none⟩ (bv l)).run Tryz.prog w = .ok () (w.setCells g 0 (bv l)):=by obtain ⟨R,h1,h2⟩:=h;exact h1.run_store (by omega)
theorem RowN.store {w : World} {g : Nat} {T : TypeId} {n : Nat} (h : RowN w g T n) {l : List UInt8} (hl : l.length = n) : RowB (w.setCells g 0 (bv l)) g T l:=by obtain ⟨R,h1,h2⟩:=h;exact h1.store (by omega)
def TkHeld (T : TypeId) (g r : Nat) (L : List UInt8) (B : Nat) (w0 W : World) : Prop:=RowB W g T L∧RowN W r T 128∧Below B w0 W
theorem tk_keep {T : TypeId} {g r : Nat} {L : List UInt8} {w0 W W' : World} (h : TkHeld T g r L w0.heap.size w0 W) (hb : Below W.heap.size W W') : TkHeld T g r L w0.heap.size w0 W' :=
 ⟨h.1.below hb,h.2.1.below hb,h.2.2.trans (hb.mono h.2.2.size)⟩
theorem tk_store {T : TypeId} {g r : Nat} {L : List UInt8} {w0 W : World} (h : TkHeld T g r L w0.heap.size w0 W) (hl : L.length = 128) (hne : r ≠ g) (hr : w0.heap.size ≤ r) :
  TkHeld T g r L w0.heap.size w0 (W.setCells r 0 (bv L))∧(storeCells ⟨r,0,none⟩ (bv L)).run Tryz.prog W = .ok () (W.setCells r 0 (bv L))∧RowB (W.setCells r 0 (bv L)) r T L:=by
 have hT:=turned_cells W r 0 (bv L);have hs:=h.2.1.store hl;exact ⟨⟨h.1.turned hT (fun e=>hne e.symm),hs.rowN hl,h.2.2.trans (hT.below h.2.2.size (fun k hk=>by omega))⟩,h.2.1.run_store hl,hs⟩
theorem cell_frame {w : World} {B o : Nat} {L : List UInt8} (h : IsB w (.slice (some ⟨B,o,none⟩) 128 128) L) (hl : L.length = 128) : w.rangeAt B o (bv L):=fun j v hj=>by
 have hjl : j < L.length:=by have:=(List.getElem?_eq_some_iff.1 hj).1;simpa [bv] using this
 rw [bv_get L j hjl] at hj;rw [isB_cell h j hjl];exact hj
set_option maxHeartbeats 8000000 in
theorem take_any (w : World) (F : Ft) (p : Nat) (J : Jn) (h : JAt w F p J) (hn : Nib w) (k kind : Nat) (hk : k < J.D.n) (hkd : kind ≤ 3) :
  Calls Tryz.prog 69 #[jptr p,.int .i64 (k : Int),.int .i64 (kind : Int)] w fun e w' =>
   e = .returned (.tuple #[.agg (bv (J.D.take k kind).1).toArray,.bool (J.D.take k kind).2.1,.int .i64 (J.D.take k kind).2.2])∧Below w.heap.size w w':=by
 have hnm:=h.disk.ok.nm;obtain ⟨W1,hW1⟩ : ∃ W1,W1 = w.alloc (.cells (bv z128).toArray 128):=⟨_,rfl⟩;have hr1 : RowB W1 w.heap.size 128 z128:=by rw [hW1];exact RowB.alloc w 128 z128
 have hB1 : Below w.heap.size w W1:=by rw [hW1];exact (Below.refl _ _).alloc (Nat.le_refl _) _
 have h1:=h.below hB1;have hz1 : W1.heap.size = w.heap.size + 1:=by rw [hW1];simp
 obtain ⟨c0,c1,c2,c3⟩:=h1.cells;have HR:=Hd (read_any W1 F J.D h1.disk k (by omega) (by omega))
 cases ho : J.D.off with
 | true =>
  have e1 : J.D.take k kind = (z128,false,43):=by simp [Dk.take,ho]
  have e2 : J.D.read k = ([],43):=by simp [Dk.read,ho]
  rw [e1];rw [e2] at HR;clear e1 e2 h1 h ho c1 c2 c3;go_enter Tryz.func69,Tryz.ntmps69;go_upto_region 1 with (refine wpList_alloc_frame rfl rfl ?_);rw [← hW1];clear hW1;go_wp2_with fail;refine HR.out.mono ?_;rintro e W2 ⟨v,rfl,hg⟩;have hb2:=hg.below
  have hr2:=hr1.below hb2;have hB2:=hB1.trans (hb2.mono hB1.size);have hbf:=fun W=>zero_frame W;have hst:=hr2.run_store (l:=z128) rfl;have hr3:=hr2.store (l:=z128) rfl;have hB3:=hB2.trans ((turned_cells W2 w.heap.size 0 (bv z128)).below (B:=w.heap.size) hB2.size (fun k hk=>by omega));have hv:=hr3.run_load z128_length;have hlb : (bv z128).length = 128:=by rw [bv_length,z128_length]
  generalize W2.setCells w.heap.size 0 (bv z128) = W3 at *;clear hr1 hr2 hr3 hB1 hB2 hb2 hg HR c0;go_wp2_with fail;exact bodyPost_ret (results_cell_two Tryz.results69 rfl hv) rfl ⟨rfl,hB3⟩
 | false =>
  have e1 : J.D.take k kind = (sec J.D.now k,(fright (sec J.D.now k) && decide (fkind (sec J.D.now k) = kind)),0):=by simp [Dk.take,ho]
  have e2 : J.D.read k = (sec J.D.now k,0):=by simp [Dk.read,ho,hk]
  rw [e1];rw [e2] at HR;have hl:=sec_length h.disk.ok.now hk
  generalize sec J.D.now k = L at *;clear e1 e2 h1 h ho c1 c2 c3;go_enter Tryz.func69,Tryz.ntmps69;go_upto_region 1 with (refine wpList_alloc_frame rfl rfl ?_);rw [← hW1];clear hW1;go_wp2_with fail;refine HR.out.mono ?_;rintro e W2 ⟨v,rfl,hg⟩;have hb2:=hg.below
  have hr2:=hr1.below hb2;have hB2:=hB1.trans (hb2.mono hB1.size);have hi2:=hg.isB
  have hv : v = .slice (some ⟨W1.heap.size,0,none⟩) 128 128:=by
   rcases hg with ⟨rfl,_⟩ | ⟨_,rfl,_⟩
   ·simp at hl
   ·rfl
  subst hv;have hrg:=cell_frame hi2 hl
  have hlb : (bv L).length = 128:=by rw [bv_length,hl]
  have hlz : (bv z128).length = 128:=by rw [bv_length,z128_length]
  have hat:=fun W=>run_arrayAt_frame W (some ⟨W1.heap.size,0,none⟩) 128;clear hr1 hB1 hb2 hg HR c0 hi2 hz1;go_upto_region 5 with (first | (refine wpList_alloc_frame rfl rfl ?_) | (refine wpList_load_mid rfl 128 (.tmp 26) rfl W1.heap.size 0 rfl (bv L) _ hrg Tryz.underlying128 rfl (by rw [info_frame,hlb]) ?_) | (refine wpList_store_last 128 (.tmp 11) (.tmp 27) rfl _ (bv L).toArray rfl rfl rfl (by rw [info_frame,List.size_toArray,hlb]) (by rw [List.size_toArray,List.size_toArray,hlb,hlz]) (all_oneCell_toArray (bv_oneCell L)) ?_));obtain ⟨W3,hW3⟩ : ∃ W3,W3 = W2.alloc (.cells (bv L).toArray 128):=⟨_,rfl⟩;have hr3 : RowB W3 W2.heap.size 128 L:=by rw [hW3];exact RowB.alloc W2 128 L
  have hb3 : Below W2.heap.size W2 W3:=by rw [hW3];exact (Below.refl _ _).alloc (Nat.le_refl _) _
  have hB3:=hB2.trans (hb3.mono hB2.size);have hR3:=hr2.below hb3;have hne : w.heap.size ≠ W2.heap.size:=by have:=hr2.lt;omega
  rw [← hW3];have hH0 : TkHeld 128 W2.heap.size w.heap.size L w.heap.size w W3.drew:=⟨hr3,hR3.rowN z128_length,hB3.drew⟩
  clear hW3 hr3 hb3 hB3 hR3 hr2 hB2 hrg hat;generalize W2.heap.size = g at *
  cases hf : fright L with
  | false =>
   refine wp_region_noPanic ?_;refine wp_region_held_drew (S:=(TkHeld 128 g w.heap.size L w.heap.size w)) (by kernel_rfl) hH0 (fun hH=>?_);refine take_at (i:=0) (v:=.agg (bv L).toArray) rfl (by kernel_rfl) (by kernel_rfl) (by kernel_rfl) (fun _ _ _ h=>h) (yieldsIf_load_mid rfl 128 (.tmp 11) rfl g 0 rfl (bv L) _ (fun W hW=>hW.1.range) Tryz.underlying128 rfl (by rw [info_frame,bv_length,hl])) hH ?_;try simp only [Act.put,zA,zB,zC]
   refine take_at (i:=1) (v:=.agg (bv L).toArray) rfl (by kernel_rfl) (by kernel_rfl) (by kernel_rfl) (fun _ _ _ h=>h) (yieldsIf_load_mid rfl 128 (.tmp 11) rfl g 0 rfl (bv L) _ (fun W hW=>hW.1.range) Tryz.underlying128 rfl (by rw [info_frame,bv_length,hl])) hH ?_;try simp only [Act.put,zA,zB,zC]
   refine wpAnyH_ready (rs:=[2]) (by kernel_rfl) (by simp) ?_;refine ready_at rfl (fun K hK=>?_) AllReadyH.nil;go_simp;refine (fright_any _ L hl (hn.below hH.2.2)).mono ?_;rintro e W4 ⟨rfl,hb4⟩;rw [hf];have hH4:=tk_keep hH hb4
   clear hb4 hH;go_wp2_with fail;refine hK.out _ _ hH4 (fun hH=>?_);clear hH4;clear hK K;try simp only [Act.put,zA,zB,zC]
   refine tkA 3 rfl (v:=?_) (.inl ⟨by rfl,?_⟩) hH ?_;rotate_left
   ·(intro w hSw;skip;go_simp;try with_reducible rfl)
   try simp only [Act.put,zA,zB,zC]
   refine tkA 4 rfl (v:=undef) (.inr ⟨by rfl,rfl⟩) hH ?_;try simp only [Act.put,zA,zB,zC]
   refine tkA 5 rfl (v:=undef) (.inr ⟨by rfl,rfl⟩) hH ?_;try simp only [Act.put,zA,zB,zC]
   refine tkA 6 rfl (v:=undef) (.inr ⟨by rfl,rfl⟩) hH ?_;try simp only [Act.put,zA,zB,zC]
   refine tkA 7 rfl (v:=undef) (.inr ⟨by rfl,rfl⟩) hH ?_;try simp only [Act.put,zA,zB,zC]
   refine tkA 8 rfl (v:=?_) (.inl ⟨by rfl,?_⟩) hH ?_;rotate_left
   ·(intro w hSw;skip;go_simp;try with_reducible rfl)
   try simp only [Act.put,zA,zB,zC]
   refine wpAnyH_ready (rs:=[9]) (by kernel_rfl) (by simp) ?_;refine ready_at rfl (fun K hK=>?_) AllReadyH.nil;have hS9:=tk_store hH hl hne (Nat.le_refl _)
   generalize W4.setCells w.heap.size 0 (bv L) = W9 at hS9;have hv:=hS9.2.2.run_load hl
   have hst:=hS9.2.1;have hH9:=hS9.1;clear hS9 hH;go_simp;refine hK.out _ _ hH9 (fun hH=>?_);clear hst;clear hK K;try simp only [Act.put,zA,zB,zC]
   refine tkA 10 rfl (v:=?_) (.inl ⟨by rfl,?_⟩) hH ?_;rotate_left
   ·(intro w hSw;skip;go_simp;try with_reducible rfl)
   try simp only [Act.put,zA,zB,zC]
   refine tkA 11 rfl (v:=?_) (.inl ⟨by rfl,?_⟩) hH ?_;rotate_left
   ·(intro w hSw;skip;go_simp;try with_reducible rfl)
   try simp only [Act.put,zA,zB,zC]
   refine wpAnyH_done (by kernel_rfl) ?_ _;refine NoPanic.normal ?_;go_wp2_with fail;exact bodyPost_ret (results_cell_two Tryz.results69 rfl hv) rfl ⟨by rw [hf];first | rfl | (rw [Bool.true_and];rfl) | (rw [Bool.true_and,← hd];rfl),hH.2.2⟩
  | true =>
   have hd : (((fkind L : Nat) : Int) == (kind : Int)) = decide (fkind L = kind):=int_beq _ _;refine wp_region_noPanic ?_;refine wp_region_held_drew (S:=(TkHeld 128 g w.heap.size L w.heap.size w)) (by kernel_rfl) hH0 (fun hH=>?_);refine take_at (i:=0) (v:=.agg (bv L).toArray) rfl (by kernel_rfl) (by kernel_rfl) (by kernel_rfl) (fun _ _ _ h=>h) (yieldsIf_load_mid rfl 128 (.tmp 11) rfl g 0 rfl (bv L) _ (fun W hW=>hW.1.range) Tryz.underlying128 rfl (by rw [info_frame,bv_length,hl])) hH ?_;try simp only [Act.put,zA,zB,zC]
   refine take_at (i:=1) (v:=.agg (bv L).toArray) rfl (by kernel_rfl) (by kernel_rfl) (by kernel_rfl) (fun _ _ _ h=>h) (yieldsIf_load_mid rfl 128 (.tmp 11) rfl g 0 rfl (bv L) _ (fun W hW=>hW.1.range) Tryz.underlying128 rfl (by rw [info_frame,bv_length,hl])) hH ?_;try simp only [Act.put,zA,zB,zC]
   refine wpAnyH_ready (rs:=[2]) (by kernel_rfl) (by simp) ?_;refine ready_at rfl (fun K hK=>?_) AllReadyH.nil;go_simp;refine (fright_any _ L hl (hn.below hH.2.2)).mono ?_;rintro e W4 ⟨rfl,hb4⟩;rw [hf];have hH4:=tk_keep hH hb4
   clear hb4 hH;go_wp2_with fail;refine hK.out _ _ hH4 (fun hH=>?_);clear hH4;clear hK K;try simp only [Act.put,zA,zB,zC]
   refine tkA 3 rfl (v:=?_) (.inl ⟨by rfl,?_⟩) hH ?_;rotate_left
   ·(intro w hSw;skip;go_simp;try with_reducible rfl)
   try simp only [Act.put,zA,zB,zC]
   refine take_at (i:=4) (v:=.agg (bv L).toArray) rfl (by kernel_rfl) (by kernel_rfl) (by kernel_rfl) (fun _ _ _ h=>h) (yieldsIf_load_mid rfl 128 (.tmp 11) rfl g 0 rfl (bv L) _ (fun W hW=>hW.1.range) Tryz.underlying128 rfl (by rw [info_frame,bv_length,hl])) hH ?_;try simp only [Act.put,zA,zB,zC]
   refine tkA 6 rfl (v:=?_) (.inl ⟨by rfl,?_⟩) hH ?_;rotate_left
   ·(intro w hSw;skip;go_simp;try with_reducible rfl)
   try simp only [Act.put,zA,zB,zC]
   refine wpAnyH_ready (rs:=[5]) (by kernel_rfl) (by simp) ?_;refine ready_at rfl (fun K hK=>?_) AllReadyH.nil;go_simp;refine (fkind_any _ L hl).mono ?_;rintro e W5 ⟨rfl,hb5⟩;have hH5:=tk_keep hH hb5
   clear hb5 hH;go_wp2_with fail;refine hK.out _ _ hH5 (fun hH=>?_);clear hH5;clear hK K;try simp only [Act.put,zA,zB,zC]
   refine tkA 7 rfl (v:=?_) (.inl ⟨by rfl,?_⟩) hH ?_;rotate_left
   ·(intro w hSw;skip;go_simp;try with_reducible rfl)
   try simp only [Act.put,zA,zB,zC]
   refine tkA 8 rfl (v:=?_) (.inl ⟨by rfl,?_⟩) hH ?_;rotate_left
   ·(intro w hSw;skip;go_simp;try with_reducible rfl)
   try simp only [Act.put,zA,zB,zC]
   refine wpAnyH_ready (rs:=[9]) (by kernel_rfl) (by simp) ?_;refine ready_at rfl (fun K hK=>?_) AllReadyH.nil;have hS9:=tk_store hH hl hne (Nat.le_refl _)
   generalize W5.setCells w.heap.size 0 (bv L) = W9 at hS9;have hv:=hS9.2.2.run_load hl
   have hst:=hS9.2.1;have hH9:=hS9.1;clear hS9 hH;go_simp;refine hK.out _ _ hH9 (fun hH=>?_);clear hst;clear hK K;try simp only [Act.put,zA,zB,zC]
   refine tkA 10 rfl (v:=?_) (.inl ⟨by rfl,?_⟩) hH ?_;rotate_left
   ·(intro w hSw;skip;go_simp;try with_reducible rfl)
   try simp only [Act.put,zA,zB,zC]
   refine tkA 11 rfl (v:=?_) (.inl ⟨by rfl,?_⟩) hH ?_;rotate_left
   ·(intro w hSw;skip;go_simp;try with_reducible rfl)
   try simp only [Act.put,zA,zB,zC]
   refine wpAnyH_done (by kernel_rfl) ?_ _;refine NoPanic.normal ?_;go_wp2_with fail;exact bodyPost_ret (results_cell_two Tryz.results69 rfl hv) rfl ⟨by rw [hf];first | rfl | (rw [Bool.true_and];rfl) | (rw [Bool.true_and,← hd];rfl),hH.2.2⟩
end Go.Proofs.YtofibccplbnaiaaGreatDoor

namespace Go.Proofs.YtofibccplbnaiaaGreatDoor
open Go.RowKit
section
variable {o : Oper} {y : Nat → Option Bool} {a : Act} {w w' : World} {K : Act → World → Prop} {Q : Exit → Act → World → Prop} {X : Prop}
theorem arm_value {v : Value} (hw : Region.wanted o y = true) (he : (execOp a.eval o).run Tryz.prog w = .ok (.value v) w') (h : K (a.put o.dst v) w') : if Region.wanted o y = true then Oper.wp Tryz.prog o a w K Q else X:=by rw [if_pos hw];unfold Oper.wp;rw [he];exact h
theorem run_build_one (w : World) (L : List UInt8) (hl : L.length = 128) : (Instr.buildSlice 137 1 #[(0,.agg (bv L).toArray)]).run Tryz.prog w = .ok (.slice (some ⟨w.heap.size,0,none⟩) 1 1) (w.alloc (.cells (bv L).toArray 128)):=by
 obtain ⟨i,hi,hz,hs,hb⟩:=info_parts (P:=Tryz.prog) (e:=128) info_frame3;have hlb : (bv L).length = 128:=by rw [bv_length,hl]
 refine run_buildSlice w _ _ 1 _ _ i _ Tryz.underlying137 hi hz (by rw [hs];decide) (by rw [hs];decide) ?_;rw [hs];generalize hB : ((Array.range (1 * 128)).map fun k=>(Value.agg (bv z128).toArray).cells[k % (Value.agg (bv z128).toArray).cells.size]!) = base;have hbs : base.size = 128:=by rw [← hB];simp
 have hf:=fill_at (fun _ _=>undef) (bv L) base 0 0 (by rw [hlb,hbs];omega);simp only [Nat.zero_add,List.take_zero,List.nil_append] at hf;rw [List.drop_of_length_le (by rw [Array.length_toList,hbs,hlb];omega),List.append_nil] at hf;simp only [Instr.fill,Value.cells,Nat.zero_mul,List.size_toArray,hlb,hbs];simp only [Nat.zero_add];simp;apply Array.ext';rw [List.toList_toArray];exact hf
theorem arm_build_one (hw : Region.wanted o y = true) (x : Operand) (ho : o.op = .buildSlice 137 1 #[(0,x)]) (L : List UInt8) (hl : L.length = 128) (hx : a.eval x = .agg (bv L).toArray)
  (h : K (a.put o.dst (.slice (some ⟨w.heap.size,0,none⟩) 1 1)) (w.alloc (.cells (bv L).toArray 128))) : if Region.wanted o y = true then Oper.wp Tryz.prog o a w K Q else X:=by
 refine arm_value hw ?_ h;unfold execOp;simp only [ho,List.map_toArray,List.map_cons,List.map_nil,hx,Sem.run_bind,run_build_one w L hl,Result.andThen_ok];rfl
theorem arm_append (hw : Region.wanted o y = true) (s x : Operand) (t t' : TypeId) (ho : o.op = .call { callee:=.builtin .append,args:=#[s,x],argTypes:=#[t,t'] }) (u v r : Value)
  (hs : a.eval s = u) (hx : a.eval x = v) (hr : (Builtin.append_ #[t,t'] o.type #[u,v]).run Tryz.prog w = .ok r w') (h : K (a.put o.dst r) w') : if Region.wanted o y = true then Oper.wp Tryz.prog o a w K Q else X:=by
 refine arm_value hw ?_ h;unfold execOp;simp only [ho,resolve,invoke,builtin,Sem.run_bind,Sem.run_pure,Result.andThen_ok,List.map_toArray,List.map_cons,List.map_nil,hs,hx,hr]
end
theorem wpList_load_open {P : Program} {ops : Array Oper} {rest : List Oper} {op : Oper} {a : Act} {w : World} {Q : Exit → Act → World → Prop} (hw : Region.wanted op (yielded ops a.tmps) = true) (ty : TypeId) (x : Operand) (ho : op.op = .load ty x)
  (b o : Nat) (hx : a.eval x = .pointer (some ⟨b,o,none⟩)) (cs : List Value) (d : TypeDesc) (hc : w.rangeAt b o cs)
  (hu : P.underlying ty = some d) (hd : d.isRow = true) (hi : (P.info? ty).map (·.size) = some cs.length)
  (h : wpList P ops Q rest (a.put op.dst (.agg cs.toArray)) w) : wpList P ops Q (op :: rest) a w :=
 wpList_step fun K hK=>by rw [if_pos hw];exact wp_load_mid ty x ho b o hx cs d hc hu hd hi (hK _ _ h)
end Go.Proofs.YtofibccplbnaiaaGreatDoor

namespace Go.Proofs.YtofibccplbnaiaaGreatDoor
open Go.RowKit
theorem wpList_append_run {ops : Array Oper} {w w' : World} {Q : Exit → Act → World → Prop} {a : Act} {o : Oper} {rest : List Oper} (hg : o.guard = none) (s x : Operand) (t t' : TypeId) (ho : o.op = .call { callee:=.builtin .append,args:=#[s,x],argTypes:=#[t,t'] }) (u v r : Value)
  (hs : a.eval s = u) (hx : a.eval x = v) (hr : (Builtin.append_ #[t,t'] o.type #[u,v]).run Tryz.prog w = .ok r w') (h : wpList Tryz.prog ops Q rest (a.put o.dst r) w') : wpList Tryz.prog ops Q (o :: rest) a w:=by
 refine wpList_plain hg fun K hK=>?_;unfold Oper.wp execOp;simp only [ho,resolve,invoke,builtin,Sem.run_bind,Sem.run_pure,Result.andThen_ok,List.map_toArray,List.map_cons,List.map_nil,hs,hx,hr];exact hK _ _ h
end Go.Proofs.YtofibccplbnaiaaGreatDoor

namespace Go.Proofs.YtofibccplbnaiaaGreatDoor
open Go.RowKit
def Jn.fmtTo (J : Jn) : Nat → Jn
 | 0=>J
 | i + 1=>((J.fmtTo i).lay (2 + i) (mkF 0 (2 * 16777216 + 0) [])).lay (J.D.home i) (mkF 0 (3 * 16777216 + i) [])
def Jn.fmtMarks (J : Jn) : Nat → Jn
 | 0=>J
 | i + 1=>(J.fmtMarks i).lay i (markF i 0 0)
def Jn.format (J : Jn) : Jn:=(((J.fmtTo J.D.blocks).flush).fmtMarks 2).flush
def Dk.format (D : Dk) : Int × Dk:=if D.n < 32 then (60,D) else ((Jn.format ⟨D,0,0,0⟩).off,(Jn.format ⟨D,0,0,0⟩).D)
theorem Jn.fmtTo_n (J : Jn) (i : Nat) : (J.fmtTo i).D.n = J.D.n:=by
 induction i with
 | zero=>rfl
 | succ i ih=>rw [Jn.fmtTo,Jn.lay_n,Jn.lay_n,ih]
theorem Dk.home_n {D D' : Dk} (h : D.n = D'.n) (i : Nat) : D.home i = D'.home i:=by unfold Dk.home Dk.blocks;rw [h]
set_option maxHeartbeats 8000000 in
theorem format_any (w : World) (F : Ft) (D : Dk) (h : DkAt w F D) (hn : Nib w) :
  Calls Tryz.prog 33 #[F.ptr] w fun e w'=>e = .returned (.int .i64 D.format.1)∧DkAt w' F D.format.2∧Turned F.has w w':=by
 have hnm:=h.ok.nm;have HS:=Hd (sectors_any w F D h);by_cases h32 : D.n < 32
 ·have e1 : D.format = (60,D):=by rw [Dk.format,if_pos h32]
  rw [e1];have HD:=Hd h
  have hd : decide ((D.n : Int) < 32) = true:=by simp;omega
  clear e1 h;go_enter Tryz.func33,Tryz.ntmps33;go_wp2_with fail;refine HS.out.mono ?_;rintro e w1 ⟨rfl,rfl⟩;go_wp2_with fail;go_ret;exact ⟨rfl,HD.out,Turned.refl _ _⟩
 ·have e1 : D.format = ((Jn.format ⟨D,0,0,0⟩).off,(Jn.format ⟨D,0,0,0⟩).D):=by rw [Dk.format,if_neg h32]
  rw [e1];have hd : decide ((D.n : Int) < 32) = false:=by simp;omega
  have hj0 : JAt (w.alloc (.cells #[F.ptr,.int .u64 0,.int .i64 0,.int .i64 0] 125)) F w.heap.size ⟨D,0,0,0⟩ :=
   ⟨fun hk=>Nat.lt_irrefl _ (h.lt hk),heap_alloc_new w _,h.below ((Below.refl _ _).alloc (Nat.le_refl _) _)⟩
  have hn0 : Nib (w.alloc (.cells #[F.ptr,.int .u64 0,.int .i64 0,.int .i64 0] 125)):=hn.below ((Below.refl _ _).alloc (Nat.le_refl _) _);have ht0 : Turned (JT F w.heap.size) w (w.alloc (.cells #[F.ptr,.int .u64 0,.int .i64 0,.int .i64 0] 125)):=Turned.of_below ((Below.refl _ _).alloc (Nat.le_refl _) _)
  have HT : Hid (∀ w',Turned (JT F w.heap.size) w w' → Turned F.has w w'):=Hd (fun w' ht=>ht.mono fun k hk hT=>by
   rcases hT with hT | hT
   ·exact hT
   ·omega)
  have Hf : Hid (Jn.format ⟨D,0,0,0⟩ = ((((⟨D,0,0,0⟩ : Jn).fmtTo D.blocks).flush).fmtMarks 2).flush):=Hd rfl;obtain ⟨J0,hJ0⟩ : ∃ J0 : Jn,J0 = ⟨D,0,0,0⟩:=⟨_,rfl⟩;have hJD : J0.D.n = D.n:=by rw [hJ0]
  have hJB : J0.D.blocks = D.blocks:=by rw [hJ0]
  rw [← hJ0] at hj0;rw [← hJ0] at Hf;have h32b : 32 ≤ D.n:=by omega
  clear h hn e1 h32;go_enter Tryz.func33,Tryz.ntmps33;rw [← hJ0];clear hJ0;go_wp2_with fail;refine HS.out.mono ?_;rintro e w1 ⟨rfl,rfl⟩;go_wp2_with fail;generalize w.alloc (.cells #[F.ptr,.int .u64 0,.int .i64 0,.int .i64 0] 125) = W0 at *;generalize w.heap.size = p at *;have HJD:=Hd hJD
  have HJB:=Hd hJB;have hb8 : J0.D.blocks ≤ 8191:=by unfold Dk.blocks;omega
  refine (blocks_any W0 F p J0 hj0 (by omega)).mono ?_;rintro e w1 ⟨rfl,rfl⟩;have hn2 : 2 ≤ J0.D.n:=by omega
  clear hJD hJB hd;go_wp2_with fail;have Hn2:=Hd hn2
  generalize hbl : J0.D.blocks = b at *;have Hbl:=Hd hbl
  clear hbl hn2;go_loopw [18] (fun i wr=>∃ k : Nat,k ≤ b∧i = .int .i64 (k : Int)∧JAt wr F p (J0.fmtTo k)∧Nib wr∧Turned (JT F p) w wr) (fun i _=>b - (intOf i).toNat)
  case atStart=>exact ⟨0,Nat.zero_le _,rfl,hj0,hn0,ht0⟩
  case round =>
   obtain ⟨k,hk,rfl,hj,hnb,ht⟩:=hrel;clear hj0 hn0 ht0;by_cases hlt : k < b
   ·have hd : decide ((k : Int) < (b : Int)) = true:=by simpa using hlt
    have hHn : 2 ≤ (J0.fmtTo k).D.n:=by rw [Jn.fmtTo_n];exact Hn2.out
    have Hst : Hid (J0.fmtTo (k + 1) = ((J0.fmtTo k).lay (2 + k) (mkF 0 (2 * 16777216 + 0) [])).lay ((J0.fmtTo k).D.home k) (mkF 0 (3 * 16777216 + k) [])):=by
     show J0.fmtTo (k + 1) = _
     rw [Jn.fmtTo,Dk.home_n (Jn.fmtTo_n J0 k)]
    generalize J0.fmtTo k = Jk at *;go_wp2_with fail;refine (framed_any wr 0 2 0 (.slice none 0 0) [] (by omega) (by omega) (by omega) (IsB.nil _) hnb).mono ?_;rintro e w3 ⟨rfl,hb3⟩;have hj3:=hj.below hb3
    have hn3:=hnb.below hb3;have ht3:=ht.trans (Turned.of_below (T:=JT F p) hb3);clear hj hnb ht hb3;go_wp2_with fail;have hl4:=lay_any w3 F p Jk hj3 (2 + k) (by omega) (mkF 0 (2 * 16777216 + 0) []) (mkF_length _ _ _);rw [show ((2 + k : Nat) : Int) = 2 + (k : Int) by omega] at hl4
    refine hl4.mono ?_;rintro e w4 ⟨rfl,hj4,ht4⟩;have hn4:=hn3.turned hj3 ht4
    have ht4':=ht3.trans ht4;have hhm : Jk.D.home k = (Jk.lay (2 + k) (mkF 0 (2 * 16777216 + 0) [])).D.home k:=Dk.home_n (Jn.lay_n _ _ _).symm k;have hHn4 : 2 ≤ (Jk.lay (2 + k) (mkF 0 (2 * 16777216 + 0) [])).D.n:=by rw [Jn.lay_n];exact hHn
    have Hhm:=Hd hhm;clear hl4 hj3 hn3 ht3 ht4 hhm;generalize Jk.lay (2 + k) (mkF 0 (2 * 16777216 + 0) []) = J4 at *;go_wp2_with fail;refine (home_any w4 F p J4 hj4 hHn4 k (by omega)).mono ?_;rintro e w5 ⟨rfl,rfl⟩;go_wp2_with fail;refine (framed_any w4 0 3 k (.slice none 0 0) [] (by omega) (by omega) (by omega) (IsB.nil _) hn4).mono ?_;rintro e w6 ⟨rfl,hb6⟩;have hj6:=hj4.below hb6;have hn6:=hn4.below hb6;have ht6:=ht4'.trans (Turned.of_below (T:=JT F p) hb6);have hnm6:=hj6.disk.ok.nm;have hhb : J4.D.home k ≤ 33554432:=by unfold Dk.home Dk.blocks;omega
    clear hj4 hn4 ht4' hb6;go_wp2_with fail;refine (lay_any w6 F p J4 hj6 (J4.D.home k) hhb (mkF 0 (3 * 16777216 + k) []) (mkF_length _ _ _)).mono ?_;rintro e w7 ⟨rfl,hj7,ht7⟩;have hn7:=hn6.turned hj6 ht7
    have ht7':=ht6.trans ht7;clear hj6 hn6 ht6 ht7 hnm6 hhb;go_wp2_with fail;go_roundw
    case rel=>exact ⟨k + 1,by omega,by go_num,by rw [Hst.out,Hhm.out];exact hj7,hn7,ht7'⟩
    case measure=>simp [intOf];omega
   ·obtain rfl : k = b:=by omega
    have hd : decide ((k : Int) < (k : Int)) = false:=by simp
    have Hf2 : Hid (J0.format = (((J0.fmtTo k).flush).fmtMarks 2).flush):=by have:=Hf.out;rw [← HJB.out] at this;exact this
    generalize J0.fmtTo k = Jk at *;go_wp2_with fail;refine (jflush_any wr F p Jk hj).mono ?_;rintro e w8 ⟨rfl,hj8,ht8⟩;have hn8:=hnb.turned hj ht8
    have ht8':=ht.trans ht8;clear hj hnb ht ht8;generalize Jk.flush = J8 at *;go_wp2_with fail;go_loopw [36] (fun i wr=>∃ m : Nat,m ≤ 2∧i = .int .i64 (m : Int)∧JAt wr F p (J8.fmtMarks m)∧Nib wr∧Turned (JT F p) w wr) (fun i _=>2 - (intOf i).toNat)
    case atStart=>exact ⟨0,Nat.zero_le _,rfl,hj8,hn8,ht8'⟩
    case round =>
     obtain ⟨m,hm,rfl,hj,hnb,ht⟩:=hrel;clear hj8 hn8 ht8';by_cases hlt2 : m < 2
     ·have hd2 : decide ((m : Int) < 2) = true:=by simp;omega
      have Hst : Hid (J8.fmtMarks (m + 1) = (J8.fmtMarks m).lay m (markF m 0 0)):=Hd rfl;generalize J8.fmtMarks m = Jm at *;have hmm : IntKind.u64.wrap (m : Int) = (m : Int):=by rw [wrap_u64_nat,Nat.mod_eq_of_lt (by omega)]
      go_wp2_with fail;refine (marked_any wr m 0 0 (by omega) (by omega) hnb).mono ?_;rintro e w9 ⟨rfl,hb9⟩;have hj9:=hj.below hb9
      have hn9:=hnb.below hb9;have ht9:=ht.trans (Turned.of_below (T:=JT F p) hb9);clear hj hnb ht hb9;go_wp2_with fail;refine (lay_any w9 F p Jm hj9 m (by omega) (markF m 0 0) (mkF_length _ _ _)).mono ?_;rintro e w10 ⟨rfl,hj10,ht10⟩;have hn10:=hn9.turned hj9 ht10;have ht10':=ht9.trans ht10;clear hj9 hn9 ht9 ht10 hmm;go_wp2_with fail;go_roundw
      case rel=>exact ⟨m + 1,by omega,by go_num,by rw [Hst.out];exact hj10,hn10,ht10'⟩
      case measure=>simp [intOf];omega
     ·obtain rfl : m = 2:=by omega
      generalize J8.fmtMarks 2 = Jm at *;go_wp2_with fail;refine (jflush_any wr F p Jm hj).mono ?_;rintro e w11 ⟨rfl,hj11,ht11⟩;have ht11':=ht.trans ht11
      have HF:=Hd (And.intro hj11.disk (HT.out _ ht11'));obtain ⟨c0,c1,c2,c3⟩:=hj11.cells;have Hf3:=Hd Hf2.out;clear hj hnb ht ht11 ht11' hj11;generalize Jm.flush = Jf at *;go_wp2_with fail;go_ret;rw [Hf3.out];exact ⟨rfl,HF.out⟩
end Go.Proofs.YtofibccplbnaiaaGreatDoor
