/- Contracts of the functions that the statements of this seat reach, part 3: each says what the call answers and what it leaves of the memory. -/
import Derived.Test.YtofibccplbnaiaaGreatDoorJ2
import Derived.Deep.Cut
import Derived.Deep.DeepCutAuto
import Derived.Test.YtofibccplbnaiaaGreatDoorJ1
import Derived.MapKept
import Derived.WideLaws
import Derived.IntWalk
import Derived.Deep.MidRow
set_option linter.unusedVariables false
set_option linter.unusedSimpArgs false
set_option maxRecDepth 100000
namespace Go.Proofs.YtofibccplbnaiaaGreatDoor
open Go.RowKit
def OpenEnd (F : Ft) (D : Dk) (w : World) (e : Ending) (w' : World) : Prop :=
 (if D.openJ.1 = 0 then ∃ p,e = .returned (.tuple #[jptr p,.int .i64 0])∧JAt w' F p D.openJ.2∧w.heap.size ≤ p else e = .returned (.tuple #[.pointer none,.int .i64 D.openJ.1])∧DkAt w' F D.openJ.2.D)∧Turned F.has w w'
theorem OpenEnd.bad {F : Ft} {D : Dk} {w w' : World} {c : Int} (he : D.openJ = (c,⟨D,0,0,0⟩)) (hc : c ≠ 0) (hd : DkAt w F D) (hb : Below w.heap.size w w') : OpenEnd F D w (.returned (.tuple #[.pointer none,.int .i64 c])) w':=by unfold OpenEnd;rw [he,if_neg hc];exact ⟨⟨rfl,hd.below hb⟩,Turned.of_below hb⟩
theorem OpenEnd.ok {F : Ft} {D : Dk} {w w' : World} {p : Nat} {J : Jn} (he : D.openJ = (0,J)) (hj : JAt w' F p J) (hp : w.heap.size ≤ p) (ht : Turned F.has w w') : OpenEnd F D w (.returned (.tuple #[jptr p,.int .i64 0])) w':=by unfold OpenEnd;rw [he,if_pos rfl];exact ⟨⟨p,rfl,hj,hp⟩,ht⟩
theorem OpenEnd.away {F : Ft} {D : Dk} {w w' : World} {J : Jn} {o c : Int} (he : D.openJ = (c,J)) (ho : c = o) (hc : ¬ o = 0) (hd : DkAt w' F J.D) (ht : Turned F.has w w') : OpenEnd F D w (.returned (.tuple #[.pointer none,.int .i64 o])) w':=by subst ho;unfold OpenEnd;rw [he,if_neg hc];exact ⟨⟨rfl,hd⟩,ht⟩
def mkAt (D : Dk) (k i : Nat) : List UInt8:=if i < k∧D.markOk i = true then sec D.now i else z128
def mkCount (D : Dk) (k : Nat) : Nat:=(if 0 < k∧D.markOk 0 = true then 1 else 0) + (if 1 < k∧D.markOk 1 = true then 1 else 0)
theorem mkAt_length {D : Dk} (h : D.Ok) (h2 : 2 ≤ D.n) (k i : Nat) (hi : i < 2) : (mkAt D k i).length = 128:=by
 unfold mkAt;split
 ·exact sec_length h.now (by omega)
 ·exact z128_length
theorem mkAt_step {D : Dk} (h : D.Ok) (h2 : 2 ≤ D.n) (k : Nat) (hk : k < 2) (ho : D.markOk k = true) :
  layB (mkAt D k 0 ++ mkAt D k 1) (k * 128) (sec D.now k) = mkAt D (k + 1) 0 ++ mkAt D (k + 1) 1∧mkCount D (k + 1) = mkCount D k + 1:=by
 have hl : (sec D.now k).length = 128:=sec_length h.now (by omega);have l0:=mkAt_length h h2 k 0 (by omega);have l1:=mkAt_length h h2 k 1 (by omega);rcases (show k = 0 ∨ k = 1 by omega) with rfl | rfl
 ·have e0 : mkAt D 1 0 = sec D.now 0:=by simp [mkAt,ho]
  have e1 : mkAt D 1 1 = mkAt D 0 1:=by simp [mkAt]
  constructor
  ·rw [e0,e1,Nat.zero_mul];have:=layB_mid (a:=[]) (m:=mkAt D 0 0) (r:=mkAt D 0 1) (v:=sec D.now 0) (o:=0) rfl (by omega);simpa using this
  ·simp [mkCount,ho]
 ·have e0 : mkAt D 2 0 = mkAt D 1 0:=by simp [mkAt]
  have e1 : mkAt D 2 1 = sec D.now 1:=by simp [mkAt,ho]
  constructor
  ·rw [e0,e1,Nat.one_mul];have:=layB_mid (a:=mkAt D 1 0) (m:=mkAt D 1 1) (r:=[]) (v:=sec D.now 1) (o:=128) l0 (by omega);simpa using this
  ·simp [mkCount,ho]
theorem mkAt_skip {D : Dk} (k : Nat) (hk : k < 2) (ho : D.markOk k = false) : mkAt D (k + 1) 0 ++ mkAt D (k + 1) 1 = mkAt D k 0 ++ mkAt D k 1∧mkCount D (k + 1) = mkCount D k:=by
 rcases (show k = 0 ∨ k = 1 by omega) with rfl | rfl <;> simp [mkAt,mkCount,ho]
theorem zero_marks (w : World) : (zeroValue 132).run Tryz.prog w = .ok (.agg (bv (z128 ++ z128)).toArray) w:=by kernel_rfl
section
variable {ops : Array Oper} {w : World} {Q : Exit → Act → World → Prop} {a : Act} {o : Oper} {rest : List Oper}
theorem wpList_alloc_marks (hg : o.guard = none) (ho : o.op = .alloc 132)
  (h : wpList Tryz.prog ops Q rest (a.put o.dst (.pointer (some ⟨w.heap.size,0,none⟩))) (w.alloc (.cells (bv (z128 ++ z128)).toArray 132))) : wpList Tryz.prog ops Q (o :: rest) a w:=by
 refine wpList_val _ _ hg ?_ h;unfold execOp;simp only [ho,Instr.alloc,Sem.run_bind,zero_marks,Result.andThen_ok];rfl
end
section
variable {ops : Array Oper} {w : World} {Q : Exit → Act → World → Prop} {a : Act} {o : Oper} {rest : List Oper}
theorem wpList_build_one (hg : o.guard = none) (x : Operand) (ho : o.op = .buildSlice 137 1 #[(0,x)]) (L : List UInt8) (hl : L.length = 128) (hx : a.eval x = .agg (bv L).toArray)
  (h : wpList Tryz.prog ops Q rest (a.put o.dst (.slice (some ⟨w.heap.size,0,none⟩) 1 1)) (w.alloc (.cells (bv L).toArray 128))) : wpList Tryz.prog ops Q (o :: rest) a w:=by
 refine wpList_val _ _ hg ?_ h;unfold execOp;simp only [ho,List.map_toArray,List.map_cons,List.map_nil,hx,Sem.run_bind,run_build_one w L hl,Result.andThen_ok];rfl
end
theorem RowB.run_store_at {w : World} {g : Nat} {T : TypeId} {L : List UInt8} (h : RowB w g T L) (o : Nat) {l : List UInt8} (hl : o + l.length ≤ L.length) : (storeCells ⟨g,o,none⟩ (bv l)).run Tryz.prog w = .ok () (w.setCells g o (bv l)):=by have hst:=run_storeCells_cells (P:=Tryz.prog) g o (bv l) 0 w (fun j hj=>(h.there o l.length hl j (by rw [bv_length] at hj;omega)).1) (fun j hj=>(h.there o l.length hl j (by rw [bv_length] at hj;omega)).2) (bv_oneCell l);simpa using hst
theorem RowB.range_at {w : World} {g : Nat} {T : TypeId} {L : List UInt8} (h : RowB w g T L) (o n : Nat) (hn : o + n ≤ L.length) : w.rangeAt g o (bv ((L.drop o).take n)):=fun j v hj=>by
 have hl : j < ((L.drop o).take n).length:=by have:=(List.getElem?_eq_some_iff.1 hj).1;simpa [bv] using this
 have hl2:=hl;simp only [List.length_take,List.length_drop] at hl2;rw [bv_get _ j hl] at hj;rw [h.cell (o + j) (by omega)];rw [← hj];simp
set_option maxHeartbeats 8000000 in
theorem open_bad (w : World) (F : Ft) (D : Dk) (h : DkAt w F D) (hn : Nib w) (hbad : D.n < 32 ∨ D.off = true) :
  Calls Tryz.prog 34 #[F.ptr] w (OpenEnd F D w):=by
 have hnm:=h.ok.nm;have HS:=Hd (sectors_any w F D h);have HD:=Hd h;by_cases h32 : D.n < 32
 ·have he : D.openJ = (60,⟨D,0,0,0⟩):=by rw [Dk.openJ,if_pos h32]
  have HE:=Hd he;have hd : decide ((D.n : Int) < 32) = true:=by simp;omega
  clear h he hbad;go_enter Tryz.func34,Tryz.ntmps34;go_wp2_with fail;refine HS.out.mono ?_;rintro e w1 ⟨rfl,rfl⟩;go_wp2_with fail;go_ret2;exact OpenEnd.bad HE.out (by decide) HD.out (Below.refl _ _)
 ·have ho : D.off = true:=hbad.resolve_left h32
  have he : D.openJ = (43,⟨D,0,0,0⟩):=by rw [Dk.openJ,if_neg h32,if_pos ho]
  have HE:=Hd he;have hd : decide ((D.n : Int) < 32) = false:=by simp;omega
  obtain ⟨W0,hW0⟩ : ∃ W0,W0 = (w.alloc (.cells #[F.ptr,.int .u64 0,.int .i64 0,.int .i64 0] 125)).alloc (.cells (bv (z128 ++ z128)).toArray 132):=⟨_,rfl⟩;have hb0 : Below w.heap.size w W0:=by rw [hW0];exact ((Below.refl _ _).alloc (Nat.le_refl _) _).alloc (by simp) _
  have hj0 : JAt W0 F w.heap.size ⟨D,0,0,0⟩:=by refine ⟨fun hk=>Nat.lt_irrefl _ (h.lt hk),?_,h.below hb0⟩;rw [hW0,Below.heap_alloc _ _ _ (by simp)];exact heap_alloc_new w _
  have ht : (⟨D,0,0,0⟩ : Jn).D.take 0 1 = (z128,false,43):=by rw [Dk.take,if_pos ho]
  have HT:=take_any W0 F w.heap.size _ hj0 (hn.below hb0) 0 1 (by show 0 < D.n;omega) (by omega)
  rw [ht] at HT;have HT:=Hd HT
  have hlz : (bv z128).length = 128:=by rw [bv_length,z128_length]
  clear h he hbad ho ht hj0 h32;go_enter Tryz.func34,Tryz.ntmps34;go_wp2_with fail;refine HS.out.mono ?_;rintro e w1 ⟨rfl,rfl⟩;go_upto_region 7 with (refine wpList_alloc_marks rfl rfl ?_);rw [← hW0];clear hW0;go_wp2_with fail;go_loopw [27] (fun i wr=>i = .int .i64 0∧wr = W0) (fun i _=>0)
  case atStart=>exact ⟨rfl,rfl⟩
  case round =>
   obtain ⟨rfl,rfl⟩:=hrel;go_wp2_with fail;refine HT.out.mono ?_;rintro e w2 ⟨rfl,hb2⟩;have hb3:=(hb0.trans (hb2.mono hb0.size)).alloc (Nat.le_trans hb0.size hb2.size) (.cells (bv z128).toArray 128)
   clear hb2;go_wp2_with (first | (refine wpList_alloc_frame rfl rfl ?_) | (refine wpList_store_last 128 (.tmp 8) (.tmp 34) rfl _ (bv z128).toArray rfl rfl rfl (by rw [info_frame,List.size_toArray,hlz]) (by rw [List.size_toArray,hlz]) (all_oneCell_toArray (bv_oneCell z128)) ?_));go_ret2;exact OpenEnd.bad HE.out (by decide) HD.out hb3
structure OpAt (w W : World) (F : Ft) (p B : Nat) (J : Jn) : Prop where
 jat : JAt W F p J
 nib : Nib W
 below : Below w.heap.size w W
 pB : p < B
 wp : w.heap.size ≤ p
 base : B ≤ W.heap.size
 nw : 0 < w.heap.size
 fw : ∀ k,F.has k → k < w.heap.size
theorem OpAt.step {w W W' : World} {F : Ft} {p B : Nat} {J : Jn} (h : OpAt w W F p B J) (hb : Below W.heap.size W W') : OpAt w W' F p B J :=
 ⟨h.jat.below hb,h.nib.below hb,h.below.trans (hb.mono h.below.size),h.pB,h.wp,Nat.le_trans h.base hb.size,h.nw,h.fw⟩
theorem OpAt.own {w W W' : World} {F : Ft} {p B : Nat} {J : Jn} (h : OpAt w W F p B J) {T : Nat → Prop} (hg : ∀ g,T g → w.heap.size ≤ g∧g ≠ p) (ht : Turned T W W') : OpAt w W' F p B J:=by
 refine ⟨h.jat.turned ht (fun k hk e=>?_),h.nib.of_turned ht (fun e=>?_),h.below.trans (ht.below h.below.size (fun k hk=>(hg k hk).1)),h.pB,h.wp,Nat.le_trans h.base ht.size,h.nw,h.fw⟩
 ·have h1:=hg k e
  rcases hk with hk | hk
  ·have:=h.fw k hk;omega
  ·exact h1.2 hk
 ·have h1:=hg _ e;have:=h.nw;omega
theorem OpAt.put_last {w W : World} {F : Ft} {p B : Nat} {J : Jn} (h : OpAt w W F p B J) (n : Nat) : OpAt w (W.setCell ⟨p,1,none⟩ (.int .u64 (n : Int))) F p B { J with last:=n }:=by have ht:=turned_one W p 1 (.int .u64 (n : Int));exact ⟨h.jat.put_last n,h.nib.of_turned ht (fun e=>by have:=h.nw;have:=h.wp;omega),h.below.trans (ht.below h.below.size (fun k hk=>by have:=h.wp;omega)),h.pB,h.wp,Nat.le_trans h.base ht.size,h.nw,h.fw⟩
theorem OpAt.put_seq {w W : World} {F : Ft} {p B : Nat} {J : Jn} (h : OpAt w W F p B J) (n : Int) : OpAt w (W.setCell ⟨p,2,none⟩ (.int .i64 n)) F p B { J with seq:=n }:=by have ht:=turned_one W p 2 (.int .i64 n);exact ⟨h.jat.put_seq n,h.nib.of_turned ht (fun e=>by have:=h.nw;have:=h.wp;omega),h.below.trans (ht.below h.below.size (fun k hk=>by have:=h.wp;omega)),h.pB,h.wp,Nat.le_trans h.base ht.size,h.nw,h.fw⟩
theorem OpAt.rebase {w W : World} {F : Ft} {p B B' : Nat} {J : Jn} (h : OpAt w W F p B J) (h1 : p < B') (h2 : B' ≤ W.heap.size) : OpAt w W F p B' J:=⟨h.jat,h.nib,h.below,h1,h.wp,h2,h.nw,h.fw⟩
theorem wrap_toI64 {n : Nat} (h : n < 18446744073709551616) : IntKind.i64.wrap (n : Int) = toI64 n:=by
 rw [IntKind.wrap_i64,toI64]
 split <;> omega
theorem blocks_n0 (D : Dk) : (⟨D,0,0,0⟩ : Jn).D.blocks = D.blocks:=rfl
theorem mod2_walk (n k : Nat) (hk : k < 2) : (((n : Int).tmod 2) == (k : Int)) = decide (n % 2 = k):=by rw [Int.tmod_eq_emod_of_nonneg (by omega),Bool.eq_iff_iff];simp;omega
theorem mod2_walk2 (n k : Nat) (hk : k < 2) : (((n : Int) % 2) == (k : Int)) = decide (n % 2 = k):=by rw [Bool.eq_iff_iff];simp;omega
set_option maxHeartbeats 16000000 in
theorem open_rest (w : World) (F : Ft) (D : Dk) (h : DkAt w F D) (hn : Nib w) (h32 : ¬ D.n < 32) (ho : D.off = false) :
  Calls Tryz.prog 34 #[F.ptr] w (OpenEnd F D w):=by
 have hnm:=h.ok.nm;have HS:=Hd (sectors_any w F D h);have HD:=Hd h;have hd : decide ((D.n : Int) < 32) = false:=by simp;omega
 obtain ⟨W0,hW0⟩ : ∃ W0,W0 = (w.alloc (.cells #[F.ptr,.int .u64 0,.int .i64 0,.int .i64 0] 125)).alloc (.cells (bv (z128 ++ z128)).toArray 132):=⟨_,rfl⟩;have hb0 : Below w.heap.size w W0:=by rw [hW0];exact ((Below.refl _ _).alloc (Nat.le_refl _) _).alloc (by simp) _
 have hj0 : JAt W0 F w.heap.size ⟨D,0,0,0⟩:=by refine ⟨fun hk=>Nat.lt_irrefl _ (h.lt hk),?_,h.below hb0⟩;rw [hW0,Below.heap_alloc _ _ _ (by simp)];exact heap_alloc_new w _
 have hr0 : RowB W0 (w.heap.size + 1) 132 (z128 ++ z128):=by
  rw [hW0];have:=RowB.alloc (w.alloc (.cells #[F.ptr,.int .u64 0,.int .i64 0,.int .i64 0] 125)) 132 (z128 ++ z128)
  simpa using this
 have hop0 : OpAt w W0 F w.heap.size (w.heap.size + 2) ⟨D,0,0,0⟩ :=
  ⟨hj0,hn.below hb0,hb0,by omega,Nat.le_refl _,by rw [hW0];simp,World.block_lt_of_cell? w _ (hn 0 (by omega)),fun k hk=>h.lt hk⟩
 have hlz : (bv z128).length = 128:=by rw [bv_length,z128_length]
 have hDok:=h.ok;have Hoff:=Hd ho;have hb8 : D.blocks ≤ 8191:=by unfold Dk.blocks;omega
 have h32b : 32 ≤ D.n:=by omega
 clear h hj0 hb0 ho h32;go_enter Tryz.func34,Tryz.ntmps34;go_wp2_with fail;refine HS.out.mono ?_;rintro e w1 ⟨rfl,rfl⟩;go_upto_region 7 with (refine wpList_alloc_marks rfl rfl ?_);rw [← hW0];clear hW0;generalize hpp : w.heap.size = p at *;have Hpp:=Hd hpp
 clear hpp;go_wp2_with fail;go_loopw [6,27] (fun r i wr=>∃ k : Nat,k ≤ 2∧i = .int .i64 (k : Int)∧r = .int .i64 ((mkCount D k : Nat) : Int)∧OpAt w wr F p (p + 2) ⟨D,0,0,0⟩∧RowB wr (p + 1) 132 (mkAt D k 0 ++ mkAt D k 1)) (fun _ i _=>2 - (intOf i).toNat)
 case atStart=>exact ⟨0,by omega,rfl,rfl,hop0,by simpa [mkAt] using hr0⟩
 case round =>
  obtain ⟨k,hk,rfl,rfl,hop,hrw⟩:=hrel;clear hop0 hr0;by_cases hlt : k < 2
  ·have hl : (sec D.now k).length = 128:=sec_length hDok.now (by omega)
   have ht:=take_any wr F p _ hop.jat hop.nib k 1 (by show k < D.n;omega) (by omega)
   rw [show (⟨D,0,0,0⟩ : Jn).D.take k 1 = (sec D.now k,(fright (sec D.now k) && decide (fkind (sec D.now k) = 1)),0) by rw [Dk.take,if_neg (by simp [Hoff.out])]] at ht
   have HT:=Hd ht;have Hmk : Hid (D.markOk k = ((fright (sec D.now k) && decide (fkind (sec D.now k) = 1)) && decide (fwrite (sec D.now k) % 2 = k) && decide (fplace (sec D.now k) ≤ D.blocks))):=Hd rfl;have Hst : Hid (D.markOk k = true → layB (mkAt D k 0 ++ mkAt D k 1) (k * 128) (sec D.now k) = mkAt D (k + 1) 0 ++ mkAt D (k + 1) 1∧mkCount D (k + 1) = mkCount D k + 1):=Hd (mkAt_step hDok (by omega) k hlt);have Hsk : Hid (D.markOk k = false → mkAt D (k + 1) 0 ++ mkAt D (k + 1) 1 = mkAt D k 0 ++ mkAt D k 1∧mkCount D (k + 1) = mkCount D k):=Hd (mkAt_skip k hlt);have hml : (mkAt D k 0 ++ mkAt D k 1).length = 256:=by rw [List.length_append,mkAt_length hDok (by omega) k 0 (by omega),mkAt_length hDok (by omega) k 1 (by omega)]
   have hcnt : mkCount D k ≤ 2:=by unfold mkCount;split <;> split <;> omega
   have hd2 : decide ((k : Int) < 2) = true:=by simp;omega
   clear ht;generalize sec D.now k = L at *;generalize mkAt D k 0 ++ mkAt D k 1 = M at *;generalize mkCount D k = c at *;have hlb : (bv L).length = 128:=by rw [bv_length,hl]
   generalize hok : (fright L && decide (fkind L = 1)) = ok1 at *;clear hok;go_wp2_with fail;refine HT.out.mono ?_;rintro e w2 ⟨rfl,hb2⟩;have hop2:=hop.step hb2
   have hrw2:=hrw.below hb2;clear hop hrw hb2 HT;go_upto_region 14 with (first | (refine wpList_alloc_frame rfl rfl ?_) | (refine wpList_store_last 128 (.tmp 8) (.tmp 34) rfl _ (bv L).toArray rfl rfl rfl (by rw [info_frame,List.size_toArray,hlb]) (by rw [List.size_toArray,List.size_toArray,hlz,hlb]) (all_oneCell_toArray (bv_oneCell L)) ?_));have hb3 : Below w2.heap.size w2 (w2.alloc (.cells (bv L).toArray 128)):=(Below.refl _ _).alloc (Nat.le_refl _) _;have hop3:=hop2.step hb3;have hrw3:=hrw2.below hb3;have hr3:=RowB.alloc w2 128 L;clear hop2 hrw2 hb3;generalize w2.alloc (.cells (bv L).toArray 128) = w3 at *;generalize w2.heap.size = g8 at *
   cases ok1 with
   | false =>
    obtain ⟨e1,e2⟩:=Hsk.out (by rw [Hmk.out];rfl);have E1:=Hd e1
    have E2:=Hd e2;clear e1 e2;go_wp2_with fail;go_roundw
    case rel=>exact ⟨k + 1,by omega,by go_num,by rw [E2.out],hop3,by rw [E1.out];exact hrw3⟩
    case measure=>simp [intOf];omega
   | true =>
    have hrg:=hr3.range;have hkw : IntKind.u64.wrap (k : Int) = (k : Int):=by rw [wrap_u64_nat,Nat.mod_eq_of_lt (by omega)]
    go_wp2_with (refine wpList_load_open (by rfl) 128 (.tmp 8) rfl g8 0 rfl (bv L) _ hrg Tryz.underlying128 rfl (by rw [info_frame,hlb]) ?_);refine (fwrite_any w3 L hl).mono ?_;rintro e w4 ⟨rfl,hb4⟩;have hop4:=hop3.step hb4
    have hrw4:=hrw3.below hb4;have hr4:=hr3.below hb4;have hrg4:=hr4.range;clear hop3 hrw3 hr3 hrg hb4;have hm2:=mod2_walk (fwrite L) k hlt;have hm3:=mod2_walk2 (fwrite L) k hlt;have hbl0:=blocks_n0 D;by_cases hw2 : fwrite L % 2 = k
    case neg =>
     rw [decide_eq_false hw2] at hm2 hm3;obtain ⟨e1,e2⟩:=Hsk.out (by rw [Hmk.out,decide_eq_false hw2];rfl);have E1:=Hd e1
     have E2:=Hd e2;clear e1 e2 hw2;go_wp2_with fail;go_roundw
     case rel=>exact ⟨k + 1,by omega,by go_num,by rw [E2.out],hop4,by rw [E1.out];exact hrw4⟩
     case measure=>simp [intOf];omega
    rw [decide_eq_true hw2] at hm2 hm3;have Hw2:=Hd hw2
    clear hw2;go_wp2_with (refine wpList_load_open (by rfl) 128 (.tmp 8) rfl g8 0 rfl (bv L) _ hrg4 Tryz.underlying128 rfl (by rw [info_frame,hlb]) ?_);refine (fplace_any w4 L hl).mono ?_;rintro e w5 ⟨rfl,hb5⟩;have hop5:=hop4.step hb5
    have hrw5:=hrw4.below hb5;have hr5:=hr4.below hb5;have hrg5:=hr5.range;clear hop4 hrw4 hr4 hrg4 hb5;have hpl:=fplace_lt L;go_wp2_with fail;refine (blocks_any w5 F p _ hop5.jat (by show 2 ≤ D.n;omega)).mono ?_
    rintro e w6 ⟨rfl,rfl⟩;by_cases hp2 : fplace L ≤ D.blocks
    case neg =>
     have hd5 : decide (((fplace L : Nat) : Int) ≤ (D.blocks : Int)) = false:=by simp;omega
     have hd6 : decide (fplace L ≤ D.blocks) = false:=decide_eq_false hp2;obtain ⟨e1,e2⟩:=Hsk.out (by rw [Hmk.out,decide_eq_false hp2,Bool.and_false]);have E1:=Hd e1;have E2:=Hd e2;clear e1 e2 hp2;go_wp2_with fail;go_roundw
     case rel=>exact ⟨k + 1,by omega,by go_num,by rw [E2.out],hop5,by rw [E1.out];exact hrw5⟩
     case measure=>simp [intOf];omega
    have hd5 : decide (((fplace L : Nat) : Int) ≤ (D.blocks : Int)) = true:=by simp;omega
    have hd6 : decide (fplace L ≤ D.blocks) = true:=decide_eq_true hp2;obtain ⟨e1,e2⟩:=Hst.out (by rw [Hmk.out,decide_eq_true Hw2.out,decide_eq_true hp2];rfl);have E1:=Hd e1;have E2:=Hd e2;have hst:=hrw5.run_store_at (k * 128) (l:=L) (by rw [hml,hl];omega);have hrw7:=hrw5.lay (k * 128) L (by rw [hml,hl];omega);have hop7:=hop5.own (T:=(· = p + 1)) (fun g hg=>by have:=Hpp.out;omega) (turned_cells w5 (p + 1) (k * 128) (bv L));rw [e1] at hrw7;clear e1 e2 hp2 hop5 hrw5 hr5;generalize w5.setCells (p + 1) (k * 128) (bv L) = w7 at *;rw [← Hpp.out] at hst;go_wp2_with (refine wpList_load_mid rfl 128 (.tmp 8) rfl g8 0 rfl (bv L) _ hrg5 Tryz.underlying128 rfl (by rw [info_frame,hlb]) ?_);go_roundw
    case rel=>exact ⟨k + 1,by omega,by go_num,by rw [E2.out];first | rfl | go_num,hop7,hrw7⟩
    case measure=>simp [intOf];omega
  ·obtain rfl : k = 2:=by omega
   clear hlt hk;by_cases hm0 : D.markOk 0 = true
   case neg =>
    by_cases hm1 : D.markOk 1 = true
    case neg =>
     have hc : ((mkCount D 2 : Nat) : Int) = 0:=by simp [mkCount,hm0,hm1]
     have he : D.openJ = (60,⟨D,0,0,0⟩):=by rw [Dk.openJ,if_neg (by omega),if_neg (by simp [Hoff.out]),if_pos ⟨by simpa using hm0,by simpa using hm1⟩]
     have HE:=Hd he;rw [hc];clear he hc hm0 hm1 hrw;go_wp2_with fail;go_ret2;exact OpenEnd.bad HE.out (by decide) HD.out hop.below
    have hc : ((mkCount D 2 : Nat) : Int) = 1:=by simp [mkCount,hm0,hm1]
    have he : D.openJ = (62,⟨D,0,0,0⟩):=by rw [Dk.openJ,if_neg (by omega),if_neg (by simp [Hoff.out]),if_neg (by simp [hm1]),if_pos (.inl (by simpa using hm0))]
    have HE:=Hd he;rw [hc];clear he hc hm0 hm1 hrw;go_wp2_with fail;go_ret2;exact OpenEnd.bad HE.out (by decide) HD.out hop.below
   by_cases hm1 : D.markOk 1 = true
   case neg =>
    have hc : ((mkCount D 2 : Nat) : Int) = 1:=by simp [mkCount,hm0,hm1]
    have he : D.openJ = (62,⟨D,0,0,0⟩):=by rw [Dk.openJ,if_neg (by omega),if_neg (by simp [Hoff.out]),if_neg (by simp [hm0]),if_pos (.inr (by simpa using hm1))]
    have HE:=Hd he;rw [hc];clear he hc hm0 hm1 hrw;go_wp2_with fail;go_ret2;exact OpenEnd.bad HE.out (by decide) HD.out hop.below
   have hc : ((mkCount D 2 : Nat) : Int) = 2:=by simp [mkCount,hm0,hm1]
   have e0 : mkAt D 2 0 = sec D.now 0:=by simp [mkAt,hm0]
   have e1 : mkAt D 2 1 = sec D.now 1:=by simp [mkAt,hm1]
   rw [hc];rw [e0,e1] at hrw;have Hm0:=Hd hm0
   have Hm1:=Hd hm1;have hl0 : (sec D.now 0).length = 128:=sec_length hDok.now (by omega);have hl1 : (sec D.now 1).length = 128:=sec_length hDok.now (by omega);have Hmk : Hid (D.mark = if fwrite (sec D.now 0) < fwrite (sec D.now 1) then sec D.now 1 else sec D.now 0):=Hd rfl
   rw [Hpp.out];clear hc e0 e1 hm0 hm1;generalize sec D.now 0 = L0 at *;generalize sec D.now 1 = L1 at *;have hb0 : (bv L0).length = 128:=by rw [bv_length,hl0]
   have hb1 : (bv L1).length = 128:=by rw [bv_length,hl1]
   have hM : (L0 ++ L1).length = 256:=by rw [List.length_append,hl0,hl1]
   have HR0 : Hid (∀ W,RowB W (p + 1) 132 (L0 ++ L1) → W.rangeAt (p + 1) 0 (bv L0)):=Hd (fun W h=>by
    have:=h.range_at 0 128 (by omega)
    rwa [List.drop_zero,List.take_left' hl0] at this)
   have HR1 : Hid (∀ W,RowB W (p + 1) 132 (L0 ++ L1) → W.rangeAt (p + 1) 128 (bv L1)):=Hd (fun W h=>by
    have:=h.range_at 128 128 (by omega)
    rwa [List.drop_left' hl0,List.take_of_length_le (by omega)] at this)
   have hrg:=HR0.out _ hrw;go_upto_region 24 with (first | (refine wpList_alloc_frame rfl rfl ?_) | (refine wpList_load_mid rfl 128 (.tmp 67) rfl (p + 1) 0 rfl (bv L0) _ hrg Tryz.underlying128 rfl (by rw [info_frame,hb0]) ?_) | (refine wpList_store_last 128 (.tmp 11) (.tmp 68) rfl _ (bv L0).toArray rfl rfl rfl (by rw [info_frame,List.size_toArray,hb0]) (by rw [List.size_toArray,List.size_toArray,hb0,hlz]) (all_oneCell_toArray (bv_oneCell L0)) ?_));have hb3 : Below wr.heap.size wr (wr.alloc (.cells (bv L0).toArray 128)):=(Below.refl _ _).alloc (Nat.le_refl _) _;have hj3:=(hop.step hb3).step (Below.refl _ _).drew;have hr3:=RowB.alloc wr 128 L0;have hS0 : (fun W=>RowB W (p + 1) 132 (L0 ++ L1)∧RowB W wr.heap.size 128 L0) (wr.alloc (.cells (bv L0).toArray 128)).drew:=⟨hrw.below hb3.drew,hr3⟩;have hgp : p + 2 ≤ wr.heap.size:=hop.base;have hgb : wr.heap.size < (wr.alloc (.cells (bv L0).toArray 128)).drew.heap.size:=hr3.lt;clear hop hrw hrg hb3 hr3;generalize wr.alloc (.cells (bv L0).toArray 128) = w3 at *;generalize wr.heap.size = g at *;refine wp_region_noPanic ?_;refine wp_region_held_drew (S:=(fun W=>RowB W (p + 1) 132 (L0 ++ L1)∧RowB W g 128 L0)) (by kernel_rfl) hS0 (fun hH=>?_);refine tkA 0 rfl (v:=?_) (.inl ⟨by rfl,?_⟩) hH ?_;rotate_left
   ·(intro w hSw;skip;go_simp;try with_reducible rfl)
   try simp only [Act.put,zA,zB,zC]
   refine take_at (i:=1) (v:=.agg (bv L1).toArray) rfl (by kernel_rfl) (by kernel_rfl) (by kernel_rfl) (fun _ _ _ h=>h) (yieldsIf_load_mid rfl 128 (.tmp 69) rfl (p + 1) 128 rfl (bv L1) _ (fun W hW=>HR1.out W hW.1) Tryz.underlying128 rfl (by rw [info_frame,hb1])) hH ?_;try simp only [Act.put,zA,zB,zC]
   refine take_at (i:=3) (v:=.agg (bv L0).toArray) rfl (by kernel_rfl) (by kernel_rfl) (by kernel_rfl) (fun _ _ _ h=>h) (yieldsIf_load_mid rfl 128 (.tmp 11) rfl g 0 rfl (bv L0) _ (fun W hW=>RowB.range hW.2) Tryz.underlying128 rfl (by rw [info_frame,hb0])) hH ?_;try simp only [Act.put,zA,zB,zC]
   refine wpAnyH_ready (rs:=[2]) (by kernel_rfl) (by simp) ?_;refine ready_at rfl (fun K hK=>?_) AllReadyH.nil;go_simp;refine (fwrite_any _ L1 hl1).mono ?_;rintro e W5 ⟨rfl,hb⟩;have hHn:=show (fun W=>RowB W (p + 1) 132 (L0 ++ L1)∧RowB W g 128 L0) _ from ⟨RowB.below hH.1 hb,RowB.below hH.2 hb⟩
   replace hj3:=hj3.step hb;replace hgb:=Nat.lt_of_lt_of_le hgb hb.size;clear hb hH;go_wp2_with fail;refine hK.out _ _ hHn (fun hH=>?_);clear hHn;clear hK K;try simp only [Act.put,zA,zB,zC]
   refine wpAnyH_ready (rs:=[4]) (by kernel_rfl) (by simp) ?_;refine ready_at rfl (fun K hK=>?_) AllReadyH.nil;go_simp;refine (fwrite_any _ L0 hl0).mono ?_;rintro e W6 ⟨rfl,hb⟩;have hHn:=show (fun W=>RowB W (p + 1) 132 (L0 ++ L1)∧RowB W g 128 L0) _ from ⟨RowB.below hH.1 hb,RowB.below hH.2 hb⟩
   replace hj3:=hj3.step hb;replace hgb:=Nat.lt_of_lt_of_le hgb hb.size;clear hb hH;go_wp2_with fail;refine hK.out _ _ hHn (fun hH=>?_);clear hHn;clear hK K;try simp only [Act.put,zA,zB,zC]
   refine tkA 5 rfl (v:=?_) (.inl ⟨by rfl,?_⟩) hH ?_;rotate_left
   ·(intro w hSw;skip;go_simp;try with_reducible rfl)
   try simp only [Act.put,zA,zB,zC]
   refine wpAnyH_done (by kernel_rfl) ?_ _;refine NoPanic.normal ?_;clear hS0;have hd7:=hlz
   have hH0:=hH.1;have hH1:=hH.2;clear hH;go_upto_if 74 with fail;go_cut [] (fun wx=>OpAt w wx F p (p + 2) ⟨D,0,0,0⟩∧RowB wx g 128 D.mark)
   case first =>
    by_cases hgt : fwrite L0 < fwrite L1
    ·have hd8 : decide (fwrite L0 < fwrite L1) = true:=decide_eq_true hgt
     have hmk : D.mark = L1:=by rw [Hmk.out,if_pos hgt]
     have HMK:=Hd hmk;have hrg:=HR1.out _ hH0;have hst:=hH1.run_store_at 0 (l:=L1) (by omega);have hH2:=hH1.lay 0 L1 (by omega);rw [layB_all (by omega)] at hH2;have hj4:=hj3.own (T:=(· = g)) (fun k hk=>by have:=Hpp.out;omega) (turned_cells W6 g 0 (bv L1));rw [hd8];clear hj3 hH0 hH1 hgt hmk hd8 hd7;generalize W6.setCells g 0 (bv L1) = w4 at *;go_wp2_with (refine wpList_load_mid rfl 128 (.tmp 75) rfl (p + 1) 128 rfl (bv L1) _ hrg Tryz.underlying128 rfl (by rw [info_frame,hb1]) ?_);go_meet;exact ⟨hj4,by rw [HMK.out];exact hH2⟩
    ·have hd8 : decide (fwrite L0 < fwrite L1) = false:=decide_eq_false hgt
     have hmk : D.mark = L0:=by rw [Hmk.out,if_neg hgt]
     rw [hd8];clear hgt hd8 hd7;go_wp2_with fail;go_meet;exact ⟨hj3,by rw [hmk];exact hH1⟩
   case rest =>
    obtain ⟨hop,hrm⟩:=hcut
    have hlm : D.mark.length = 128:=by rw [Hmk.out];split <;> assumption
    clear hj3 hH0 hH1 Hmk HR0 HR1 hM hb0 hb1 hl0 hl1 hd7 hgb;generalize hmm : D.mark = m at *;have HMm:=Hd hmm
    clear hmm;have hbm : (bv m).length = 128:=by rw [bv_length,hlm]
    have hrg:=hrm.range;go_wp2_with (refine wpList_load_mid rfl 128 (.tmp 11) rfl g 0 rfl (bv m) _ hrg Tryz.underlying128 rfl (by rw [info_frame,hbm]) ?_);refine (fwrite_any wc m hlm).mono ?_;rintro e w5 ⟨rfl,hb5⟩;have hop5:=hop.step hb5;have hrm5:=hrm.below hb5;have q1:=hop5.jat.cells.2.1;have f1:=frozen_p hop5.jat.head 1;have hop6:=hop5.put_last (fwrite m);have hrm6:=hrm5.turned (turned_one w5 p 1 (.int .u64 ((fwrite m : Nat) : Int))) (by omega);clear hop hrm hb5 hrg hop5 hrm5;go_upto_region 27 with fail;clear q1 f1;generalize w5.setCell ⟨p,1,none⟩ (.int .u64 ((fwrite m : Nat) : Int)) = w6 at *;have hrg:=hrm6.range;go_wp2_with (refine wpList_load_mid rfl 128 (.tmp 11) rfl g 0 rfl (bv m) _ hrg Tryz.underlying128 rfl (by rw [info_frame,hbm]) ?_);refine (fbytes_any w6 m hlm).mono ?_;rintro e w7 ⟨rfl,hw7⟩;have hb7 : Below w6.heap.size w6 w7:=by rw [hw7];exact (Below.refl _ _).alloc (Nat.le_refl _) _
    have hi7 : IsB w7 (.slice (some ⟨w6.heap.size,16,none⟩) 8 112) ((fbytes m).take 8):=by have:=(RowB.alloc w6 128 m).isB 16 8 112 (by omega) (by omega) (by simp [maxLen]);rw [← hw7] at this;exact this
    have hop7:=hop6.step hb7;have hrm7:=hrm6.below hb7
    have hcv : IntKind.i64.wrap ((leR ((fbytes m).take 8) : Nat) : Int) = mseq m:=wrap_toI64 (by
     have:=leR_lt ((fbytes m).take 8);rw [show ((fbytes m).take 8).length = 8 by simp [fbytes,hlm]] at this
     omega)
    have HT:=Hd (told_any w7 _ _ hi7 (by simp;omega));clear hop6 hrm6 hb7 hw7 hrg hi7;go_wp2_with fail;refine HT.out.mono ?_;rintro e w8 ⟨rfl,rfl⟩;have q2:=hop7.jat.cells.2.2.1;have f2:=frozen_p hop7.jat.head 2;have hop8:=hop7.put_seq (mseq m);have hrm8:=hrm7.turned (turned_one w7 p 2 (.int .i64 (mseq m))) (by omega);clear hop7 hrm7 HT;generalize leR ((fbytes m).take 8) = tn at *;generalize hsq : mseq m = sq at *;have Hsq:=Hd hsq;clear hsq;go_upto_region 28 with fail;clear q2 f2 hcv;generalize w7.setCell ⟨p,2,none⟩ (.int .i64 sq) = w9 at *;have hgl : g < w9.heap.size:=hrm8.lt;have hop9:=hop8.rebase (B':=g + 1) (by omega) hgl;have hmF:=MineF.nil (g + 1) w9;have HB:=blocks_any w9 F p _ hop9.jat (by show 2 ≤ D.n;omega)
    dsimp only at HB;go_wp2_with fail;refine HB.mono ?_;rintro e w10 ⟨rfl,rfl⟩;clear HB hop8;go_wp2_with fail;go_loopw [12,92] (fun x i wr=>∃ k : Nat,k ≤ D.blocks∧(∀ j,j < k → D.noteOk j = true)∧i = .int .i64 (k : Int)∧OpAt w wr F p (g + 1) ⟨D,D.lastTo m k,sq,0⟩∧RowB wr g 128 m∧MineF (g + 1) wr x (D.againTo m k)) (fun _ i _=>D.blocks - (intOf i).toNat)
    case atStart=>exact ⟨0,Nat.zero_le _,fun j hj=>by omega,rfl,hop9,hrm8,hmF⟩
    case round =>
     obtain ⟨k,hk,hall,rfl,hop,hrm,hmr⟩:=hrel;have Hall:=Hd hall
     clear hop9 hrm8 hmF hgl hall;by_cases hlt : k < D.blocks
     ·have hd9 : decide ((k : Int) < (D.blocks : Int)) = true:=by simpa using hlt
      have hkn : 2 + k < D.n:=by unfold Dk.blocks at hlt;omega
      have hl : (sec D.now (2 + k)).length = 128:=sec_length hDok.now hkn;have ht:=take_any wr F p _ hop.jat hop.nib (2 + k) 2 hkn (by omega);rw [show (⟨D,D.lastTo m k,sq,0⟩ : Jn).D.take (2 + k) 2 = (sec D.now (2 + k),(fright (sec D.now (2 + k)) && decide (fkind (sec D.now (2 + k)) = 2)),0) by rw [Dk.take,if_neg (by simp [Hoff.out])],show ((2 + k : Nat) : Int) = 2 + (k : Int) by omega] at ht
      have HT:=Hd ht;have Hno : Hid (D.noteOk k = ((fright (sec D.now (2 + k)) && decide (fkind (sec D.now (2 + k)) = 2)) && decide (fplace (sec D.now (2 + k)) < D.blocks))):=Hd rfl;have Hla : Hid (D.lastTo m (k + 1) = max (D.lastTo m k) (fwrite (sec D.now (2 + k)))):=Hd rfl;have Hag : Hid (D.againTo m (k + 1) = if k < fplace m∧fwrite (sec D.now (2 + k)) = fwrite m then D.againTo m k ++ [sec D.now (2 + k)] else D.againTo m k):=Hd rfl
      have Hbad : Hid (D.noteOk k = false → D.openJ = (62,⟨D,0,0,0⟩)):=Hd (fun h=>by rw [Dk.openJ,if_neg (by omega),if_neg (by simp [Hoff.out]),if_neg (by simp [Hm0.out]),if_neg (by simp [Hm0.out,Hm1.out]),if_pos ⟨k,hlt,h⟩])
      have Hal : Hid ((D.againTo m k).length ≤ 8191):=Hd (by
       have : ∀ j,(D.againTo m j).length ≤ j:=fun j=>by
        induction j with
        | zero=>exact Nat.le_refl _
        | succ j ih =>
         rw [Dk.againTo];split
         ·rw [List.length_append,List.length_singleton];omega
         ·omega
       have:=this k
       omega)
      clear ht hkn;generalize sec D.now (2 + k) = L at *;generalize D.lastTo m k = la at *;generalize D.againTo m k = ag at *;have hlb : (bv L).length = 128:=by rw [bv_length,hl]
      generalize hok : (fright L && decide (fkind L = 2)) = ok1 at *;clear hok;go_wp2_with fail;refine HT.out.mono ?_;rintro e w2 ⟨rfl,hb2⟩;have hop2:=hop.step hb2
      have hrm2:=hrm.below hb2;have hmr2:=hmr.below hb2;clear hop hrm hmr hb2 HT;go_upto_region 33 with (first | (refine wpList_alloc_frame rfl rfl ?_) | (refine wpList_store_last 128 (.tmp 14) (.tmp 100) rfl _ (bv L).toArray rfl rfl rfl (by rw [info_frame,List.size_toArray,hlb]) (by rw [List.size_toArray,List.size_toArray,hlz,hlb]) (all_oneCell_toArray (bv_oneCell L)) ?_));have hb3 : Below w2.heap.size w2 (w2.alloc (.cells (bv L).toArray 128)):=(Below.refl _ _).alloc (Nat.le_refl _) _;have hop3:=hop2.step hb3;have hrm3:=hrm2.below hb3;have hmr3:=hmr2.below hb3;have hr3:=RowB.alloc w2 128 L;have hg8 : g + 1 ≤ w2.heap.size:=hop2.base;clear hop2 hrm2 hmr2 hb3;generalize w2.alloc (.cells (bv L).toArray 128) = w3 at *;generalize w2.heap.size = g8 at *
      cases ok1 with
      | false =>
       have he:=Hbad.out (by rw [Hno.out];rfl);have HE:=Hd he;clear he;go_wp2_with fail;go_ret2;exact OpenEnd.bad HE.out (by decide) HD.out hop3.below
      | true =>
       have hrg:=hr3.range;go_wp2_with (refine wpList_load_open (by rfl) 128 (.tmp 14) rfl g8 0 rfl (bv L) _ hrg Tryz.underlying128 rfl (by rw [info_frame,hlb]) ?_);refine (fplace_any w3 L hl).mono ?_;rintro e w4 ⟨rfl,hb4⟩;have hop4:=hop3.step hb4;have hrm4:=hrm3.below hb4;have hmr4:=hmr3.below hb4;have hr4:=hr3.below hb4;clear hop3 hrm3 hmr3 hr3 hrg hb4;have HB:=blocks_any w4 F p _ hop4.jat (by show 2 ≤ D.n;omega)
       dsimp only at HB;have hpl:=fplace_lt L
       go_wp2_with fail;refine HB.mono ?_;rintro e w5 ⟨rfl,rfl⟩;clear HB;by_cases hp2 : fplace L < D.blocks
       case neg =>
        have he:=Hbad.out (by rw [Hno.out,decide_eq_false hp2];rfl);have HE:=Hd he;have hd5 : decide ((D.blocks : Int) ≤ ((fplace L : Nat) : Int)) = true:=by simp;omega
        have hd6 : decide (D.blocks ≤ fplace L) = true:=decide_eq_true (by omega);clear he hp2;go_wp2_with fail;go_ret2;exact OpenEnd.bad HE.out (by decide) HD.out hop4.below
       have hd5 : decide ((D.blocks : Int) ≤ ((fplace L : Nat) : Int)) = false:=by simp;omega
       have hd6 : decide (D.blocks ≤ fplace L) = false:=decide_eq_false (by omega);have hnk : D.noteOk k = true:=by rw [Hno.out,decide_eq_true hp2];rfl
       have Hnk:=Hd hnk;clear hnk hp2;go_upto_region 37 with fail;have hj3:=hop4.step (Below.refl _ _).drew;have hm3:=hmr4.drew;have ho3 : RowB w4.drew g 128 m:=hrm4.below (Below.refl _ w4).drew;have hS0 : (fun W=>RowB W g8 128 L) w4.drew:=hr4.below (Below.refl _ w4).drew;clear hop4 hrm4 hmr4 hr4;refine wp_region_noPanic ?_;refine wp_region_held_drew (S:=(fun W=>RowB W g8 128 L)) (by kernel_rfl) hS0 (fun hH=>?_);refine tkA 0 rfl (v:=?_) (.inl ⟨by rfl,?_⟩) hH ?_;rotate_left
       ·(intro w hSw;skip;go_simp;try with_reducible rfl)
       try simp only [Act.put,zA,zB,zC]
       refine tkA 1 rfl (v:=?_) (.inl ⟨by rfl,?_⟩) hH ?_;rotate_left
       ·(intro w hSw;skip;go_simp;try with_reducible rfl)
       try simp only [Act.put,zA,zB,zC]
       refine tkA 2 rfl (v:=?_) (.inl ⟨by rfl,?_⟩) hH ?_;rotate_left
       ·(intro w hSw;skip;go_simp;try with_reducible rfl)
       try simp only [Act.put,zA,zB,zC]
       refine tkA 3 rfl (v:=?_) (.inl ⟨by rfl,?_⟩) hH ?_;rotate_left
       ·(intro w hSw;skip;go_simp;try with_reducible rfl)
       try simp only [Act.put,zA,zB,zC]
       refine take_at (i:=5) (v:=.agg (bv L).toArray) rfl (by kernel_rfl) (by kernel_rfl) (by kernel_rfl) (fun _ _ _ h=>h) (yieldsIf_load_mid rfl 128 (.tmp 14) rfl g8 0 rfl (bv L) _ (fun W hW=>RowB.range hW) Tryz.underlying128 rfl (by rw [info_frame,hlb])) hH ?_;try simp only [Act.put,zA,zB,zC]
       refine wpAnyH_ready (rs:=[4,6]) (by kernel_rfl) (by simp) ?_;refine ready_at rfl (fun K hK=>?_) ?_
       ·have q1:=hj3.jat.cells.2.1
        dsimp only at q1;go_simp;refine hK.out _ _ hH (fun _=>?_);clear q1;clear hK K;try simp only [Act.put,zA,zB,zC]
        refine wpAnyH_ready (rs:=[6]) (by kernel_rfl) (by simp) ?_;refine ready_at rfl (fun K hK=>?_) AllReadyH.nil;go_simp;refine (fwrite_any _ L hl).mono ?_;rintro e W5 ⟨rfl,hb⟩;have hHn:=RowB.below hH hb
        replace hj3:=hj3.step hb;replace hm3:=hm3.below hb;replace ho3:=ho3.below hb;clear hb hH;go_wp2_with fail;refine hK.out _ _ hHn (fun hH=>?_);clear hHn;clear hK K;try simp only [Act.put,zA,zB,zC]
        refine wpAnyH_ready (rs:=[7]) (by kernel_rfl) (by simp) ?_;refine ready_at rfl (fun K hK=>?_) AllReadyH.nil;go_simp;refine hK.out _ _ hH (fun _=>?_);clear hK K;try simp only [Act.put,zA,zB,zC]
        refine tkA 8 rfl (v:=?_) (.inl ⟨by rfl,?_⟩) hH ?_;rotate_left
        ·(intro w hSw;skip;go_simp;try with_reducible rfl)
        try simp only [Act.put,zA,zB,zC]
        refine tkA 9 rfl (v:=?_) (.inl ⟨by rfl,?_⟩) hH ?_;rotate_left
        ·(intro w hSw;skip;go_simp;try with_reducible rfl)
        try simp only [Act.put,zA,zB,zC]
        refine wpAnyH_ready (rs:=[10]) (by kernel_rfl) (by simp) ?_;refine ready_at rfl (fun K hK=>?_) AllReadyH.nil;have q1:=hj3.jat.cells.2.1
        have f1:=frozen_p hj3.jat.head 1;go_simp
        have hmx : (if la < fwrite L then ((fwrite L : Nat) : Int) else (la : Int)) = ((max la (fwrite L) : Nat) : Int):=by split <;> omega
        rw [hmx];have hHn : RowB (W5.setCell ⟨p,1,none⟩ (.int .u64 ((max la (fwrite L) : Nat) : Int))) g8 128 L:=RowB.turned hH (turned_one W5 p 1 _) (by omega)
        have hop6:=hj3.put_last (max la (fwrite L));have hm6:=hm3.turned (turned_one W5 p 1 (.int .u64 ((max la (fwrite L) : Nat) : Int))) (fun k hk=>by omega);have ho6:=ho3.turned (turned_one W5 p 1 (.int .u64 ((max la (fwrite L) : Nat) : Int))) (by omega);clear hj3 hm3 ho3 q1 f1 hmx hH;generalize W5.setCell ⟨p,1,none⟩ (.int .u64 ((max la (fwrite L) : Nat) : Int)) = W6 at *;refine hK.out _ _ hHn (fun hH=>?_);clear hHn;clear hK K;try simp only [Act.put,zA,zB,zC]
        refine wpAnyH_done (by kernel_rfl) ?_ _;refine NoPanic.normal ?_;have hr6:=hH
        clear hH;by_cases hkm : k < fplace m
        ·have hd10 : decide ((k : Int) < ((fplace m : Nat) : Int)) = true:=by simpa using hkm
         have hd11 : decide (k < fplace m) = true:=decide_eq_true hkm;have Hkm:=Hd hkm;by_cases hww : fwrite L = fwrite m
         ·have hq1 : (((fwrite L : Nat) : Int) == ((fwrite m : Nat) : Int)) = true:=by rw [beq_iff_eq];omega
          have hq2 : (fwrite L == fwrite m) = true:=by simpa using hww
          have hq3 : decide (fwrite L = fwrite m) = true:=decide_eq_true hww;have Hww:=Hd hww;clear hww hkm;go_upto_region 38 with fail;replace hop6:=hop6.step (Below.refl _ _).drew;replace hm6:=hm6.drew;have hS1 : (fun W=>RowB W g8 128 L∧RowB W g 128 m) W6.drew:=⟨hr6.below (Below.refl _ W6).drew,ho6.below (Below.refl _ W6).drew⟩;clear hr6 ho6;refine wp_region_noPanic ?_;refine wp_region_held_drew (S:=(fun W=>RowB W g8 128 L∧RowB W g 128 m)) (by kernel_rfl) hS1 (fun hH=>?_);refine tkA 0 rfl (v:=?_) (.inl ⟨by rfl,?_⟩) hH ?_;rotate_left
          ·(intro w hSw;skip;go_simp;try with_reducible rfl)
          try simp only [Act.put,zA,zB,zC]
          refine take_at (i:=1) (v:=.agg (bv m).toArray) rfl (by kernel_rfl) (by kernel_rfl) (by kernel_rfl) (fun _ _ _ h=>h) (yieldsIf_load_mid rfl 128 (.tmp 11) rfl g 0 rfl (bv m) _ (fun W hW=>RowB.range hW.2) Tryz.underlying128 rfl (by rw [info_frame,hbm])) hH ?_;try simp only [Act.put,zA,zB,zC]
          refine wpAnyH_ready (rs:=[2]) (by kernel_rfl) (by simp) ?_;refine ready_at rfl (fun K hK=>?_) AllReadyH.nil;go_simp;refine (fplace_any _ m hlm).mono ?_;rintro e W7 ⟨rfl,hb⟩;have hHn:=show (fun W=>RowB W g8 128 L∧RowB W g 128 m) _ from ⟨RowB.below hH.1 hb,RowB.below hH.2 hb⟩
          replace hop6:=hop6.step hb;replace hm6:=hm6.below hb;clear hb hH;go_wp2_with fail;refine hK.out _ _ hHn (fun hH=>?_);clear hHn;clear hK K;try simp only [Act.put,zA,zB,zC]
          refine tkA 3 rfl (v:=?_) (.inl ⟨by rfl,?_⟩) hH ?_;rotate_left
          ·(intro w hSw;skip;go_simp;try with_reducible rfl)
          try simp only [Act.put,zA,zB,zC]
          refine tkA 4 rfl (v:=?_) (.inl ⟨by rfl,?_⟩) hH ?_;rotate_left
          ·(intro w hSw;skip;go_simp;try with_reducible rfl)
          try simp only [Act.put,zA,zB,zC]
          refine take_at (i:=5) (v:=.agg (bv L).toArray) rfl (by kernel_rfl) (by kernel_rfl) (by kernel_rfl) (fun _ _ _ h=>h) (yieldsIf_load_mid rfl 128 (.tmp 14) rfl g8 0 rfl (bv L) _ (fun W hW=>RowB.range hW.1) Tryz.underlying128 rfl (by rw [info_frame,hlb])) hH ?_;try simp only [Act.put,zA,zB,zC]
          refine take_at (i:=7) (v:=.agg (bv m).toArray) rfl (by kernel_rfl) (by kernel_rfl) (by kernel_rfl) (fun _ _ _ h=>h) (yieldsIf_load_mid rfl 128 (.tmp 11) rfl g 0 rfl (bv m) _ (fun W hW=>RowB.range hW.2) Tryz.underlying128 rfl (by rw [info_frame,hbm])) hH ?_;try simp only [Act.put,zA,zB,zC]
          refine wpAnyH_ready (rs:=[6]) (by kernel_rfl) (by simp) ?_;refine ready_at rfl (fun K hK=>?_) AllReadyH.nil;go_simp;refine (fwrite_any _ L hl).mono ?_;rintro e W8 ⟨rfl,hb⟩;have hHn:=show (fun W=>RowB W g8 128 L∧RowB W g 128 m) _ from ⟨RowB.below hH.1 hb,RowB.below hH.2 hb⟩
          replace hop6:=hop6.step hb;replace hm6:=hm6.below hb;clear hb hH;go_wp2_with fail;refine hK.out _ _ hHn (fun hH=>?_);clear hHn;clear hK K;try simp only [Act.put,zA,zB,zC]
          refine wpAnyH_ready (rs:=[8]) (by kernel_rfl) (by simp) ?_;refine ready_at rfl (fun K hK=>?_) AllReadyH.nil;go_simp;refine (fwrite_any _ m hlm).mono ?_;rintro e W9 ⟨rfl,hb⟩;have hHn:=show (fun W=>RowB W g8 128 L∧RowB W g 128 m) _ from ⟨RowB.below hH.1 hb,RowB.below hH.2 hb⟩
          replace hop6:=hop6.step hb;replace hm6:=hm6.below hb;clear hb hH;go_wp2_with fail;refine hK.out _ _ hHn (fun hH=>?_);clear hHn;clear hK K;try simp only [Act.put,zA,zB,zC]
          refine tkA 9 rfl (v:=?_) (.inl ⟨by rfl,?_⟩) hH ?_;rotate_left
          ·(intro w hSw;skip;go_simp;try with_reducible rfl)
          try simp only [Act.put,zA,zB,zC]
          refine tkA 10 rfl (v:=?_) (.inl ⟨by rfl,?_⟩) hH ?_;rotate_left
          ·(intro w hSw;skip;go_simp;try with_reducible rfl)
          try simp only [Act.put,zA,zB,zC]
          refine wpAnyH_done (by kernel_rfl) ?_ _;refine NoPanic.normal ?_;have hr6:=hH.1
          have ho6:=hH.2;clear hH;have hrg:=hr6.range;have hb9 : Below W9.heap.size W9 (W9.alloc (.cells (bv L).toArray 128)):=(Below.refl _ _).alloc (Nat.le_refl _) _;have hop9:=hop6.step hb9;have hm9:=hm6.below hb9;have ho9:=ho6.below hb9;have hr9:=RowB.alloc W9 128 L;obtain ⟨v11,W11,hr11,hm11,ht11⟩:=hm9.snoc hop9.base (by have:=Hal.out;omega) L hl W9.heap.size hr9;have hop11:=hop9.own (T:=fun j=>g + 1 ≤ j) (fun j hj=>by have:=Hpp.out;omega) ht11;have ho11:=ho9.turned ht11 (by omega);clear hop6 hm6 ho6 hb9 hop9 hm9 ho9 hr9 ht11;go_wp2_with (first | (refine wpList_load_mid rfl 128 (.tmp 14) rfl g8 0 rfl (bv L) _ hrg Tryz.underlying128 rfl (by rw [info_frame,hlb]) ?_) | (refine wpList_build_one rfl (.tmp 139) rfl L hl rfl ?_) | (refine wpList_append_run rfl (.tmp 138) (.tmp 140) 137 137 rfl _ _ _ rfl rfl hr11 ?_));have hop6:=hop11;have ho6:=ho11;have hm6:=hm11;go_roundw
          case rel=>exact ⟨k + 1,by omega,fun j hj=>by
                   by_cases e : j = k
                   ·rw [e];exact Hnk.out
                   ·exact Hall.out j (by omega),by go_num,by rw [Hla.out];exact hop6,ho6,by rw [Hag.out,if_pos ⟨Hkm.out,Hww.out⟩];exact hm6⟩
          case measure=>simp [intOf];omega
         ·have hq1 : (((fwrite L : Nat) : Int) == ((fwrite m : Nat) : Int)) = false:=by rw [beq_eq_false_iff_ne];omega
          have hq2 : (fwrite L == fwrite m) = false:=by simpa using hww
          have hq3 : decide (fwrite L = fwrite m) = false:=decide_eq_false hww;have Hww:=Hd hww;clear hww hkm;go_upto_region 38 with fail;replace hop6:=hop6.step (Below.refl _ _).drew;replace hm6:=hm6.drew;have hS1 : (fun W=>RowB W g8 128 L∧RowB W g 128 m) W6.drew:=⟨hr6.below (Below.refl _ W6).drew,ho6.below (Below.refl _ W6).drew⟩;clear hr6 ho6;refine wp_region_noPanic ?_;refine wp_region_held_drew (S:=(fun W=>RowB W g8 128 L∧RowB W g 128 m)) (by kernel_rfl) hS1 (fun hH=>?_);refine tkA 0 rfl (v:=?_) (.inl ⟨by rfl,?_⟩) hH ?_;rotate_left
          ·(intro w hSw;skip;go_simp;try with_reducible rfl)
          try simp only [Act.put,zA,zB,zC]
          refine take_at (i:=1) (v:=.agg (bv m).toArray) rfl (by kernel_rfl) (by kernel_rfl) (by kernel_rfl) (fun _ _ _ h=>h) (yieldsIf_load_mid rfl 128 (.tmp 11) rfl g 0 rfl (bv m) _ (fun W hW=>RowB.range hW.2) Tryz.underlying128 rfl (by rw [info_frame,hbm])) hH ?_;try simp only [Act.put,zA,zB,zC]
          refine wpAnyH_ready (rs:=[2]) (by kernel_rfl) (by simp) ?_;refine ready_at rfl (fun K hK=>?_) AllReadyH.nil;go_simp;refine (fplace_any _ m hlm).mono ?_;rintro e W7 ⟨rfl,hb⟩;have hHn:=show (fun W=>RowB W g8 128 L∧RowB W g 128 m) _ from ⟨RowB.below hH.1 hb,RowB.below hH.2 hb⟩
          replace hop6:=hop6.step hb;replace hm6:=hm6.below hb;clear hb hH;go_wp2_with fail;refine hK.out _ _ hHn (fun hH=>?_);clear hHn;clear hK K;try simp only [Act.put,zA,zB,zC]
          refine tkA 3 rfl (v:=?_) (.inl ⟨by rfl,?_⟩) hH ?_;rotate_left
          ·(intro w hSw;skip;go_simp;try with_reducible rfl)
          try simp only [Act.put,zA,zB,zC]
          refine tkA 4 rfl (v:=?_) (.inl ⟨by rfl,?_⟩) hH ?_;rotate_left
          ·(intro w hSw;skip;go_simp;try with_reducible rfl)
          try simp only [Act.put,zA,zB,zC]
          refine take_at (i:=5) (v:=.agg (bv L).toArray) rfl (by kernel_rfl) (by kernel_rfl) (by kernel_rfl) (fun _ _ _ h=>h) (yieldsIf_load_mid rfl 128 (.tmp 14) rfl g8 0 rfl (bv L) _ (fun W hW=>RowB.range hW.1) Tryz.underlying128 rfl (by rw [info_frame,hlb])) hH ?_;try simp only [Act.put,zA,zB,zC]
          refine take_at (i:=7) (v:=.agg (bv m).toArray) rfl (by kernel_rfl) (by kernel_rfl) (by kernel_rfl) (fun _ _ _ h=>h) (yieldsIf_load_mid rfl 128 (.tmp 11) rfl g 0 rfl (bv m) _ (fun W hW=>RowB.range hW.2) Tryz.underlying128 rfl (by rw [info_frame,hbm])) hH ?_;try simp only [Act.put,zA,zB,zC]
          refine wpAnyH_ready (rs:=[6]) (by kernel_rfl) (by simp) ?_;refine ready_at rfl (fun K hK=>?_) AllReadyH.nil;go_simp;refine (fwrite_any _ L hl).mono ?_;rintro e W8 ⟨rfl,hb⟩;have hHn:=show (fun W=>RowB W g8 128 L∧RowB W g 128 m) _ from ⟨RowB.below hH.1 hb,RowB.below hH.2 hb⟩
          replace hop6:=hop6.step hb;replace hm6:=hm6.below hb;clear hb hH;go_wp2_with fail;refine hK.out _ _ hHn (fun hH=>?_);clear hHn;clear hK K;try simp only [Act.put,zA,zB,zC]
          refine wpAnyH_ready (rs:=[8]) (by kernel_rfl) (by simp) ?_;refine ready_at rfl (fun K hK=>?_) AllReadyH.nil;go_simp;refine (fwrite_any _ m hlm).mono ?_;rintro e W9 ⟨rfl,hb⟩;have hHn:=show (fun W=>RowB W g8 128 L∧RowB W g 128 m) _ from ⟨RowB.below hH.1 hb,RowB.below hH.2 hb⟩
          replace hop6:=hop6.step hb;replace hm6:=hm6.below hb;clear hb hH;go_wp2_with fail;refine hK.out _ _ hHn (fun hH=>?_);clear hHn;clear hK K;try simp only [Act.put,zA,zB,zC]
          refine tkA 9 rfl (v:=?_) (.inl ⟨by rfl,?_⟩) hH ?_;rotate_left
          ·(intro w hSw;skip;go_simp;try with_reducible rfl)
          try simp only [Act.put,zA,zB,zC]
          refine tkA 10 rfl (v:=?_) (.inl ⟨by rfl,?_⟩) hH ?_;rotate_left
          ·(intro w hSw;skip;go_simp;try with_reducible rfl)
          try simp only [Act.put,zA,zB,zC]
          refine wpAnyH_done (by kernel_rfl) ?_ _;refine NoPanic.normal ?_;have ho6:=hH.2
          clear hH;go_wp2_with fail;go_roundw
          case rel=>exact ⟨k + 1,by omega,fun j hj=>by
                   by_cases e : j = k
                   ·rw [e];exact Hnk.out
                   ·exact Hall.out j (by omega),by go_num,by rw [Hla.out];exact hop6,ho6,by rw [Hag.out,if_neg (fun h=>Hww.out h.2)];exact hm6⟩
          case measure=>simp [intOf];omega
        ·have hd10 : decide ((k : Int) < ((fplace m : Nat) : Int)) = false:=by simpa using hkm
         have hd11 : decide (k < fplace m) = false:=decide_eq_false hkm;have Hkm:=Hd hkm;clear hkm;go_upto_region 38 with fail;replace hop6:=hop6.step (Below.refl _ _).drew;replace hm6:=hm6.drew;have hS1 : (fun W=>RowB W g8 128 L∧RowB W g 128 m) W6.drew:=⟨hr6.below (Below.refl _ W6).drew,ho6.below (Below.refl _ W6).drew⟩;clear hr6 ho6;refine wp_region_noPanic ?_;refine wp_region_held_drew (S:=(fun W=>RowB W g8 128 L∧RowB W g 128 m)) (by kernel_rfl) hS1 (fun hH=>?_);refine tkA 0 rfl (v:=?_) (.inl ⟨by rfl,?_⟩) hH ?_;rotate_left
         ·(intro w hSw;skip;go_simp;try with_reducible rfl)
         try simp only [Act.put,zA,zB,zC]
         refine take_at (i:=1) (v:=.agg (bv m).toArray) rfl (by kernel_rfl) (by kernel_rfl) (by kernel_rfl) (fun _ _ _ h=>h) (yieldsIf_load_mid rfl 128 (.tmp 11) rfl g 0 rfl (bv m) _ (fun W hW=>RowB.range hW.2) Tryz.underlying128 rfl (by rw [info_frame,hbm])) hH ?_;try simp only [Act.put,zA,zB,zC]
         refine wpAnyH_ready (rs:=[2]) (by kernel_rfl) (by simp) ?_;refine ready_at rfl (fun K hK=>?_) AllReadyH.nil;go_simp;refine (fplace_any _ m hlm).mono ?_;rintro e W7 ⟨rfl,hb⟩;have hHn:=show (fun W=>RowB W g8 128 L∧RowB W g 128 m) _ from ⟨RowB.below hH.1 hb,RowB.below hH.2 hb⟩
         replace hop6:=hop6.step hb;replace hm6:=hm6.below hb;clear hb hH;go_wp2_with fail;refine hK.out _ _ hHn (fun hH=>?_);clear hHn;clear hK K;try simp only [Act.put,zA,zB,zC]
         refine tkA 3 rfl (v:=?_) (.inl ⟨by rfl,?_⟩) hH ?_;rotate_left
         ·(intro w hSw;skip;go_simp;try with_reducible rfl)
         try simp only [Act.put,zA,zB,zC]
         refine tkA 4 rfl (v:=?_) (.inl ⟨by rfl,?_⟩) hH ?_;rotate_left
         ·(intro w hSw;skip;go_simp;try with_reducible rfl)
         try simp only [Act.put,zA,zB,zC]
         refine tkA 5 rfl (v:=undef) (.inr ⟨by rfl,rfl⟩) hH ?_;try simp only [Act.put,zA,zB,zC]
         refine tkA 7 rfl (v:=undef) (.inr ⟨by rfl,rfl⟩) hH ?_;try simp only [Act.put,zA,zB,zC]
         refine wpAnyH_ready (rs:=[6]) (by kernel_rfl) (by simp) ?_;refine ready_at rfl (fun K hK=>?_) AllReadyH.nil;go_simp;refine hK.out _ _ hH (fun _=>?_);clear hK K;try simp only [Act.put,zA,zB,zC]
         refine wpAnyH_ready (rs:=[8]) (by kernel_rfl) (by simp) ?_;refine ready_at rfl (fun K hK=>?_) AllReadyH.nil;go_simp;refine hK.out _ _ hH (fun _=>?_);clear hK K;try simp only [Act.put,zA,zB,zC]
         refine tkA 9 rfl (v:=undef) (.inr ⟨by rfl,rfl⟩) hH ?_;try simp only [Act.put,zA,zB,zC]
         refine tkA 10 rfl (v:=?_) (.inl ⟨by rfl,?_⟩) hH ?_;rotate_left
         ·(intro w hSw;skip;go_simp;try with_reducible rfl)
         try simp only [Act.put,zA,zB,zC]
         refine wpAnyH_done (by kernel_rfl) ?_ _;refine NoPanic.normal ?_;have ho6:=hH.2
         clear hH;go_wp2_with fail;go_roundw
         case rel=>exact ⟨k + 1,by omega,fun j hj=>by
                  by_cases e : j = k
                  ·rw [e];exact Hnk.out
                  ·exact Hall.out j (by omega),by go_num,by rw [Hla.out];exact hop6,ho6,by rw [Hag.out,if_neg (fun h=>Hkm.out h.1)];exact hm6⟩
         case measure=>simp [intOf];omega
       refine ready_at rfl (fun K hK=>?_) ?_
       ·go_simp
        refine (fwrite_any _ L hl).mono ?_;rintro e W5 ⟨rfl,hb⟩;have hHn:=RowB.below hH hb
        replace hj3:=hj3.step hb;replace hm3:=hm3.below hb;replace ho3:=ho3.below hb;clear hb hH;go_wp2_with fail;refine hK.out _ _ hHn (fun hH=>?_);clear hHn;clear hK K;try simp only [Act.put,zA,zB,zC]
        refine wpAnyH_ready (rs:=[4]) (by kernel_rfl) (by simp) ?_;refine ready_at rfl (fun K hK=>?_) AllReadyH.nil;have q1:=hj3.jat.cells.2.1
        dsimp only at q1;go_simp;refine hK.out _ _ hH (fun _=>?_);clear q1;clear hK K;try simp only [Act.put,zA,zB,zC]
        refine wpAnyH_ready (rs:=[7]) (by kernel_rfl) (by simp) ?_;refine ready_at rfl (fun K hK=>?_) AllReadyH.nil;go_simp;refine hK.out _ _ hH (fun _=>?_);clear hK K;try simp only [Act.put,zA,zB,zC]
        refine tkA 8 rfl (v:=?_) (.inl ⟨by rfl,?_⟩) hH ?_;rotate_left
        ·(intro w hSw;skip;go_simp;try with_reducible rfl)
        try simp only [Act.put,zA,zB,zC]
        refine tkA 9 rfl (v:=?_) (.inl ⟨by rfl,?_⟩) hH ?_;rotate_left
        ·(intro w hSw;skip;go_simp;try with_reducible rfl)
        try simp only [Act.put,zA,zB,zC]
        refine wpAnyH_ready (rs:=[10]) (by kernel_rfl) (by simp) ?_;refine ready_at rfl (fun K hK=>?_) AllReadyH.nil;have q1:=hj3.jat.cells.2.1
        have f1:=frozen_p hj3.jat.head 1;go_simp
        have hmx : (if la < fwrite L then ((fwrite L : Nat) : Int) else (la : Int)) = ((max la (fwrite L) : Nat) : Int):=by split <;> omega
        rw [hmx];have hHn : RowB (W5.setCell ⟨p,1,none⟩ (.int .u64 ((max la (fwrite L) : Nat) : Int))) g8 128 L:=RowB.turned hH (turned_one W5 p 1 _) (by omega)
        have hop6:=hj3.put_last (max la (fwrite L));have hm6:=hm3.turned (turned_one W5 p 1 (.int .u64 ((max la (fwrite L) : Nat) : Int))) (fun k hk=>by omega);have ho6:=ho3.turned (turned_one W5 p 1 (.int .u64 ((max la (fwrite L) : Nat) : Int))) (by omega);clear hj3 hm3 ho3 q1 f1 hmx hH;generalize W5.setCell ⟨p,1,none⟩ (.int .u64 ((max la (fwrite L) : Nat) : Int)) = W6 at *;refine hK.out _ _ hHn (fun hH=>?_);clear hHn;clear hK K;try simp only [Act.put,zA,zB,zC]
        refine wpAnyH_done (by kernel_rfl) ?_ _;refine NoPanic.normal ?_;have hr6:=hH
        clear hH;by_cases hkm : k < fplace m
        ·have hd10 : decide ((k : Int) < ((fplace m : Nat) : Int)) = true:=by simpa using hkm
         have hd11 : decide (k < fplace m) = true:=decide_eq_true hkm;have Hkm:=Hd hkm;by_cases hww : fwrite L = fwrite m
         ·have hq1 : (((fwrite L : Nat) : Int) == ((fwrite m : Nat) : Int)) = true:=by rw [beq_iff_eq];omega
          have hq2 : (fwrite L == fwrite m) = true:=by simpa using hww
          have hq3 : decide (fwrite L = fwrite m) = true:=decide_eq_true hww;have Hww:=Hd hww;clear hww hkm;go_upto_region 38 with fail;replace hop6:=hop6.step (Below.refl _ _).drew;replace hm6:=hm6.drew;have hS1 : (fun W=>RowB W g8 128 L∧RowB W g 128 m) W6.drew:=⟨hr6.below (Below.refl _ W6).drew,ho6.below (Below.refl _ W6).drew⟩;clear hr6 ho6;refine wp_region_noPanic ?_;refine wp_region_held_drew (S:=(fun W=>RowB W g8 128 L∧RowB W g 128 m)) (by kernel_rfl) hS1 (fun hH=>?_);refine tkA 0 rfl (v:=?_) (.inl ⟨by rfl,?_⟩) hH ?_;rotate_left
          ·(intro w hSw;skip;go_simp;try with_reducible rfl)
          try simp only [Act.put,zA,zB,zC]
          refine take_at (i:=1) (v:=.agg (bv m).toArray) rfl (by kernel_rfl) (by kernel_rfl) (by kernel_rfl) (fun _ _ _ h=>h) (yieldsIf_load_mid rfl 128 (.tmp 11) rfl g 0 rfl (bv m) _ (fun W hW=>RowB.range hW.2) Tryz.underlying128 rfl (by rw [info_frame,hbm])) hH ?_;try simp only [Act.put,zA,zB,zC]
          refine wpAnyH_ready (rs:=[2]) (by kernel_rfl) (by simp) ?_;refine ready_at rfl (fun K hK=>?_) AllReadyH.nil;go_simp;refine (fplace_any _ m hlm).mono ?_;rintro e W7 ⟨rfl,hb⟩;have hHn:=show (fun W=>RowB W g8 128 L∧RowB W g 128 m) _ from ⟨RowB.below hH.1 hb,RowB.below hH.2 hb⟩
          replace hop6:=hop6.step hb;replace hm6:=hm6.below hb;clear hb hH;go_wp2_with fail;refine hK.out _ _ hHn (fun hH=>?_);clear hHn;clear hK K;try simp only [Act.put,zA,zB,zC]
          refine tkA 3 rfl (v:=?_) (.inl ⟨by rfl,?_⟩) hH ?_;rotate_left
          ·(intro w hSw;skip;go_simp;try with_reducible rfl)
          try simp only [Act.put,zA,zB,zC]
          refine tkA 4 rfl (v:=?_) (.inl ⟨by rfl,?_⟩) hH ?_;rotate_left
          ·(intro w hSw;skip;go_simp;try with_reducible rfl)
          try simp only [Act.put,zA,zB,zC]
          refine take_at (i:=5) (v:=.agg (bv L).toArray) rfl (by kernel_rfl) (by kernel_rfl) (by kernel_rfl) (fun _ _ _ h=>h) (yieldsIf_load_mid rfl 128 (.tmp 14) rfl g8 0 rfl (bv L) _ (fun W hW=>RowB.range hW.1) Tryz.underlying128 rfl (by rw [info_frame,hlb])) hH ?_;try simp only [Act.put,zA,zB,zC]
          refine take_at (i:=7) (v:=.agg (bv m).toArray) rfl (by kernel_rfl) (by kernel_rfl) (by kernel_rfl) (fun _ _ _ h=>h) (yieldsIf_load_mid rfl 128 (.tmp 11) rfl g 0 rfl (bv m) _ (fun W hW=>RowB.range hW.2) Tryz.underlying128 rfl (by rw [info_frame,hbm])) hH ?_;try simp only [Act.put,zA,zB,zC]
          refine wpAnyH_ready (rs:=[6]) (by kernel_rfl) (by simp) ?_;refine ready_at rfl (fun K hK=>?_) AllReadyH.nil;go_simp;refine (fwrite_any _ L hl).mono ?_;rintro e W8 ⟨rfl,hb⟩;have hHn:=show (fun W=>RowB W g8 128 L∧RowB W g 128 m) _ from ⟨RowB.below hH.1 hb,RowB.below hH.2 hb⟩
          replace hop6:=hop6.step hb;replace hm6:=hm6.below hb;clear hb hH;go_wp2_with fail;refine hK.out _ _ hHn (fun hH=>?_);clear hHn;clear hK K;try simp only [Act.put,zA,zB,zC]
          refine wpAnyH_ready (rs:=[8]) (by kernel_rfl) (by simp) ?_;refine ready_at rfl (fun K hK=>?_) AllReadyH.nil;go_simp;refine (fwrite_any _ m hlm).mono ?_;rintro e W9 ⟨rfl,hb⟩;have hHn:=show (fun W=>RowB W g8 128 L∧RowB W g 128 m) _ from ⟨RowB.below hH.1 hb,RowB.below hH.2 hb⟩
          replace hop6:=hop6.step hb;replace hm6:=hm6.below hb;clear hb hH;go_wp2_with fail;refine hK.out _ _ hHn (fun hH=>?_);clear hHn;clear hK K;try simp only [Act.put,zA,zB,zC]
          refine tkA 9 rfl (v:=?_) (.inl ⟨by rfl,?_⟩) hH ?_;rotate_left
          ·(intro w hSw;skip;go_simp;try with_reducible rfl)
          try simp only [Act.put,zA,zB,zC]
          refine tkA 10 rfl (v:=?_) (.inl ⟨by rfl,?_⟩) hH ?_;rotate_left
          ·(intro w hSw;skip;go_simp;try with_reducible rfl)
          try simp only [Act.put,zA,zB,zC]
          refine wpAnyH_done (by kernel_rfl) ?_ _;refine NoPanic.normal ?_;have hr6:=hH.1
          have ho6:=hH.2;clear hH;have hrg:=hr6.range;have hb9 : Below W9.heap.size W9 (W9.alloc (.cells (bv L).toArray 128)):=(Below.refl _ _).alloc (Nat.le_refl _) _;have hop9:=hop6.step hb9;have hm9:=hm6.below hb9;have ho9:=ho6.below hb9;have hr9:=RowB.alloc W9 128 L;obtain ⟨v11,W11,hr11,hm11,ht11⟩:=hm9.snoc hop9.base (by have:=Hal.out;omega) L hl W9.heap.size hr9;have hop11:=hop9.own (T:=fun j=>g + 1 ≤ j) (fun j hj=>by have:=Hpp.out;omega) ht11;have ho11:=ho9.turned ht11 (by omega);clear hop6 hm6 ho6 hb9 hop9 hm9 ho9 hr9 ht11;go_wp2_with (first | (refine wpList_load_mid rfl 128 (.tmp 14) rfl g8 0 rfl (bv L) _ hrg Tryz.underlying128 rfl (by rw [info_frame,hlb]) ?_) | (refine wpList_build_one rfl (.tmp 139) rfl L hl rfl ?_) | (refine wpList_append_run rfl (.tmp 138) (.tmp 140) 137 137 rfl _ _ _ rfl rfl hr11 ?_));have hop6:=hop11;have ho6:=ho11;have hm6:=hm11;go_roundw
          case rel=>exact ⟨k + 1,by omega,fun j hj=>by
                   by_cases e : j = k
                   ·rw [e];exact Hnk.out
                   ·exact Hall.out j (by omega),by go_num,by rw [Hla.out];exact hop6,ho6,by rw [Hag.out,if_pos ⟨Hkm.out,Hww.out⟩];exact hm6⟩
          case measure=>simp [intOf];omega
         ·have hq1 : (((fwrite L : Nat) : Int) == ((fwrite m : Nat) : Int)) = false:=by rw [beq_eq_false_iff_ne];omega
          have hq2 : (fwrite L == fwrite m) = false:=by simpa using hww
          have hq3 : decide (fwrite L = fwrite m) = false:=decide_eq_false hww;have Hww:=Hd hww;clear hww hkm;go_upto_region 38 with fail;replace hop6:=hop6.step (Below.refl _ _).drew;replace hm6:=hm6.drew;have hS1 : (fun W=>RowB W g8 128 L∧RowB W g 128 m) W6.drew:=⟨hr6.below (Below.refl _ W6).drew,ho6.below (Below.refl _ W6).drew⟩;clear hr6 ho6;refine wp_region_noPanic ?_;refine wp_region_held_drew (S:=(fun W=>RowB W g8 128 L∧RowB W g 128 m)) (by kernel_rfl) hS1 (fun hH=>?_);refine tkA 0 rfl (v:=?_) (.inl ⟨by rfl,?_⟩) hH ?_;rotate_left
          ·(intro w hSw;skip;go_simp;try with_reducible rfl)
          try simp only [Act.put,zA,zB,zC]
          refine take_at (i:=1) (v:=.agg (bv m).toArray) rfl (by kernel_rfl) (by kernel_rfl) (by kernel_rfl) (fun _ _ _ h=>h) (yieldsIf_load_mid rfl 128 (.tmp 11) rfl g 0 rfl (bv m) _ (fun W hW=>RowB.range hW.2) Tryz.underlying128 rfl (by rw [info_frame,hbm])) hH ?_;try simp only [Act.put,zA,zB,zC]
          refine wpAnyH_ready (rs:=[2]) (by kernel_rfl) (by simp) ?_;refine ready_at rfl (fun K hK=>?_) AllReadyH.nil;go_simp;refine (fplace_any _ m hlm).mono ?_;rintro e W7 ⟨rfl,hb⟩;have hHn:=show (fun W=>RowB W g8 128 L∧RowB W g 128 m) _ from ⟨RowB.below hH.1 hb,RowB.below hH.2 hb⟩
          replace hop6:=hop6.step hb;replace hm6:=hm6.below hb;clear hb hH;go_wp2_with fail;refine hK.out _ _ hHn (fun hH=>?_);clear hHn;clear hK K;try simp only [Act.put,zA,zB,zC]
          refine tkA 3 rfl (v:=?_) (.inl ⟨by rfl,?_⟩) hH ?_;rotate_left
          ·(intro w hSw;skip;go_simp;try with_reducible rfl)
          try simp only [Act.put,zA,zB,zC]
          refine tkA 4 rfl (v:=?_) (.inl ⟨by rfl,?_⟩) hH ?_;rotate_left
          ·(intro w hSw;skip;go_simp;try with_reducible rfl)
          try simp only [Act.put,zA,zB,zC]
          refine take_at (i:=5) (v:=.agg (bv L).toArray) rfl (by kernel_rfl) (by kernel_rfl) (by kernel_rfl) (fun _ _ _ h=>h) (yieldsIf_load_mid rfl 128 (.tmp 14) rfl g8 0 rfl (bv L) _ (fun W hW=>RowB.range hW.1) Tryz.underlying128 rfl (by rw [info_frame,hlb])) hH ?_;try simp only [Act.put,zA,zB,zC]
          refine take_at (i:=7) (v:=.agg (bv m).toArray) rfl (by kernel_rfl) (by kernel_rfl) (by kernel_rfl) (fun _ _ _ h=>h) (yieldsIf_load_mid rfl 128 (.tmp 11) rfl g 0 rfl (bv m) _ (fun W hW=>RowB.range hW.2) Tryz.underlying128 rfl (by rw [info_frame,hbm])) hH ?_;try simp only [Act.put,zA,zB,zC]
          refine wpAnyH_ready (rs:=[6]) (by kernel_rfl) (by simp) ?_;refine ready_at rfl (fun K hK=>?_) AllReadyH.nil;go_simp;refine (fwrite_any _ L hl).mono ?_;rintro e W8 ⟨rfl,hb⟩;have hHn:=show (fun W=>RowB W g8 128 L∧RowB W g 128 m) _ from ⟨RowB.below hH.1 hb,RowB.below hH.2 hb⟩
          replace hop6:=hop6.step hb;replace hm6:=hm6.below hb;clear hb hH;go_wp2_with fail;refine hK.out _ _ hHn (fun hH=>?_);clear hHn;clear hK K;try simp only [Act.put,zA,zB,zC]
          refine wpAnyH_ready (rs:=[8]) (by kernel_rfl) (by simp) ?_;refine ready_at rfl (fun K hK=>?_) AllReadyH.nil;go_simp;refine (fwrite_any _ m hlm).mono ?_;rintro e W9 ⟨rfl,hb⟩;have hHn:=show (fun W=>RowB W g8 128 L∧RowB W g 128 m) _ from ⟨RowB.below hH.1 hb,RowB.below hH.2 hb⟩
          replace hop6:=hop6.step hb;replace hm6:=hm6.below hb;clear hb hH;go_wp2_with fail;refine hK.out _ _ hHn (fun hH=>?_);clear hHn;clear hK K;try simp only [Act.put,zA,zB,zC]
          refine tkA 9 rfl (v:=?_) (.inl ⟨by rfl,?_⟩) hH ?_;rotate_left
          ·(intro w hSw;skip;go_simp;try with_reducible rfl)
          try simp only [Act.put,zA,zB,zC]
          refine tkA 10 rfl (v:=?_) (.inl ⟨by rfl,?_⟩) hH ?_;rotate_left
          ·(intro w hSw;skip;go_simp;try with_reducible rfl)
          try simp only [Act.put,zA,zB,zC]
          refine wpAnyH_done (by kernel_rfl) ?_ _;refine NoPanic.normal ?_;have ho6:=hH.2
          clear hH;go_wp2_with fail;go_roundw
          case rel=>exact ⟨k + 1,by omega,fun j hj=>by
                   by_cases e : j = k
                   ·rw [e];exact Hnk.out
                   ·exact Hall.out j (by omega),by go_num,by rw [Hla.out];exact hop6,ho6,by rw [Hag.out,if_neg (fun h=>Hww.out h.2)];exact hm6⟩
          case measure=>simp [intOf];omega
        ·have hd10 : decide ((k : Int) < ((fplace m : Nat) : Int)) = false:=by simpa using hkm
         have hd11 : decide (k < fplace m) = false:=decide_eq_false hkm;have Hkm:=Hd hkm;clear hkm;go_upto_region 38 with fail;replace hop6:=hop6.step (Below.refl _ _).drew;replace hm6:=hm6.drew;have hS1 : (fun W=>RowB W g8 128 L∧RowB W g 128 m) W6.drew:=⟨hr6.below (Below.refl _ W6).drew,ho6.below (Below.refl _ W6).drew⟩;clear hr6 ho6;refine wp_region_noPanic ?_;refine wp_region_held_drew (S:=(fun W=>RowB W g8 128 L∧RowB W g 128 m)) (by kernel_rfl) hS1 (fun hH=>?_);refine tkA 0 rfl (v:=?_) (.inl ⟨by rfl,?_⟩) hH ?_;rotate_left
         ·(intro w hSw;skip;go_simp;try with_reducible rfl)
         try simp only [Act.put,zA,zB,zC]
         refine take_at (i:=1) (v:=.agg (bv m).toArray) rfl (by kernel_rfl) (by kernel_rfl) (by kernel_rfl) (fun _ _ _ h=>h) (yieldsIf_load_mid rfl 128 (.tmp 11) rfl g 0 rfl (bv m) _ (fun W hW=>RowB.range hW.2) Tryz.underlying128 rfl (by rw [info_frame,hbm])) hH ?_;try simp only [Act.put,zA,zB,zC]
         refine wpAnyH_ready (rs:=[2]) (by kernel_rfl) (by simp) ?_;refine ready_at rfl (fun K hK=>?_) AllReadyH.nil;go_simp;refine (fplace_any _ m hlm).mono ?_;rintro e W7 ⟨rfl,hb⟩;have hHn:=show (fun W=>RowB W g8 128 L∧RowB W g 128 m) _ from ⟨RowB.below hH.1 hb,RowB.below hH.2 hb⟩
         replace hop6:=hop6.step hb;replace hm6:=hm6.below hb;clear hb hH;go_wp2_with fail;refine hK.out _ _ hHn (fun hH=>?_);clear hHn;clear hK K;try simp only [Act.put,zA,zB,zC]
         refine tkA 3 rfl (v:=?_) (.inl ⟨by rfl,?_⟩) hH ?_;rotate_left
         ·(intro w hSw;skip;go_simp;try with_reducible rfl)
         try simp only [Act.put,zA,zB,zC]
         refine tkA 4 rfl (v:=?_) (.inl ⟨by rfl,?_⟩) hH ?_;rotate_left
         ·(intro w hSw;skip;go_simp;try with_reducible rfl)
         try simp only [Act.put,zA,zB,zC]
         refine tkA 5 rfl (v:=undef) (.inr ⟨by rfl,rfl⟩) hH ?_;try simp only [Act.put,zA,zB,zC]
         refine tkA 7 rfl (v:=undef) (.inr ⟨by rfl,rfl⟩) hH ?_;try simp only [Act.put,zA,zB,zC]
         refine wpAnyH_ready (rs:=[6]) (by kernel_rfl) (by simp) ?_;refine ready_at rfl (fun K hK=>?_) AllReadyH.nil;go_simp;refine hK.out _ _ hH (fun _=>?_);clear hK K;try simp only [Act.put,zA,zB,zC]
         refine wpAnyH_ready (rs:=[8]) (by kernel_rfl) (by simp) ?_;refine ready_at rfl (fun K hK=>?_) AllReadyH.nil;go_simp;refine hK.out _ _ hH (fun _=>?_);clear hK K;try simp only [Act.put,zA,zB,zC]
         refine tkA 9 rfl (v:=undef) (.inr ⟨by rfl,rfl⟩) hH ?_;try simp only [Act.put,zA,zB,zC]
         refine tkA 10 rfl (v:=?_) (.inl ⟨by rfl,?_⟩) hH ?_;rotate_left
         ·(intro w hSw;skip;go_simp;try with_reducible rfl)
         try simp only [Act.put,zA,zB,zC]
         refine wpAnyH_done (by kernel_rfl) ?_ _;refine NoPanic.normal ?_;have ho6:=hH.2
         clear hH;go_wp2_with fail;go_roundw
         case rel=>exact ⟨k + 1,by omega,fun j hj=>by
                  by_cases e : j = k
                  ·rw [e];exact Hnk.out
                  ·exact Hall.out j (by omega),by go_num,by rw [Hla.out];exact hop6,ho6,by rw [Hag.out,if_neg (fun h=>Hkm.out h.1)];exact hm6⟩
         case measure=>simp [intOf];omega
       exact AllReadyH.nil
     ·have hkb : k = D.blocks:=by omega
      have hd9 : decide ((k : Int) < (D.blocks : Int)) = false:=by simp;omega
      have he : D.openJ = if (D.againTo m k).length = fplace m∧0 < (D.againTo m k).length then (((⟨D,D.lastTo m k,sq,0⟩ : Jn).spread (D.againTo m k)).off,(⟨D,D.lastTo m k,sq,0⟩ : Jn).spread (D.againTo m k)) else (0,⟨D,D.lastTo m k,sq,0⟩):=by rw [Dk.openJ,if_neg (by omega),if_neg (by simp [Hoff.out]),if_neg (by simp [Hm0.out]),if_neg (by simp [Hm0.out,Hm1.out]),if_neg (by rintro ⟨i,hi,e⟩;rw [Hall.out i (by omega)] at e;cases e),Dk.found,HMm.out,Hsq.out,← hkb]
      have HE:=Hd he
      have hal : (D.againTo m k).length ≤ k:=by
       have : ∀ j,(D.againTo m j).length ≤ j:=fun j=>by
        induction j with
        | zero=>exact Nat.le_refl _
        | succ j ih =>
         rw [Dk.againTo];split
         ·rw [List.length_append,List.length_singleton];omega
         ·omega
       exact this k
      clear he Hall Hsq HMm;generalize D.againTo m k = ag at *;generalize D.lastTo m k = la at *;have hpl:=fplace_lt m
      obtain ⟨xa,xc,hx,hxc,hxm⟩ : ∃ a cap,u12 = .slice a ag.length cap∧ag.length ≤ cap∧cap ≤ maxLen:=by
       rcases hmr.range with ⟨h1,h2⟩ | ⟨g,cap,h1,h2,h3,_⟩
       ·exact ⟨none,0,by rw [h1,h2];rfl,by rw [h2];exact Nat.le_refl _,by simp [maxLen]⟩
       ·exact ⟨_,cap,h1,h2,h3⟩
      subst hx;have hrg:=hrm.range
      go_wp2_with (refine wpList_load_mid rfl 128 (.tmp 11) rfl g 0 rfl (bv m) _ hrg Tryz.underlying128 rfl (by rw [info_frame,hbm]) ?_);refine (fplace_any wr m hlm).mono ?_;rintro e w2 ⟨rfl,hb2⟩;have hop2:=hop.step hb2
      have hmr2:=hmr.below hb2;clear hop hmr hrm hrg hb2;by_cases h1 : ag.length = fplace m
      case neg =>
       have hq1 : (((ag.length : Nat) : Int) == ((fplace m : Nat) : Int)) = false:=by rw [beq_eq_false_iff_ne];omega
       have hq2 : (ag.length == fplace m) = false:=by simpa using h1
       have hq3 : decide (ag.length = fplace m) = false:=decide_eq_false h1;have he2 : D.openJ = (0,⟨D,la,sq,0⟩):=by rw [HE.out,if_neg (fun h=>h1 h.1)]
       have HE2:=Hd he2;clear he2 h1;go_wp2_with fail;go_ret2;exact OpenEnd.ok HE2.out hop2.jat hop2.wp (Turned.of_below hop2.below)
      have hq1 : (((ag.length : Nat) : Int) == ((fplace m : Nat) : Int)) = true:=by rw [beq_iff_eq];omega
      have hq2 : (ag.length == fplace m) = true:=by simpa using h1
      have hq3 : decide (ag.length = fplace m) = true:=decide_eq_true h1;by_cases h2 : 0 < ag.length
      case neg =>
       have hq4 : decide ((0 : Int) < ((ag.length : Nat) : Int)) = false:=decide_eq_false (by omega);have hq5 : decide (0 < ag.length) = false:=decide_eq_false h2;have he2 : D.openJ = (0,⟨D,la,sq,0⟩):=by rw [HE.out,if_neg (fun h=>h2 h.2)]
       have HE2:=Hd he2;clear he2 h1 h2;go_wp2_with fail;go_ret2;exact OpenEnd.ok HE2.out hop2.jat hop2.wp (Turned.of_below hop2.below)
      have hq4 : decide ((0 : Int) < ((ag.length : Nat) : Int)) = true:=decide_eq_true (by omega);have hq5 : decide (0 < ag.length) = true:=decide_eq_true h2;have he2 : D.openJ = (((⟨D,la,sq,0⟩ : Jn).spread ag).off,(⟨D,la,sq,0⟩ : Jn).spread ag):=by rw [HE.out,if_pos ⟨h1,h2⟩]
      have HE2:=Hd he2;clear he2 h1 h2;go_wp2_with fail
      refine (spread_any w2 F p ⟨D,la,sq,0⟩ hop2.jat hop2.nib (by show 2 ≤ D.n;omega) (g + 1) _ ag hmr2 (fun j hj=>by
       rcases hj with hj | hj
       ·have:=hop2.fw j hj;have:=Hpp.out;omega
       ·omega)).mono ?_
      rintro e w3 ⟨rfl,hj3,ht3⟩
      have ht4 : Turned F.has w w3:=((Turned.of_below (T:=JT F p) hop2.below).trans ht3).mono fun j hj hT=>by
       rcases hT with hT | hT
       ·exact hT
       ·have:=hop2.wp;omega
      have hwp:=hop2.wp;have HW:=Hd hwp;clear hop2 hmr2 ht3 hwp;generalize (⟨D,la,sq,0⟩ : Jn).spread ag = J1 at *;have q3:=hj3.cells.2.2.2;by_cases h0 : J1.off = 0
      ·have hd0 : (J1.off == 0) = true:=by simpa using h0
       have hd1 : (J1.off != 0) = false:=by simp [h0]
       have he3 : D.openJ = (0,J1):=by rw [HE2.out,h0]
       have HE3:=Hd he3;clear he3;rw [h0] at q3;clear h0;go_wp2_with fail;go_ret2;exact OpenEnd.ok HE3.out hj3 HW.out ht4
      ·have hd0 : (J1.off == 0) = false:=by simpa using h0
       have hd1 : (J1.off != 0) = true:=by simpa using h0
       have H0:=Hd h0;generalize hoj : J1.off = oj at *;clear h0;have Hoj:=Hd hoj;clear hoj;go_wp2_with fail;go_region;go_wp2_with fail;go_ret2;exact OpenEnd.away HE2.out rfl H0.out hj3.drew.disk ht4.drew
theorem open_any (w : World) (F : Ft) (D : Dk) (h : DkAt w F D) (hn : Nib w) : Calls Tryz.prog 34 #[F.ptr] w (OpenEnd F D w):=by
 by_cases hbad : D.n < 32 ∨ D.off = true
 ·exact open_bad w F D h hn hbad
 ·exact open_rest w F D h hn (fun e=>hbad (.inl e)) (by
   cases e : D.off with
   | false=>rfl
   | true=>exact absurd (.inr e) hbad)
end Go.Proofs.YtofibccplbnaiaaGreatDoor

namespace Go.Proofs.YtofibccplbnaiaaGreatDoor
open Go.RowKit
def KMap (w : World) (M : Nat) (kv : List (Int × Value)) : Prop :=
 ∃ (es : List MapEntry) (clock : Nat),w.heap[M]? = some (.map es.toArray clock)∧es.map (fun e=>(e.key,e.val)) = kv.map fun x=>(Value.int .i64 x.1,x.2)
def kAt : List (Int × Value) → Int → Nat → Option (Nat × Value)
 | [],_,_=>none
 | x :: r,n,k=>if x.1 = n then some (k,x.2) else kAt r n (k + 1)
def kLook (kv : List (Int × Value)) (n : Int) : Option Value:=(kAt kv n 0).map (·.2)
theorem kAt_shift (kv : List (Int × Value)) (n : Int) : ∀ k,kAt kv n k = (kAt kv n 0).map fun x=>(x.1 + k,x.2):=by
 induction kv with
 | nil=>intro k;rfl
 | cons x r ih =>
  intro k;simp only [kAt];split
  ·simp
  ·rw [ih (k + 1),ih (0 + 1),Option.map_map];congr 1;funext y;simp only [Function.comp,Prod.mk.injEq,and_true];omega
theorem kLook_cons (x : Int × Value) (r : List (Int × Value)) (n : Int) : kLook (x :: r) n = if x.1 = n then some x.2 else kLook r n:=by
 simp only [kLook,kAt];split
 ·rfl
 ·rw [kAt_shift r n (0 + 1),Option.map_map];rfl
theorem kLook_const (ns : List Int) (v : Value) (n : Int) : kLook (ns.map fun x=>(x,v)) n = if n ∈ ns then some v else none:=by
 induction ns with
 | nil=>rfl
 | cons x r ih =>
  rw [List.map_cons,kLook_cons,ih];by_cases h : x = n
  ·subst h;simp
  ·have h2 : n ≠ x:=fun e=>h e.symm;simp [h,h2]
theorem kAt_none {kv : List (Int × Value)} {n : Int} (h : kLook kv n = none) : kAt kv n 0 = none:=by simpa [kLook] using h
theorem findNow_kv : ∀ (es : List MapEntry) (kv : List (Int × Value)) (n : Int) (k : Nat),es.map (fun e=>(e.key,e.val)) = kv.map (fun x=>(Value.int .i64 x.1,x.2)) →
  Instr.findNow (.int .i64) (.int .i64 n) es k = some (kAt kv n k)
 | [],[],n,k,_=>rfl
 | [],_ :: _,n,k,h=>by simp at h
 | _ :: _,[],n,k,h=>by simp at h
 | e :: es,x :: kv,n,k,h=>by
  simp only [List.map_cons,List.cons.injEq,Prod.mk.injEq] at h;obtain ⟨⟨h1,h2⟩,h3⟩:=h;have ih:=findNow_kv es kv n (k + 1) h3
  simp only [Instr.findNow,h1,Instr.sameNow,if_true,kAt];by_cases hx : x.1 = n
  ·subst hx;simp [h2]
  ·have hb : (n == x.1) = false:=beq_eq_false_iff_ne.2 (fun e=>hx e.symm);rw [hb,if_neg hx];exact ih
theorem KMap.made (w : World) : KMap (w.alloc (.map #[] 0)) w.heap.size []:=⟨[],0,heap_alloc_new w _,rfl⟩
theorem KMap.lt {w : World} {M : Nat} {kv : List (Int × Value)} (h : KMap w M kv) : M < w.heap.size:=by obtain ⟨es,cl,h1,h2⟩:=h;exact lt_of_heap h1
section
variable {P : Program} {T K E : TypeId}
theorem KMap.run_look {w : World} {M : Nat} {kv : List (Int × Value)} (h : KMap w M kv) (hT : P.underlying T = some (.map K E)) (hK : P.underlying K = some (.int .i64)) (z : Value) (hz : ∀ w,(zeroValue E).run P w = .ok z w) (n : Int) :
  (Instr.lookup T (.map (some M)) (.int .i64 n) false).run P w = .ok ((kLook kv n).getD z) w:=by
 obtain ⟨es,cl,hm,he⟩:=h;have hf:=findNow_kv es kv n 0 he
 cases hk : kAt kv n 0 with
 | none =>
  rw [hk] at hf;simp [Instr.lookup,run_underlying hT,Go.MapKept.run_getObj_map hm,Go.MapKept.run_checkKey (P:=P) (k:=.int .i64 n) hK (by simp [Go.MapKept.IsKey]),Go.MapKept.run_findKey (P:=P) hK hf,Result.andThen,hz,kLook,hk]
 | some x =>
  rw [hk] at hf;simp [Instr.lookup,run_underlying hT,Go.MapKept.run_getObj_map hm,Go.MapKept.run_checkKey (P:=P) (k:=.int .i64 n) hK (by simp [Go.MapKept.IsKey]),Go.MapKept.run_findKey (P:=P) hK hf,Result.andThen,kLook,hk]
theorem KMap.run_look_ok {w : World} {M : Nat} {kv : List (Int × Value)} (h : KMap w M kv) (hT : P.underlying T = some (.map K E)) (hK : P.underlying K = some (.int .i64)) (z : Value) (hz : ∀ w,(zeroValue E).run P w = .ok z w) (n : Int) :
  (Instr.lookup T (.map (some M)) (.int .i64 n) true).run P w = .ok (.tuple #[(kLook kv n).getD z,.bool (kLook kv n).isSome]) w:=by
 obtain ⟨es,cl,hm,he⟩:=h;have hf:=findNow_kv es kv n 0 he
 cases hk : kAt kv n 0 with
 | none =>
  rw [hk] at hf;simp [Instr.lookup,run_underlying hT,Go.MapKept.run_getObj_map hm,Go.MapKept.run_checkKey (P:=P) (k:=.int .i64 n) hK (by simp [Go.MapKept.IsKey]),Go.MapKept.run_findKey (P:=P) hK hf,Result.andThen,hz,kLook,hk]
 | some x =>
  rw [hk] at hf;simp [Instr.lookup,run_underlying hT,Go.MapKept.run_getObj_map hm,Go.MapKept.run_checkKey (P:=P) (k:=.int .i64 n) hK (by simp [Go.MapKept.IsKey]),Go.MapKept.run_findKey (P:=P) hK hf,Result.andThen,kLook,hk]
theorem KMap.run_new {w : World} {M : Nat} {kv : List (Int × Value)} (h : KMap w M kv) (hT : P.underlying T = some (.map K E)) (hK : P.underlying K = some (.int .i64)) (n : Int) (v : Value) (hn : kLook kv n = none) :
  ∃ w',(Instr.mapUpdate T (.map (some M)) (.int .i64 n) v).run P w = .ok () w'∧KMap w' M (kv ++ [(n,v)])∧Turned (· = M) w w':=by
 obtain ⟨es,cl,hm,he⟩:=h;have hf:=findNow_kv es kv n 0 he
 rw [kAt_none hn] at hf;refine ⟨{ w with heap:=w.heap.setIfInBounds M (.map (es.toArray.push ⟨.int .i64 n,v,cl⟩) (cl + 1)) },?_,?_,?_⟩
 ·simp [Instr.mapUpdate,run_underlying hT,Go.MapKept.run_getObj_map hm,Go.MapKept.run_checkKey (P:=P) (k:=.int .i64 n) hK (by simp [Go.MapKept.IsKey]),Go.MapKept.run_findKey (P:=P) hK hf,Go.MapKept.run_setObj_map _ hm,Result.andThen]
 ·refine ⟨es ++ [⟨.int .i64 n,v,cl⟩],cl + 1,?_,by simp [he]⟩
  show (w.heap.setIfInBounds M _)[M]? = _
  rw [Array.getElem?_setIfInBounds_self_of_lt (lt_of_heap hm)];simp
 ·refine ⟨rfl,rfl,rfl,by simp,fun k hk hne=>?_⟩
  show (w.heap.setIfInBounds M _)[k]? = _
  rw [Array.getElem?_setIfInBounds_ne (fun e=>hne e.symm)]
end
end Go.Proofs.YtofibccplbnaiaaGreatDoor

namespace Go.Proofs.YtofibccplbnaiaaGreatDoor
open Go.RowKit
def IsI (w : World) (v : Value) (zs : List Int) : Prop :=
 ∃ a cap,v = .slice a zs.length cap∧zs.length ≤ cap∧cap ≤ maxLen∧(a = none → cap = 0) ∧
  ∀ x,a = some x → (0 < zs.length → x.spot = none)∧∀ i,(h : i < zs.length) → w.cell? ⟨x.block,x.off + i,none⟩ = some (.int .i64 zs[i])
theorem IsI.nil (w : World) : IsI w (.slice none 0 0) []:=⟨none,0,rfl,Nat.le_refl _,by simp [maxLen],fun _=>rfl,fun x h=>by cases h⟩
theorem IsI.of_cells {w w' : World} {v : Value} {l : List Int} (h : IsI w v l) (hw : ∀ a u,w.cell? a = some u → w'.cell? a = some u) : IsI w' v l:=by obtain ⟨a,cap,hv,hl,hm,hn,hc⟩:=h;exact ⟨a,cap,hv,hl,hm,hn,fun x hx=>⟨(hc x hx).1,fun i hi=>hw _ _ ((hc x hx).2 i hi)⟩⟩
theorem IsI.below {w w' : World} {v : Value} {l : List Int} (h : IsI w v l) (hb : Below w.heap.size w w') : IsI w' v l:=h.of_cells (cells_below hb)
end Go.Proofs.YtofibccplbnaiaaGreatDoor

namespace Go.Proofs.YtofibccplbnaiaaGreatDoor
open Go.RowKit
def rightGo (nb : Nat) (met : List Int) : List Int → List (List UInt8) → Bool
 | n :: r,b :: s=>(decide (0 ≤ n) && decide (n < (nb : Int)) && !decide (n ∈ met) && decide (b.length = 112)) && rightGo nb (met ++ [n]) r s
 | _,_=>true
def rightW (nb : Nat) (zs : List Int) (ls : List (List UInt8)) : Bool:=decide (zs.length = ls.length) && rightGo nb [] zs ls
theorem rightGo_step {nb : Nat} {met zs : List Int} {ls : List (List UInt8)} {k : Nat} (h1 : k < zs.length) (h2 : k < ls.length) :
  rightGo nb met (zs.drop k) (ls.drop k) = ((decide (0 ≤ zs[k]) && decide (zs[k] < (nb : Int)) && !decide (zs[k] ∈ met) && decide (ls[k].length = 112)) && rightGo nb (met ++ [zs[k]]) (zs.drop (k + 1)) (ls.drop (k + 1))):=by
 rw [List.drop_eq_getElem_cons h1,List.drop_eq_getElem_cons h2,rightGo]
theorem isI_at {w : World} {a : Option Addr} {n cap : Nat} {zs : List Int} (h : IsI w (.slice a n cap) zs) (i : Nat) (hi : i < zs.length) : ∃ b o,a = some ⟨b,o,none⟩∧w.cell? ⟨b,o + i,none⟩ = some (.int .i64 zs[i]):=by
 obtain ⟨a',cap',hv,hl,hm,hn,hc⟩:=h;simp only [Value.slice.injEq] at hv;obtain ⟨rfl,rfl,rfl⟩:=hv
 cases a with
 | none=>have:=hn rfl;omega
 | some x =>
  obtain ⟨b,o,s⟩:=x;obtain ⟨hs,hc⟩:=hc _ rfl;obtain rfl : s = none:=hs (by omega);exact ⟨b,o,rfl,hc i hi⟩
theorem isBs_at {w : World} {a : Option Addr} {n cap : Nat} {ls : List (List UInt8)} (h : IsBs w (.slice a n cap) ls) (i : Nat) (hi : i < ls.length) : ∃ b o u,a = some ⟨b,o,none⟩∧w.cell? ⟨b,o + i,none⟩ = some u∧IsB w u ls[i]:=by
 obtain ⟨a',cap',hv,hl,hm,hn,hc⟩:=h;simp only [Value.slice.injEq] at hv;obtain ⟨rfl,rfl,rfl⟩:=hv
 cases a with
 | none=>have:=hn rfl;omega
 | some x =>
  obtain ⟨b,o,s⟩:=x;obtain ⟨hs,hc⟩:=hc _ rfl;obtain rfl : s = none:=hs (by omega);obtain ⟨u,h1,h2⟩:=hc i hi;exact ⟨b,o,u,rfl,h1,h2⟩
theorem IsI.form {w : World} {v : Value} {zs : List Int} (h : IsI w v zs) : ∃ a cap,v = .slice a zs.length cap∧zs.length ≤ cap∧cap ≤ maxLen:=by obtain ⟨a,cap,hv,hl,hm,_⟩:=h;exact ⟨a,cap,hv,hl,hm⟩
theorem IsBs.form {w : World} {v : Value} {ls : List (List UInt8)} (h : IsBs w v ls) : ∃ a cap,v = .slice a ls.length cap∧ls.length ≤ cap∧cap ≤ maxLen:=by obtain ⟨a,cap,hv,hl,hm,_⟩:=h;exact ⟨a,cap,hv,hl,hm⟩
theorem IsB.form {w : World} {v : Value} {l : List UInt8} (h : IsB w v l) : ∃ a cap,v = .slice a l.length cap∧l.length ≤ cap∧cap ≤ maxLen:=by obtain ⟨a,cap,hv,hl,hm,_⟩:=h;exact ⟨a,cap,hv,hl,hm⟩
theorem zero_int (w : World) : (zeroValue 3).run Tryz.prog w = .ok (.int .i64 0) w:=by kernel_rfl
set_option maxHeartbeats 8000000 in
theorem right_any (w : World) (F : Ft) (p : Nat) (J : Jn) (h : JAt w F p J) (hn2 : 2 ≤ J.D.n) (u : Value) (zs : List Int) (hu : IsI w u zs) (v : Value) (ls : List (List UInt8)) (hv : IsBs w v ls)
  (hzs : ∀ n ∈ zs,-9223372036854775808 ≤ n∧n ≤ 9223372036854775807) :
  Calls Tryz.prog 94 #[jptr p,u,v] w fun e w'=>e = .returned (.bool (rightW J.D.blocks zs ls))∧Below w.heap.size w w':=by
 have hnm:=h.disk.ok.nm;obtain ⟨au,cu,rfl,hcu,hmu⟩:=hu.form;obtain ⟨av,cv,rfl,hcv,hmv⟩:=hv.form;unfold maxLen at hmu hmv;have hb8 : J.D.blocks ≤ 8191:=by unfold Dk.blocks;omega
 have Hzs:=Hd hzs;clear hzs;have hmm:=fun w=>run_makeMap (P:=Tryz.prog) 176 w;by_cases hlen : zs.length = ls.length
 case neg =>
  have e1 : rightW J.D.blocks zs ls = false:=by rw [rightW,decide_eq_false hlen,Bool.false_and]
  rw [e1];have hd : ((zs.length : Int) != (ls.length : Int)) = true:=by simp;omega
  clear e1 h hu hv;go_enter Tryz.func94,Tryz.ntmps94;go_wp2_with fail;go_ret;exact ⟨rfl,Below.refl _ _⟩
 generalize hbb : J.D.blocks = b at *;have Hbb:=Hd hbb
 clear hbb;have e1 : rightW b zs ls = rightGo b [] zs ls:=by rw [rightW,decide_eq_true hlen,Bool.true_and]
 rw [e1];have hd : ((zs.length : Int) != (ls.length : Int)) = false:=by simp;omega
 have Hlen:=Hd hlen;have Hu:=Hd hu;have Hv:=Hd hv;have HJ:=Hd h;have hb1 : Below w.heap.size w (w.alloc (.map #[] 0)):=(Below.refl _ _).alloc (Nat.le_refl _) _;have hk1 : KMap (w.alloc (.map #[] 0)) w.heap.size (([] : List Int).map fun x=>(x,.int .i64 1)):=KMap.made w;clear e1 h hu hv hlen;go_enter Tryz.func94,Tryz.ntmps94;go_wp2_with fail;generalize w.alloc (.map #[] 0) = w1 at *;go_loopw [18] (fun i wr=>∃ k : Nat,k ≤ zs.length∧i = .int .i64 (k : Int)∧KMap wr w.heap.size ((zs.take k).map fun x=>(x,.int .i64 1))∧Below w.heap.size w wr∧Hid (rightGo b [] zs ls = rightGo b (zs.take k) (zs.drop k) (ls.drop k))) (fun i _=>zs.length - (intOf i).toNat)
 case atStart=>exact ⟨0,Nat.zero_le _,rfl,hk1,hb1,Hd rfl⟩
 case round =>
  obtain ⟨k,hk,rfl,hkm,hbr,Hr⟩:=hrel;clear hk1 hb1;by_cases hlt : k < zs.length
  ·have hlt2 : k < ls.length:=by have:=Hlen.out;omega
   have hd1 : decide ((k : Int) < (zs.length : Int)) = true:=by simpa using hlt
   have hd1b : decide ((k : Int) < (ls.length : Int)) = true:=by simpa using hlt2
   obtain ⟨ub,uo,rfl,hcu1⟩:=isI_at (Hu.out.below hbr) k hlt;obtain ⟨vb,vo,x,rfl,hcv1,hx⟩:=isBs_at (Hv.out.below hbr) k hlt2;have hlen8 : ls[k].length ≤ 9223372036854775807:=by obtain ⟨a,c,_,h1,h2⟩:=hx.form;unfold maxLen at h2;omega
   have hrs:=rightGo_step (nb:=b) (met:=zs.take k) hlt hlt2;have hzb:=Hzs.out zs[k] (List.getElem_mem hlt);have hts : zs.take (k + 1) = zs.take k ++ [zs[k]]:=List.take_succ_eq_append_getElem hlt;have Hts:=Hd hts;have Hrs:=Hd (Hr.out.trans hrs);have hj:=HJ.out.below hbr;have hB:=blocks_any wr F p J hj hn2;rw [Hbb.out] at hB;have HB:=Hd hB;clear hB;have hlook:=hkm.run_look Tryz.underlying176 Tryz.underlying3 (.int .i64 0) zero_int zs[k];have Hnone : Hid (zs[k] ∉ zs.take k → kLook ((zs.take k).map fun x=>(x,Value.int .i64 1)) zs[k] = none):=Hd (fun hni=>by rw [kLook_const,if_neg hni]);rw [kLook_const] at hlook;obtain ⟨ax,cx,rfl,_,_⟩:=hx.form;obtain ⟨hz1,hz2⟩:=hzb;clear hrs hts hj hx;generalize zs[k] = z at *;generalize ls[k].length = xl at *;have hp : ∀ (c : Bool),c = false → (decide (0 ≤ z) && decide (z < (b : Int)) && !decide (z ∈ zs.take k) && decide (xl = 112)) = c → rightGo b [] zs ls = false:=fun c hc h2=>by rw [Hrs.out,h2,hc,Bool.false_and]
   have Hp:=Hd hp;clear hp;by_cases c1 : 0 ≤ z
   case neg =>
    have d1 : decide (z < 0) = true:=by simp;omega
    have Hf:=Hd (Hp.out false rfl (by simp [c1]));go_wp2_with fail;go_ret;exact ⟨by rw [Hf.out];rfl,hbr⟩
   have d1 : decide (z < 0) = false:=by simp;omega
   by_cases c2 : z < (b : Int)
   case neg =>
    have d2 : decide ((b : Int) ≤ z) = true:=by simp;omega
    have Hf:=Hd (Hp.out false rfl (by simp [c2]));clear Hp;go_wp2_with fail;refine HB.out.mono ?_;rintro e w2 ⟨rfl,rfl⟩;go_wp2_with fail;go_ret;exact ⟨by rw [Hf.out];rfl,hbr⟩
   have d2 : decide ((b : Int) ≤ z) = false:=by simp;omega
   by_cases c3 : z ∈ zs.take k
   case pos =>
    have Hf:=Hd (Hp.out false rfl (by simp [c3]));rw [if_pos c3] at hlook;clear Hp c3;go_wp2_with fail;refine HB.out.mono ?_;rintro e w2 ⟨rfl,rfl⟩;go_wp2_with fail;go_ret;exact ⟨by rw [Hf.out];rfl,hbr⟩
   rw [if_neg c3] at hlook;by_cases c4 : xl = 112
   case neg =>
    have Hf:=Hd (Hp.out false rfl (by simp [c4]));have d4 : ((xl : Int) != 112) = true:=by simp;omega
    clear Hp c3 c4;go_wp2_with fail;refine HB.out.mono ?_;rintro e w2 ⟨rfl,rfl⟩;go_wp2_with fail;go_ret;exact ⟨by rw [Hf.out];rfl,hbr⟩
   obtain ⟨w3,hnew,hkm3,ht3⟩:=hkm.run_new Tryz.underlying176 Tryz.underlying3 z (.int .i64 1) (Hnone.out c3);have hb3 : Below w.heap.size w w3:=hbr.trans (ht3.below hbr.size (fun j hj=>by omega))
   have Hr3 : Hid (rightGo b [] zs ls = rightGo b (zs.take (k + 1)) (zs.drop (k + 1)) (ls.drop (k + 1))):=by
    show rightGo b [] zs ls = _
    rw [Hrs.out,Hts.out,decide_eq_true c1,decide_eq_true c2,decide_eq_false c3,decide_eq_true c4];rfl
   have hkm4 : KMap w3 w.heap.size ((zs.take (k + 1)).map fun x=>(x,.int .i64 1)):=by rw [Hts.out,List.map_append];exact hkm3
   have d4 : ((xl : Int) != 112) = false:=by simp;omega
   clear hkm hkm3 ht3 Hp c3 c4;go_wp2_with fail;refine HB.out.mono ?_;rintro e w2 ⟨rfl,rfl⟩;go_wp2_with fail;go_roundw
   case rel=>exact ⟨k + 1,by omega,by go_num,hkm4,hb3,Hr3⟩
   case measure=>simp [intOf];omega
  ·obtain rfl : k = zs.length:=by omega
   have hd1 : decide ((zs.length : Int) < (zs.length : Int)) = false:=by simp
   have Hr2 : Hid (rightGo b [] zs ls = true):=by
    show _ = true
    rw [Hr.out,List.drop_length];rfl
   go_wp2_with fail;go_ret;exact ⟨by rw [Hr2.out];rfl,hbr⟩
end Go.Proofs.YtofibccplbnaiaaGreatDoor

namespace Go.Proofs.YtofibccplbnaiaaGreatDoor
open Go.RowKit
def noteFs (write : Nat) (zs : List Int) (ls : List (List UInt8)) : List (List UInt8):=(zs.zip ls).map fun x=>mkF write (2 * 16777216 + x.1.toNat) x.2
def Jn.layTo (J : Jn) (fs : List (List UInt8)) : Nat → Jn
 | 0=>J
 | k + 1=>(J.layTo fs k).lay (2 + k) (fs.getD k [])
def Jn.writes (J : Jn) (zs : List Int) (ls : List (List UInt8)) : Jn :=
 let fs:=noteFs (J.last + 1) zs ls
 let J6:=((((({ J with last:=J.last + 1 } : Jn).layTo fs zs.length).flush).lay ((J.last + 1) % 2) (markF (J.last + 1) zs.length (J.seq + 1))).flush).spread fs
 if J6.off = 0 then { J6 with seq:=J.seq + 1 } else J6
def Jn.write (J : Jn) (zs : List Int) (ls : List (List UInt8)) : Int × Jn :=
 if J.off ≠ 0 then (J.off,J) else if rightW J.D.blocks zs ls = false then (2,J) else if zs.length = 0 then (0,J) else ((J.writes zs ls).off,J.writes zs ls)
theorem Jn.layTo_n (J : Jn) (fs : List (List UInt8)) (k : Nat) : (J.layTo fs k).D.n = J.D.n:=by
 induction k with
 | zero=>rfl
 | succ k ih=>rw [Jn.layTo,Jn.lay_n,ih]
theorem Jn.lay_last (J : Jn) (k : Nat) (L : List UInt8) : (J.lay k L).last = J.last:=by
 unfold Jn.lay
 split <;> rfl
theorem Jn.flush_last (J : Jn) : J.flush.last = J.last:=by
 unfold Jn.flush
 split <;> rfl
theorem Jn.lay_seq (J : Jn) (k : Nat) (L : List UInt8) : (J.lay k L).seq = J.seq:=by
 unfold Jn.lay
 split <;> rfl
theorem Jn.flush_seq (J : Jn) : J.flush.seq = J.seq:=by
 unfold Jn.flush
 split <;> rfl
theorem Jn.layTo_last (J : Jn) (fs : List (List UInt8)) (k : Nat) : (J.layTo fs k).last = J.last:=by
 induction k with
 | zero=>rfl
 | succ k ih=>rw [Jn.layTo,Jn.lay_last,ih]
theorem Jn.layTo_seq (J : Jn) (fs : List (List UInt8)) (k : Nat) : (J.layTo fs k).seq = J.seq:=by
 induction k with
 | zero=>rfl
 | succ k ih=>rw [Jn.layTo,Jn.lay_seq,ih]
theorem Jn.spreads_seq (J : Jn) (Ls : List (List UInt8)) : (J.spreads Ls).seq = J.seq:=by
 unfold Jn.spreads
 induction Ls generalizing J with
 | nil=>rfl
 | cons f r ih=>rw [List.foldl_cons,ih,Jn.spStep,Jn.lay_seq]
theorem rightGo_spec {nb : Nat} : ∀ (zs met : List Int) (ls : List (List UInt8)),rightGo nb met zs ls = true → zs.length = ls.length →
  ∀ k (h : k < zs.length) (h2 : k < ls.length),0 ≤ zs[k]∧zs[k] < (nb : Int)∧ls[k].length = 112∧zs[k] ∉ met ++ zs.take k
 | [],_,_,_,_,k,h,_=>by simp at h
 | n :: r,met,[],_,hl,_,_,_=>by simp at hl
 | n :: r,met,b :: s,hr,hl,k,h,h2=>by
  simp only [rightGo,Bool.and_eq_true,decide_eq_true_eq,Bool.not_eq_true',decide_eq_false_iff_not] at hr;obtain ⟨⟨⟨⟨a1,a2⟩,a3⟩,a4⟩,a5⟩:=hr
  cases k with
  | zero=>simpa using ⟨a1,a2,a4,a3⟩
  | succ k =>
   have ih:=rightGo_spec r (met ++ [n]) s a5 (by simpa using hl) k (by simpa using h) (by simpa using h2);simpa using ih
theorem rightW_spec {nb : Nat} {zs : List Int} {ls : List (List UInt8)} (h : rightW nb zs ls = true) : zs.length = ls.length ∧
  ∀ k (h : k < zs.length) (h2 : k < ls.length),0 ≤ zs[k]∧zs[k] < (nb : Int)∧ls[k].length = 112∧zs[k] ∉ zs.take k:=by
 simp only [rightW,Bool.and_eq_true,decide_eq_true_eq] at h;exact ⟨h.1,fun k h1 h2=>by simpa using rightGo_spec zs [] ls h.2 h.1 k h1 h2⟩
theorem nodup_bound : ∀ (n : Nat) (l : List Nat),l.Nodup → (∀ x ∈ l,x < n) → l.length ≤ n
 | 0,[],_,_=>Nat.le_refl _
 | 0,x :: r,_,h=>by have:=h x (List.mem_cons_self ..);omega
 | n + 1,l,hn,h=>by
  have ih:=nodup_bound n (l.erase n) (hn.erase n) (fun x hx=>by
   have h1:=(hn.mem_erase_iff).1 hx;have:=h x h1.2
   omega)
  have h2 : l.length ≤ (l.erase n).length + 1:=by
   rw [List.length_erase]
   split <;> omega
  omega
theorem rightW_few {nb : Nat} {zs : List Int} {ls : List (List UInt8)} (h : rightW nb zs ls = true) : zs.length ≤ nb:=by
 obtain ⟨hl,hs⟩:=rightW_spec h
 have h1 : (zs.map Int.toNat).Nodup:=by
  rw [List.Nodup,List.pairwise_iff_getElem];intro i j hi hj hij;simp only [List.length_map] at hi hj;simp only [List.getElem_map];intro e;obtain ⟨a1,_,_,_⟩:=hs i hi (by omega);obtain ⟨b1,_,_,b4⟩:=hs j hj (by omega);apply b4;have e2 : zs[i] = zs[j]:=by omega
  rw [← e2,List.mem_take_iff_getElem];exact ⟨i,by omega,rfl⟩
 have:=nodup_bound nb (zs.map Int.toNat) h1 (fun x hx=>by
  obtain ⟨y,hy,rfl⟩:=List.mem_map.1 hx;obtain ⟨i,hi,rfl⟩:=List.getElem_of_mem hy;obtain ⟨a1,a2,_,_⟩:=hs i hi (by omega)
  omega)
 simpa using this
theorem noteFs_length {write : Nat} {zs : List Int} {ls : List (List UInt8)} (h : zs.length = ls.length) : (noteFs write zs ls).length = zs.length:=by simp [noteFs,h]
theorem noteFs_get {write : Nat} {zs : List Int} {ls : List (List UInt8)} (h : zs.length = ls.length) (k : Nat) (hk : k < zs.length) (hk2 : k < ls.length) (hk3 : k < (noteFs write zs ls).length) :
  (noteFs write zs ls)[k] = mkF write (2 * 16777216 + zs[k].toNat) ls[k]:=by
 simp [noteFs]
theorem cell_keep {w w' : World} {T : Nat → Prop} {a : Addr} {u : Value} (h : w.cell? a = some u) (ht : Turned T w w') (hT : ¬ T a.block) : w'.cell? a = some u:=by rw [← h];exact World.cell?_of_block (ht.block _ (World.block_lt_of_cell? w a h) hT)
def WrHeld (p vb o : Nat) (n : Int) (x : Value) (W : World) : Prop:=W.cell? ⟨p,1,none⟩ = some (.int .u64 n)∧W.cell? ⟨vb,o,none⟩ = some x
theorem WrHeld.below {p vb o : Nat} {n : Int} {x : Value} {W W' : World} (h : WrHeld p vb o n x W) (hb : Below W.heap.size W W') : WrHeld p vb o n x W':=⟨cells_below hb _ _ h.1,cells_below hb _ _ h.2⟩
theorem WrHeld.turned {p vb o : Nat} {n : Int} {x : Value} {W W' : World} {T : Nat → Prop} (h : WrHeld p vb o n x W) (ht : Turned T W W') (h1 : ¬ T p) (h2 : ¬ T vb) : WrHeld p vb o n x W':=⟨cell_keep h.1 ht h1,cell_keep h.2 ht h2⟩
def MkHeld (p : Nat) (n s : Int) (W : World) : Prop:=W.cell? ⟨p,1,none⟩ = some (.int .u64 n)∧W.cell? ⟨p,2,none⟩ = some (.int .i64 s)
theorem MkHeld.below {p : Nat} {n s : Int} {W W' : World} (h : MkHeld p n s W) (hb : Below W.heap.size W W') : MkHeld p n s W':=⟨cells_below hb _ _ h.1,cells_below hb _ _ h.2⟩
set_option maxHeartbeats 8000000 in
theorem jwrite_any (w : World) (F : Ft) (p : Nat) (J : Jn) (h : JAt w F p J) (hn : Nib w) (hn2 : 2 ≤ J.D.n) (u : Value) (zs : List Int) (hku : ∀ w',Turned (JT F p) w w' → IsI w' u zs) (v : Value) (ls : List (List UInt8)) (hkv : ∀ w',Turned (JT F p) w w' → IsBs w' v ls)
  (hzs : ∀ n ∈ zs,-9223372036854775808 ≤ n∧n ≤ 9223372036854775807) (hlast : J.last + 1 < 18446744073709551616) (hs1 : -9223372036854775808 ≤ J.seq) (hs2 : J.seq < 9223372036854775807) :
  Calls Tryz.prog 58 #[jptr p,u,v] w fun e w'=>e = .returned (.int .i64 (J.write zs ls).1)∧JAt w' F p (J.write zs ls).2∧Turned (JT F p) w w':=by
 obtain ⟨c0,c1,c2,c3⟩:=h.cells;have hnm:=h.disk.ok.nm
 by_cases h0 : J.off = 0
 case neg =>
  have e1 : J.write zs ls = (J.off,J):=by rw [Jn.write,if_pos h0]
  rw [e1];have hd : (J.off == 0) = false:=by simpa using h0
  have hd2 : (J.off != 0) = true:=by simpa using h0
  have HJ:=Hd h;clear e1 h h0;clear hku hkv;generalize J.off = o at *;go_enter Tryz.func58,Tryz.ntmps58;go_wp2_with fail;go_ret;exact ⟨rfl,HJ.out,Turned.refl _ w⟩
 rw [h0] at c3;have hu:=hku w (Turned.refl _ w)
 have hv:=hkv w (Turned.refl _ w);have Hu:=Hd hku;have Hv:=Hd hkv;clear hku hkv;obtain ⟨au,cu,rfl,hcu,hmu⟩:=hu.form;obtain ⟨av,cv,rfl,hcv,hmv⟩:=hv.form;unfold maxLen at hmu hmv;have HR:=Hd (right_any w F p J h hn2 _ zs hu _ ls hv hzs)
 cases hr : rightW J.D.blocks zs ls with
 | false =>
  have e1 : J.write zs ls = (2,J):=by rw [Jn.write,if_neg (by simpa using h0),if_pos hr]
  rw [e1];rw [hr] at HR;have HJ:=Hd h
  clear e1 h h0 hu hv hzs hr;go_enter Tryz.func58,Tryz.ntmps58;go_wp2_with fail;refine HR.out.mono ?_;rintro e w1 ⟨rfl,hb1⟩;go_wp2_with fail;go_ret;exact ⟨rfl,HJ.out.below hb1,Turned.of_below hb1⟩
 | true =>
 rw [hr] at HR;obtain ⟨hlen,hsp⟩:=rightW_spec hr;have hfew:=rightW_few hr
 by_cases hz0 : zs.length = 0
 case pos =>
  have e1 : J.write zs ls = (0,J):=by rw [Jn.write,if_neg (by simpa using h0),if_neg (by simp [hr]),if_pos hz0]
  rw [e1];have HJ:=Hd h
  have hd : ((zs.length : Int) == 0) = true:=by simp [hz0]
  clear e1 h h0 hu hv hzs hr hsp hlen hz0;go_enter Tryz.func58,Tryz.ntmps58;go_wp2_with fail;refine HR.out.mono ?_;rintro e w1 ⟨rfl,hb1⟩;go_wp2_with fail;go_ret;exact ⟨rfl,HJ.out.below hb1,Turned.of_below hb1⟩
 have e1 : J.write zs ls = ((J.writes zs ls).off,J.writes zs ls):=by rw [Jn.write,if_neg (by simpa using h0),if_neg (by simp [hr]),if_neg hz0]
 rw [e1];have hd : ((zs.length : Int) == 0) = false:=by rw [beq_eq_false_iff_ne];omega
 have hfl : (noteFs (J.last + 1) zs ls).length = zs.length:=noteFs_length hlen;have Hfg : Hid (∀ k (h1 : k < zs.length) (h2 : k < ls.length) (h3 : k < (noteFs (J.last + 1) zs ls).length),(noteFs (J.last + 1) zs ls)[k] = mkF (J.last + 1) (2 * 16777216 + zs[k].toNat) ls[k]):=Hd (fun k h1 h2 h3=>noteFs_get hlen k h1 h2 h3)
 have Hw : Hid (J.writes zs ls = if (((((({ J with last:=J.last + 1 } : Jn).layTo (noteFs (J.last + 1) zs ls) zs.length).flush).lay ((J.last + 1) % 2) (markF (J.last + 1) zs.length (J.seq + 1))).flush).spread (noteFs (J.last + 1) zs ls)).off = 0
  then { ((((({ J with last:=J.last + 1 } : Jn).layTo (noteFs (J.last + 1) zs ls) zs.length).flush).lay ((J.last + 1) % 2) (markF (J.last + 1) zs.length (J.seq + 1))).flush).spread (noteFs (J.last + 1) zs ls) with seq:=J.seq + 1 }
  else ((((({ J with last:=J.last + 1 } : Jn).layTo (noteFs (J.last + 1) zs ls) zs.length).flush).lay ((J.last + 1) % 2) (markF (J.last + 1) zs.length (J.seq + 1))).flush).spread (noteFs (J.last + 1) zs ls)):=Hd rfl
 have Hz0:=Hd hz0;have Hlen:=Hd hlen;have Hsp:=Hd hsp;have Hfl:=Hd hfl;have HJ:=Hd h;have hap : ∀ k,JT F p k → k < w.heap.size:=fun k hk=>h.lt hk;have Hap:=Hd hap;have Hn:=Hd hn;have hb8 : J.D.blocks ≤ 8191:=by unfold Dk.blocks;omega
 have hlast2 : (J.last : Int) + 1 ≤ 18446744073709551615:=by omega
 have hseq1 : J.seq + 1 ≤ 9223372036854775807:=by omega
 have hseq2 : -9223372036854775808 ≤ J.seq + 1:=by omega
 clear e1 hu hv hzs hr hlen hsp hz0 h hap hn hfl c0 c1 c2 h0;generalize hfse : noteFs (J.last + 1) zs ls = fs at *;clear hfse;go_enter Tryz.func58,Tryz.ntmps58;go_wp2_with fail;refine HR.out.mono ?_;rintro e w1 ⟨rfl,hb1⟩;have hj1:=HJ.out.below hb1
 have hn1:=Hn.out.below hb1;obtain ⟨c0,c1,c2,c3⟩:=hj1.cells;have f1:=frozen_p hj1.head 1;have hj2:=hj1.put_last (J.last + 1);have ht2:=(Turned.of_below (T:=JT F p) hb1).trans ((turned_one w1 p 1 (.int .u64 ((J.last + 1 : Nat) : Int))).jp F);have hn2':=hn1.turned hj1 ((turned_one w1 p 1 (.int .u64 ((J.last + 1 : Nat) : Int))).jp F);rw [show ((J.last + 1 : Nat) : Int) = (J.last : Int) + 1 by omega] at hj2 ht2 hn2'
 have hsz2 : w.heap.size ≤ (w1.setCell ⟨p,1,none⟩ (.int .u64 ((J.last : Int) + 1))).heap.size:=ht2.size;clear hj1 hn1 hb1 HR;go_upto_region 10 with fail;generalize w1.setCell ⟨p,1,none⟩ (.int .u64 ((J.last : Int) + 1)) = w2 at *;have HJ1 : Hid (({ J with last:=J.last + 1 } : Jn).last = J.last + 1∧({ J with last:=J.last + 1 } : Jn).seq = J.seq∧({ J with last:=J.last + 1 } : Jn).D.n = J.D.n):=Hd ⟨rfl,rfl,rfl⟩;generalize ({ J with last:=J.last + 1 } : Jn) = J1 at *;clear c0 c1 c2 c3 f1;have HW:=Hd Hw.out;clear Hw;go_wp2_with fail;have hmF:=MineF.nil w.heap.size w2;go_loopw [7,42] (fun x i wr=>∃ k : Nat,k ≤ zs.length∧i = .int .i64 (k : Int)∧MineF w.heap.size wr x (fs.take k)∧JAt wr F p (J1.layTo fs k)∧Nib wr∧Turned (JT F p) w wr) (fun _ i _=>zs.length - (intOf i).toNat)
 case atStart=>exact ⟨0,Nat.zero_le _,rfl,hmF,hj2,hn2',ht2⟩
 case round =>
  obtain ⟨k,hk,rfl,hmr,hjr,hnr,htr⟩:=hrel;clear hmF hj2 hn2' ht2 hsz2;have hszr:=htr.size
  by_cases hlt : k < zs.length
  ·have hlt2 : k < ls.length:=by have:=Hlen.out;omega
   have hlt3 : k < fs.length:=by have:=Hfl.out;omega
   have hd1 : decide ((k : Int) < (zs.length : Int)) = true:=by simpa using hlt
   have hd1b : decide ((k : Int) < (ls.length : Int)) = true:=by simpa using hlt2
   obtain ⟨ub,uo,rfl,hcu1⟩:=isI_at (Hu.out wr htr) k hlt;obtain ⟨vb,vo,x,rfl,hcv1,hx⟩:=isBs_at (Hv.out wr htr) k hlt2
   have Hnv : Hid (¬ w.heap.size ≤ vb):=by
    obtain ⟨vb',vo',x',e',hc',_⟩:=isBs_at (Hv.out w (Turned.refl _ w)) k hlt2;simp only [Option.some.injEq,Addr.mk.injEq] at e';have:=World.block_lt_of_cell? w _ hc'
    show ¬ w.heap.size ≤ vb
    rw [e'.1];exact Nat.not_le.2 this
   have Hnn : Hid (¬ w.heap.size ≤ 0):=Nat.not_le.2 (World.block_lt_of_cell? w _ (Hn.out 0 (by omega)));have hsp:=Hsp.out k hlt hlt2;have hfk:=Hfg.out k hlt hlt2 hlt3;have hts : fs.take (k + 1) = fs.take k ++ [fs[k]]:=List.take_succ_eq_append_getElem hlt3;have hst : J1.layTo fs (k + 1) = (J1.layTo fs k).lay (2 + k) fs[k]:=by rw [Jn.layTo,List.getD_eq_getElem?_getD,List.getElem?_eq_getElem hlt3];rfl
   have hl1 : (J1.layTo fs k).last = J.last + 1:=by rw [Jn.layTo_last];exact HJ1.out.1
   obtain ⟨m,hm⟩:=Int.eq_ofNat_of_zero_le hsp.1;have hm8 : m < 16777216:=by have:=hsp.2.1;omega
   rw [hm,Int.toNat_natCast] at hfk;rw [hm] at hcu1;rw [hfk] at hts hst;have hbl:=hsp.2.2.1
   have htkl : (fs.take k).length = k:=by rw [List.length_take];omega
   have Hts:=Hd hts;have Hst:=Hd hst;have Htkl:=Hd htkl;clear hsp hfk hts hst hm htkl;generalize ls[k] = b at *;generalize J1.layTo fs k = Jk at *;obtain ⟨q0,q1,q2,q3⟩:=hjr.cells;rw [hl1,show ((J.last + 1 : Nat) : Int) = (J.last : Int) + 1 by omega] at q1
   have hml : (mkF (J.last + 1) (2 * 16777216 + m) b).length = 128:=mkF_length _ _ _;have Hfr:=fun (W : World) (hb : IsB W x b) (hn : Nib W)=>framed_any W (J.last + 1) 2 m x b hlast (by omega) hm8 hb hn;rw [show ((J.last + 1 : Nat) : Int) = (J.last : Int) + 1 by omega] at Hfr
   have HFR:=Hd Hfr;clear Hfr hl1;generalize mkF (J.last + 1) (2 * 16777216 + m) b = L at *;go_upto_region 14 with fail;have hvb : vb < wr.heap.size:=World.block_lt_of_cell? wr _ hcv1;have hpb : p < wr.heap.size:=World.block_lt_of_cell? wr _ q1;have hS0 : WrHeld p vb (vo + k) ((J.last : Int) + 1) x wr.drew:=⟨q1,hcv1⟩;have hm3:=hmr.drew;have hj3:=hjr.drew;have hn3 : Nib wr.drew:=hnr.below (Below.refl _ wr).drew;have ht3:=htr.drew;have hx3:=hx.drew;have hsz3 : w.heap.size ≤ wr.drew.heap.size:=hszr;clear hmr hjr hnr htr hx q0 q1 q2 q3 hcu1 hcv1 hszr;refine wp_region_noPanic ?_;refine wp_region_held_drew (S:=(WrHeld p vb (vo + k) ((J.last : Int) + 1) x)) (by kernel_rfl) hS0 (fun hH=>?_);refine tkA 0 rfl (v:=?_) (.inl ⟨by rfl,?_⟩) hH ?_;rotate_left
   ·(intro w hSw;obtain ⟨r1,r2⟩:=hSw;go_simp;try with_reducible rfl)
   try simp only [Act.put,zA,zB,zC]
   refine tkA 1 rfl (v:=?_) (.inl ⟨by rfl,?_⟩) hH ?_;rotate_left
   ·(intro w hSw;obtain ⟨r1,r2⟩:=hSw;go_simp;try with_reducible rfl)
   try simp only [Act.put,zA,zB,zC]
   refine tkA 2 rfl (v:=?_) (.inl ⟨by rfl,?_⟩) hH ?_;rotate_left
   ·(intro w hSw;obtain ⟨r1,r2⟩:=hSw;go_simp;try with_reducible rfl)
   try simp only [Act.put,zA,zB,zC]
   refine tkA 3 rfl (v:=?_) (.inl ⟨by rfl,?_⟩) hH ?_;rotate_left
   ·(intro w hSw;obtain ⟨r1,r2⟩:=hSw;go_simp;try with_reducible rfl)
   try simp only [Act.put,zA,zB,zC]
   refine tkA 4 rfl (v:=?_) (.inl ⟨by rfl,?_⟩) hH ?_;rotate_left
   ·(intro w hSw;obtain ⟨r1,r2⟩:=hSw;go_simp;try with_reducible rfl)
   try simp only [Act.put,zA,zB,zC]
   refine tkA 5 rfl (v:=?_) (.inl ⟨by rfl,?_⟩) hH ?_;rotate_left
   ·(intro w hSw;obtain ⟨r1,r2⟩:=hSw;go_simp;try with_reducible rfl)
   try simp only [Act.put,zA,zB,zC]
   refine tkA 6 rfl (v:=?_) (.inl ⟨by rfl,?_⟩) hH ?_;rotate_left
   ·(intro w hSw;obtain ⟨r1,r2⟩:=hSw;go_simp;try with_reducible rfl)
   try simp only [Act.put,zA,zB,zC]
   refine tkA 7 rfl (v:=?_) (.inl ⟨by rfl,?_⟩) hH ?_;rotate_left
   ·(intro w hSw;obtain ⟨r1,r2⟩:=hSw;go_simp;try with_reducible rfl)
   try simp only [Act.put,zA,zB,zC]
   refine tkA 8 rfl (v:=?_) (.inl ⟨by rfl,?_⟩) hH ?_;rotate_left
   ·(intro w hSw;obtain ⟨r1,r2⟩:=hSw;go_simp;try with_reducible rfl)
   try simp only [Act.put,zA,zB,zC]
   refine tkA 9 rfl (v:=?_) (.inl ⟨by rfl,?_⟩) hH ?_;rotate_left
   ·(intro w hSw;obtain ⟨r1,r2⟩:=hSw;go_simp;try with_reducible rfl)
   try simp only [Act.put,zA,zB,zC]
   refine wpAnyH_ready (rs:=[10]) (by kernel_rfl) (by simp) ?_;refine ready_at rfl (fun K hK=>?_) AllReadyH.nil;go_simp;refine (HFR.out _ hx3 hn3).mono ?_;rintro e W3 ⟨rfl,hb⟩;have hHn:=hH.below hb
   replace hj3:=hj3.below hb;replace hn3:=hn3.below hb;replace ht3:=ht3.trans (Turned.of_below (T:=JT F p) hb);replace hm3:=hm3.below hb;replace hsz3:=Nat.le_trans hsz3 hb.size;clear hb hH hx3;go_wp2_with fail;refine hK.out _ _ hHn (fun hH=>?_);clear hHn;clear hK K;try simp only [Act.put,zA,zB,zC]
   refine wpAnyH_ready (rs:=[11]) (by kernel_rfl) (by simp) ?_;refine ready_at rfl (fun K hK=>?_) AllReadyH.nil;refine arm_build_one (by rfl) (.tmp 57) rfl L hml rfl ?_;have hb : Below W3.heap.size W3 (W3.alloc (.cells (bv L).toArray 128)):=(Below.refl _ _).alloc (Nat.le_refl _) _
   have hr4:=RowB.alloc W3 128 L;have hHn:=hH.below hb;replace hj3:=hj3.below hb;replace hn3:=hn3.below hb;replace ht3:=ht3.trans (Turned.of_below (T:=JT F p) hb);replace hm3:=hm3.below hb;replace hsz3:=Nat.le_trans hsz3 hb.size;clear hb hH;generalize W3.alloc (.cells (bv L).toArray 128) = W4 at *;generalize W3.heap.size = g4 at *;refine hK.out _ _ hHn (fun hH=>?_);clear hHn;clear hK K;try simp only [Act.put,zA,zB,zC]
   refine wpAnyH_ready (rs:=[12]) (by kernel_rfl) (by simp) ?_;refine ready_at rfl (fun K hK=>?_) AllReadyH.nil;obtain ⟨v5,W5,hr5,hm5,ht45⟩:=hm3.snoc hsz3 (by rw [Htkl.out];omega) L hml g4 hr4;have hHn:=hH.turned ht45 (fun e=>by have:=Hap.out p (.inr rfl);omega) (fun e=>Hnv.out e)
   have hj5:=hj3.turned ht45 (fun j hj e=>by have:=Hap.out j hj;omega);have hn5:=hn3.of_turned ht45 (fun e=>Hnn.out e);have ht5:=ht3.then ht45 (fun i hi e=>by omega);refine arm_append (by rfl) (.tmp 47) (.tmp 58) 137 137 rfl _ _ _ rfl rfl hr5 ?_;clear hj3 hn3 ht3 hm3 hr4 ht45 hr5 hH;refine hK.out _ _ hHn (fun hH=>?_);clear hHn;clear hK K;try simp only [Act.put,zA,zB,zC]
   refine tkA 13 rfl (v:=?_) (.inl ⟨by rfl,?_⟩) hH ?_;rotate_left
   ·(intro w hSw;obtain ⟨r1,r2⟩:=hSw;go_simp;try with_reducible rfl)
   try simp only [Act.put,zA,zB,zC]
   refine wpAnyH_done (by kernel_rfl) ?_ _;refine NoPanic.normal ?_;clear hH;have hapx : MineF w.heap.size W5 v5 (fs.take (k + 1)):=by rw [Hts.out];exact hm5
   obtain ⟨g5,c5,hv5,hrg5⟩ : ∃ g5 c5,v5 = .slice (some ⟨g5,0,none⟩) (k + 1) c5∧W5.rangeAt g5 (k * 128) (bv L):=by
    have hlen5 : (fs.take (k + 1)).length = k + 1:=by rw [List.length_take];omega
    rcases hapx.range with ⟨_,h2⟩ | ⟨g,c,h1,_,_,_,h3⟩
    ·rw [h2] at hlen5;simp at hlen5
    ·refine ⟨g,c,by rw [h1,hlen5],?_⟩
     have h4:=h3 k (by omega)
     have h5 : (fs.take (k + 1))[k]'(by omega) = L:=by
      have h6 : (fs.take (k + 1))[k]? = some L:=by rw [Hts.out,List.getElem?_append_right (by rw [Htkl.out];exact Nat.le_refl _),Htkl.out,Nat.sub_self];rfl
      exact (List.getElem?_eq_some_iff.1 h6).2
     rw [h5] at h4;exact h4
   subst hv5;have hlb : (bv L).length = 128:=by rw [bv_length,hml]
   have hd5 : decide ((k : Int) < ((k + 1 : Nat) : Int)) = true:=by rw [decide_eq_true_eq];omega
   go_wp2_with (refine wpList_load_mid rfl 128 (.tmp 65) rfl g5 (k * 128) rfl (bv L) _ hrg5 Tryz.underlying128 rfl (by rw [info_frame,hlb]) ?_);have hly:=lay_any W5 F p Jk hj5 (2 + k) (by omega) L hml
   rw [show ((2 + k : Nat) : Int) = 2 + (k : Int) by omega] at hly
   refine hly.mono ?_;rintro e W6 ⟨rfl,hj6,ht6⟩;have hm6:=hapx.turned ht6 Hap.out
   have hn6:=hn5.turned hj5 ht6;have ht6':=ht5.trans ht6;clear hly hm5 hapx hj5 hn5 ht5 ht6 hrg5;go_wp2_with fail;go_roundw
   case rel=>exact ⟨k + 1,by omega,by go_num,hm6,by rw [Hst.out];exact hj6,hn6,ht6'⟩
   case measure=>simp [intOf];omega
  ·obtain rfl : k = zs.length:=by omega
   have hdz : decide ((zs.length : Int) < (zs.length : Int)) = false:=by simp
   have hl2 : (J1.layTo fs zs.length).last = J.last + 1:=by rw [Jn.layTo_last];exact HJ1.out.1
   have hs2b : (J1.layTo fs zs.length).seq = J.seq:=by rw [Jn.layTo_seq];exact HJ1.out.2.1
   have hn2b : (J1.layTo fs zs.length).D.n = J.D.n:=by rw [Jn.layTo_n];exact HJ1.out.2.2
   have HL2:=Hd (And.intro hl2 (And.intro hs2b hn2b));rw [List.take_of_length_le (by rw [Hfl.out];exact Nat.le_refl _)] at hmr;clear hl2 hs2b hn2b;generalize J1.layTo fs zs.length = J2 at *;go_wp2_with fail;refine (jflush_any wr F p J2 hjr).mono ?_;rintro e W3 ⟨rfl,hj3,ht3⟩;have hm3:=hmr.turned ht3 Hap.out;have hn3:=hnr.turned hjr ht3;replace ht3:=htr.trans ht3
   have HL3 : Hid (J2.flush.last = J.last + 1∧J2.flush.seq = J.seq∧J2.flush.D.n = J.D.n):=by
    show _∧_∧_
    rw [Jn.flush_last,Jn.flush_seq,Jn.flush_n];exact HL2.out
   clear hmr hjr hnr htr HL2 hszr;generalize J2.flush = J3 at *
   obtain ⟨g5,c5,hv5⟩ : ∃ g5 c5,u7 = .slice (some ⟨g5,0,none⟩) zs.length c5:=by
    rcases hm3.range with ⟨_,h2⟩ | ⟨g,c,h1,_,_,_,h3⟩
    ·have h4:=Hfl.out;rw [h2] at h4;exact absurd h4.symm Hz0.out
    ·exact ⟨g,c,by rw [h1,Hfl.out]⟩
   subst hv5;obtain ⟨q0,q1,q2,q3⟩:=hj3.cells;rw [HL3.out.1,show ((J.last + 1 : Nat) : Int) = (J.last : Int) + 1 by omega] at q1
   rw [HL3.out.2.1] at q2;have hS0 : MkHeld p ((J.last : Int) + 1) J.seq W3.drew:=⟨q1,q2⟩
   replace hm3:=hm3.drew;replace hj3:=hj3.drew;replace hn3 : Nib W3.drew:=hn3.below (Below.refl _ W3).drew;replace ht3:=ht3.drew;have Hmk:=fun (W : World) (hn : Nib W)=>marked_any W (J.last + 1) zs.length (J.seq + 1) hlast (by omega) hn
   rw [show ((J.last + 1 : Nat) : Int) = (J.last : Int) + 1 by omega] at Hmk
   have HMK:=Hd Hmk;have hml : (markF (J.last + 1) zs.length (J.seq + 1)).length = 128:=mkF_length _ _ _;have hws : IntKind.i64.wrap (J.seq + 1) = J.seq + 1:=IntWalk.i64_in _ (by omega);have hHm : IntKind.i64.wrap (((J.last : Int) + 1).tmod 2) = (((J.last + 1) % 2 : Nat) : Int):=by rw [Int.tmod_eq_emod_of_nonneg (by omega),IntWalk.i64_in _ (by omega)];omega
   have HHm:=Hd hHm;clear q0 q1 q2 q3 Hmk hHm;generalize markF (J.last + 1) zs.length (J.seq + 1) = M at *;go_wp2_with fail;refine wp_region_noPanic ?_;refine wp_region_held_drew (S:=(MkHeld p ((J.last : Int) + 1) J.seq)) (by kernel_rfl) hS0 (fun hH=>?_);refine tkA 0 rfl (v:=?_) (.inl ⟨by rfl,?_⟩) hH ?_;rotate_left
   ·(intro w hSw;obtain ⟨r1,r2⟩:=hSw;go_simp;try with_reducible rfl)
   try simp only [Act.put,zA,zB,zC]
   refine tkA 1 rfl (v:=?_) (.inl ⟨by rfl,?_⟩) hH ?_;rotate_left
   ·(intro w hSw;obtain ⟨r1,r2⟩:=hSw;go_simp;try with_reducible rfl)
   try simp only [Act.put,zA,zB,zC]
   refine tkA 2 rfl (v:=?_) (.inl ⟨by rfl,?_⟩) hH ?_;rotate_left
   ·(intro w hSw;obtain ⟨r1,r2⟩:=hSw;go_simp;try with_reducible rfl)
   try simp only [Act.put,zA,zB,zC]
   refine tkA 3 rfl (v:=?_) (.inl ⟨by rfl,?_⟩) hH ?_;rotate_left
   ·(intro w hSw;obtain ⟨r1,r2⟩:=hSw;go_simp;try with_reducible rfl)
   try simp only [Act.put,zA,zB,zC]
   refine tkA 4 rfl (v:=?_) (.inl ⟨by rfl,?_⟩) hH ?_;rotate_left
   ·(intro w hSw;obtain ⟨r1,r2⟩:=hSw;go_simp;try with_reducible rfl)
   try simp only [Act.put,zA,zB,zC]
   refine tkA 5 rfl (v:=?_) (.inl ⟨by rfl,?_⟩) hH ?_;rotate_left
   ·(intro w hSw;obtain ⟨r1,r2⟩:=hSw;go_simp;try with_reducible rfl)
   try simp only [Act.put,zA,zB,zC]
   refine tkA 6 rfl (v:=?_) (.inl ⟨by rfl,?_⟩) hH ?_;rotate_left
   ·(intro w hSw;obtain ⟨r1,r2⟩:=hSw;go_simp;try with_reducible rfl)
   try simp only [Act.put,zA,zB,zC]
   refine tkA 7 rfl (v:=?_) (.inl ⟨by rfl,?_⟩) hH ?_;rotate_left
   ·(intro w hSw;obtain ⟨r1,r2⟩:=hSw;go_simp;try with_reducible rfl)
   try simp only [Act.put,zA,zB,zC]
   refine tkA 8 rfl (v:=?_) (.inl ⟨by rfl,?_⟩) hH ?_;rotate_left
   ·(intro w hSw;obtain ⟨r1,r2⟩:=hSw;go_simp;try with_reducible rfl)
   try simp only [Act.put,zA,zB,zC]
   refine tkA 9 rfl (v:=?_) (.inl ⟨by rfl,?_⟩) hH ?_;rotate_left
   ·(intro w hSw;obtain ⟨r1,r2⟩:=hSw;go_simp;try with_reducible rfl)
   try simp only [Act.put,zA,zB,zC]
   refine tkA 10 rfl (v:=?_) (.inl ⟨by rfl,?_⟩) hH ?_;rotate_left
   ·(intro w hSw;obtain ⟨r1,r2⟩:=hSw;go_simp;try with_reducible rfl)
   try simp only [Act.put,zA,zB,zC]
   refine tkA 11 rfl (v:=?_) (.inl ⟨by rfl,?_⟩) hH ?_;rotate_left
   ·(intro w hSw;obtain ⟨r1,r2⟩:=hSw;go_simp;try with_reducible rfl)
   try simp only [Act.put,zA,zB,zC]
   refine tkA 12 rfl (v:=?_) (.inl ⟨by rfl,?_⟩) hH ?_;rotate_left
   ·(intro w hSw;obtain ⟨r1,r2⟩:=hSw;go_simp;try with_reducible rfl)
   try simp only [Act.put,zA,zB,zC]
   refine tkA 13 rfl (v:=?_) (.inl ⟨by rfl,?_⟩) hH ?_;rotate_left
   ·(intro w hSw;obtain ⟨r1,r2⟩:=hSw;go_simp;try with_reducible rfl)
   try simp only [Act.put,zA,zB,zC]
   refine tkA 14 rfl (v:=?_) (.inl ⟨by rfl,?_⟩) hH ?_;rotate_left
   ·(intro w hSw;obtain ⟨r1,r2⟩:=hSw;go_simp;try with_reducible rfl)
   try simp only [Act.put,zA,zB,zC]
   refine tkA 15 rfl (v:=?_) (.inl ⟨by rfl,?_⟩) hH ?_;rotate_left
   ·(intro w hSw;obtain ⟨r1,r2⟩:=hSw;go_simp;try with_reducible rfl)
   try simp only [Act.put,zA,zB,zC]
   refine tkA 16 rfl (v:=?_) (.inl ⟨by rfl,?_⟩) hH ?_;rotate_left
   ·(intro w hSw;obtain ⟨r1,r2⟩:=hSw;go_simp;try with_reducible rfl)
   try simp only [Act.put,zA,zB,zC]
   refine tkA 17 rfl (v:=?_) (.inl ⟨by rfl,?_⟩) hH ?_;rotate_left
   ·(intro w hSw;obtain ⟨r1,r2⟩:=hSw;go_simp;try with_reducible rfl)
   try simp only [Act.put,zA,zB,zC]
   refine wpAnyH_ready (rs:=[18]) (by kernel_rfl) (by simp) ?_;refine ready_at rfl (fun K hK=>?_) AllReadyH.nil;go_simp;refine (HMK.out _ hn3).mono ?_;rintro e W4 ⟨rfl,hb⟩;have hHn:=hH.below hb
   replace hj3:=hj3.below hb;replace hn3:=hn3.below hb;replace ht3:=ht3.trans (Turned.of_below (T:=JT F p) hb);replace hm3:=hm3.below hb;clear hb hH;go_wp2_with fail;refine hK.out _ _ hHn (fun hH=>?_);clear hHn;clear hK K;try simp only [Act.put,zA,zB,zC]
   refine wpAnyH_ready (rs:=[19]) (by kernel_rfl) (by simp) ?_;refine ready_at rfl (fun K hK=>?_) AllReadyH.nil;go_simp;rw [HHm.out];have hly:=lay_any W4 F p J3 hj3 ((J.last + 1) % 2) (by omega) M hml
   refine hly.mono ?_;rintro e W5 ⟨rfl,hj5,ht45⟩;have hm5:=hm3.turned ht45 Hap.out
   have hn5:=hn3.turned hj3 ht45;have ht5:=ht3.trans ht45
   have hHn : MkHeld p ((J.last : Int) + 1) J.seq W5:=by
    obtain ⟨_,r1,r2,_⟩:=hj5.cells;rw [Jn.lay_last,HL3.out.1,show ((J.last + 1 : Nat) : Int) = (J.last : Int) + 1 by omega] at r1
    rw [Jn.lay_seq,HL3.out.2.1] at r2;exact ⟨r1,r2⟩
   clear hly hm3 hj3 hn3 ht3 ht45 hH;go_wp2_with fail;refine hK.out _ _ hHn (fun hH=>?_);clear hHn;clear hK K;try simp only [Act.put,zA,zB,zC]
   refine wpAnyH_done (by kernel_rfl) ?_ _;refine NoPanic.normal ?_
   have HJ5 : Hid ((J3.lay ((J.last + 1) % 2) M).D.n = J.D.n∧(J3.lay ((J.last + 1) % 2) M).seq = J.seq):=by
    show _∧_
    rw [Jn.lay_n,Jn.lay_seq];exact ⟨HL3.out.2.2,HL3.out.2.1⟩
   clear hH;generalize J3.lay ((J.last + 1) % 2) M = J5 at *;go_wp2_with fail;refine (jflush_any W5 F p J5 hj5).mono ?_;rintro e W6 ⟨rfl,hj6,ht6⟩;have hm6:=hm5.turned ht6 Hap.out
   have hn6:=hn5.turned hj5 ht6;replace ht6:=ht5.trans ht6;have hn6b : 2 ≤ J5.flush.D.n:=by rw [Jn.flush_n,HJ5.out.1];exact hn2
   have HS6 : Hid (J5.flush.seq = J.seq):=by
    show _ = _
    rw [Jn.flush_seq];exact HJ5.out.2
   clear hm5 hj5 hn5 ht5;generalize J5.flush = J6 at *;go_wp2_with fail;refine (spread_any W6 F p J6 hj6 hn6 hn6b w.heap.size _ fs hm6 Hap.out).mono ?_;rintro e W7 ⟨rfl,hj7,ht7⟩;replace ht7:=ht6.trans ht7;clear hm6 hj6 hn6 ht6 hn6b;have hs7 : (J6.spread fs).seq = J.seq:=by rw [Jn.spread,Jn.flush_seq,Jn.spreads_seq];exact HS6.out
   generalize J6.spread fs = J7 at *;obtain ⟨q0,q1,q2,q3⟩:=hj7.cells;rw [hs7] at q2;by_cases h7 : J7.off = 0
   ·have hw7:=HW.out
    rw [if_pos h7] at hw7;have HW7:=Hd hw7
    rw [h7] at q3;have f2:=frozen_p hj7.head 2
    have hj8:=hj7.put_seq (J.seq + 1);have ht8:=ht7.trans ((turned_one W7 p 2 (.int .i64 (J.seq + 1))).jp F);obtain ⟨r0,r1,r2,r3⟩:=hj8.cells;rw [show ({ J7 with seq:=J.seq + 1 } : Jn).off = 0 from h7] at r3
    have HF:=Hd (And.intro hj8 ht8);have H7:=Hd h7;clear hj7 ht7 hj8 ht8 h7 hw7 HW q0 q1 r0 r1 r2;go_wp2_with fail;go_ret;rw [HW7.out];exact ⟨by show Ending.returned (.int .i64 0) = .returned (.int .i64 J7.off);rw [H7.out],HF.out⟩
   ·have hw7:=HW.out
    rw [if_neg h7] at hw7;have HW7:=Hd hw7
    have hd7 : (J7.off == 0) = false:=by simpa using h7
    have HF:=Hd (And.intro hj7 ht7);clear hj7 ht7 h7 hw7 HW q0 q1 q2;go_wp2_with fail;go_ret;rw [HW7.out];exact ⟨rfl,HF.out⟩
end Go.Proofs.YtofibccplbnaiaaGreatDoor

namespace Go.Proofs.YtofibccplbnaiaaGreatDoor
open Go.RowKit
theorem info_int : (Tryz.prog.info? 3).map (fun i=>(i.zero,i.size,i.bytes)) = some (some (.int .i64 0),1,8):=by kernel_rfl
def iv (zs : List Int) : List Value:=zs.map fun n=>.int .i64 n
def MineI (base : Nat) (w : World) (v : Value) (zs : List Int) : Prop:=w.ownsRow base 3 1 v zs.length (iv zs)
theorem MineI.nil (base : Nat) (w : World) : MineI base w (.slice none 0 0) []:=World.ownsRow_nil w base 3 1
theorem MineI.isI {base : Nat} {w : World} {v : Value} {zs : List Int} (h : MineI base w v zs) : IsI w v zs:=by
 rcases h.2 with ⟨rfl,hn⟩ | ⟨g,cap,cur,rfl,hb,hg,hnc,hcm,hcs,htake⟩
 ·obtain rfl : zs = []:=List.eq_nil_of_length_eq_zero hn;exact IsI.nil w
 ·refine ⟨some ⟨g,0,none⟩,cap,rfl,hnc,hcm,fun h=>(by cases h),?_⟩
  rintro x ⟨⟩;refine ⟨fun _=>rfl,fun i hi=>?_⟩;rw [cell_of_row _ _ _ _ _ _ hg,Nat.zero_add];have e : (iv zs)[i]? = some (.int .i64 zs[i]):=by simp [iv,hi]
  rw [← htake,List.getElem?_take,if_pos (by simpa [iv] using hi)] at e;simpa using e
end Go.Proofs.YtofibccplbnaiaaGreatDoor

namespace Go.Proofs.YtofibccplbnaiaaGreatDoor
open Go.RowKit
theorem own_other {B : Nat} {e : TypeId} {s n : Nat} {w w' : World} {v u : Value} {xs : List Value} {e' : TypeId} {s' n' : Nat} {ys : List Value} (h : w.ownsRow B e s u n xs) (hv : w.ownsRow B e' s' v n' ys) (hne : e ≠ e') (hg : w.grownBy w' v.ownBlock) : w'.ownsRow B e s u n xs:=by
 obtain ⟨h1,h2⟩:=h;refine ⟨h1,?_⟩;rcases h2 with h2 | ⟨g,cap,cur,hu,hb,hh,r⟩
 ·exact .inl h2
 ·refine .inr ⟨g,cap,cur,hu,hb,?_,r⟩
  rw [hg.block g (lt_of_heap hh) fun e1=>hne ?_]
  ·exact hh
  ·rcases hv.2 with ⟨rfl,_⟩ | ⟨g',_,cur',rfl,_,hh',_⟩
   ·cases e1
   ·have : g = g':=by simpa [Value.ownBlock] using e1
    subst this;rw [hh] at hh';injection hh' with hh';injection hh' with _ hh'
theorem own_keep {B : Nat} {e : TypeId} {s n : Nat} {w w' : World} {u : Value} {xs : List Value} (h : w.ownsRow B e s u n xs) (hw : ∀ k,B ≤ k → k < w.heap.size → w'.heap[k]? = w.heap[k]?) : w'.ownsRow B e s u n xs:=by
 obtain ⟨h1,h2⟩:=h;refine ⟨h1,?_⟩;rcases h2 with h2 | ⟨g,cap,cur,hu,hb,hh,r⟩
 ·exact .inl h2
 ·exact .inr ⟨g,cap,cur,hu,hb,(hw g hb (lt_of_heap hh)).trans hh,r⟩
theorem grown_turned {B : Nat} {e : TypeId} {s n : Nat} {w w' : World} {v : Value} {xs : List Value} (h : w.ownsRow B e s v n xs) (hg : w.grownBy w' v.ownBlock) : Turned (fun k=>B ≤ k) w w':=by
 refine ⟨hg.os,hg.tape,hg.output,hg.size,fun k hk hn=>hg.block k hk fun e=>hn ?_⟩;rcases h.2 with ⟨rfl,_⟩ | ⟨g',_,_,rfl,hb',_⟩
 ·cases e
 ·have : k = g':=by simpa [Value.ownBlock] using e
  omega
theorem MineI.grow {B : Nat} {w : World} {v : Value} {zs : List Int} (h : MineI B w v zs) (hB : B ≤ w.heap.size) (hL : zs.length ≤ 1000000) (z : Int) (g : Nat) (hg : w.heap[g]? = some (.cells #[.int .i64 z] 3 (0,0))) :
  ∃ v' w',(Builtin.append_ #[109,109] 109 #[v,.slice (some ⟨g,0,none⟩) 1 1]).run Tryz.prog w = .ok v' w'∧MineI B w' v' (zs ++ [z])∧w.grownBy w' v.ownBlock:=by
 obtain ⟨i,hi,hz,hs,hb⟩:=info_parts (P:=Tryz.prog) (e:=3) info_int;have hcell : ∀ w' : World,w'.heap = w.heap → ∀ j c,([.int .i64 z] : List Value)[j]? = some c → w'.cell? ((⟨g,0,none⟩ : Addr).add j) = some c:=fun w' hw j c hj=>by rw [Addr.add_mid,Nat.zero_add,cell_of_row w' _ _ _ _ _ (by rw [hw];exact hg)];simpa using hj
 obtain ⟨v',w',hr,ho,hgr,_,_⟩:=run_app (P:=Tryz.prog) w B 109 109 109 3 i _ 1 8 _ Tryz.underlying109 Tryz.underlying109 (.inl rfl) hi hz hs hb rfl (by decide) v zs.length (iv zs) h
  (.slice (some ⟨g,0,none⟩) 1 1) 1 [.int .i64 z] (fun w'=>rfl) rfl (fun w' hw=>run_firstCells_some (P:=Tryz.prog) w' 1 1 ⟨g,0,none⟩ 1 1 [.int .i64 z] rfl (hcell w' hw)) (by
   intro c hc
   rw [List.mem_singleton.1 hc];rfl) (by simp [maxLen];omega) (by omega) hB
 refine ⟨v',w',hr,?_,hgr⟩;unfold MineI;rw [show iv (zs ++ [z]) = iv zs ++ [.int .i64 z] by simp [iv],List.length_append]
 exact ho
theorem info_bytes2 : (Tryz.prog.info? 106).map (fun i=>(i.zero,i.size,i.bytes)) = some (some (.slice none 0 0),1,24):=by kernel_rfl
theorem own_lt {B : Nat} {e : TypeId} {s n : Nat} {w : World} {u : Value} {xs : List Value} (h : w.ownsRow B e s u n xs) {k : Nat} (hk : some k = u.ownBlock) : B ≤ k∧∃ c,w.heap[k]? = some (.cells c e (0,0)):=by
 rcases h.2 with ⟨rfl,_⟩ | ⟨g,_,cur,rfl,hb,hh,_⟩
 ·cases hk
 ·have : k = g:=by simpa [Value.ownBlock] using hk
  subst this;exact ⟨hb,cur,hh⟩
theorem MineI.keep {B : Nat} {w w' : World} {v : Value} {zs : List Int} (h : MineI B w v zs) (hw : ∀ k,B ≤ k → k < w.heap.size → w'.heap[k]? = w.heap[k]?) : MineI B w' v zs:=own_keep h hw
theorem MineI.below {B : Nat} {w w' : World} {v : Value} {zs : List Int} (h : MineI B w v zs) (hb : Below w.heap.size w w') : MineI B w' v zs:=h.keep fun k _ hl=>hb.block k hl
def Held (B : Nat) (w0 : World) (P : World → Prop) : Prop:=∀ w,(∀ k,B ≤ k → k < w0.heap.size → w.heap[k]? = w0.heap[k]?) → P w
theorem Held.now {B : Nat} {w : World} {P : World → Prop} (h : Held B w P) : P w:=h w fun _ _ _=>rfl
end Go.Proofs.YtofibccplbnaiaaGreatDoor
