/- Contracts of the functions that the statements of this seat reach, part 3: each says what the call answers and what it leaves of the memory. -/
import Derived.Test.YtoonlihacbbfdaaDoorBase2
import Derived.Deep.RegionHeld3
import Derived.IntWalk
import Derived.Test.YtoonlihacbbfdaaDoorRows
import Derived.Deep.Matrix
import Derived.Deep.Slices
import Derived.Deep.Fields
import Derived.ProofKit
import Derived.OpenShut
import Derived.Deep.DeepHandedRow
import Derived.Lib.LaidTab
import Derived.SizedLaws
/- begun: a journal on a new disk; a journal of one's own. -/
set_option linter.unusedVariables false
set_option linter.unusedSimpArgs false
set_option maxRecDepth 100000
namespace Go.Proofs.YtoonlihacbbfdaaDoor
open Go.RowKit

/-- a journal whose blocks all lie from block B on -/
structure JB (B : Nat) (w0 w : World) (F : Ft) (p : Nat) (J : Jn) : Prop where
  jat : JAt w F p J
  nib : Nib w
  below : Below B w0 w
  own : ∀ k, JT F p k → B ≤ k
  base : B ≤ w.heap.size
theorem JB.step {B : Nat} {w0 w w' : World} {F : Ft} {p : Nat} {J : Jn} (h : JB B w0 w F p J) (hb : Below w.heap.size w w') : JB B w0 w' F p J :=
  ⟨h.jat.below hb, h.nib.below hb, h.below.trans (hb.mono h.base), h.own, Nat.le_trans h.base hb.size⟩
theorem JB.turn {B : Nat} {w0 w w' : World} {F : Ft} {p : Nat} {J J' : Jn} (h : JB B w0 w F p J) (hj : JAt w' F p J') (ht : Turned (JT F p) w w') : JB B w0 w' F p J' :=
  ⟨hj, h.nib.turned h.jat ht, h.below.trans (ht.below h.base h.own), h.own, Nat.le_trans h.base ht.size⟩
/-- blocks of others are turned -/
theorem JB.other {B : Nat} {w0 w w' : World} {F : Ft} {p : Nat} {J : Jn} {T : Nat → Prop} (h : JB B w0 w F p J) (ht : Turned T w w') (hT : ∀ k, T k → ¬ JT F p k ∧ B ≤ k ∧ k ≠ 0) : JB B w0 w' F p J :=
  ⟨h.jat.turned ht (fun k hk e => (hT k e).1 hk), h.nib.of_turned ht (fun e => (hT _ e).2.2 rfl), h.below.trans (ht.below h.base (fun k hk => (hT k hk).2.1)), h.own, Nat.le_trans h.base ht.size⟩
/-- the disk alone -/
structure DB (B : Nat) (w0 w : World) (F : Ft) (D : Dk) : Prop where
  dat : DkAt w F D
  nib : Nib w
  below : Below B w0 w
  own : ∀ k, F.has k → B ≤ k
  base : B ≤ w.heap.size
theorem DB.step {B : Nat} {w0 w w' : World} {F : Ft} {D : Dk} (h : DB B w0 w F D) (hb : Below w.heap.size w w') : DB B w0 w' F D :=
  ⟨h.dat.below hb, h.nib.below hb, h.below.trans (hb.mono h.base), h.own, Nat.le_trans h.base hb.size⟩
theorem DB.turn {B : Nat} {w0 w w' : World} {F : Ft} {D D' : Dk} (h : DB B w0 w F D) (hj : DkAt w' F D') (ht : Turned F.has w w') : DB B w0 w' F D' :=
  ⟨hj, h.nib.turnedD h.dat ht, h.below.trans (ht.below h.base h.own), h.own, Nat.le_trans h.base ht.size⟩
theorem open_good (w : World) (F : Ft) (D : Dk) (h : DkAt w F D) (hn : Nib w) {J : Jn} (he : D.openJ = (0, J)) : Calls Tryd.prog 21 #[F.ptr] w fun e w' => ∃ p, e = .returned (.tuple #[jptr p, .int .i64 0]) ∧ JAt w' F p J ∧ w.heap.size ≤ p ∧ Turned F.has w w' := by
  refine (open_any w F D h hn).mono ?_
  rintro e w' ⟨h1, h2⟩
  rw [he, if_pos rfl] at h1
  obtain ⟨p, e1, e2, e3⟩ := h1
  exact ⟨p, e1, e2, e3, h2⟩
theorem open_not (w : World) (F : Ft) (D : Dk) (h : DkAt w F D) (hn : Nib w) {c : Int} {J : Jn} (he : D.openJ = (c, J)) (hc : c ≠ 0) : Calls Tryd.prog 21 #[F.ptr] w fun e w' => e = .returned (.tuple #[.pointer none, .int .i64 c]) ∧ DkAt w' F J.D ∧ Turned F.has w w' := by
  refine (open_any w F D h hn).mono ?_
  rintro e w' ⟨h1, h2⟩
  rw [he, if_neg hc] at h1
  exact ⟨h1.1, h1.2, h2⟩
theorem JB.of {B : Nat} {w0 w w' : World} {F : Ft} {p : Nat} {D : Dk} {J : Jn} (h : DB B w0 w F D) (hj : JAt w' F p J) (hp : w.heap.size ≤ p) (ht : Turned F.has w w') : JB B w0 w' F p J :=
  ⟨hj, h.nib.turnedD h.dat ht, h.below.trans (ht.below h.base h.own), fun k hk => by
    rcases hk with hk | hk
    · exact h.own k hk
    · have := h.base; omega, Nat.le_trans h.base ht.size⟩
theorem JB.disk {B : Nat} {w0 w : World} {F : Ft} {p : Nat} {J : Jn} (h : JB B w0 w F p J) : DB B w0 w F J.D := ⟨h.jat.disk, h.nib, h.below, fun k hk => h.own k (.inl hk), h.base⟩
/-- the journal that begins -/
theorem begun_plain {n : Nat} (h1 : 32 ≤ n) (h2 : n ≤ 16384) : ∃ D1 J, (Dk.new n).format = (0, D1) ∧ D1.openJ = (0, J) ∧ Live n J 0 (zeroB n) AllOk ∧ J.last ≤ 1 ∧ J.D.cut < 0 ∧ J.D.ops ≤ 2 * n + 5 := by
  obtain ⟨D1, f⟩ := format_im (n := n) (D := Dk.new n) (Dk.new_ok (by omega) h2) rfl h1 rfl (by show (-1 : Int) < 0; decide) ⟨rfl, rfl⟩ (by show 0 + _ ≤ _; omega)
  have hops := f.ops
  have hops0 : (Dk.new n).ops = 0 := rfl
  have hcut : D1.cut = -1 := f.cut
  obtain ⟨c, J, o⟩ := open_im f.im f.flat f.ok f.hn f.off (by omega)
  have hJo := o.ops
  rcases o.ends with ⟨rfl, hl, _⟩ | ⟨_, h3, _⟩
  · exact ⟨D1, J, f.eq, o.eq, hl, o.last, by rw [o.cut, hcut]; decide, by omega⟩
  · omega
set_option maxHeartbeats 8000000 in
theorem begun06_any (w : World) (hn : Nib w) (n : Nat) (h1 : 32 ≤ n) (h2 : n ≤ 16384) :
    Calls Tryd.prog 9 #[.int .i64 (n : Int)] w fun e w' => ∃ F p q v J B2, e = .returned (.tuple #[F.ptr, jptr p, rjp q]) ∧ JB w.heap.size w w' F p J ∧ Live n J 0 (zeroB n) AllOk ∧ J.last ≤ 1 ∧ J.D.cut < 0 ∧ J.D.ops ≤ 2 * n + 5 ∧
      RJ B2 w' q v (zeroB n) 0 ∧ (∀ k, JT F p k → k < B2) ∧ w.heap.size ≤ B2 := by
  obtain ⟨D1, J, e1, e2, hl, h3, h4, h5⟩ := begun_plain h1 h2
  have E1 := Lib.hid e1
  have E2 := Lib.hid e2
  have HL := Lib.hid (And.intro hl (And.intro h3 (And.intro h4 h5)))
  clear e1 e2 hl h3 h4 h5
  go_enter Tryd.func9, Tryd.ntmps9
  go_wp2_with fail
  refine (new_some w n ⟨by omega, h2⟩).mono ?_
  rintro e w1 ⟨F, rfl, d1, hF, hb1⟩
  have db1 : DB w.heap.size w w1 F (Dk.new n) := ⟨d1, hn.below hb1, hb1, hF, hb1.size⟩
  clear d1 hF hb1
  go_wp2_with fail
  refine (format_any w1 F _ db1.dat db1.nib).mono ?_
  rintro e w2 ⟨rfl, d2, t2⟩
  rw [E1.out] at d2 ⊢
  have db2 := db1.turn d2 t2
  clear d2 t2 db1
  go_wp2_with fail
  refine (open_good w2 F D1 db2.dat db2.nib E2.out).mono ?_
  rintro e w3 ⟨p, rfl, j3, hp, t3⟩
  have jb3 := JB.of db2 j3 hp t3
  clear j3 t3 db2 hp
  go_wp2_with fail
  refine (begunR_any w3 n (by omega) h2).mono ?_
  rintro e w4 ⟨q, v, rfl, r4, hb4⟩
  have jb4 := jb3.step hb4
  have hB := jb3.base
  have hjl : ∀ k, JT F p k → k < w3.heap.size := fun k hk => jb3.jat.lt hk
  clear jb3
  go_wp2_with fail
  go_ret3
  obtain ⟨a1, a2, a3, a4⟩ := HL.out
  exact ⟨F, p, q, v, J, _, rfl, jb4, a1, a2, a3, a4, r4, hjl, hB⟩
set_option maxHeartbeats 1000000 in
theorem seq_any (w : World) (F : Ft) (p : Nat) (J : Jn) (h : JAt w F p J) : Calls Tryd.prog 15 #[jptr p] w fun e w' => e = .returned (.int .i64 J.seq) ∧ w = w' := by
  obtain ⟨c0, c1, c2, c3⟩ := h.cells
  clear h
  go_enter Tryd.func15, Tryd.ntmps15
  go_wp2_with fail
  go_ret
  exact ⟨rfl, rfl⟩
end Go.Proofs.YtoonlihacbbfdaaDoor

/- Writes that go through, in plain lists; the document's examples. -/
set_option linter.unusedVariables false
set_option linter.unusedSimpArgs false
set_option maxRecDepth 100000
namespace Go.Proofs.YtoonlihacbbfdaaDoor
open Go.RowKit

theorem Live.blocks {n : Nat} {J : Jn} {seq : Int} {B : List (List UInt8)} {ok : Nat → Prop} (h : Live n J seq B ok) : J.D.blocks = (n - 2) / 2 := by rw [Dk.blocks, h.hn]
theorem updB_nil (B : List (List UInt8)) (ls : List (List UInt8)) : updB B [] ls = B := by rw [updB]
/-- what a write answers: refused, or done, or the power went -/
theorem write_no {n : Nat} {J : Jn} {seq : Int} {B : List (List UInt8)} {ok : Nat → Prop} (h : Live n J seq B ok) {zs : List Int} {ls : List (List UInt8)} (hr : rightW ((n - 2) / 2) zs ls = false) : J.write zs ls = (2, J) := by
  rw [Jn.write, if_neg (by simp [h.off]), h.blocks, if_pos hr]
theorem write_nil {n : Nat} {J : Jn} {seq : Int} {B : List (List UInt8)} {ok : Nat → Prop} (h : Live n J seq B ok) {ls : List (List UInt8)} (hr : rightW ((n - 2) / 2) [] ls = true) : J.write [] ls = (0, J) := by
  rw [Jn.write, if_neg (by simp [h.off]), h.blocks, if_neg (by simp [hr]), if_pos List.length_nil]
theorem write_yes {n : Nat} {J : Jn} {seq : Int} {B : List (List UInt8)} {ok : Nat → Prop} (h : Live n J seq B ok) {zs : List Int} {ls : List (List UInt8)} (hr : rightW ((n - 2) / 2) zs ls = true) (h0 : zs.length ≠ 0) : J.write zs ls = ((J.writes zs ls).off, J.writes zs ls) := by
  rw [Jn.write, if_neg (by simp [h.off]), h.blocks, if_neg (by simp [hr]), if_neg h0]
structure WroteOk (n : Nat) (J : Jn) (seq : Int) (B : List (List UInt8)) (zs : List Int) (ls : List (List UInt8)) : Prop where
  err : (J.write zs ls).1 = 0
  live : Live n (J.write zs ls).2 (if zs.length = 0 then seq else seq + 1) (updB B zs ls) AllOk
  last : (J.write zs ls).2.last ≤ J.last + 1
  cut : (J.write zs ls).2.D.cut = J.D.cut
  ops : (J.write zs ls).2.D.ops ≤ J.D.ops + (2 * zs.length + 4)
  same : zs.length = 0 → (J.write zs ls).2 = J
theorem write_ok {n : Nat} {J : Jn} {seq : Int} {B : List (List UInt8)} {zs : List Int} {ls : List (List UInt8)} (h : Live n J seq B AllOk) (hcut : J.D.cut < 0) (hr : rightW ((n - 2) / 2) zs ls = true) (ht : J.last + 1 < 4611686018427387904) (hb : J.D.ops + (2 * zs.length + 4) ≤ 1048576) : WroteOk n J seq B zs ls := by
  by_cases h0 : zs.length = 0
  · obtain rfl : zs = [] := List.eq_nil_of_length_eq_zero h0
    have e := write_nil h hr
    refine ⟨by rw [e], ?_, by rw [e]; show J.last ≤ _; omega, by rw [e], by rw [e]; show J.D.ops ≤ _; omega, fun _ => by rw [e]⟩
    rw [e, if_pos List.length_nil, updB_nil]
    exact h
  · have e := write_yes h hr h0
    have w := writes_live h hr ht hb
    rcases w.ends with ⟨a1, a2⟩ | ⟨_, a2, _⟩
    · refine ⟨by rw [e]; exact a1, ?_, by rw [e]; exact Nat.le_of_eq w.last, by rw [e]; exact w.cut, by rw [e]; exact w.ops, fun h => absurd h h0⟩
      rw [e, if_neg h0]
      exact a2
    · omega
/-- the bytes of the document's example -/
def exX : List UInt8 := (List.replicate 112 0).set 5 7
theorem exX_length : exX.length = 112 := by simp [exX]
theorem shown06_plain : ∃ D1 J, (Dk.new 40).openJ = (60, ⟨Dk.new 40, 0, 0, 0⟩) ∧ (Dk.new 40).format = (0, D1) ∧ D1.openJ = (0, J) ∧ J.D.n = 40 ∧ J.D.blocks = 19 ∧ J.last ≤ 1 ∧ J.seq = 0 ∧ (J.write [3] [exX]).1 = 0 ∧ (J.write [3] [exX]).2.D.n = 40 ∧ (J.write [3] [exX]).2.seq = 1 ∧
    (J.write [3] [exX]).2.read 3 = (exX, 0, (J.write [3] [exX]).2) := by
  obtain ⟨D1, J, e1, e2, hl, h3, h4, h5⟩ := begun_plain (n := 40) (by omega) (by omega)
  have hr : rightW ((40 - 2) / 2) [3] [exX] = true := by simp [rightW, rightGo, exX_length]
  have w := write_ok hl h4 hr (by omega) (by show J.D.ops + (2 * 1 + 4) ≤ _; omega)
  have hlv := w.live
  refine ⟨D1, J, open_zero (n := 40) rfl rfl (by omega) rfl, e1, e2, hl.hn, hl.blocks, h3, hl.hseq, w.err, hlv.hn, hlv.hseq, ?_⟩
  exact read_live hlv (i := 3) (by omega) trivial (by
    show (updB (zeroB 40) [3] [exX])[3]? = some exX
    rw [updB, updB_nil]
    rw [show (3 : Int).toNat = 3 from rfl, List.getElem?_set_self (by simp [zeroB])])
end Go.Proofs.YtoonlihacbbfdaaDoor

/- shown: the document's examples hold. -/
set_option linter.unusedVariables false
set_option linter.unusedSimpArgs false
set_option maxRecDepth 100000
namespace Go.Proofs.YtoonlihacbbfdaaDoor
open Go.RowKit

/-- one slice of bytes in a row made for it -/
theorem MineL.one {B : Nat} {w : World} {u : Value} {l : List UInt8} {m : Nat} {ys : List Value} (hB : B ≤ w.heap.size) (hu : w.ownsRow B 5 1 u m ys) (hul : IsB w u l) :
    MineL B (w.alloc (.cells #[u] 36)) (.slice (some ⟨w.heap.size, 0, none⟩) 1 1) [l] := by
  have hb : Below w.heap.size w (w.alloc (.cells #[u] 36)) := (Below.refl _ _).alloc (Nat.le_refl _) _
  refine ⟨[u], rfl, ⟨rfl, .inr ⟨w.heap.size, 1, #[u], rfl, hB, heap_alloc_new w _, Nat.le_refl _, by simp [maxLen], rfl, rfl⟩⟩, fun i hi hi' => ?_⟩
  obtain rfl : i = 0 := by simpa using hi
  exact ⟨m, ys, own_keep hu (fun k _ hk => hb.block k hk), hul.below hb⟩
theorem MineI.one {B : Nat} {w : World} (z : Int) (hB : B ≤ w.heap.size) : MineI B (w.alloc (.cells #[.int .i64 z] 3)) (.slice (some ⟨w.heap.size, 0, none⟩) 1 1) [z] := by
  have := MineI.lit (base := B) (w := w) [z] hB (by simp [maxLen])
  simpa [iv] using this

set_option maxHeartbeats 16000000 in
theorem shown06_any (w : World) (hn : Nib w) : Calls Tryd.prog 8 #[] w fun e w' => e = .returned (.bool true) ∧ Below w.heap.size w w' := by
  obtain ⟨D1, J, e1, e2, e3, e4, e5, e6, e7, e8, e9, e10, e11⟩ := shown06_plain
  have hmk : ∀ w : World, (Instr.makeSlice 36 (.int .i64 112) (.int .i64 112)).run Tryd.prog w = .ok (.slice (some ⟨w.heap.size, 0, none⟩) 112 112) (w.alloc (.cells (bv (List.replicate 112 0)).toArray 5)) := run_make112r
  obtain ⟨R, hR⟩ : ∃ R, R = List.replicate 112 (0 : UInt8) := ⟨_, rfl⟩
  have hX : exX = R.set 5 7 := by rw [hR]; rfl
  rw [← hR] at hmk
  have hRl : R.length = 112 := by rw [hR, List.length_replicate]
  have hXl := exX_length
  have HX := Lib.hid hX
  clear hR hX
  generalize exX = X at *
  have E1 := Lib.hid e1
  have E2 := Lib.hid e2
  have E3 := Lib.hid e3
  have HJ := Lib.hid (And.intro e4 (And.intro e5 (And.intro e6 e7)))
  have E8 := Lib.hid e8
  have E9 := Lib.hid e9
  have E10 := Lib.hid e10
  have E11 := Lib.hid e11
  clear e1 e2 e3 e4 e5 e6 e7 e8 e9 e10 e11
  go_enter Tryd.func8, Tryd.ntmps8
  go_wp2_with fail
  refine (new_some w 40 ⟨by omega, by omega⟩).mono ?_
  rintro e w1 ⟨F, rfl, d1, hF, hb1⟩
  have db1 : DB w.heap.size w w1 F (Dk.new 40) := ⟨d1, hn.below hb1, hb1, hF, hb1.size⟩
  clear d1 hF hb1
  go_wp2_with fail
  refine (open_not w1 F _ db1.dat db1.nib E1.out (by decide)).mono ?_
  rintro e w2 ⟨rfl, d2, t2⟩
  have db2 := db1.turn d2 t2
  clear d2 t2 db1
  go_wp2_with fail
  refine (format_any w2 F _ db2.dat db2.nib).mono ?_
  rintro e w3 ⟨rfl, d3, t3⟩
  rw [E2.out] at d3 ⊢
  have db3 := db2.turn d3 t3
  clear d3 t3 db2
  go_wp2_with fail
  refine (open_good w3 F D1 db3.dat db3.nib E3.out).mono ?_
  rintro e w4 ⟨p, rfl, j4, hp, t4⟩
  have jb4 := JB.of db3 j4 hp t4
  clear j4 t4 db3 hp
  have hBl := blocks_any w4 F p J jb4.jat (by rw [HJ.out.1]; omega)
  rw [HJ.out.2.1] at hBl
  have hmk4 := hmk w4
  have hm5 : Mine 5 w4.heap.size (w4.alloc (.cells (bv R).toArray 5)) (.slice (some ⟨w4.heap.size, 0, none⟩) R.length 112) R := by
    have := Mine.lit (e := 5) (w := w4) R (Nat.le_refl _) (by rw [hRl]; simp [maxLen])
    rwa [hRl] at this ⊢
  have hb5 : Below w4.heap.size w4 (w4.alloc (.cells (bv R).toArray 5)) := (Below.refl _ _).alloc (Nat.le_refl _) _
  have jb5 := jb4.step hb5
  have hjl : ∀ k, JT F p k → k < w4.heap.size := fun k hk => jb4.jat.lt hk
  have hgw : w.heap.size ≤ w4.heap.size := jb4.base
  have hgs : w4.heap.size < (w4.alloc (.cells (bv R).toArray 5)).heap.size := by simp
  have hng : 0 < w4.heap.size := World.block_lt_of_cell? w4 _ (jb4.nib 0 (by omega))
  go_wp2_with fail
  refine hBl.mono ?_
  rintro e w5 ⟨rfl, rfl⟩
  clear hBl jb4 hb5 hmk
  generalize w4.alloc (.cells (bv R).toArray 5) = W5 at *
  generalize hG : w4.heap.size = g at *
  clear hG
  have hcell := World.ownsRow.cellAt hm5 5 (by omega)
  rw [bv_get R 5 (by omega)] at hcell
  have hfro := World.ownsRow.frozenAt hm5 5
  have hm6 := Mine.stored (l := R) (g := g) (cap := 112) hm5 5 7
  rw [← HX.out, hXl] at hm6
  have ht6 := turned_one W5 g 5 (.int .u8 7)
  have jb6 := jb5.other ht6 (fun k hk => by subst hk; exact ⟨fun e => Nat.lt_irrefl _ (hjl _ e), hgw, by omega⟩)
  have hgs6 : g < (W5.setCell ⟨g, 5, none⟩ (.int .u8 7)).heap.size := Nat.lt_of_lt_of_le hgs ht6.size
  go_upto_region 9 with fail
  clear hcell hfro hm5 jb5 ht6 hmk4
  have hm6' : Mine 5 g (W5.setCell ⟨g, 5, none⟩ (.int .u8 7)) (.slice (some ⟨g, 0, none⟩) 112 112) X := hm6
  clear hm6
  generalize W5.setCell ⟨g, 5, none⟩ (.int .u8 7) = W6 at *
  have hI7 := MineI.one (B := g) (w := W6) 3 (by omega)
  have hb7 : Below W6.heap.size W6 (W6.alloc (.cells #[.int .i64 3] 3)) := (Below.refl _ _).alloc (Nat.le_refl _) _
  have hx7 : Mine 5 g (W6.alloc (.cells #[.int .i64 3] 3)) (.slice (some ⟨g, 0, none⟩) 112 112) X := Mine.below hm6' hb7
  have jb7 := jb6.step hb7
  have hg7 : g < (W6.alloc (.cells #[.int .i64 3] 3)).heap.size := Nat.lt_of_lt_of_le hgs6 hb7.size
  have hL8 := MineL.one (B := g) (w := W6.alloc (.cells #[.int .i64 3] 3)) (Nat.le_of_lt hg7) hx7 hx7.isB
  have hb8 : Below (W6.alloc (.cells #[.int .i64 3] 3)).heap.size (W6.alloc (.cells #[.int .i64 3] 3)) ((W6.alloc (.cells #[.int .i64 3] 3)).alloc (.cells #[.slice (some ⟨g, 0, none⟩) 112 112] 36)) := (Below.refl _ _).alloc (Nat.le_refl _) _
  have hI8 := (hI7.below hb8).held
  have hL8' := hL8.held
  have hx8 : Mine 5 g _ (.slice (some ⟨g, 0, none⟩) 112 112) X := Mine.below hx7 hb8
  have jb8 := jb7.step hb8
  have hxh : Held g ((W6.alloc (.cells #[.int .i64 3] 3)).alloc (.cells #[.slice (some ⟨g, 0, none⟩) 112 112] 36)) (fun w => IsB w (.slice (some ⟨g, 0, none⟩) 112 112) X) := fun w2 h2 => (show Mine 5 g w2 _ X from own_keep hx8 h2).isB
  clear hm6' hI7 hb7 hx7 jb7 hL8 hb8 hx8 jb6
  have hs6 : (W6.alloc (.cells #[.int .i64 3] 3)).heap.size = W6.heap.size + 1 := by simp
  rw [hs6] at hL8'
  clear hs6
  generalize hW8 : (W6.alloc (.cells #[.int .i64 3] 3)).alloc (.cells #[.slice (some ⟨g, 0, none⟩) 112 112] 36) = W8 at *
  have hwr := jwrite_any W8 F p J jb8.jat jb8.nib (by rw [HJ.out.1]; omega) _ [3] (fun w' ht => (hI8.turned ht hjl).now) _ [X] (fun w' ht => (hL8'.turned ht hjl).now) (by simp) (by have := HJ.out.2.2.1; omega) (by rw [HJ.out.2.2.2]; decide) (by rw [HJ.out.2.2.2]; decide)
  rw [E8.out] at hwr
  have HWR := Lib.hid hwr
  clear hwr hI8 hL8'
  go_wp2_with fail
  clear hW8
  refine HWR.out.mono ?_
  rintro e w9 ⟨rfl, j9, t9⟩
  have jb9 := jb8.turn j9 t9
  have hx9 := hxh.turned t9 hjl
  clear HWR j9 t9 hxh jb8
  have hrd := jread_any w9 F p _ jb9.jat jb9.nib (by rw [E9.out]; omega) 3 (by omega) (by omega)
  rw [E11.out] at hrd
  go_wp2_with fail
  refine hrd.mono ?_
  rintro e w10 ⟨u, rfl, huH, j10, t10⟩
  have hu := huH.now
  clear huH
  have jb10 := jb9.turn j10 t10
  have hx10 := (hx9.turned t10 hjl).now
  clear hrd j10 t10 hx9 jb9
  have hs1 := run_str (P := Tryd.prog) hu 36 9 5 Tryd.underlying36 Tryd.underlying5 Tryd.underlying9
  have hs2 := run_str (P := Tryd.prog) hx10 36 9 5 Tryd.underlying36 Tryd.underlying5 Tryd.underlying9
  have hsq := seq_any w10 F p _ jb10.jat
  rw [E10.out] at hsq
  obtain ⟨ua, uc, hue, _, _⟩ := hu.form
  rw [hXl] at hue
  subst hue
  clear hu hx10
  go_wp2_with fail
  refine hsq.mono ?_
  rintro e w11 ⟨rfl, rfl⟩
  clear hsq
  go_wp2_with fail
  go_ret
  exact ⟨rfl, jb10.below⟩
end Go.Proofs.YtoonlihacbbfdaaDoor

/- blocks: a Write's arguments made. -/
set_option linter.unusedVariables false
set_option linter.unusedSimpArgs false
set_option maxRecDepth 100000
namespace Go.Proofs.YtoonlihacbbfdaaDoor
open Go.RowKit

/-- the bytes of block i -/
def blkB (by_ : UInt8) (i : Nat) : List UInt8 := (List.range 112).map fun j => by_ + UInt8.ofNat (i * j)
def blkX (raw : Int) (by_ : UInt8) (m i : Nat) : List UInt8 := if pickN raw 8 = 1 ∧ i + 1 = m then (blkB by_ i).take (by_.toNat % 112) else blkB by_ i
def blkK (raw : Int) (n : Nat) (k : Int) : Int := if 1 < pickN raw 8 then (pickN k n : Int) else k
def blkStep (raw : Int) (by_ : UInt8) (n m i : Nat) (k : Int) (acc : List Int × List (List UInt8)) : List Int × List (List UInt8) :=
  if 1 < pickN raw 8 ∧ blkK raw n k ∈ acc.1 then acc else (acc.1 ++ [blkK raw n k], acc.2 ++ [blkX raw by_ m i])
def blkTo (raw : Int) (by_ : UInt8) (n : Nat) (zs : List Int) : Nat → List Int × List (List UInt8)
  | 0 => ([], [])
  | i + 1 => blkStep raw by_ n zs.length i (zs.getD i 0) (blkTo raw by_ n zs i)
/-- blocks: places and bytes -/
def blk (raw : Int) (by_ : UInt8) (n : Nat) (zs : List Int) : List Int × List (List UInt8) :=
  let a := blkTo raw by_ n zs (min zs.length 40)
  (if pickN raw 16 = 8 ∧ 0 < a.1.length then a.1.take (a.1.length - 1) else a.1, a.2)
theorem blkB_length (by_ : UInt8) (i : Nat) : (blkB by_ i).length = 112 := by simp [blkB]
theorem blkTo_length (raw : Int) (by_ : UInt8) (n : Nat) (zs : List Int) (i : Nat) : (blkTo raw by_ n zs i).1.length = (blkTo raw by_ n zs i).2.length ∧ (blkTo raw by_ n zs i).1.length ≤ i := by
  induction i with
  | zero => exact ⟨rfl, Nat.le_refl _⟩
  | succ i ih =>
    rw [blkTo, blkStep]
    split
    · exact ⟨ih.1, by omega⟩
    · simp only [List.length_append, List.length_singleton]; omega
theorem blkTo_nonneg (raw : Int) (by_ : UInt8) (n : Nat) (zs : List Int) (i : Nat) (hp : 1 < pickN raw 8) : ∀ z ∈ (blkTo raw by_ n zs i).1, 0 ≤ z := by
  induction i with
  | zero => intro z hz; cases hz
  | succ i ih =>
    rw [blkTo, blkStep]
    split
    · exact ih
    · intro z hz
      rcases List.mem_append.1 hz with hz | hz
      · exact ih z hz
      · rw [List.mem_singleton.1 hz, blkK, if_pos hp]
        omega
theorem IsB.other {B : Nat} {w w' : World} {u v : Value} {e e' : TypeId} {s n s' n' : Nat} {xs ys : List Value} {l : List UInt8} (h : IsB w u l) (ho : w.ownsRow B e s u n xs) (hv : w.ownsRow B e' s' v n' ys) (hne : e ≠ e') (hg : w.grownBy w' v.ownBlock) : IsB w' u l :=
  h.own_keep ho fun k hk => by
    obtain ⟨a, c, hc⟩ := own_lt ho hk
    refine hg.block k (lt_of_heap hc) fun e => hne ?_
    obtain ⟨_, c', hc'⟩ := own_lt hv e
    rw [hc] at hc'
    injection hc' with hc'
    injection hc' with _ hc'
/-- the first j bytes laid -/
def blo (by_ : UInt8) (i j : Nat) : List UInt8 := (blkB by_ i).take j ++ List.replicate (112 - j) 0
theorem blo_len (by_ : UInt8) (i j : Nat) (h : j ≤ 112) : (blo by_ i j).length = 112 := by simp [blo, blkB_length]; omega
theorem blo_set (by_ : UInt8) (i j : Nat) (h : j < 112) : (blo by_ i j).set j (by_ + UInt8.ofNat (i * j)) = blo by_ i (j + 1) := by
  have e : List.replicate (112 - j) (0 : UInt8) = 0 :: List.replicate (112 - (j + 1)) 0 := by
    rw [show 112 - j = (112 - (j + 1)) + 1 by omega, List.replicate_succ]
  have hl : ((blkB by_ i).take j).length = j := by rw [List.length_take, blkB_length]; omega
  have hj : j < (blkB by_ i).length := by rw [blkB_length]; exact h
  unfold blo
  rw [e, List.set_append_right _ _ (by omega), hl, Nat.sub_self, List.set_cons_zero, List.take_succ_eq_append_getElem hj]
  simp [blkB]
theorem blo_all (by_ : UInt8) (i : Nat) : blo by_ i 112 = blkB by_ i := by
  unfold blo
  rw [Nat.sub_self, List.replicate_zero, List.append_nil, List.take_of_length_le (by rw [blkB_length]; exact Nat.le_refl _)]
theorem blo_zero (by_ : UInt8) (i : Nat) : blo by_ i 0 = List.replicate 112 0 := by simp [blo]
theorem run_make112 (w : World) : (Instr.makeSlice 36 (.int .i64 112) (.int .i64 112)).run Tryd.prog w = .ok (.slice (some ⟨w.heap.size, 0, none⟩) 112 112) (w.alloc (.cells (bv (List.replicate 112 0)).toArray 5)) := by kernel_rfl
theorem u8_sum2 (b : UInt8) (i j : Nat) (hi : i ≤ 40) (hj : j ≤ 112) : (((b.toNat : Nat) : Int) + wrap64 ((i : Int) * (j : Int))) % 256 = (((b + UInt8.ofNat (i * j)).toNat : Nat) : Int) := by
  have h1 : i * j ≤ 40 * 112 := Nat.mul_le_mul hi hj
  rw [show (i : Int) * (j : Int) = ((i * j : Nat) : Int) by simp, UInt8.toNat_add, UInt8.toNat_ofNat']
  generalize i * j = m at *
  have e : wrap64 (m : Int) = (m : Int) := by unfold wrap64; omega
  rw [e]
  omega
theorem IsI.front {w : World} {a : Option Addr} {n cap : Nat} {zs : List Int} (h : IsI w (.slice a n cap) zs) (m : Nat) (hm : m ≤ zs.length) : IsI w (.slice a m cap) (zs.take m) := by
  obtain ⟨a', cap', hv, h1, h2, h3, h4⟩ := h
  simp only [Value.slice.injEq] at hv
  obtain ⟨rfl, rfl, rfl⟩ := hv
  have hl : (zs.take m).length = m := by rw [List.length_take]; omega
  refine ⟨a, cap, by rw [hl], by omega, h2, h3, fun x hx => ⟨fun h0 => (h4 x hx).1 (by omega), fun i hi => ?_⟩⟩
  rw [(h4 x hx).2 i (by omega)]
  simp
theorem IsB.front {w : World} {a : Option Addr} {n cap : Nat} {l : List UInt8} (h : IsB w (.slice a n cap) l) (m : Nat) (hm : m ≤ l.length) : IsB w (.slice a m cap) (l.take m) := by
  obtain ⟨a', cap', hv, h1, h2, h3, h4⟩ := h
  simp only [Value.slice.injEq] at hv
  obtain ⟨rfl, rfl, rfl⟩ := hv
  have hl : (l.take m).length = m := by rw [List.length_take]; omega
  refine ⟨a, cap, by rw [hl], by omega, h2, h3, fun x hx => ⟨fun h0 => (h4 x hx).1 (by omega), fun i hi => ?_⟩⟩
  rw [(h4 x hx).2 i (by omega)]
  simp
theorem own_front {B : Nat} {e : TypeId} {w : World} {g n cap : Nat} {xs : List Value} (h : w.ownsRow B e 1 (.slice (some ⟨g, 0, none⟩) n cap) n xs) (m : Nat) (hm : m ≤ n) : w.ownsRow B e 1 (.slice (some ⟨g, 0, none⟩) m cap) m (xs.take m) := by
  obtain ⟨h1, h2⟩ := h
  refine ⟨by rw [List.length_take]; omega, .inr ?_⟩
  rcases h2 with ⟨h2, _⟩ | ⟨g', cap', cur, hv, hb, hh, h3, h4, h5, h6⟩
  · cases h2
  · simp only [Value.slice.injEq, Option.some.injEq, Addr.mk.injEq] at hv
    obtain ⟨⟨rfl, _⟩, _, rfl⟩ := hv
    exact ⟨g, cap, cur, rfl, hb, hh, by omega, h4, h5, by rw [← h6, List.take_take]; congr 1; omega⟩
theorem own_low {B B' : Nat} {e : TypeId} {s n : Nat} {w : World} {v : Value} {xs : List Value} (h : w.ownsRow B e s v n xs) (hb : B' ≤ B) : w.ownsRow B' e s v n xs := by
  obtain ⟨h1, h2⟩ := h
  refine ⟨h1, ?_⟩
  rcases h2 with h2 | ⟨g, cap, cur, hv, hg, r⟩
  · exact .inl h2
  · exact .inr ⟨g, cap, cur, hv, Nat.le_trans hb hg, r⟩
theorem MineI.low {B B' : Nat} {w : World} {v : Value} {zs : List Int} (h : MineI B w v zs) (hb : B' ≤ B) : MineI B' w v zs := own_low h hb
theorem MineL.low {B B' : Nat} {w : World} {v : Value} {ls : List (List UInt8)} (h : MineL B w v ls) (hb : B' ≤ B) : MineL B' w v ls := by
  obtain ⟨us, h1, h2, h3⟩ := h
  refine ⟨us, h1, own_low h2 hb, fun i hi hi' => ?_⟩
  obtain ⟨n, xs, h4, h5⟩ := h3 i hi hi'
  exact ⟨n, xs, own_low h4 hb, h5⟩
theorem MineI.front {B : Nat} {w : World} {g n cap : Nat} {zs : List Int} (h : MineI B w (.slice (some ⟨g, 0, none⟩) n cap) zs) (m : Nat) (hm : m ≤ zs.length) : MineI B w (.slice (some ⟨g, 0, none⟩) m cap) (zs.take m) := by
  have hn : zs.length = n := by
    rcases h.2 with ⟨h2, _⟩ | ⟨g', cap', cur, hv, _⟩
    · cases h2
    · simp only [Value.slice.injEq] at hv
      exact hv.2.1.symm
  subst hn
  have h2 := own_front h m hm
  unfold MineI
  rw [show (zs.take m).length = m by rw [List.length_take]; omega, show iv (zs.take m) = (iv zs).take m by simp [iv]]
  exact h2
/-- the op where it was boxed -/
abbrev opRow (kind : Int) (va : Value) (by_ : UInt8) (raw : Int) : Obj := .cells #[.int .i64 kind, va, .int .u8 (by_.toNat : Int), .int .i64 raw] 24 (0, 0)

set_option maxHeartbeats 16000000 in
theorem blocks06_any (w : World) (kind : Int) (va : Value) (by_ : UInt8) (raw : Int) (zs : List Int) (n : Nat) (hva : IsI w va zs) (hr1 : -9223372036854775808 ≤ raw) (hr2 : raw ≤ 9223372036854775807) (hn0 : 0 < n) (hn1 : n ≤ 4611686018427387904)
    (hzs : ∀ z ∈ zs, -9223372036854775808 ≤ z ∧ z ≤ 9223372036854775807) :
    Calls Tryd.prog 11 #[.agg #[.int .i64 kind, va, .int .u8 (by_.toNat : Int), .int .i64 raw], .int .i64 (n : Int)] w fun e w' =>
      ∃ u v, e = .returned (.tuple #[u, v]) ∧ MineI w.heap.size w' u (blk raw by_ n zs).1 ∧ MineL w.heap.size w' v (blk raw by_ n zs).2 ∧ Below w.heap.size w w' := by
  obtain ⟨a, ca, rfl, hca, hma⟩ := hva.form
  unfold maxLen at hma
  have HVA := Lib.hid hva
  have HZS := Lib.hid hzs
  have HP8 : Hid (∀ w : World, Calls Tryd.prog 13 #[.int .i64 raw, .int .i64 8] w fun e w' => e = .returned (.int .i64 (pickN raw 8 : Int)) ∧ w = w') := Lib.hid (fun w => pick_any w raw 8 hr1 hr2 (by omega) (by omega))
  have HP16 : Hid (∀ w : World, Calls Tryd.prog 13 #[.int .i64 raw, .int .i64 16] w fun e w' => e = .returned (.int .i64 (pickN raw 16 : Int)) ∧ w = w') := Lib.hid (fun w => pick_any w raw 16 hr1 hr2 (by omega) (by omega))
  have hp8 := pickN_lt raw (n := 8) (by omega)
  have hp16 := pickN_lt raw (n := 16) (by omega)
  have Hblk : Hid (blk raw by_ n zs = (if pickN raw 16 = 8 ∧ 0 < (blkTo raw by_ n zs (min zs.length 40)).1.length then (blkTo raw by_ n zs (min zs.length 40)).1.take ((blkTo raw by_ n zs (min zs.length 40)).1.length - 1) else (blkTo raw by_ n zs (min zs.length 40)).1, (blkTo raw by_ n zs (min zs.length 40)).2)) := Lib.hid rfl
  obtain ⟨W1, hW1⟩ : ∃ W1, W1 = w.alloc (.cells #[.int .i64 kind, .slice a zs.length ca, .int .u8 (by_.toNat : Int), .int .i64 raw] 24) := ⟨_, rfl⟩
  have hop1 : W1.heap[w.heap.size]? = some (opRow kind (.slice a zs.length ca) by_ raw) := by rw [hW1]; exact heap_alloc_new w _
  have hb1 : Below w.heap.size w W1 := by rw [hW1]; exact (Below.refl _ _).alloc (Nat.le_refl _) _
  have hsz1 : w.heap.size < W1.heap.size := lt_of_heap hop1
  have HG := Lib.hid hva
  clear hva hzs
  go_enter Tryd.func11, Tryd.ntmps11
  go_upto_region 2 with fail
  rw [← hW1]
  clear hW1
  generalize hg2 : w.heap.size = g2 at *
  have Hg2 := Lib.hid hg2
  clear hg2
  go_wp2_with fail
  have hm6 := MineI.nil (g2 + 1) W1
  have hm7 := MineL.nil (g2 + 1) W1
  go_loopw [6, 7, 8] (fun x y z wr => ∃ i : Nat, i ≤ zs.length ∧ i ≤ 40 ∧ z = .int .i64 (i : Int) ∧ MineI (g2 + 1) wr x (blkTo raw by_ n zs i).1 ∧ MineL (g2 + 1) wr y (blkTo raw by_ n zs i).2 ∧ Below g2 w wr ∧ wr.heap[g2]? = some (opRow kind (.slice a zs.length ca) by_ raw)) (fun _ _ z _ => 40 - (intOf z).toNat)
  case atStart => exact ⟨0, by omega, by omega, rfl, hm6, hm7, hb1, hop1⟩
  case round =>
    obtain ⟨i, hi, hi40, rfl, hmi, hml, hb, hop⟩ := hrel
    clear hm6 hm7 hb1 hop1 hsz1
    have Hal := Lib.hid (blkTo_length raw by_ n zs i)
    have hali := Hal.out.2
    have hali2 : (blkTo raw by_ n zs i).2.length ≤ i := by rw [← Hal.out.1]; exact hali
    have c1 : wr.cell? ⟨g2, 1, none⟩ = some (.slice a zs.length ca) := by rw [cell_of_row _ _ _ _ _ _ hop]; rfl
    have c2 : wr.cell? ⟨g2, 2, none⟩ = some (.int .u8 (by_.toNat : Int)) := by rw [cell_of_row _ _ _ _ _ _ hop]; rfl
    have c3 : wr.cell? ⟨g2, 3, none⟩ = some (.int .i64 raw) := by rw [cell_of_row _ _ _ _ _ _ hop]; rfl
    have hgs : g2 < wr.heap.size := lt_of_heap hop
    by_cases hlt : i < zs.length ∧ i < 40
    · have hd1 : decide ((i : Int) < (zs.length : Int)) = true := decide_eq_true (by omega)
      have hd2 : decide ((i : Int) < 40) = true := decide_eq_true (by omega)
      have hd3 : decide (i < zs.length) = true := decide_eq_true (by omega)
      have hd4 : decide (i < 40) = true := decide_eq_true (by omega)
      obtain ⟨ub, uo, rfl, hcu⟩ := isI_at (HVA.out.below (by rw [Hg2.out]; exact hb)) i hlt.1
      have hzi := HZS.out _ (List.getElem_mem hlt.1)
      have hst : blkTo raw by_ n zs (i + 1) = blkStep raw by_ n zs.length i zs[i] (blkTo raw by_ n zs i) := by
        rw [blkTo, List.getD_eq_getElem?_getD, List.getElem?_eq_getElem hlt.1]
        rfl
      have Hnn : Hid (1 < pickN raw 8 → ∀ z ∈ (blkTo raw by_ n zs i).1, 0 ≤ z) := Lib.hid (blkTo_nonneg raw by_ n zs i)
      have Hlt := Lib.hid hlt
      generalize zs[i] = z0 at *
      generalize blkTo raw by_ n zs i = acc at *
      have HST := Lib.hid hst
      obtain ⟨a6, c6, hu6, hc6, hm6⟩ := hmi.isI.form
      obtain ⟨a7, c7, hu7, hc7, hm7⟩ := hml.isBs.form
      subst hu6 hu7
      unfold maxLen at hm6 hm7
      have hi39 : i < 40 := hlt.2
      have hil : i < zs.length := hlt.1
      clear hst hlt
      go_wp2_with fail
      refine (HP8.out _).mono ?_
      rintro e w1 ⟨rfl, rfl⟩
      by_cases hp : 1 < pickN raw 8
      · have hd5 : decide ((1 : Int) < ((pickN raw 8 : Nat) : Int)) = true := decide_eq_true (by omega)
        have hd6 : decide (1 < pickN raw 8) = true := decide_eq_true hp
        go_wp2_with fail
        refine (pick_any wr z0 n hzi.1 hzi.2 hn0 hn1).mono ?_
        rintro e w1 ⟨rfl, rfl⟩
        have hkk := mineI_range z0 n hn0
        have hbk : blkK raw n z0 = (pickN z0 n : Int) := by rw [blkK, if_pos hp]
        have Hnn2 := Lib.hid (Hnn.out hp)
        have Hp := Lib.hid hp
        clear hp
        generalize (pickN z0 n : Int) = kk at *
        have hkk2 : kk ≤ 4611686018427387904 := by omega
        have Hbk := Lib.hid hbk
        clear hbk
        go_wp2_with fail
        go_loopw [9, 10] (fun x y w2 => ∃ j : Nat, j ≤ acc.1.length ∧ y = .int .i64 (j : Int) ∧ x = .int .i64 (if kk ∈ acc.1.take j then -1 else kk) ∧ w2 = wr) (fun _ y _ => acc.1.length - (intOf y).toNat)
        case atStart => exact ⟨0, by omega, rfl, by simp, rfl⟩
        case round =>
          obtain ⟨j, hj, rfl, rfl, rfl⟩ := hrel
          by_cases hjl : j < acc.1.length
          · have hdj : decide ((j : Int) < (acc.1.length : Int)) = true := decide_eq_true (by omega)
            have hdj2 : decide (j < acc.1.length) = true := decide_eq_true hjl
            obtain ⟨ab, ao, hab, hca2⟩ := isI_at hmi.isI j hjl
            subst hab
            have ht : acc.1.take (j + 1) = acc.1.take j ++ [acc.1[j]] := List.take_succ_eq_append_getElem hjl
            have hnn := Hnn2.out _ (List.getElem_mem hjl)
            have Ht := Lib.hid ht
            clear ht
            generalize acc.1[j] = y at *
            by_cases hin : kk ∈ acc.1.take j
            · rw [if_pos hin]
              have he : (y == -1) = false := by rw [beq_eq_false_iff_ne]; omega
              have HR : Hid (kk ∈ acc.1.take (j + 1)) := Lib.hid (by rw [Ht.out]; exact List.mem_append_left _ hin)
              clear hin
              go_wp2_with fail
              go_roundw
              case rel => exact ⟨j + 1, by omega, by go_num, by rw [if_pos HR.out], by first | rfl | trivial⟩
              case measure => simp [intOf]; omega
            · rw [if_neg hin]
              by_cases hy : y = kk
              · have he : (y == kk) = true := by rw [beq_iff_eq]; exact hy
                have HR : Hid (kk ∈ acc.1.take (j + 1)) := Lib.hid (by rw [Ht.out, hy]; simp)
                clear hin hy
                go_wp2_with fail
                go_roundw
                case rel => exact ⟨j + 1, by omega, by go_num, by rw [if_pos HR.out], by first | rfl | trivial⟩
                case measure => simp [intOf]; omega
              · have he : (y == kk) = false := by rw [beq_eq_false_iff_ne]; exact hy
                have HR : Hid (¬ kk ∈ acc.1.take (j + 1)) := Lib.hid (by
                  rw [Ht.out]
                  intro h
                  rcases List.mem_append.1 h with h | h
                  · exact hin h
                  · exact hy (List.mem_singleton.1 h).symm)
                clear hin hy
                go_wp2_with fail
                go_roundw
                case rel => exact ⟨j + 1, by omega, by go_num, by rw [if_neg HR.out], by first | rfl | trivial⟩
                case measure => simp [intOf]; omega
          · obtain rfl : j = acc.1.length := by omega
            rw [List.take_length]
            have hdj : decide ((acc.1.length : Int) < (acc.1.length : Int)) = false := by simp
            by_cases hin : kk ∈ acc.1
            · rw [if_pos hin]
              have HA : Hid (blkTo raw by_ n zs (i + 1) = acc) := Lib.hid (by rw [HST.out, blkStep, Hbk.out, if_pos ⟨Hp.out, hin⟩])
              clear hin
              go_wp2_with fail
              go_roundw
              case rel => exact ⟨i + 1, by omega, by omega, by go_num, by rw [HA.out]; exact hmi, by rw [HA.out]; exact hml, hb, hop⟩
              case measure => simp [intOf]; omega
            · rw [if_neg hin]
              have HA : Hid (blkTo raw by_ n zs (i + 1) = (acc.1 ++ [kk], acc.2 ++ [blkX raw by_ zs.length i])) := Lib.hid (by rw [HST.out, blkStep, Hbk.out, if_neg (fun h => hin h.2)])
              have hk0 : decide (kk < 0) = false := decide_eq_false (by omega)
              clear hin Hnn2 Hp Hbk
              obtain ⟨w2, rfl⟩ : ∃ w2, w2 = wr := ⟨_, rfl⟩
              obtain ⟨R, hR⟩ : ∃ R, R = List.replicate 112 (0 : UInt8) := ⟨_, rfl⟩
              have hmk := run_make112 w2
              rw [← hR] at hmk
              have hRl : R.length = 112 := by rw [hR, List.length_replicate]
              have hown0 : Mine 5 w2.heap.size (w2.alloc (.cells (bv R).toArray 5)) (.slice (some ⟨w2.heap.size, 0, none⟩) 112 112) (blo by_ i 0) := by
                rw [blo_zero, ← hR]
                have := Mine.lit (e := 5) (w := w2) R (Nat.le_refl _) (by rw [hRl]; simp [maxLen])
                rwa [hRl] at this
              have hb0 : Below w2.heap.size w2 (w2.alloc (.cells (bv R).toArray 5)) := (Below.refl _ _).alloc (Nat.le_refl _) _
              generalize w2.alloc (.cells (bv R).toArray 5) = w1 at *
              generalize hG : w2.heap.size = G at *
              have HG2 := Lib.hid hG
              clear hG hR hRl
              go_wp2_with fail
              clear hmk
              go_loopw [12] (fun y wr => ∃ j : Nat, j ≤ 112 ∧ y = .int .i64 (j : Int) ∧ Mine 5 G wr (.slice (some ⟨G, 0, none⟩) 112 112) (blo by_ i j) ∧ Below G w2 wr) (fun y _ => 112 - (intOf y).toNat)
              case atStart => exact ⟨0, by omega, rfl, hown0, hb0⟩
              case round =>
                obtain ⟨j, hj, rfl, hown, hbl⟩ := hrel
                clear hown0 hb0
                have hop3 : wr.heap[g2]? = some (opRow kind (.slice (some ⟨ub, uo, none⟩) zs.length ca) by_ raw) := (hbl.block g2 hgs).trans hop
                have k2 : wr.cell? ⟨g2, 2, none⟩ = some (.int .u8 (by_.toNat : Int)) := by rw [cell_of_row _ _ _ _ _ _ hop3]; rfl
                by_cases hjl : j < 112
                · have hdj : decide ((j : Int) < 112) = true := decide_eq_true (by omega)
                  have hown2 : Mine 5 G wr (.slice (some ⟨G, 0, none⟩) (blo by_ i j).length 112) (blo by_ i j) := by rw [blo_len by_ i j hj]; exact hown
                  have hcell := World.ownsRow.cellAt hown2 j (by rw [blo_len by_ i j hj]; omega)
                  rw [bv_get (blo by_ i j) j (by rw [blo_len by_ i j hj]; exact hjl)] at hcell
                  have hfro := World.ownsRow.frozenAt hown2 j
                  have hS : Mine 5 G (wr.setCell ⟨G, j, none⟩ (.int .u8 ((by_ + UInt8.ofNat (i * j)).toNat : Int))) (.slice (some ⟨G, 0, none⟩) 112 112) (blo by_ i (j + 1)) := by
                    have h := Mine.stored (l := blo by_ i j) (g := G) (cap := 112) hown2 j (by_ + UInt8.ofNat (i * j))
                    rw [blo_set by_ i j hjl, blo_len by_ i (j + 1) (by omega)] at h
                    exact h
                  have hbS : Below G w2 (wr.setCell ⟨G, j, none⟩ (.int .u8 ((by_ + UInt8.ofNat (i * j)).toNat : Int))) := hbl.setCell (p := ⟨G, j, none⟩) (Nat.le_refl _) _
                  have HS := Lib.hid hS
                  have HB := Lib.hid hbS
                  have HSM : Hid ((((by_.toNat : Nat) : Int) + wrap64 ((i : Int) * (j : Int))) % 256 = (((by_ + UInt8.ofNat (i * j)).toNat : Nat) : Int)) := Lib.hid (u8_sum2 by_ i j (by omega) hj)
                  clear hS hbS hown hown2 hbl
                  go_wp2_with fail
                  go_roundw
                  case rel => exact ⟨j + 1, by omega, by go_num, by rw [HSM.out]; exact HS.out, by rw [HSM.out]; exact HB.out⟩
                  case measure => simp [intOf]; omega
                · obtain rfl : j = 112 := by omega
                  rw [blo_all] at hown
                  have hbw : Below w2.heap.size w2 wr := by rw [HG2.out]; exact hbl
                  have hmi3 := hmi.below hbw
                  have hml3 := hml.below hbw
                  have hb3 : Below g2 w wr := hb.trans (hbl.mono (Nat.le_of_lt hgs))
                  have hGs : G < wr.heap.size := by
                    obtain ⟨_, c, hc⟩ := own_lt hown (k := G) rfl
                    exact lt_of_heap hc
                  have hxm : Mine 5 (g2 + 1) wr (.slice (some ⟨G, 0, none⟩) (blkB by_ i).length 112) (blkB by_ i) := by
                    have := hown.base_le (base' := g2 + 1) (by omega)
                    rw [blkB_length]
                    exact this
                  have hb112 := blkB_length by_ i
                  have k3 : wr.cell? ⟨g2, 3, none⟩ = some (.int .i64 raw) := by rw [cell_of_row _ _ _ _ _ _ hop3]; rfl
                  have k1 : wr.cell? ⟨g2, 1, none⟩ = some (.slice (some ⟨ub, uo, none⟩) zs.length ca) := by rw [cell_of_row _ _ _ _ _ _ hop3]; rfl
                  clear hown hbl hbw hmi hml hb hop c1 c2 c3 hcu
                  go_wp2_with fail
                  refine (HP8.out _).mono ?_
                  rintro e w3 ⟨rfl, rfl⟩
                  by_cases hq : pickN raw 8 = 1
                  · have hq1 : (((pickN raw 8 : Nat) : Int) == 1) = true := by rw [beq_iff_eq]; omega
                    have hq2 : (pickN raw 8 == 1) = true := by rw [beq_iff_eq]; exact hq
                    by_cases hl : i + 1 = zs.length
                    · have hl1 : ((i : Int) == (zs.length : Int) - 1) = true := by rw [beq_iff_eq]; omega
                      have hX : blkX raw by_ zs.length i = (blkB by_ i).take (by_.toNat % 112) := by rw [blkX, if_pos ⟨hq, hl⟩]
                      rw [hX] at HA
                      have hxo := own_front hxm (by_.toNat % 112) (by omega)
                      have hxl := hxm.isB.front (by_.toNat % 112) (by omega)
                      clear hX hq hl hxm
                      have hbm : by_.toNat % 112 ≤ 112 := by omega
                      generalize (blkB by_ i).take (by_.toNat % 112) = X at *
                      have hbt : (wrap64 ((by_.toNat : Nat) : Int)).tmod 112 = ((by_.toNat % 112 : Nat) : Int) := by
                        have := by_.toNat_lt
                        rw [show wrap64 ((by_.toNat : Nat) : Int) = ((by_.toNat : Nat) : Int) by unfold wrap64; omega, Int.tmod_eq_emod_of_nonneg (by omega)]
                        rfl
                      have hcut := run_cut_h (P := Tryd.prog) wr Tryd.underlying36 info_byte (some ⟨G, 0, none⟩) 112 112 (by_.toNat % 112) _ hbt hbm
                      clear hbt
                      generalize by_.toNat % 112 = bm at *
                      go_upto_region 22 with fail
                      have hB : g2 + 1 ≤ wr.heap.size := by omega
                      have hb4 : Below wr.heap.size wr (wr.alloc (.cells #[.int .i64 kk] 3)) := (Below.refl _ _).alloc (Nat.le_refl _) _
                      have hsz4 := hb4.size
                      have hmi4 := hmi3.below hb4
                      have hml4 := hml3.below hb4
                      have hxo4 := own_keep hxo (fun k _ hk => hb4.block k hk)
                      have hxl4 := hxl.below hb4
                      obtain ⟨v6, w5, hr6, hmi5, hg5⟩ := hmi4.grow (by omega) (by omega) kk wr.heap.size (heap_alloc_new _ _)
                      have ht5 := grown_turned hmi4 hg5
                      have hml5 := hml4.other hmi4 (by decide) (by decide) hg5
                      have hxo5 := own_other hxo4 hmi4 (by decide) hg5
                      have hxl5 := hxl4.other hxo4 hmi4 (by decide) hg5
                      have hsz5 := ht5.size
                      have hb6 : Below w5.heap.size w5 (w5.alloc (.cells #[.slice (some ⟨G, 0, none⟩) bm 112] 36)) := (Below.refl _ _).alloc (Nat.le_refl _) _
                      have hsz6 := hb6.size
                      obtain ⟨v7, w7, hr7, hml7, ht7, hk7⟩ := (hml5.below hb6).grow (by omega) (by omega) _ X (own_keep hxo5 (fun k _ hk => hb6.block k hk)) (hxl5.below hb6) w5.heap.size (heap_alloc_new _ _)
                      have hmi7 : MineI (g2 + 1) w7 v6 (acc.1 ++ [kk]) := hk7 (hmi5.below hb6) (by decide)
                      have hbb : Below (g2 + 1) wr w7 := (((hb4.mono hB).trans (ht5.below (by omega) (fun k hk => hk))).trans (hb6.mono (by omega))).trans (ht7.below (by omega) (fun k hk => hk))
                      have hb7 : Below g2 w w7 := hb3.trans (hbb.mono (by omega))
                      have hop7 := (hbb.block g2 (by omega)).trans hop3
                      clear hmi3 hml3 hb3 hxo hxl hb4 hmi4 hml4 hxo4 hxl4 hmi5 hg5 ht5 hml5 hxo5 hxl5 hb6 ht7 hk7 hbb hop3 k1 k2 k3
                      go_wp2_with (at_builtin; first | (refine wpList_append_run rfl (.tmp 85) (.tmp 87) 22 22 rfl _ _ _ rfl rfl hr6 ?_; clear hr6) | (refine wpList_append_run rfl (.tmp 89) (.tmp 91) 32 32 rfl _ _ _ rfl rfl hr7 ?_))
                      go_roundw
                      case rel => exact ⟨i + 1, by omega, by omega, by go_num, by rw [HA.out]; exact hmi7, by rw [HA.out]; exact hml7, hb7, hop7⟩
                      case measure => simp [intOf]; omega
                    · have hl1 : ((i : Int) == (zs.length : Int) - 1) = false := by rw [beq_eq_false_iff_ne]; omega
                      have hX : blkX raw by_ zs.length i = blkB by_ i := by rw [blkX, if_neg (fun h => hl h.2)]
                      rw [hX] at HA
                      have hxl := hxm.isB
                      have hxo : wr.ownsRow (g2 + 1) 5 1 _ _ _ := hxm
                      clear hX hq hl hxm
                      rw [hb112] at hxl hxo
                      generalize blkB by_ i = X at *
                      go_upto_region 22 with fail
                      have hB : g2 + 1 ≤ wr.heap.size := by omega
                      have hb4 : Below wr.heap.size wr (wr.alloc (.cells #[.int .i64 kk] 3)) := (Below.refl _ _).alloc (Nat.le_refl _) _
                      have hsz4 := hb4.size
                      have hmi4 := hmi3.below hb4
                      have hml4 := hml3.below hb4
                      have hxo4 := own_keep hxo (fun k _ hk => hb4.block k hk)
                      have hxl4 := hxl.below hb4
                      obtain ⟨v6, w5, hr6, hmi5, hg5⟩ := hmi4.grow (by omega) (by omega) kk wr.heap.size (heap_alloc_new _ _)
                      have ht5 := grown_turned hmi4 hg5
                      have hml5 := hml4.other hmi4 (by decide) (by decide) hg5
                      have hxo5 := own_other hxo4 hmi4 (by decide) hg5
                      have hxl5 := hxl4.other hxo4 hmi4 (by decide) hg5
                      have hsz5 := ht5.size
                      have hb6 : Below w5.heap.size w5 (w5.alloc (.cells #[.slice (some ⟨G, 0, none⟩) 112 112] 36)) := (Below.refl _ _).alloc (Nat.le_refl _) _
                      have hsz6 := hb6.size
                      obtain ⟨v7, w7, hr7, hml7, ht7, hk7⟩ := (hml5.below hb6).grow (by omega) (by omega) _ X (own_keep hxo5 (fun k _ hk => hb6.block k hk)) (hxl5.below hb6) w5.heap.size (heap_alloc_new _ _)
                      have hmi7 : MineI (g2 + 1) w7 v6 (acc.1 ++ [kk]) := hk7 (hmi5.below hb6) (by decide)
                      have hbb : Below (g2 + 1) wr w7 := (((hb4.mono hB).trans (ht5.below (by omega) (fun k hk => hk))).trans (hb6.mono (by omega))).trans (ht7.below (by omega) (fun k hk => hk))
                      have hb7 : Below g2 w w7 := hb3.trans (hbb.mono (by omega))
                      have hop7 := (hbb.block g2 (by omega)).trans hop3
                      clear hmi3 hml3 hb3 hxo hxl hb4 hmi4 hml4 hxo4 hxl4 hmi5 hg5 ht5 hml5 hxo5 hxl5 hb6 ht7 hk7 hbb hop3 k1 k2 k3
                      go_wp2_with (at_builtin; first | (refine wpList_append_run rfl (.tmp 85) (.tmp 87) 22 22 rfl _ _ _ rfl rfl hr6 ?_; clear hr6) | (refine wpList_append_run rfl (.tmp 89) (.tmp 91) 32 32 rfl _ _ _ rfl rfl hr7 ?_))
                      go_roundw
                      case rel => exact ⟨i + 1, by omega, by omega, by go_num, by rw [HA.out]; exact hmi7, by rw [HA.out]; exact hml7, hb7, hop7⟩
                      case measure => simp [intOf]; omega
                  · have hq1 : (((pickN raw 8 : Nat) : Int) == 1) = false := by rw [beq_eq_false_iff_ne]; omega
                    have hq2 : (pickN raw 8 == 1) = false := by rw [beq_eq_false_iff_ne]; exact hq
                    have hX : blkX raw by_ zs.length i = blkB by_ i := by rw [blkX, if_neg (fun h => hq h.1)]
                    rw [hX] at HA
                    have hxl := hxm.isB
                    have hxo : wr.ownsRow (g2 + 1) 5 1 _ _ _ := hxm
                    clear hX hq hxm
                    rw [hb112] at hxl hxo
                    generalize blkB by_ i = X at *
                    go_upto_region 22 with fail
                    have hB : g2 + 1 ≤ wr.heap.size := by omega
                    have hb4 : Below wr.heap.size wr (wr.alloc (.cells #[.int .i64 kk] 3)) := (Below.refl _ _).alloc (Nat.le_refl _) _
                    have hsz4 := hb4.size
                    have hmi4 := hmi3.below hb4
                    have hml4 := hml3.below hb4
                    have hxo4 := own_keep hxo (fun k _ hk => hb4.block k hk)
                    have hxl4 := hxl.below hb4
                    obtain ⟨v6, w5, hr6, hmi5, hg5⟩ := hmi4.grow (by omega) (by omega) kk wr.heap.size (heap_alloc_new _ _)
                    have ht5 := grown_turned hmi4 hg5
                    have hml5 := hml4.other hmi4 (by decide) (by decide) hg5
                    have hxo5 := own_other hxo4 hmi4 (by decide) hg5
                    have hxl5 := hxl4.other hxo4 hmi4 (by decide) hg5
                    have hsz5 := ht5.size
                    have hb6 : Below w5.heap.size w5 (w5.alloc (.cells #[.slice (some ⟨G, 0, none⟩) 112 112] 36)) := (Below.refl _ _).alloc (Nat.le_refl _) _
                    have hsz6 := hb6.size
                    obtain ⟨v7, w7, hr7, hml7, ht7, hk7⟩ := (hml5.below hb6).grow (by omega) (by omega) _ X (own_keep hxo5 (fun k _ hk => hb6.block k hk)) (hxl5.below hb6) w5.heap.size (heap_alloc_new _ _)
                    have hmi7 : MineI (g2 + 1) w7 v6 (acc.1 ++ [kk]) := hk7 (hmi5.below hb6) (by decide)
                    have hbb : Below (g2 + 1) wr w7 := (((hb4.mono hB).trans (ht5.below (by omega) (fun k hk => hk))).trans (hb6.mono (by omega))).trans (ht7.below (by omega) (fun k hk => hk))
                    have hb7 : Below g2 w w7 := hb3.trans (hbb.mono (by omega))
                    have hop7 := (hbb.block g2 (by omega)).trans hop3
                    clear hmi3 hml3 hb3 hxo hxl hb4 hmi4 hml4 hxo4 hxl4 hmi5 hg5 ht5 hml5 hxo5 hxl5 hb6 ht7 hk7 hbb hop3 k1 k2 k3
                    go_wp2_with (at_builtin; first | (refine wpList_append_run rfl (.tmp 85) (.tmp 87) 22 22 rfl _ _ _ rfl rfl hr6 ?_; clear hr6) | (refine wpList_append_run rfl (.tmp 89) (.tmp 91) 32 32 rfl _ _ _ rfl rfl hr7 ?_))
                    go_roundw
                    case rel => exact ⟨i + 1, by omega, by omega, by go_num, by rw [HA.out]; exact hmi7, by rw [HA.out]; exact hml7, hb7, hop7⟩
                    case measure => simp [intOf]; omega
      · have hd5 : decide ((1 : Int) < ((pickN raw 8 : Nat) : Int)) = false := decide_eq_false (by omega)
        have HA : Hid (blkTo raw by_ n zs (i + 1) = (acc.1 ++ [z0], acc.2 ++ [blkX raw by_ zs.length i])) := Lib.hid (by rw [HST.out, blkStep, if_neg (fun h => hp h.1), blkK, if_neg hp])
        obtain ⟨kk, rfl⟩ : ∃ kk, kk = z0 := ⟨_, rfl⟩
        clear Hnn HST hp
        obtain ⟨w2, rfl⟩ : ∃ w2, w2 = wr := ⟨_, rfl⟩
        obtain ⟨R, hR⟩ : ∃ R, R = List.replicate 112 (0 : UInt8) := ⟨_, rfl⟩
        have hmk := run_make112 w2
        rw [← hR] at hmk
        have hRl : R.length = 112 := by rw [hR, List.length_replicate]
        have hown0 : Mine 5 w2.heap.size (w2.alloc (.cells (bv R).toArray 5)) (.slice (some ⟨w2.heap.size, 0, none⟩) 112 112) (blo by_ i 0) := by
          rw [blo_zero, ← hR]
          have := Mine.lit (e := 5) (w := w2) R (Nat.le_refl _) (by rw [hRl]; simp [maxLen])
          rwa [hRl] at this
        have hb0 : Below w2.heap.size w2 (w2.alloc (.cells (bv R).toArray 5)) := (Below.refl _ _).alloc (Nat.le_refl _) _
        generalize w2.alloc (.cells (bv R).toArray 5) = w1 at *
        generalize hG : w2.heap.size = G at *
        have HG2 := Lib.hid hG
        clear hG hR hRl
        go_wp2_with fail
        clear hmk
        go_loopw [12] (fun y wr => ∃ j : Nat, j ≤ 112 ∧ y = .int .i64 (j : Int) ∧ Mine 5 G wr (.slice (some ⟨G, 0, none⟩) 112 112) (blo by_ i j) ∧ Below G w2 wr) (fun y _ => 112 - (intOf y).toNat)
        case atStart => exact ⟨0, by omega, rfl, hown0, hb0⟩
        case round =>
          obtain ⟨j, hj, rfl, hown, hbl⟩ := hrel
          clear hown0 hb0
          have hop3 : wr.heap[g2]? = some (opRow kind (.slice (some ⟨ub, uo, none⟩) zs.length ca) by_ raw) := (hbl.block g2 hgs).trans hop
          have k2 : wr.cell? ⟨g2, 2, none⟩ = some (.int .u8 (by_.toNat : Int)) := by rw [cell_of_row _ _ _ _ _ _ hop3]; rfl
          by_cases hjl : j < 112
          · have hdj : decide ((j : Int) < 112) = true := decide_eq_true (by omega)
            have hown2 : Mine 5 G wr (.slice (some ⟨G, 0, none⟩) (blo by_ i j).length 112) (blo by_ i j) := by rw [blo_len by_ i j hj]; exact hown
            have hcell := World.ownsRow.cellAt hown2 j (by rw [blo_len by_ i j hj]; omega)
            rw [bv_get (blo by_ i j) j (by rw [blo_len by_ i j hj]; exact hjl)] at hcell
            have hfro := World.ownsRow.frozenAt hown2 j
            have hS : Mine 5 G (wr.setCell ⟨G, j, none⟩ (.int .u8 ((by_ + UInt8.ofNat (i * j)).toNat : Int))) (.slice (some ⟨G, 0, none⟩) 112 112) (blo by_ i (j + 1)) := by
              have h := Mine.stored (l := blo by_ i j) (g := G) (cap := 112) hown2 j (by_ + UInt8.ofNat (i * j))
              rw [blo_set by_ i j hjl, blo_len by_ i (j + 1) (by omega)] at h
              exact h
            have hbS : Below G w2 (wr.setCell ⟨G, j, none⟩ (.int .u8 ((by_ + UInt8.ofNat (i * j)).toNat : Int))) := hbl.setCell (p := ⟨G, j, none⟩) (Nat.le_refl _) _
            have HS := Lib.hid hS
            have HB := Lib.hid hbS
            have HSM : Hid ((((by_.toNat : Nat) : Int) + wrap64 ((i : Int) * (j : Int))) % 256 = (((by_ + UInt8.ofNat (i * j)).toNat : Nat) : Int)) := Lib.hid (u8_sum2 by_ i j (by omega) hj)
            clear hS hbS hown hown2 hbl
            go_wp2_with fail
            go_roundw
            case rel => exact ⟨j + 1, by omega, by go_num, by rw [HSM.out]; exact HS.out, by rw [HSM.out]; exact HB.out⟩
            case measure => simp [intOf]; omega
          · obtain rfl : j = 112 := by omega
            rw [blo_all] at hown
            have hbw : Below w2.heap.size w2 wr := by rw [HG2.out]; exact hbl
            have hmi3 := hmi.below hbw
            have hml3 := hml.below hbw
            have hb3 : Below g2 w wr := hb.trans (hbl.mono (Nat.le_of_lt hgs))
            have hGs : G < wr.heap.size := by
              obtain ⟨_, c, hc⟩ := own_lt hown (k := G) rfl
              exact lt_of_heap hc
            have hxm : Mine 5 (g2 + 1) wr (.slice (some ⟨G, 0, none⟩) (blkB by_ i).length 112) (blkB by_ i) := by
              have := hown.base_le (base' := g2 + 1) (by omega)
              rw [blkB_length]
              exact this
            have hb112 := blkB_length by_ i
            have k3 : wr.cell? ⟨g2, 3, none⟩ = some (.int .i64 raw) := by rw [cell_of_row _ _ _ _ _ _ hop3]; rfl
            have k1 : wr.cell? ⟨g2, 1, none⟩ = some (.slice (some ⟨ub, uo, none⟩) zs.length ca) := by rw [cell_of_row _ _ _ _ _ _ hop3]; rfl
            clear hown hbl hbw hmi hml hb hop c1 c2 c3 hcu
            go_wp2_with fail
            refine (HP8.out _).mono ?_
            rintro e w3 ⟨rfl, rfl⟩
            by_cases hq : pickN raw 8 = 1
            · have hq1 : (((pickN raw 8 : Nat) : Int) == 1) = true := by rw [beq_iff_eq]; omega
              have hq2 : (pickN raw 8 == 1) = true := by rw [beq_iff_eq]; exact hq
              by_cases hl : i + 1 = zs.length
              · have hl1 : ((i : Int) == (zs.length : Int) - 1) = true := by rw [beq_iff_eq]; omega
                have hX : blkX raw by_ zs.length i = (blkB by_ i).take (by_.toNat % 112) := by rw [blkX, if_pos ⟨hq, hl⟩]
                rw [hX] at HA
                have hxo := own_front hxm (by_.toNat % 112) (by omega)
                have hxl := hxm.isB.front (by_.toNat % 112) (by omega)
                clear hX hq hl hxm
                have hbm : by_.toNat % 112 ≤ 112 := by omega
                generalize (blkB by_ i).take (by_.toNat % 112) = X at *
                have hbt : (wrap64 ((by_.toNat : Nat) : Int)).tmod 112 = ((by_.toNat % 112 : Nat) : Int) := by
                  have := by_.toNat_lt
                  rw [show wrap64 ((by_.toNat : Nat) : Int) = ((by_.toNat : Nat) : Int) by unfold wrap64; omega, Int.tmod_eq_emod_of_nonneg (by omega)]
                  rfl
                have hcut := run_cut_h (P := Tryd.prog) wr Tryd.underlying36 info_byte (some ⟨G, 0, none⟩) 112 112 (by_.toNat % 112) _ hbt hbm
                clear hbt
                generalize by_.toNat % 112 = bm at *
                go_upto_region 22 with fail
                have hB : g2 + 1 ≤ wr.heap.size := by omega
                have hb4 : Below wr.heap.size wr (wr.alloc (.cells #[.int .i64 kk] 3)) := (Below.refl _ _).alloc (Nat.le_refl _) _
                have hsz4 := hb4.size
                have hmi4 := hmi3.below hb4
                have hml4 := hml3.below hb4
                have hxo4 := own_keep hxo (fun k _ hk => hb4.block k hk)
                have hxl4 := hxl.below hb4
                obtain ⟨v6, w5, hr6, hmi5, hg5⟩ := hmi4.grow (by omega) (by omega) kk wr.heap.size (heap_alloc_new _ _)
                have ht5 := grown_turned hmi4 hg5
                have hml5 := hml4.other hmi4 (by decide) (by decide) hg5
                have hxo5 := own_other hxo4 hmi4 (by decide) hg5
                have hxl5 := hxl4.other hxo4 hmi4 (by decide) hg5
                have hsz5 := ht5.size
                have hb6 : Below w5.heap.size w5 (w5.alloc (.cells #[.slice (some ⟨G, 0, none⟩) bm 112] 36)) := (Below.refl _ _).alloc (Nat.le_refl _) _
                have hsz6 := hb6.size
                obtain ⟨v7, w7, hr7, hml7, ht7, hk7⟩ := (hml5.below hb6).grow (by omega) (by omega) _ X (own_keep hxo5 (fun k _ hk => hb6.block k hk)) (hxl5.below hb6) w5.heap.size (heap_alloc_new _ _)
                have hmi7 : MineI (g2 + 1) w7 v6 (acc.1 ++ [kk]) := hk7 (hmi5.below hb6) (by decide)
                have hbb : Below (g2 + 1) wr w7 := (((hb4.mono hB).trans (ht5.below (by omega) (fun k hk => hk))).trans (hb6.mono (by omega))).trans (ht7.below (by omega) (fun k hk => hk))
                have hb7 : Below g2 w w7 := hb3.trans (hbb.mono (by omega))
                have hop7 := (hbb.block g2 (by omega)).trans hop3
                clear hmi3 hml3 hb3 hxo hxl hb4 hmi4 hml4 hxo4 hxl4 hmi5 hg5 ht5 hml5 hxo5 hxl5 hb6 ht7 hk7 hbb hop3 k1 k2 k3
                go_wp2_with (at_builtin; first | (refine wpList_append_run rfl (.tmp 85) (.tmp 87) 22 22 rfl _ _ _ rfl rfl hr6 ?_; clear hr6) | (refine wpList_append_run rfl (.tmp 89) (.tmp 91) 32 32 rfl _ _ _ rfl rfl hr7 ?_))
                go_roundw
                case rel => exact ⟨i + 1, by omega, by omega, by go_num, by rw [HA.out]; exact hmi7, by rw [HA.out]; exact hml7, hb7, hop7⟩
                case measure => simp [intOf]; omega
              · have hl1 : ((i : Int) == (zs.length : Int) - 1) = false := by rw [beq_eq_false_iff_ne]; omega
                have hX : blkX raw by_ zs.length i = blkB by_ i := by rw [blkX, if_neg (fun h => hl h.2)]
                rw [hX] at HA
                have hxl := hxm.isB
                have hxo : wr.ownsRow (g2 + 1) 5 1 _ _ _ := hxm
                clear hX hq hl hxm
                rw [hb112] at hxl hxo
                generalize blkB by_ i = X at *
                go_upto_region 22 with fail
                have hB : g2 + 1 ≤ wr.heap.size := by omega
                have hb4 : Below wr.heap.size wr (wr.alloc (.cells #[.int .i64 kk] 3)) := (Below.refl _ _).alloc (Nat.le_refl _) _
                have hsz4 := hb4.size
                have hmi4 := hmi3.below hb4
                have hml4 := hml3.below hb4
                have hxo4 := own_keep hxo (fun k _ hk => hb4.block k hk)
                have hxl4 := hxl.below hb4
                obtain ⟨v6, w5, hr6, hmi5, hg5⟩ := hmi4.grow (by omega) (by omega) kk wr.heap.size (heap_alloc_new _ _)
                have ht5 := grown_turned hmi4 hg5
                have hml5 := hml4.other hmi4 (by decide) (by decide) hg5
                have hxo5 := own_other hxo4 hmi4 (by decide) hg5
                have hxl5 := hxl4.other hxo4 hmi4 (by decide) hg5
                have hsz5 := ht5.size
                have hb6 : Below w5.heap.size w5 (w5.alloc (.cells #[.slice (some ⟨G, 0, none⟩) 112 112] 36)) := (Below.refl _ _).alloc (Nat.le_refl _) _
                have hsz6 := hb6.size
                obtain ⟨v7, w7, hr7, hml7, ht7, hk7⟩ := (hml5.below hb6).grow (by omega) (by omega) _ X (own_keep hxo5 (fun k _ hk => hb6.block k hk)) (hxl5.below hb6) w5.heap.size (heap_alloc_new _ _)
                have hmi7 : MineI (g2 + 1) w7 v6 (acc.1 ++ [kk]) := hk7 (hmi5.below hb6) (by decide)
                have hbb : Below (g2 + 1) wr w7 := (((hb4.mono hB).trans (ht5.below (by omega) (fun k hk => hk))).trans (hb6.mono (by omega))).trans (ht7.below (by omega) (fun k hk => hk))
                have hb7 : Below g2 w w7 := hb3.trans (hbb.mono (by omega))
                have hop7 := (hbb.block g2 (by omega)).trans hop3
                clear hmi3 hml3 hb3 hxo hxl hb4 hmi4 hml4 hxo4 hxl4 hmi5 hg5 ht5 hml5 hxo5 hxl5 hb6 ht7 hk7 hbb hop3 k1 k2 k3
                go_wp2_with (at_builtin; first | (refine wpList_append_run rfl (.tmp 85) (.tmp 87) 22 22 rfl _ _ _ rfl rfl hr6 ?_; clear hr6) | (refine wpList_append_run rfl (.tmp 89) (.tmp 91) 32 32 rfl _ _ _ rfl rfl hr7 ?_))
                go_roundw
                case rel => exact ⟨i + 1, by omega, by omega, by go_num, by rw [HA.out]; exact hmi7, by rw [HA.out]; exact hml7, hb7, hop7⟩
                case measure => simp [intOf]; omega
            · have hq1 : (((pickN raw 8 : Nat) : Int) == 1) = false := by rw [beq_eq_false_iff_ne]; omega
              have hq2 : (pickN raw 8 == 1) = false := by rw [beq_eq_false_iff_ne]; exact hq
              have hX : blkX raw by_ zs.length i = blkB by_ i := by rw [blkX, if_neg (fun h => hq h.1)]
              rw [hX] at HA
              have hxl := hxm.isB
              have hxo : wr.ownsRow (g2 + 1) 5 1 _ _ _ := hxm
              clear hX hq hxm
              rw [hb112] at hxl hxo
              generalize blkB by_ i = X at *
              go_upto_region 22 with fail
              have hB : g2 + 1 ≤ wr.heap.size := by omega
              have hb4 : Below wr.heap.size wr (wr.alloc (.cells #[.int .i64 kk] 3)) := (Below.refl _ _).alloc (Nat.le_refl _) _
              have hsz4 := hb4.size
              have hmi4 := hmi3.below hb4
              have hml4 := hml3.below hb4
              have hxo4 := own_keep hxo (fun k _ hk => hb4.block k hk)
              have hxl4 := hxl.below hb4
              obtain ⟨v6, w5, hr6, hmi5, hg5⟩ := hmi4.grow (by omega) (by omega) kk wr.heap.size (heap_alloc_new _ _)
              have ht5 := grown_turned hmi4 hg5
              have hml5 := hml4.other hmi4 (by decide) (by decide) hg5
              have hxo5 := own_other hxo4 hmi4 (by decide) hg5
              have hxl5 := hxl4.other hxo4 hmi4 (by decide) hg5
              have hsz5 := ht5.size
              have hb6 : Below w5.heap.size w5 (w5.alloc (.cells #[.slice (some ⟨G, 0, none⟩) 112 112] 36)) := (Below.refl _ _).alloc (Nat.le_refl _) _
              have hsz6 := hb6.size
              obtain ⟨v7, w7, hr7, hml7, ht7, hk7⟩ := (hml5.below hb6).grow (by omega) (by omega) _ X (own_keep hxo5 (fun k _ hk => hb6.block k hk)) (hxl5.below hb6) w5.heap.size (heap_alloc_new _ _)
              have hmi7 : MineI (g2 + 1) w7 v6 (acc.1 ++ [kk]) := hk7 (hmi5.below hb6) (by decide)
              have hbb : Below (g2 + 1) wr w7 := (((hb4.mono hB).trans (ht5.below (by omega) (fun k hk => hk))).trans (hb6.mono (by omega))).trans (ht7.below (by omega) (fun k hk => hk))
              have hb7 : Below g2 w w7 := hb3.trans (hbb.mono (by omega))
              have hop7 := (hbb.block g2 (by omega)).trans hop3
              clear hmi3 hml3 hb3 hxo hxl hb4 hmi4 hml4 hxo4 hxl4 hmi5 hg5 ht5 hml5 hxo5 hxl5 hb6 ht7 hk7 hbb hop3 k1 k2 k3
              go_wp2_with (at_builtin; first | (refine wpList_append_run rfl (.tmp 85) (.tmp 87) 22 22 rfl _ _ _ rfl rfl hr6 ?_; clear hr6) | (refine wpList_append_run rfl (.tmp 89) (.tmp 91) 32 32 rfl _ _ _ rfl rfl hr7 ?_))
              go_roundw
              case rel => exact ⟨i + 1, by omega, by omega, by go_num, by rw [HA.out]; exact hmi7, by rw [HA.out]; exact hml7, hb7, hop7⟩
              case measure => simp [intOf]; omega
    · have hmin : i = min zs.length 40 := by omega
      have HB := Hblk.out
      rw [← hmin] at HB
      clear hmin
      generalize blkTo raw by_ n zs i = acc at *
      have HBK := Lib.hid HB
      obtain ⟨a6, c6, hu6, hc6, hm6⟩ := hmi.isI.form
      obtain ⟨a7, c7, hu7, hc7, hm7⟩ := hml.isBs.form
      subst hu6 hu7
      unfold maxLen at hm6 hm7
      have hlen40 : acc.1.length ≤ 40 := by omega
      clear HB hali hali2 Hal
      by_cases hil : i < zs.length
      · have hd1 : decide ((i : Int) < (zs.length : Int)) = true := decide_eq_true (by omega)
        have hd2 : decide ((i : Int) < 40) = false := decide_eq_false (by omega)
        clear hlt
        go_wp2_with fail
        refine (HP16.out _).mono ?_
        rintro e w3 ⟨rfl, rfl⟩
        by_cases hq : pickN raw 16 = 8
        · have hq1 : (((pickN raw 16 : Nat) : Int) == 8) = true := by rw [beq_iff_eq]; omega
          by_cases h0 : 0 < acc.1.length
          · have hd3 : decide ((0 : Int) < (acc.1.length : Int)) = true := decide_eq_true (by omega)
            have hbk : blk raw by_ n zs = (acc.1.take (acc.1.length - 1), acc.2) := by rw [HBK.out, if_pos ⟨hq, h0⟩]
            have HK := Lib.hid hbk
            obtain ⟨g6, rfl⟩ : ∃ g6, a6 = some ⟨g6, 0, none⟩ := by
              rcases hmi.2 with ⟨h1, h2⟩ | ⟨g, cap, cur, h1, _⟩
              · omega
              · simp only [Value.slice.injEq] at h1
                exact ⟨g, h1.1⟩
            clear hbk hq
            go_wp2_with fail
            go_ret2
            rw [HK.out, Hg2.out]
            exact ⟨_, _, rfl, by
              have h3 := (hmi.low (show g2 ≤ g2 + 1 by omega)).front (acc.1.length - 1) (by omega)
              rwa [show acc.1.length - 1 = ((acc.1.length : Int) - 1).toNat by omega] at h3 ⊢, hml.low (by omega), hb⟩
          · have hd3 : decide ((0 : Int) < (acc.1.length : Int)) = false := decide_eq_false (by omega)
            have hbk : blk raw by_ n zs = acc := by rw [HBK.out, if_neg (fun h => h0 h.2)]
            have HK := Lib.hid hbk
            have hd4 : decide (0 < acc.1.length) = false := decide_eq_false h0
            clear hbk hq
            go_wp2_with fail
            go_ret2
            rw [HK.out, Hg2.out]
            exact ⟨_, _, rfl, hmi.low (by omega), hml.low (by omega), hb⟩
        · have hq1 : (((pickN raw 16 : Nat) : Int) == 8) = false := by rw [beq_eq_false_iff_ne]; omega
          have hbk : blk raw by_ n zs = acc := by rw [HBK.out, if_neg (fun h => hq h.1)]
          have HK := Lib.hid hbk
          clear hbk hq
          go_wp2_with fail
          go_ret2
          rw [HK.out, Hg2.out]
          exact ⟨_, _, rfl, hmi.low (by omega), hml.low (by omega), hb⟩
      · have hd1 : decide ((i : Int) < (zs.length : Int)) = false := decide_eq_false (by omega)
        clear hlt
        go_wp2_with fail
        refine (HP16.out _).mono ?_
        rintro e w3 ⟨rfl, rfl⟩
        by_cases hq : pickN raw 16 = 8
        · have hq1 : (((pickN raw 16 : Nat) : Int) == 8) = true := by rw [beq_iff_eq]; omega
          by_cases h0 : 0 < acc.1.length
          · have hd3 : decide ((0 : Int) < (acc.1.length : Int)) = true := decide_eq_true (by omega)
            have hbk : blk raw by_ n zs = (acc.1.take (acc.1.length - 1), acc.2) := by rw [HBK.out, if_pos ⟨hq, h0⟩]
            have HK := Lib.hid hbk
            obtain ⟨g6, rfl⟩ : ∃ g6, a6 = some ⟨g6, 0, none⟩ := by
              rcases hmi.2 with ⟨h1, h2⟩ | ⟨g, cap, cur, h1, _⟩
              · omega
              · simp only [Value.slice.injEq] at h1
                exact ⟨g, h1.1⟩
            clear hbk hq
            go_wp2_with fail
            go_ret2
            rw [HK.out, Hg2.out]
            exact ⟨_, _, rfl, by
              have h3 := (hmi.low (show g2 ≤ g2 + 1 by omega)).front (acc.1.length - 1) (by omega)
              rwa [show acc.1.length - 1 = ((acc.1.length : Int) - 1).toNat by omega] at h3 ⊢, hml.low (by omega), hb⟩
          · have hd3 : decide ((0 : Int) < (acc.1.length : Int)) = false := decide_eq_false (by omega)
            have hbk : blk raw by_ n zs = acc := by rw [HBK.out, if_neg (fun h => h0 h.2)]
            have HK := Lib.hid hbk
            have hd4 : decide (0 < acc.1.length) = false := decide_eq_false h0
            clear hbk hq
            go_wp2_with fail
            go_ret2
            rw [HK.out, Hg2.out]
            exact ⟨_, _, rfl, hmi.low (by omega), hml.low (by omega), hb⟩
        · have hq1 : (((pickN raw 16 : Nat) : Int) == 8) = false := by rw [beq_eq_false_iff_ne]; omega
          have hbk : blk raw by_ n zs = acc := by rw [HBK.out, if_neg (fun h => hq h.1)]
          have HK := Lib.hid hbk
          clear hbk hq
          go_wp2_with fail
          go_ret2
          rw [HK.out, Hg2.out]
          exact ⟨_, _, rfl, hmi.low (by omega), hml.low (by omega), hb⟩
end Go.Proofs.YtoonlihacbbfdaaDoor

/- What blocks comes to where places are picked: a write that is not refused. Plain lists. -/
set_option linter.unusedVariables false
set_option linter.unusedSimpArgs false
set_option maxRecDepth 100000
namespace Go.Proofs.YtoonlihacbbfdaaDoor
open Go.RowKit

theorem rightGo_of {nb : Nat} : ∀ (zs : List Int) (ls : List (List UInt8)) (met : List Int), (∀ z ∈ zs, 0 ≤ z ∧ z < (nb : Int)) → zs.Nodup → (∀ z ∈ zs, z ∉ met) → (∀ l ∈ ls, l.length = 112) → rightGo nb met zs ls = true
  | [], _, _, _, _, _, _ => by simp [rightGo]
  | _ :: _, [], _, _, _, _, _ => by simp [rightGo]
  | z :: zs, l :: ls, met, h1, h2, h3, h4 => by
    rw [List.nodup_cons] at h2
    have a := h1 z (List.mem_cons_self ..)
    have ih := rightGo_of zs ls (met ++ [z]) (fun y hy => h1 y (List.mem_cons_of_mem _ hy)) h2.2 (fun y hy hm => by
      rcases List.mem_append.1 hm with hm | hm
      · exact h3 y (List.mem_cons_of_mem _ hy) hm
      · rw [List.mem_singleton.1 hm] at hy
        exact h2.1 hy) (fun y hy => h4 y (List.mem_cons_of_mem _ hy))
    simp only [rightGo, ih, Bool.and_true, Bool.and_eq_true, decide_eq_true_eq, Bool.not_eq_true', decide_eq_false_iff_not]
    exact ⟨⟨⟨a.1, a.2⟩, h3 z (List.mem_cons_self ..)⟩, h4 l (List.mem_cons_self ..)⟩
/-- places each once, blocks of the right length -/
structure Fit (nb : Nat) (zs : List Int) (ls : List (List UInt8)) : Prop where
  len : zs.length = ls.length
  place : ∀ z ∈ zs, 0 ≤ z ∧ z < (nb : Int)
  once : zs.Nodup
  bytes : ∀ l ∈ ls, l.length = 112
theorem Fit.right {nb : Nat} {zs : List Int} {ls : List (List UInt8)} (h : Fit nb zs ls) : rightW nb zs ls = true := by
  rw [rightW, rightGo_of zs ls [] h.place h.once (fun _ _ h => by cases h) h.bytes]
  simp [h.len]
theorem pick28 : pickN 2 8 = 2 := by decide
theorem pick216 : pickN 2 16 = 2 := by decide
theorem blkTo_fit {nb : Nat} (hnb : 0 < nb) (by_ : UInt8) (zs : List Int) (i : Nat) : Fit nb (blkTo 2 by_ nb zs i).1 (blkTo 2 by_ nb zs i).2 := by
  induction i with
  | zero => exact ⟨rfl, (fun z h => by cases h), List.nodup_nil, (fun z h => by cases h)⟩
  | succ i ih =>
    rw [blkTo, blkStep]
    split
    · exact ih
    · rename_i h
      rw [pick28] at h
      have hk : blkK 2 nb (zs.getD i 0) = (pickN (zs.getD i 0) nb : Int) := by rw [blkK, pick28, if_pos (by omega)]
      have hx : blkX 2 by_ zs.length i = blkB by_ i := by rw [blkX, pick28, if_neg (by omega)]
      have hn : blkK 2 nb (zs.getD i 0) ∉ (blkTo 2 by_ nb zs i).1 := fun hm => h ⟨by omega, hm⟩
      refine ⟨by simp [ih.len], fun z hz => ?_, ?_, fun l hl => ?_⟩
      · rcases List.mem_append.1 hz with hz | hz
        · exact ih.place z hz
        · rw [List.mem_singleton.1 hz, hk]
          exact mineI_range _ nb hnb
      · rw [List.nodup_append]
        refine ⟨ih.once, by simp, fun a ha b hb e => hn ?_⟩
        rw [List.mem_singleton.1 hb] at e
        rw [← e]
        exact ha
      · rcases List.mem_append.1 hl with hl | hl
        · exact ih.bytes l hl
        · rw [List.mem_singleton.1 hl, hx, blkB_length]
theorem blk_fit {nb : Nat} (hnb : 0 < nb) (by_ : UInt8) (zs : List Int) : Fit nb (blk 2 by_ nb zs).1 (blk 2 by_ nb zs).2 := by
  have := blkTo_fit hnb by_ zs (min zs.length 40)
  rw [blk, pick216, if_neg (by omega)]
  exact this
theorem blk_short (raw : Int) (by_ : UInt8) (nb : Nat) (zs : List Int) : (blk raw by_ nb zs).1.length ≤ 40 := by
  have := (blkTo_length raw by_ nb zs (min zs.length 40)).2
  simp only [blk]
  split
  · rw [List.length_take]; omega
  · omega
theorem blk_ints {raw : Int} {by_ : UInt8} {nb : Nat} {zs : List Int} (hnb : 0 < nb) (hm : nb ≤ 4611686018427387904) (h : ∀ z ∈ zs, -9223372036854775808 ≤ z ∧ z ≤ 9223372036854775807) : ∀ z ∈ (blk raw by_ nb zs).1, -9223372036854775808 ≤ z ∧ z ≤ 9223372036854775807 := by
  have key : ∀ i, ∀ z ∈ (blkTo raw by_ nb zs i).1, -9223372036854775808 ≤ z ∧ z ≤ 9223372036854775807 := fun i => by
    induction i with
    | zero => intro z h; cases h
    | succ i ih =>
      rw [blkTo, blkStep]
      split
      · exact ih
      · intro z hz
        rcases List.mem_append.1 hz with hz | hz
        · exact ih z hz
        · rw [List.mem_singleton.1 hz, blkK]
          split
          · have := mineI_range (zs.getD i 0) nb hnb
            omega
          · rw [List.getD_eq_getElem?_getD]
            rcases hg : zs[i]? with _ | y
            · simp
            · exact h y (List.mem_of_getElem? hg)
  intro z hz
  simp only [blk] at hz
  split at hz
  · exact key _ z (List.mem_of_mem_take hz)
  · exact key _ z hz
end Go.Proofs.YtoonlihacbbfdaaDoor

/- How the cells of what came in read: schemes of ints, bytes, slices; each says what the reader of a row read. -/
set_option linter.unusedVariables false
set_option linter.unusedSimpArgs false
set_option maxRecDepth 100000
namespace Go.Proofs.YtoonlihacbbfdaaDoor
open Go.ChangeShapes Go.WideShapes Go.ChangeAt Go.RowKit Go.Deep

theorem own : ownKnob Tryd.prog.godebug = none := by kernel_rfl
theorem laidOut : laidOutB Tryd.prog = true := by kernel_rfl
theorem cells_int : Tryd.prog.cellsOf 3 = 1 := by kernel_rfl
theorem cells_byte : Tryd.prog.cellsOf 5 = 1 := by kernel_rfl
theorem wf_byte {n : Int} (h : (Lit.int .u8 n).wf = true) : ∃ x : UInt8, n = (x.toNat : Int) := by
  simp only [Lit.wf, IntKind.min, IntKind.max, IntKind.signed, IntKind.bits, Bool.and_eq_true, decide_eq_true_eq] at h
  have h1 : (0 : Int) ≤ n := by simpa using h.1
  have h2 : n ≤ 255 := by simpa using h.2
  refine ⟨UInt8.ofNat n.toNat, ?_⟩
  rw [UInt8.toNat_ofNat']
  omega
theorem wf_int64 {n : Int} (h : (Lit.int .i64 n).wf = true) : -9223372036854775808 ≤ n ∧ n ≤ 9223372036854775807 := by
  simp only [Lit.wf, IntKind.min, IntKind.max, IntKind.signed, IntKind.bits, Bool.and_eq_true, decide_eq_true_eq] at h
  exact ⟨by simpa using h.1, by simpa using h.2⟩
def I64 (n : Int) : Prop := -9223372036854775808 ≤ n ∧ n ≤ 9223372036854775807
/-- each weight within the reach -/
def Light {H : Type} (t : TypeId) (d : DataW H) : Prop := ∀ n ∈ d.weights Tryd.prog t, n ≤ reachBytes
theorem light_arg {H : Type} {ts : List TypeId} {ds : List (DataW H)} {j : Nat} {t : TypeId} {d : DataW H} (h : (DataW.weightsEach Tryd.prog ts ds).all (· ≤ reachBytes) = true) (ht : ts[j]? = some t) (hj : ds[j]? = some d) : Light t d := fun n hn => by
  have := List.all_eq_true.1 h n (DataW.weights_mem_each ht hj n hn)
  simpa using this
theorem light_all {H : Type} {P : Program} {e : TypeId} {D : List (DataW H)} {i : Nat} {d : DataW H} (hd : D[i]? = some d) (k : Nat) (hk : k ∈ d.weights P e) : k ∈ DataW.weightsAll P e D := by
  induction D generalizing i with
  | nil => cases hd
  | cons x r ih =>
    simp only [DataW.weightsAll, List.mem_append]
    cases i with
    | zero =>
      simp only [List.getElem?_cons_zero, Option.some.injEq] at hd
      subst hd
      exact .inl hk
    | succ i => exact .inr (ih (by simpa using hd))
/-- how the cells of a type read -/
structure Rd (α : Type) where
  T : TypeId
  n : Nat
  R : World → List Value → α → Prop
  size : Tryd.prog.cellsOf T = n
  len : ∀ {w : World} {cs : List Value} {x : α}, R w cs x → cs.length = n
  keep : ∀ {w w' : World} {cs : List Value} {x : α}, R w cs x → (∀ a u, w.cell? a = some u → w'.cell? a = some u) → R w' cs x
  trod : ∀ {H : Type} {enc : TypeId × Value → H} {W : World} {m : Nat} {cs : List Value} {y : DataW H × List MemPlace},
    DataW.trod enc Tryd.prog W 0 (fun _ => true) true m T cs = some y → Light T y.1 → ∃ x, R W cs x
def rdInt : Rd Int where
  T := 3
  n := 1
  R := fun _ cs x => cs = [.int .i64 x] ∧ I64 x
  size := cells_int
  len := fun h => by rw [h.1]; rfl
  keep := fun h _ => h
  trod := fun h _ => by
    obtain ⟨n, h1, _, w⟩ := DataW.trod_int Tryd.underlying3 h
    exact ⟨n, h1, wf_int64 w⟩
def rdByte : Rd UInt8 where
  T := 5
  n := 1
  R := fun _ cs x => cs = [.int .u8 (x.toNat : Int)]
  size := cells_byte
  len := fun h => by rw [h]; rfl
  keep := fun h _ => h
  trod := fun h _ => by
    obtain ⟨n, h1, _, w⟩ := DataW.trod_int Tryd.underlying5 h
    obtain ⟨x, rfl⟩ := wf_byte w
    exact ⟨x, h1⟩
/-- the slice value v reads as the things xs -/
def IsRow {α : Type} (r : Rd α) (w : World) (v : Value) (xs : List α) : Prop :=
  ∃ a cap, v = .slice a xs.length cap ∧ xs.length ≤ cap ∧ cap ≤ maxLen ∧ (a = none → cap = 0) ∧ xs.length * Tryd.prog.bytesOf r.T ≤ 140737488351232 ∧
    ∀ x, a = some x → (0 < xs.length → x.spot = none) ∧ ∀ i, (h : i < xs.length) → ∃ cs, r.R w cs xs[i] ∧ ∀ j c, cs[j]? = some c → w.cell? ⟨x.block, x.off + i * r.n + j, none⟩ = some c
theorem IsRow.keep {α : Type} {r : Rd α} {w w' : World} {v : Value} {xs : List α} (h : IsRow r w v xs) (hw : ∀ a u, w.cell? a = some u → w'.cell? a = some u) : IsRow r w' v xs := by
  obtain ⟨a, cap, hv, hl, hm, hn, hb, hc⟩ := h
  refine ⟨a, cap, hv, hl, hm, hn, hb, fun x hx => ⟨(hc x hx).1, fun i hi => ?_⟩⟩
  obtain ⟨cs, h1, h2⟩ := (hc x hx).2 i hi
  exact ⟨cs, r.keep h1 hw, fun j c hj => hw _ _ (h2 j c hj)⟩
theorem IsRow.below {α : Type} {r : Rd α} {w w' : World} {v : Value} {xs : List α} (h : IsRow r w v xs) (hb : Below w.heap.size w w') : IsRow r w' v xs := h.keep (cells_below hb)
theorem IsRow.form {α : Type} {r : Rd α} {w : World} {v : Value} {xs : List α} (h : IsRow r w v xs) : ∃ a cap, v = .slice a xs.length cap ∧ xs.length ≤ cap ∧ cap ≤ maxLen := by
  obtain ⟨a, cap, hv, hl, hm, _⟩ := h
  exact ⟨a, cap, hv, hl, hm⟩
theorem isRow_of_trod {α : Type} (r : Rd α) (hn : 0 < r.n) {S : TypeId} (hu : Tryd.prog.underlying S = some (.slice r.T)) {H : Type} {enc : TypeId × Value → H} {W : World} {m : Nat} {v : Value} {y : DataW H × List MemPlace}
    (h : DataW.trod enc Tryd.prog W 0 (fun _ => true) true m S [v] = some y) (hl : Light S y.1) : ∃ xs, IsRow r W v xs := by
  rcases open_slice hu h with ⟨hcs, _⟩ | ⟨a, len, cap, m, n, D, Pl, hcs, hb, hle, hm, hmm, hx, hi⟩
  · simp only [List.cons.injEq, and_true] at hcs
    exact ⟨[], none, 0, by rw [hcs]; rfl, Nat.le_refl _, by simp [maxLen], fun _ => rfl, by simp, fun x h => by cases h⟩
  · simp only [List.cons.injEq, and_true] at hcs
    subst hcs
    simp only [if_true] at hmm
    rw [r.size] at hi
    have hlt : ∀ i, i < m → Light r.T (D i) := fun i him k hk => hl k (by
      rw [hx]
      simp only [DataW.weights, hu]
      refine List.mem_cons_of_mem _ ?_
      by_cases hil : i < len
      · exact List.mem_append_left _ (light_all (i := i) (d := D i) (by simp [hil]) k hk)
      · exact List.mem_append_right _ (light_all (i := i - len) (d := D i) (by
          rw [List.getElem?_map, List.getElem?_range (by omega)]
          simp only [Option.map_some, Option.some.injEq]
          congr 1
          omega) k hk))
    have hbytes : len * Tryd.prog.bytesOf r.T ≤ 140737488351232 := by
      have h1 := hl (((List.range len).map D).length * Tryd.prog.bytesOf r.T + ((List.range (m - len)).map fun j => D (len + j)).length * Tryd.prog.bytesOf r.T) (by
        rw [hx]
        simp only [DataW.weights, hu, ← Nat.add_mul]
        exact List.mem_cons_self)
      have e2 : reachBytes = 140737488351232 := rfl
      simp only [List.length_map, List.length_range] at h1
      omega
    have hex : ∀ i : Nat, ∃ x : Option α, i < len → ∃ z, x = some z ∧ ∃ cs, r.R W cs z ∧ ∀ j c, cs[j]? = some c → W.cell? (a.add (i * r.n + j)) = some c := by
      intro i
      by_cases h : i < len
      · obtain ⟨cs, hc, ht⟩ := hi i (by omega)
        obtain ⟨x, hx⟩ := r.trod ht (hlt i (by omega))
        obtain ⟨_, hlc, hat⟩ := World.cells?_some hc
        refine ⟨some x, fun _ => ⟨x, rfl, cs, hx, fun j c hj => ?_⟩⟩
        have hjn : j < r.n := by
          have := (List.getElem?_eq_some_iff.1 hj).1
          rw [r.len hx] at this
          exact this
        have := hat j hjn
        rw [Go.Deep.add_add] at this
        exact this.trans hj
      · exact ⟨none, fun h' => absurd h' h⟩
    obtain ⟨f, hf⟩ := Classical.axiomOfChoice hex
    by_cases h0 : len = 0
    · subst h0
      refine ⟨[], some a, cap, rfl, Nat.zero_le _, hm, (fun h => (by cases h)), by simp, fun x hx => ⟨fun h => absurd h (by simp), fun i hi => absurd hi (by simp)⟩⟩
    · obtain ⟨z0, _⟩ := hf 0 (by omega)
      have hlen : ((List.range len).map fun i => (f i).getD z0).length = len := by simp
      refine ⟨(List.range len).map fun i => (f i).getD z0, some a, cap, by rw [hlen], by omega, hm, (fun h => (by cases h)), by rw [hlen]; exact hbytes, ?_⟩
      intro y hy
      obtain rfl := Option.some.inj hy
      have hs : a.spot = none := by
        obtain ⟨z, _, cs, hR, h⟩ := hf 0 (by omega)
        obtain ⟨c, hc⟩ : ∃ c, cs[0]? = some c := ⟨_, List.getElem?_eq_getElem (by rw [r.len hR]; exact hn)⟩
        have h := h 0 c hc
        rw [show a.add (0 * r.n + 0) = a by simp [Addr.add]] at h
        exact World.cell?_spot h
      refine ⟨fun _ => hs, fun i hi' => ?_⟩
      have hi2 : i < len := by rw [hlen] at hi'; exact hi'
      obtain ⟨xb, xo, xs⟩ := a
      obtain rfl : xs = none := hs
      simp only [List.getElem_map, List.getElem_range]
      obtain ⟨z, hz, cs, hR, h⟩ := hf i hi2
      rw [hz]
      refine ⟨cs, hR, fun j c hj => ?_⟩
      have := h j c hj
      rw [Addr.add_lit] at this
      rw [Nat.add_assoc]
      exact this
def Rd.slice {α : Type} (r : Rd α) (hn : 0 < r.n) (S : TypeId) (hu : Tryd.prog.underlying S = some (.slice r.T)) (hs : Tryd.prog.cellsOf S = 1) : Rd (List α) where
  T := S
  n := 1
  R := fun w cs xs => ∃ v, cs = [v] ∧ IsRow r w v xs
  size := hs
  len := fun h => by
    obtain ⟨v, h1, _⟩ := h
    rw [h1]; rfl
  keep := fun h hw => by
    obtain ⟨v, h1, h2⟩ := h
    exact ⟨v, h1, h2.keep hw⟩
  trod := fun {H enc W m cs y} h hl => by
    have hc : cs.length = 1 := by
      rcases open_slice hu h with ⟨hcs, _⟩ | ⟨a, len, cap, m, n, D, Pl, hcs, _⟩ <;> rw [hcs] <;> rfl
    match cs, hc with
    | [v], _ =>
      obtain ⟨xs, hx⟩ := isRow_of_trod r hn hu h hl
      exact ⟨xs, v, rfl, hx⟩
/-- a slice that came in -/
theorem open_row {α : Type} (r : Rd α) (hn : 0 < r.n) {S : TypeId} (hu : Tryd.prog.underlying S = some (.slice r.T)) {H : Type} {enc : TypeId × Value → H} {W : World} {k : Reach} {b0 : Nat} {v : Value} {d : DataW H} {p : List MemPlace}
    (hval : Value.okWide Tryd.prog W k b0 S v) (hd : DataW.Trod enc Tryd.prog W 0 (fun _ => true) true S v d p) (hl : Light S d) : ∃ xs, IsRow r W v xs := by
  obtain ⟨a0, len0, cap0, rfl⟩ := okWide_slice hu hval
  obtain ⟨fuel, hf⟩ := hd
  exact isRow_of_trod r hn hu (m := fuel) (y := (d, p)) hf hl
/-- a struct that came in -/
theorem open_agg {α : Type} (r : Rd α) {fs : Array Field} (hu : Tryd.prog.underlying r.T = some (.struct fs)) {H : Type} {enc : TypeId × Value → H} {W : World} {k : Reach} {b0 : Nat} {v : Value} {d : DataW H} {p : List MemPlace}
    (hval : Value.okWide Tryd.prog W k b0 r.T v) (hd : DataW.Trod enc Tryd.prog W 0 (fun _ => true) true r.T v d p) (hl : Light r.T d) : ∃ cs x, v = .agg cs ∧ r.R W cs.toList x := by
  obtain ⟨cs, rfl, _⟩ := okWide_struct hu hval
  obtain ⟨fuel, hf⟩ := hd
  obtain ⟨x, hx⟩ := r.trod (y := (d, p)) hf hl
  exact ⟨cs, x, rfl, hx⟩
/-- a field of a struct -/
theorem trod_field {H : Type} {enc : TypeId × Value → H} {W : World} {T : TypeId} {fs : Array Field} (hu : Tryd.prog.underlying T = some (.struct fs)) {m : Nat} {cs : List Value} {y : DataW H × List MemPlace}
    (h : DataW.trod enc Tryd.prog W 0 (fun _ => true) true m T cs = some y) (hl : Light T y.1) (j : Nat) (f : Field) (hf : fs[j]? = some f) :
    ∃ n z, DataW.trod enc Tryd.prog W 0 (fun _ => true) true n f.type ((cs.drop f.offset).take (Tryd.prog.cellsOf f.type)) = some z ∧ Light f.type z.1 := by
  obtain ⟨xs, n, _, rfl, _, hxl, hx⟩ := DataW.trod_struct hu h
  have hj : j < fs.size := (Array.getElem?_eq_some_iff.1 hf).1
  have e : xs[j]? = some (xs[j]'(by omega)) := List.getElem?_eq_getElem _
  refine ⟨n, xs[j]'(by omega), (hx j f hf).trans e, fun k hk => hl k ?_⟩
  simp only [DataW.weights, hu]
  exact DataW.weights_mem_each (j := j) (t := f.type) (by simp [hf]) (by rw [List.getElem?_map, e]; rfl) k hk
theorem trod_cells {H : Type} {enc : TypeId × Value → H} {W : World} {T : TypeId} {fs : Array Field} (hu : Tryd.prog.underlying T = some (.struct fs)) {m : Nat} {cs : List Value} {y : DataW H × List MemPlace}
    (h : DataW.trod enc Tryd.prog W 0 (fun _ => true) true m T cs = some y) : cs.length = Tryd.prog.cellsOf T := by
  obtain ⟨xs, n, _, _, hl, _⟩ := DataW.trod_struct hu h
  exact hl
theorem IsRow.isI {w : World} {v : Value} {zs : List Int} (h : IsRow rdInt w v zs) : IsI w v zs ∧ ∀ z ∈ zs, -9223372036854775808 ≤ z ∧ z ≤ 9223372036854775807 := by
  obtain ⟨a, cap, hv, hl, hm, hn, _, hc⟩ := h
  refine ⟨⟨a, cap, hv, hl, hm, hn, fun x hx => ⟨(hc x hx).1, fun i hi => ?_⟩⟩, fun z hz => ?_⟩
  · obtain ⟨cs, ⟨h1, _⟩, h2⟩ := (hc x hx).2 i hi
    have := h2 0 (.int .i64 zs[i]) (by rw [h1]; rfl)
    rw [show rdInt.n = 1 from rfl, Nat.mul_one] at this
    exact this
  · obtain ⟨i, hi, rfl⟩ := List.getElem_of_mem hz
    cases a with
    | none =>
      have := hn rfl
      omega
    | some x =>
      obtain ⟨cs, ⟨_, h1⟩, _⟩ := (hc x rfl).2 i hi
      exact h1
theorem IsRow.isB {w : World} {v : Value} {l : List UInt8} (h : IsRow rdByte w v l) : IsB w v l := by
  obtain ⟨a, cap, hv, hl, hm, hn, _, hc⟩ := h
  refine ⟨a, cap, hv, hl, hm, hn, fun x hx => ⟨(hc x hx).1, fun i hi => ?_⟩⟩
  obtain ⟨cs, h1, h2⟩ := (hc x hx).2 i hi
  have := h2 0 (.int .u8 (l[i].toNat : Int)) (by rw [show cs = _ from h1]; rfl)
  rw [show rdByte.n = 1 from rfl, Nat.mul_one] at this
  exact this
theorem IsRow.isBs {S : TypeId} {hn0 : 0 < rdByte.n} {hu : Tryd.prog.underlying S = some (.slice rdByte.T)} {hs : Tryd.prog.cellsOf S = 1} {w : World} {v : Value} {ls : List (List UInt8)} (h : IsRow (rdByte.slice hn0 S hu hs) w v ls) : IsBs w v ls := by
  obtain ⟨a, cap, hv, hl, hm, hn, _, hc⟩ := h
  refine ⟨a, cap, hv, hl, hm, hn, fun x hx => ⟨(hc x hx).1, fun i hi => ?_⟩⟩
  obtain ⟨cs, ⟨v', h1, h3⟩, h2⟩ := (hc x hx).2 i hi
  have := h2 0 v' (by rw [h1]; rfl)
  rw [show (rdByte.slice hn0 S hu hs).n = 1 from rfl, Nat.mul_one] at this
  exact ⟨v', this, h3.isB⟩
end Go.Proofs.YtoonlihacbbfdaaDoor

/- Readers of what the statements of chapter 06 take. -/
set_option linter.unusedVariables false
set_option linter.unusedSimpArgs false
set_option maxRecDepth 100000
namespace Go.Proofs.YtoonlihacbbfdaaDoor
open Go.ChangeShapes Go.WideShapes Go.ChangeAt Go.RowKit Go.Deep

def rdInts : Rd (List Int) := rdInt.slice (by decide) 22 Tryd.underlying22 (by kernel_rfl)
def rdBytes : Rd (List UInt8) := rdByte.slice (by decide) 36 Tryd.underlying36 (by kernel_rfl)
def rdBytess : Rd (List (List UInt8)) := rdBytes.slice (by decide) 32 Tryd.underlying32 (by kernel_rfl)
structure OpJ where
  kind : Int
  at_ : List Int
  by_ : UInt8
  raw : Int
instance : Inhabited OpJ := ⟨⟨default, default, default, default⟩⟩
/-- its cells -/
def OpJ.At (w : World) (x : OpJ) (cs : List Value) : Prop := ∃ c0 c1 c2 c3, cs = [c0, c1, c2, c3] ∧ rdInt.R w [c0] x.kind ∧ rdInts.R w [c1] x.at_ ∧ rdByte.R w [c2] x.by_ ∧ rdInt.R w [c3] x.raw
def rdOpJ : Rd OpJ where
  T := 24
  n := 4
  R := fun w cs x => x.At w cs
  size := by kernel_rfl
  len := fun h => by
    obtain ⟨c0, c1, c2, c3, he, _⟩ := h
    rw [he]; rfl
  keep := fun h hw => by
    obtain ⟨c0, c1, c2, c3, he, k0, k1, k2, k3⟩ := h
    exact ⟨c0, c1, c2, c3, he, rdInt.keep k0 hw, rdInts.keep k1 hw, rdByte.keep k2 hw, rdInt.keep k3 hw⟩
  trod := fun {H enc W m cs y} h hl => by
    have hc := trod_cells Tryd.underlying24 h
    rw [show Tryd.prog.cellsOf 24 = 4 by kernel_rfl] at hc
    match cs, hc with
    | [c0, c1, c2, c3], _ =>
      obtain ⟨n0, z0, f0, l0⟩ := trod_field Tryd.underlying24 h hl 0 _ rfl
      change DataW.trod enc Tryd.prog W 0 (fun _ => true) true n0 3 (List.take (Tryd.prog.cellsOf 3) (List.drop 0 [c0, c1, c2, c3])) = _ at f0
      rw [show Tryd.prog.cellsOf 3 = 1 from rdInt.size] at f0
      obtain ⟨x0, h0⟩ := rdInt.trod (cs := [c0]) f0 l0
      obtain ⟨n1, z1, f1, l1⟩ := trod_field Tryd.underlying24 h hl 1 _ rfl
      change DataW.trod enc Tryd.prog W 0 (fun _ => true) true n1 22 (List.take (Tryd.prog.cellsOf 22) (List.drop 1 [c0, c1, c2, c3])) = _ at f1
      rw [show Tryd.prog.cellsOf 22 = 1 from rdInts.size] at f1
      obtain ⟨x1, h1⟩ := rdInts.trod (cs := [c1]) f1 l1
      obtain ⟨n2, z2, f2, l2⟩ := trod_field Tryd.underlying24 h hl 2 _ rfl
      change DataW.trod enc Tryd.prog W 0 (fun _ => true) true n2 5 (List.take (Tryd.prog.cellsOf 5) (List.drop 2 [c0, c1, c2, c3])) = _ at f2
      rw [show Tryd.prog.cellsOf 5 = 1 from rdByte.size] at f2
      obtain ⟨x2, h2⟩ := rdByte.trod (cs := [c2]) f2 l2
      obtain ⟨n3, z3, f3, l3⟩ := trod_field Tryd.underlying24 h hl 3 _ rfl
      change DataW.trod enc Tryd.prog W 0 (fun _ => true) true n3 3 (List.take (Tryd.prog.cellsOf 3) (List.drop 3 [c0, c1, c2, c3])) = _ at f3
      rw [show Tryd.prog.cellsOf 3 = 1 from rdInt.size] at f3
      obtain ⟨x3, h3⟩ := rdInt.trod (cs := [c3]) f3 l3
      exact ⟨⟨x0, x1, x2, x3⟩, c0, c1, c2, c3, rfl, h0, h1, h2, h3⟩
def rdOps : Rd (List OpJ) := rdOpJ.slice (by decide) 46 Tryd.underlying46 (by kernel_rfl)
structure FallJ where
  cut : Int
  stay : List Int
instance : Inhabited FallJ := ⟨⟨default, default⟩⟩
/-- its cells -/
def FallJ.At (w : World) (x : FallJ) (cs : List Value) : Prop := ∃ c0 c1, cs = [c0, c1] ∧ rdInt.R w [c0] x.cut ∧ rdInts.R w [c1] x.stay
def rdFallJ : Rd FallJ where
  T := 95
  n := 2
  R := fun w cs x => x.At w cs
  size := by kernel_rfl
  len := fun h => by
    obtain ⟨c0, c1, he, _⟩ := h
    rw [he]; rfl
  keep := fun h hw => by
    obtain ⟨c0, c1, he, k0, k1⟩ := h
    exact ⟨c0, c1, he, rdInt.keep k0 hw, rdInts.keep k1 hw⟩
  trod := fun {H enc W m cs y} h hl => by
    have hc := trod_cells Tryd.underlying95 h
    rw [show Tryd.prog.cellsOf 95 = 2 by kernel_rfl] at hc
    match cs, hc with
    | [c0, c1], _ =>
      obtain ⟨n0, z0, f0, l0⟩ := trod_field Tryd.underlying95 h hl 0 _ rfl
      change DataW.trod enc Tryd.prog W 0 (fun _ => true) true n0 3 (List.take (Tryd.prog.cellsOf 3) (List.drop 0 [c0, c1])) = _ at f0
      rw [show Tryd.prog.cellsOf 3 = 1 from rdInt.size] at f0
      obtain ⟨x0, h0⟩ := rdInt.trod (cs := [c0]) f0 l0
      obtain ⟨n1, z1, f1, l1⟩ := trod_field Tryd.underlying95 h hl 1 _ rfl
      change DataW.trod enc Tryd.prog W 0 (fun _ => true) true n1 22 (List.take (Tryd.prog.cellsOf 22) (List.drop 1 [c0, c1])) = _ at f1
      rw [show Tryd.prog.cellsOf 22 = 1 from rdInts.size] at f1
      obtain ⟨x1, h1⟩ := rdInts.trod (cs := [c1]) f1 l1
      exact ⟨⟨x0, x1⟩, c0, c1, rfl, h0, h1⟩
def rdFalls : Rd (List FallJ) := rdFallJ.slice (by decide) 54 Tryd.underlying54 (by kernel_rfl)
structure LifeJ where
  script : List OpJ
  cut : Int
  stay : List Int
  again : List FallJ
instance : Inhabited LifeJ := ⟨⟨default, default, default, default⟩⟩
/-- its cells -/
def LifeJ.At (w : World) (x : LifeJ) (cs : List Value) : Prop := ∃ c0 c1 c2 c3, cs = [c0, c1, c2, c3] ∧ rdOps.R w [c0] x.script ∧ rdInt.R w [c1] x.cut ∧ rdInts.R w [c2] x.stay ∧ rdFalls.R w [c3] x.again
def rdLifeJ : Rd LifeJ where
  T := 56
  n := 4
  R := fun w cs x => x.At w cs
  size := by kernel_rfl
  len := fun h => by
    obtain ⟨c0, c1, c2, c3, he, _⟩ := h
    rw [he]; rfl
  keep := fun h hw => by
    obtain ⟨c0, c1, c2, c3, he, k0, k1, k2, k3⟩ := h
    exact ⟨c0, c1, c2, c3, he, rdOps.keep k0 hw, rdInt.keep k1 hw, rdInts.keep k2 hw, rdFalls.keep k3 hw⟩
  trod := fun {H enc W m cs y} h hl => by
    have hc := trod_cells Tryd.underlying56 h
    rw [show Tryd.prog.cellsOf 56 = 4 by kernel_rfl] at hc
    match cs, hc with
    | [c0, c1, c2, c3], _ =>
      obtain ⟨n0, z0, f0, l0⟩ := trod_field Tryd.underlying56 h hl 0 _ rfl
      change DataW.trod enc Tryd.prog W 0 (fun _ => true) true n0 46 (List.take (Tryd.prog.cellsOf 46) (List.drop 0 [c0, c1, c2, c3])) = _ at f0
      rw [show Tryd.prog.cellsOf 46 = 1 from rdOps.size] at f0
      obtain ⟨x0, h0⟩ := rdOps.trod (cs := [c0]) f0 l0
      obtain ⟨n1, z1, f1, l1⟩ := trod_field Tryd.underlying56 h hl 1 _ rfl
      change DataW.trod enc Tryd.prog W 0 (fun _ => true) true n1 3 (List.take (Tryd.prog.cellsOf 3) (List.drop 1 [c0, c1, c2, c3])) = _ at f1
      rw [show Tryd.prog.cellsOf 3 = 1 from rdInt.size] at f1
      obtain ⟨x1, h1⟩ := rdInt.trod (cs := [c1]) f1 l1
      obtain ⟨n2, z2, f2, l2⟩ := trod_field Tryd.underlying56 h hl 2 _ rfl
      change DataW.trod enc Tryd.prog W 0 (fun _ => true) true n2 22 (List.take (Tryd.prog.cellsOf 22) (List.drop 2 [c0, c1, c2, c3])) = _ at f2
      rw [show Tryd.prog.cellsOf 22 = 1 from rdInts.size] at f2
      obtain ⟨x2, h2⟩ := rdInts.trod (cs := [c2]) f2 l2
      obtain ⟨n3, z3, f3, l3⟩ := trod_field Tryd.underlying56 h hl 3 _ rfl
      change DataW.trod enc Tryd.prog W 0 (fun _ => true) true n3 54 (List.take (Tryd.prog.cellsOf 54) (List.drop 3 [c0, c1, c2, c3])) = _ at f3
      rw [show Tryd.prog.cellsOf 54 = 1 from rdFalls.size] at f3
      obtain ⟨x3, h3⟩ := rdFalls.trod (cs := [c3]) f3 l3
      exact ⟨⟨x0, x1, x2, x3⟩, c0, c1, c2, c3, rfl, h0, h1, h2, h3⟩
def rdLives : Rd (List LifeJ) := rdLifeJ.slice (by decide) 53 Tryd.underlying53 (by kernel_rfl)
end Go.Proofs.YtoonlihacbbfdaaDoor

/- A journal of one's own, moved to another base; the cells of an op that was boxed. -/
set_option linter.unusedVariables false
set_option linter.unusedSimpArgs false
set_option maxRecDepth 100000
namespace Go.Proofs.YtoonlihacbbfdaaDoor
open Go.RowKit

theorem JB.from {B B' : Nat} {w0 w0' w : World} {F : Ft} {p : Nat} {J : Jn} (h : JB B w0 w F p J) (hb : Below B' w0' w0) (hB : B' ≤ B) : JB B' w0' w F p J :=
  ⟨h.jat, h.nib, hb.trans (h.below.mono hB), fun k hk => Nat.le_trans hB (h.own k hk), Nat.le_trans hB h.base⟩
theorem op_cells {W : World} {g : Nat} {kind : Int} {va : Value} {by_ : UInt8} {raw : Int} (h : W.heap[g]? = some (opRow kind va by_ raw)) :
    W.cell? ⟨g, 0, none⟩ = some (.int .i64 kind) ∧ W.cell? ⟨g, 1, none⟩ = some va ∧ W.cell? ⟨g, 2, none⟩ = some (.int .u8 (by_.toNat : Int)) ∧ W.cell? ⟨g, 3, none⟩ = some (.int .i64 raw) := by
  refine ⟨?_, ?_, ?_, ?_⟩ <;> · rw [cell_of_row _ _ _ _ _ _ h]; rfl
theorem MineS.form {B : Nat} {w : World} {v : Value} {ls : List (List UInt8)} (h : MineS B w v ls) : ∃ a cap, v = .slice a ls.length cap ∧ ls.length ≤ cap ∧ cap ≤ maxLen := by
  rcases h.2 with ⟨rfl, hn⟩ | ⟨g, cap, cur, rfl, hb, hg, hn, hc, hs, htake⟩
  · exact ⟨none, 0, by rw [hn], by omega, by simp [maxLen]⟩
  · exact ⟨_, cap, rfl, hn, hc⟩
theorem Live.rows {n : Nat} {J : Jn} {seq : Int} {B : List (List UInt8)} {ok : Nat → Prop} (h : Live n J seq B ok) : B.length = (n - 2) / 2 ∧ ∀ b ∈ B, b.length = 112 := by
  obtain ⟨w, pl, him⟩ := h.im
  exact ⟨him.rows, him.each⟩
end Go.Proofs.YtoonlihacbbfdaaDoor

/- Parts of slices whose elements take one cell: ints, slices of bytes; rows of slices that share their bytes with others. -/
set_option linter.unusedVariables false
set_option linter.unusedSimpArgs false
set_option maxRecDepth 100000
namespace Go.Proofs.YtoonlihacbbfdaaDoor
open Go.RowKit

section
variable {P : Program}
theorem run_cut1_l (w : World) {t e : TypeId} (ht : P.underlying t = some (.slice e)) (hsz : (P.info? e).map (·.size) = some 1) (a : Option Addr) (len cap n : Nat) (hn : n ≤ len) :
    (Instr.slice t (.slice a len cap) (some (.int .i64 (n : Int))) none none).run P w = .ok (.slice (cutA a cap n) (len - n) (cap - n)) w := by
  obtain ⟨i, hi, hs1⟩ := Option.map_eq_some_iff.1 hsz
  have h2 : (n : Int) ≤ (len : Int) := by omega
  simp [Instr.slice, run_underlying ht, Instr.sliceBounds, run_sliceBound, sizeOf, typeInfo, hi, hs1, h2, cutA]
theorem run_cut1_h (w : World) {t e : TypeId} (ht : P.underlying t = some (.slice e)) (hsz : (P.info? e).map (·.size) = some 1) (a : Option Addr) (len cap h : Nat) (hh : h ≤ cap) :
    (Instr.slice t (.slice a len cap) none (some (.int .i64 (h : Int))) none).run P w = .ok (.slice a h cap) w := by
  obtain ⟨i, hi, hs1⟩ := Option.map_eq_some_iff.1 hsz
  have h3 : (h : Int) ≤ (cap : Int) := by omega
  simp [Instr.slice, run_underlying ht, Instr.sliceBounds, run_sliceBound, sizeOf, typeInfo, hi, hs1, h3]
  intro _
  cases a with
  | none => rfl
  | some a => simp [Addr.add]
end
theorem cutA_spec {a : Option Addr} {cap len n : Nat} (hl : len ≤ cap) (hn : n ≤ len) (hnil : a = none → cap = 0) : (cutA a cap n = none → cap - n = 0) ∧ ∀ x, cutA a cap n = some x → (0 < len - n → ∃ y, a = some y ∧ x.block = y.block ∧ x.off = y.off + n ∧ (y.spot = none → x.spot = none)) := by
  constructor
  · intro hnone
    unfold cutA at hnone
    split at hnone
    · omega
    · cases a with
      | none => have := hnil rfl; omega
      | some x => cases hnone
  · intro x hx hpos
    unfold cutA at hx
    split at hx
    · omega
    · cases a with
      | none => cases hx
      | some y =>
        simp only [Option.map_some, Option.some.injEq] at hx
        subst hx
        refine ⟨y, rfl, by unfold Addr.add; split <;> rfl, by unfold Addr.add; split <;> simp_all, fun h => by unfold Addr.add; split <;> simp [h]⟩
theorem IsI.cut {w : World} {a : Option Addr} {len cap : Nat} {l : List Int} (hv : IsI w (.slice a len cap) l) (n : Nat) (hn : n ≤ l.length) : IsI w (.slice (cutA a cap n) (len - n) (cap - n)) (l.drop n) := by
  obtain ⟨a', cap', hv, hl, hm, hnil, hc⟩ := hv
  simp only [Value.slice.injEq] at hv
  obtain ⟨rfl, rfl, rfl⟩ := hv
  have hlen : (l.drop n).length = l.length - n := by simp
  obtain ⟨s1, s2⟩ := cutA_spec hl hn hnil
  refine ⟨cutA a cap n, cap - n, by rw [hlen], by rw [hlen]; omega, by omega, s1, fun x hx => ?_⟩
  have s3 := s2 x hx
  refine ⟨fun hpos => ?_, fun i hi => ?_⟩
  · obtain ⟨y, rfl, _, _, h3⟩ := s3 (by omega)
    exact h3 ((hc y rfl).1 (by omega))
  · obtain ⟨y, rfl, h1, h2, _⟩ := s3 (by omega)
    have h4 := (hc y rfl).2 (n + i) (by omega)
    rw [h1, h2, List.getElem_drop, Nat.add_assoc]
    exact h4
theorem IsBs.cut {w : World} {a : Option Addr} {len cap : Nat} {l : List (List UInt8)} (hv : IsBs w (.slice a len cap) l) (n : Nat) (hn : n ≤ l.length) : IsBs w (.slice (cutA a cap n) (len - n) (cap - n)) (l.drop n) := by
  obtain ⟨a', cap', hv, hl, hm, hnil, hc⟩ := hv
  simp only [Value.slice.injEq] at hv
  obtain ⟨rfl, rfl, rfl⟩ := hv
  have hlen : (l.drop n).length = l.length - n := by simp
  obtain ⟨s1, s2⟩ := cutA_spec hl hn hnil
  refine ⟨cutA a cap n, cap - n, by rw [hlen], by rw [hlen]; omega, by omega, s1, fun x hx => ?_⟩
  have s3 := s2 x hx
  refine ⟨fun hpos => ?_, fun i hi => ?_⟩
  · obtain ⟨y, rfl, _, _, h3⟩ := s3 (by omega)
    exact h3 ((hc y rfl).1 (by omega))
  · obtain ⟨y, rfl, h1, h2, _⟩ := s3 (by omega)
    have h4 := (hc y rfl).2 (n + i) (by omega)
    rw [h1, h2, List.getElem_drop, Nat.add_assoc]
    exact h4
theorem IsBs.front {w : World} {a : Option Addr} {n cap : Nat} {l : List (List UInt8)} (h : IsBs w (.slice a n cap) l) (m : Nat) (hm : m ≤ l.length) : IsBs w (.slice a m cap) (l.take m) := by
  obtain ⟨a', cap', hv, h1, h2, h3, h4⟩ := h
  simp only [Value.slice.injEq] at hv
  obtain ⟨rfl, _, rfl⟩ := hv
  have hl : (l.take m).length = m := by rw [List.length_take]; omega
  refine ⟨a, cap, by rw [hl], by omega, h2, h3, fun x hx => ?_⟩
  obtain ⟨k1, k2⟩ := h4 x hx
  refine ⟨fun hp => k1 (by rw [hl] at hp; omega), fun i hi => ?_⟩
  rw [hl] at hi
  rw [List.getElem_take]
  exact k2 i (by omega)
/-- a row of slices, by their values -/
def RowV (B : Nat) (w : World) (v : Value) (us : List Value) : Prop := w.ownsRow B 36 1 v us.length us
theorem RowV.nil (B : Nat) (w : World) : RowV B w (.slice none 0 0) [] := World.ownsRow_nil w B 36 1
theorem RowV.keep {B : Nat} {w w' : World} {v : Value} {us : List Value} (h : RowV B w v us) (hw : ∀ k, B ≤ k → k < w.heap.size → w'.heap[k]? = w.heap[k]?) : RowV B w' v us := own_keep h hw
theorem RowV.below {B : Nat} {w w' : World} {v : Value} {us : List Value} (h : RowV B w v us) (hb : Below w.heap.size w w') : RowV B w' v us := h.keep fun k _ hl => hb.block k hl
theorem RowV.form {B : Nat} {w : World} {v : Value} {us : List Value} (h : RowV B w v us) : ∃ a cap, v = .slice a us.length cap ∧ us.length ≤ cap ∧ cap ≤ maxLen := by
  rcases h.2 with ⟨rfl, hn⟩ | ⟨g, cap, cur, rfl, hb, hg, hn, hc, hs, htake⟩
  · exact ⟨none, 0, by rw [hn], by omega, by simp [maxLen]⟩
  · exact ⟨_, cap, rfl, hn, hc⟩
theorem RowV.grow {B : Nat} {w : World} {v : Value} {us : List Value} (h : RowV B w v us) (hB : B ≤ w.heap.size) (hL : us.length ≤ 1000000) (u : Value) (hu : u.oneCell' = true) (g : Nat) (hg : w.heap[g]? = some (.cells #[u] 36 (0, 0))) :
    ∃ v' w', (Builtin.append_ #[32, 32] 32 #[v, .slice (some ⟨g, 0, none⟩) 1 1]).run Tryd.prog w = .ok v' w' ∧ RowV B w' v' (us ++ [u]) ∧ w.grownBy w' v.ownBlock := by
  obtain ⟨i, hi, hz, hs, hb⟩ := info_parts (P := Tryd.prog) (e := 36) info_bytes2
  have hcell : ∀ w' : World, w'.heap = w.heap → ∀ j c, ([u] : List Value)[j]? = some c → w'.cell? ((⟨g, 0, none⟩ : Addr).add j) = some c := fun w' hw j c hj => by
    rw [Addr.add_mid, Nat.zero_add, cell_of_row w' _ _ _ _ _ (by rw [hw]; exact hg)]
    simpa using hj
  obtain ⟨v', w', hr, ho, hgr, _, _⟩ := run_app (P := Tryd.prog) w B 32 32 32 36 i _ 1 24 _ Tryd.underlying32 Tryd.underlying32 (.inl rfl) hi hz hs hb rfl (by decide) v us.length us h
    (.slice (some ⟨g, 0, none⟩) 1 1) 1 [u] (fun w' => rfl) rfl (fun w' hw => run_firstCells_some (P := Tryd.prog) w' 1 1 ⟨g, 0, none⟩ 1 1 [u] rfl (hcell w' hw)) (by
      intro c hc
      rw [List.mem_singleton.1 hc, hu]) (by simp [maxLen]; omega) (by omega) hB
  refine ⟨v', w', hr, ?_, hgr⟩
  unfold RowV
  rw [List.length_append]
  exact ho
theorem RowV.isBs {B : Nat} {w : World} {v : Value} {us : List Value} (h : RowV B w v us) {ls : List (List UInt8)} (hl : us.length = ls.length) (hb : ∀ i (h1 : i < us.length) (h2 : i < ls.length), IsB w us[i] ls[i]) : IsBs w v ls := by
  rcases h.2 with ⟨rfl, hn⟩ | ⟨g, cap, cur, rfl, hB, hg, hn, hc, hs, htake⟩
  · obtain rfl : ls = [] := List.eq_nil_of_length_eq_zero (by omega)
    exact ⟨none, 0, rfl, Nat.le_refl _, by simp [maxLen], fun _ => rfl, fun x h => by cases h⟩
  · refine ⟨_, cap, by rw [hl], by omega, hc, (fun h => by cases h), fun x hx => ?_⟩
    obtain rfl := Option.some.inj hx
    refine ⟨fun _ => rfl, fun i hi => ⟨us[i], ?_, hb i (by omega) hi⟩⟩
    rw [cell_of_row _ _ _ _ _ _ hg]
    have e : (cur.toList.take (us.length * 1))[i]? = some us[i] := by rw [htake]; exact List.getElem?_eq_getElem (by omega)
    rw [List.getElem?_take, if_pos (by omega)] at e
    simpa using e
theorem MineL.values {B : Nat} {w : World} {v : Value} {ls : List (List UInt8)} (h : MineL B w v ls) : ∃ us : List Value, us.length = ls.length ∧ RowV B w v us ∧ ∀ i (h : i < ls.length) (h' : i < us.length), ∃ n xs, w.ownsRow B 5 1 us[i] n xs ∧ IsB w us[i] ls[i] := by
  obtain ⟨us, h1, h2, h3⟩ := h
  exact ⟨us, h1, by unfold RowV; rw [h1]; exact h2, h3⟩
theorem RowV.cell {B : Nat} {w : World} {v : Value} {us : List Value} (h : RowV B w v us) (h0 : us ≠ []) : ∃ g cap, v = .slice (some ⟨g, 0, none⟩) us.length cap ∧ us.length ≤ cap ∧ cap ≤ maxLen ∧ ∀ i (hi : i < us.length), w.cell? ⟨g, i, none⟩ = some us[i] := by
  rcases h.2 with ⟨rfl, hn⟩ | ⟨g, cap, cur, rfl, hb, hg, hnc, hcm, hcs, htake⟩
  · exact absurd (List.eq_nil_of_length_eq_zero hn) h0
  · refine ⟨g, cap, rfl, hnc, hcm, fun i hi => ?_⟩
    rw [cell_of_row _ _ _ _ _ _ hg]
    have e : (cur.toList.take (us.length * 1))[i]? = some us[i] := by rw [htake]; exact List.getElem?_eq_getElem hi
    rw [List.getElem?_take, if_pos (by omega)] at e
    simpa using e
theorem MineI.cell {B : Nat} {w : World} {v : Value} {zs : List Int} (h : MineI B w v zs) (h0 : zs ≠ []) : ∃ g cap, v = .slice (some ⟨g, 0, none⟩) zs.length cap ∧ zs.length ≤ cap ∧ cap ≤ maxLen ∧ ∀ i (hi : i < zs.length), w.cell? ⟨g, i, none⟩ = some (.int .i64 zs[i]) := by
  rcases h.2 with ⟨rfl, hn⟩ | ⟨g, cap, cur, rfl, hb, hg, hnc, hcm, hcs, htake⟩
  · exact absurd (List.eq_nil_of_length_eq_zero hn) h0
  · refine ⟨g, cap, rfl, hnc, hcm, fun i hi => ?_⟩
    rw [cell_of_row _ _ _ _ _ _ hg]
    have e : (iv zs)[i]? = some (.int .i64 zs[i]) := iv_get zs i hi
    rw [← htake, List.getElem?_take, if_pos (by omega)] at e
    simpa using e
/-- slices of bytes of one's own, value for value -/
def Els (B : Nat) (w : World) (us : List Value) (ls : List (List UInt8)) : Prop := us.length = ls.length ∧ ∀ i (h : i < ls.length) (h' : i < us.length), ∃ n xs, w.ownsRow B 5 1 us[i] n xs ∧ IsB w us[i] ls[i]
theorem Els.keep {B : Nat} {w w' : World} {us : List Value} {ls : List (List UInt8)} (h : Els B w us ls) (hw : ∀ k, B ≤ k → k < w.heap.size → w'.heap[k]? = w.heap[k]?) : Els B w' us ls := by
  refine ⟨h.1, fun i h1 h2 => ?_⟩
  obtain ⟨n, xs, h3, h4⟩ := h.2 i h1 h2
  exact ⟨n, xs, own_keep h3 hw, h4.own_keep h3 fun k hk => by
    obtain ⟨a, c, hc⟩ := own_lt h3 hk
    exact hw k a (lt_of_heap hc)⟩
theorem Els.below {B : Nat} {w w' : World} {us : List Value} {ls : List (List UInt8)} (h : Els B w us ls) (hb : Below w.heap.size w w') : Els B w' us ls := h.keep fun k _ hl => hb.block k hl
theorem Els.reverse {B : Nat} {w : World} {us : List Value} {ls : List (List UInt8)} (h : Els B w us ls) : Els B w us.reverse ls.reverse := by
  obtain ⟨h1, h2⟩ := h
  refine ⟨by simp [h1], fun i h3 h4 => ?_⟩
  rw [List.getElem_reverse, List.getElem_reverse]
  simp only [List.length_reverse] at h3 h4
  have e : us.length - 1 - i = ls.length - 1 - i := by rw [h1]
  simp only [e]
  exact h2 _ (by omega) (by omega)
theorem RowV.bytes {B : Nat} {w : World} {v : Value} {us : List Value} {ls : List (List UInt8)} (h : RowV B w v us) (he : Els B w us ls) : IsBs w v ls :=
  h.isBs he.1 fun i h1 h2 => by obtain ⟨_, _, _, h3⟩ := he.2 i h2 h1; exact h3
theorem RowV.held {B : Nat} {w : World} {v : Value} {us : List Value} {ls : List (List UInt8)} (h : RowV B w v us) (he : Els B w us ls) : Held B w fun w => IsBs w v ls := fun w2 h2 => (h.keep h2).bytes (he.keep h2)
theorem MineL.els {B : Nat} {w : World} {v : Value} {ls : List (List UInt8)} (h : MineL B w v ls) : ∃ us, RowV B w v us ∧ Els B w us ls := by
  obtain ⟨us, h1, h2, h3⟩ := h.values
  exact ⟨us, h2, h1, h3⟩
end Go.Proofs.YtoonlihacbbfdaaDoor

/- Writes in another order, and in two parts. Plain lists. -/
set_option linter.unusedVariables false
set_option linter.unusedSimpArgs false
set_option maxRecDepth 100000
namespace Go.Proofs.YtoonlihacbbfdaaDoor
open Go.RowKit

theorem updB_append : ∀ (zs zs' : List Int) (ls ls' B : List (List UInt8)), zs.length = ls.length → updB B (zs ++ zs') (ls ++ ls') = updB (updB B zs ls) zs' ls'
  | [], _, [], _, _, _ => by simp [updB]
  | [], _, _ :: _, _, _, h => by simp at h
  | _ :: _, _, [], _, _, h => by simp at h
  | z :: zs, zs', b :: ls, ls', B, h => by
    simp only [List.cons_append, updB]
    exact updB_append zs zs' ls ls' _ (by simpa using h)
theorem Fit.nats {nb : Nat} {zs : List Int} {ls : List (List UInt8)} (h : Fit nb zs ls) : (zs.map Int.toNat).Nodup := rightW_nodup h.right
theorem Fit.reverse {nb : Nat} {zs : List Int} {ls : List (List UInt8)} (h : Fit nb zs ls) : Fit nb zs.reverse ls.reverse :=
  ⟨by simp [h.len], fun z hz => h.place z (List.mem_reverse.1 hz), (List.pairwise_reverse).2 (h.once.imp fun e => Ne.symm e), fun l hl => h.bytes l (List.mem_reverse.1 hl)⟩
theorem Fit.take {nb : Nat} {zs : List Int} {ls : List (List UInt8)} (h : Fit nb zs ls) (n : Nat) : Fit nb (zs.take n) (ls.take n) :=
  ⟨by simp [h.len], fun z hz => h.place z (List.mem_of_mem_take hz), h.once.sublist (List.take_sublist n zs), fun l hl => h.bytes l (List.mem_of_mem_take hl)⟩
theorem Fit.drop {nb : Nat} {zs : List Int} {ls : List (List UInt8)} (h : Fit nb zs ls) (n : Nat) : Fit nb (zs.drop n) (ls.drop n) :=
  ⟨by simp [h.len], fun z hz => h.place z (List.mem_of_mem_drop hz), h.once.sublist (List.drop_sublist n zs), fun l hl => h.bytes l (List.mem_of_mem_drop hl)⟩
theorem updB_reverse {nb : Nat} {zs : List Int} {ls B : List (List UInt8)} (h : Fit nb zs ls) (hB : B.length = nb) : updB B zs.reverse ls.reverse = updB B zs ls := by
  apply List.ext_getElem?
  intro i
  have hp : ∀ z ∈ zs, z.toNat < B.length := fun z hz => by have := h.place z hz; omega
  by_cases hi : ∃ k, ∃ hk : k < zs.length, zs[k].toNat = i
  · obtain ⟨k, hk, rfl⟩ := hi
    have hk2 : k < ls.length := by rw [← h.len]; exact hk
    rw [updB_at zs ls B h.nats hp k hk hk2]
    have hr := updB_at zs.reverse ls.reverse B h.reverse.nats (fun z hz => hp z (List.mem_reverse.1 hz)) (zs.length - 1 - k) (by simp; omega) (by rw [List.length_reverse, ← h.len]; omega)
    rw [List.getElem_reverse, List.getElem_reverse] at hr
    have e1 : zs.length - 1 - (zs.length - 1 - k) = k := by omega
    have e2 : ls.length - 1 - (zs.length - 1 - k) = k := by rw [h.len]; omega
    simp only [e1, e2] at hr
    exact hr
  · have hne : ∀ z ∈ zs, z.toNat ≠ i := fun z hz e => by
      obtain ⟨k, hk, rfl⟩ := List.getElem_of_mem hz
      exact hi ⟨k, hk, e⟩
    rw [updB_other zs ls B hne, updB_other zs.reverse ls.reverse B fun z hz => hne z (List.mem_reverse.1 hz)]
theorem updB_cut {zs : List Int} {ls B : List (List UInt8)} (h : zs.length = ls.length) (n : Nat) : updB (updB B (zs.take n) (ls.take n)) (zs.drop n) (ls.drop n) = updB B zs ls := by
  rw [← updB_append _ _ _ _ _ (by simp [h]), List.take_append_drop, List.take_append_drop]
end Go.Proofs.YtoonlihacbbfdaaDoor
