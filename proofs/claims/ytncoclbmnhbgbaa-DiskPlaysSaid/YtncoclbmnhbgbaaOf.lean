/- of and pick, of the disk's statements. -/
import Derived.Test.YtncoclbmnhbgbaaKit
import Derived.LoopTactic
import Derived.Laws.MakeOwn
set_option linter.unusedVariables false
set_option linter.unusedSimpArgs false
namespace Go.Proofs.Ytncoclbmnhbgbaa
open Go.RowKit

theorem info_byte : (Try.prog.info? 5).map (fun i => (i.zero, i.size, i.bytes)) = some (some (.int .u8 0), 1, 1) := by kernel_rfl
/-- which of n things the raw number c speaks of -/
def pickN (c : Int) (n : Nat) : Nat := (if c < 0 then -(c + 1) else c).toNat % n
theorem pickN_lt (c : Int) {n : Nat} (h : 0 < n) : pickN c n < n := Nat.mod_lt _ h
set_option maxHeartbeats 1000000 in
theorem pick_any (w : World) (c : Int) (n : Nat) (h1 : -9223372036854775808 ≤ c) (h2 : c ≤ 9223372036854775807) (hn : 0 < n) (hm : n ≤ 4611686018427387904) :
    Calls Try.prog 15 #[.int .i64 c, .int .i64 (n : Int)] w fun e w' => e = .returned (.int .i64 (pickN c n : Int)) ∧ w = w' := by
  by_cases h0 : c < 0
  · have hd : decide (c < 0) = true := by simpa using h0
    have e1 : (pickN c n : Int) = (-(c + 1)) % (n : Int) := by
      rw [pickN, if_pos h0, Int.natCast_emod, Int.toNat_of_nonneg (by omega)]
    rw [e1]
    have hz : ((n : Int) == 0) = false := by simp; omega
    go_enter Try.func15, Try.ntmps15
    go_wp2
    go_ret
    exact ⟨by rw [← Int.neg_tmod, Int.tmod_eq_emod_of_nonneg (by omega)]; rfl, rfl⟩
  · have hd : decide (c < 0) = false := by simpa using h0
    have e1 : (pickN c n : Int) = c % (n : Int) := by
      rw [pickN, if_neg h0, Int.natCast_emod, Int.toNat_of_nonneg (by omega)]
    rw [e1]
    go_enter Try.func15, Try.ntmps15
    go_wp2
    go_ret
    exact ⟨rfl, rfl⟩

theorem Mine.stored {e : TypeId} {base : Nat} {w : World} {g cap : Nat} {l : List UInt8} (h : Mine e base w (.slice (some ⟨g, 0, none⟩) l.length cap) l) (j : Nat) (x : UInt8) :
    Mine e base (w.setCell ⟨g, j, none⟩ (.int .u8 (x.toNat : Int))) (.slice (some ⟨g, 0, none⟩) (l.set j x).length cap) (l.set j x) := by
  have h2 := (World.ownsRow.stored h j (.int .u8 (x.toNat : Int))).1
  have e1 : (bv l).set j (.int .u8 (x.toNat : Int)) = bv (l.set j x) := by simp [bv, List.map_set]
  rw [e1] at h2
  rw [List.length_set]
  simpa [Mine] using h2
theorem made_bytes (N : Nat) : madeCells (Value.cells (.int .u8 0)) N = (bv (List.replicate N 0)).toArray := by
  apply Array.ext
  · simp [madeCells, bv]
  · intro i h1 h2
    simp [madeCells, bv, Value.cells, Nat.mod_one]
/-- the first k of 128 bytes laid -/
def flo (c : UInt8) (k : Nat) : List UInt8 := List.replicate k c ++ List.replicate (128 - k) 0
theorem flo_len (c : UInt8) (k : Nat) (h : k ≤ 128) : (flo c k).length = 128 := by simp [flo]; omega
theorem flo_set (c : UInt8) (k : Nat) (h : k < 128) : (flo c k).set k c = flo c (k + 1) := by
  have e : List.replicate (128 - k) (0 : UInt8) = 0 :: List.replicate (128 - (k + 1)) 0 := by
    rw [show 128 - k = (128 - (k + 1)) + 1 by omega, List.replicate_succ]
  unfold flo
  rw [e, List.set_append_right _ _ (by simp), List.length_replicate, Nat.sub_self, List.set_cons_zero, List.replicate_succ' (n := k)]
  simp
set_option maxHeartbeats 4000000 in
theorem of_any (w : World) (c : UInt8) :
    Calls Try.prog 18 #[.int .u8 (c.toNat : Int)] w fun e w' => ∃ v, e = .returned v ∧ Mine 5 w.heap.size w' v (List.replicate 128 c) ∧ Below w.heap.size w w' := by
  obtain ⟨L, hL⟩ : ∃ L, L = List.replicate 128 c := ⟨_, rfl⟩
  rw [← hL]
  have HL := Lib.hid hL
  clear hL
  obtain ⟨i, hi, hz, hs1, hb1⟩ := info_parts (P := Try.prog) (e := 5) info_byte
  have hmk := run_make (P := Try.prog) w 30 5 i (.int .u8 0) Try.underlying30 hi hz .i64 .i64 128 128 (by omega) (by omega) (by rw [hb1]; omega) (by omega)
  rw [hs1, Nat.mul_one, show (128 : Int).toNat = 128 from rfl, made_bytes] at hmk
  obtain ⟨R, hR⟩ : ∃ R, R = List.replicate 128 (0 : UInt8) := ⟨_, rfl⟩
  rw [← hR] at hmk
  have hRl : R.length = 128 := by rw [hR, List.length_replicate]
  have hat0 : (w.alloc (.cells (bv R).toArray 5)).heap[w.heap.size]? = some (.cells (bv R).toArray 5 (0, 0)) := heap_alloc_new w _
  have hb0 : Below w.heap.size w (w.alloc (.cells (bv R).toArray 5)) := (Below.refl _ _).alloc (Nat.le_refl _) _
  have hown0 : Mine 5 w.heap.size (w.alloc (.cells (bv R).toArray 5)) (.slice (some ⟨w.heap.size, 0, none⟩) 128 128) (flo c 0) := by
    have e : flo c 0 = R := by rw [hR]; simp [flo]
    rw [e]
    have := Mine.lit (e := 5) (w := w) R (Nat.le_refl _) (by rw [hRl]; simp [maxLen])
    rwa [hRl] at this
  generalize w.alloc (.cells (bv R).toArray 5) = w1 at *
  clear hi hz hs1 hb1 hat0 hR hRl
  go_enter Try.func18, Try.ntmps18
  go_wp2_with fail
  clear hmk
  go_loopw [4, 6, 7, 8, 9, 10, 11, 12, 13, 14, 15] (fun i _ _ _ _ _ _ _ _ _ _ wr => ∃ k : Nat, k ≤ 128 ∧ i = .int .i64 (k : Int) ∧ Mine 5 w.heap.size wr (.slice (some ⟨w.heap.size, 0, none⟩) 128 128) (flo c k) ∧ Below w.heap.size w wr) (fun i _ _ _ _ _ _ _ _ _ _ _ => 128 - (intOf i).toNat)
  case atStart => exact ⟨0, by omega, rfl, hown0, hb0⟩
  case round =>
    obtain ⟨k, hk, rfl, hown, hbl⟩ := hrel
    by_cases hlt : k < 128
    · have hd : decide ((k : Int) < 128) = true := by simp; omega
      have hown2 : Mine 5 w.heap.size wr (.slice (some ⟨w.heap.size, 0, none⟩) (flo c k).length 128) (flo c k) := by rw [flo_len c k hk]; exact hown
      have hcell := World.ownsRow.cellAt hown2 k (by rw [flo_len c k hk]; omega)
      rw [bv_get (flo c k) k (by rw [flo_len c k hk]; exact hlt)] at hcell
      have hfro := World.ownsRow.frozenAt hown2 k
      have hS : Mine 5 w.heap.size (wr.setCell ⟨w.heap.size, k, none⟩ (.int .u8 (c.toNat : Int))) (.slice (some ⟨w.heap.size, 0, none⟩) 128 128) (flo c (k + 1)) := by
        have h := Mine.stored (l := flo c k) (g := w.heap.size) (cap := 128) hown2 k c
        rw [flo_set c k hlt, flo_len c (k + 1) (by omega)] at h
        exact h
      have hbS : Below w.heap.size w (wr.setCell ⟨w.heap.size, k, none⟩ (.int .u8 (c.toNat : Int))) := hbl.setCell (p := ⟨w.heap.size, k, none⟩) (Nat.le_refl _) _
      have HS := Lib.hid hS
      have HB := Lib.hid hbS
      clear hS hbS hown hown2 hbl hown0 hb0
      go_wp2_with fail
      go_roundw
      case rel => exact ⟨k + 1, by omega, by go_num, HS.out, HB.out⟩
      case measure => simp [intOf]; omega
    · obtain rfl : k = 128 := by omega
      have e : flo c 128 = List.replicate 128 c := by simp only [flo, Nat.sub_self, List.replicate_zero, List.append_nil]
      rw [e] at hown
      rw [← HL.out] at hown
      clear hown0 hb0
      go_wp2_with fail
      go_ret
      exact ⟨_, rfl, hown, hbl⟩
end Go.Proofs.Ytncoclbmnhbgbaa
