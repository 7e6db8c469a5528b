/- The document's disk: Write. -/
import Derived.Test.YtncoclbmnhbgbaaRefNew
import Derived.Test.YtncoclbmnhbgbaaDkWrite
set_option linter.unusedVariables false
set_option linter.unusedSimpArgs false
namespace Go.Proofs.Ytncoclbmnhbgbaa
open Go.RowKit

theorem Turned.rtBelow {B : Nat} {w w' : World} (h : Turned (RT B w) w w') (hB : B ≤ w.heap.size) : Below B w w' := h.below hB fun _ hk => hk.1
theorem RefAt.size {B : Nat} {w : World} {p : Nat} {D : Dk} (h : RefAt B w p D) : B ≤ w.heap.size := by
  obtain ⟨low, vS, vL, hp, _⟩ := h
  exact Nat.le_of_lt (Nat.lt_of_le_of_lt low (lt_of_heap hp))
set_option maxHeartbeats 4000000 in
theorem refWrite_any (B : Nat) (w : World) (p : Nat) (D : Dk) (h : RefAt B w p D) (hok : D.Ok) (at_ : Int) (v : Value) (l : List UInt8) (hv : ∀ w', Below B w w' → IsB w' v l) (h1 : -9223372036854775808 ≤ at_) (h2 : at_ ≤ 9223372036854775807) :
    Calls Try.prog 30 #[rptr p, .int .i64 at_, v] w fun e w' => e = .returned (.int .i64 (D.write at_ l).1) ∧ RefAt B w' p (D.write at_ l).2 ∧ Turned (RT B w) w w' := by
  have hbe := begins_any B w p D h hok
  have hB := h.size
  by_cases hg : D.gone = true
  · rw [hg] at hbe
    have e1 : D.write at_ l = (43, { D with off := true }) := by simp [Dk.write, hg]
    rw [e1]
    go_enter Try.func30, Try.ntmps30
    go_wp2_with fail
    refine hbe.mono ?_
    rintro e w1 ⟨rfl, r1, t1⟩
    go_wp2_with fail
    go_ret
    exact ⟨rfl, r1, t1⟩
  replace hg : D.gone = false := by simpa using hg
  rw [hg] at hbe
  have hvv := hv w (Below.refl _ _)
  obtain ⟨a, cap, rfl, hlc, hmx, hnil, hcc⟩ := hvv
  clear hcc
  unfold maxLen at hmx
  have hok' : ({ D with off := false } : Dk).Ok := ⟨hok.n1, hok.nm, hok.safe, hok.now, hok.hung, hok.loose, hok.ops, hok.c1, hok.c2⟩
  by_cases h0 : at_ < 0
  · have d0 : decide (at_ < 0) = true := by simpa using h0
    have e1 : D.write at_ l = (41, { D with off := false }) := by
      have : ¬ (0 ≤ at_ ∧ at_ < (D.n : Int)) := by omega
      simp only [Dk.write, hg]; simp [this]
    rw [e1]
    go_enter Try.func30, Try.ntmps30
    go_wp2_with fail
    refine hbe.mono ?_
    rintro e w1 ⟨rfl, r1, t1⟩
    go_wp2_with fail
    go_ret
    exact ⟨rfl, r1, t1⟩
  have d0 : decide (at_ < 0) = false := by simpa using h0
  by_cases hn : (D.n : Int) ≤ at_
  · have dn : decide ((D.n : Int) ≤ at_) = true := by simpa using hn
    have e1 : D.write at_ l = (41, { D with off := false }) := by
      have : ¬ (0 ≤ at_ ∧ at_ < (D.n : Int)) := by omega
      simp only [Dk.write, hg]; simp [this]
    rw [e1]
    go_enter Try.func30, Try.ntmps30
    go_wp2_with fail
    refine hbe.mono ?_
    rintro e w1 ⟨rfl, r1, t1⟩
    obtain ⟨aS, cS, aL, cL, hp, hS, hL⟩ := r1.cells
    have p0 : w1.cell? ⟨p, 0, none⟩ = some (.slice aS D.n cS) := by rw [cell_of_row _ _ _ _ _ _ hp]; rfl
    clear hp hS hL
    go_wp2_with fail
    go_ret
    exact ⟨rfl, r1, t1⟩
  have dn : decide ((D.n : Int) ≤ at_) = false := by simpa using hn
  obtain ⟨k, rfl⟩ := Int.eq_ofNat_of_zero_le (show 0 ≤ at_ by omega)
  have hk : k < D.n := by omega
  by_cases h8 : l.length = 128
  · by_cases hfull : 1048576 ≤ D.ops
    · have d8 : decide ((1048576 : Int) ≤ (D.ops : Int)) = true := by simp; omega
      have e1 : D.write k l = (44, { D with off := false }) := by simp only [Dk.write, hg]; simp [hk, h8, hfull]
      rw [e1, h8]
      go_enter Try.func30, Try.ntmps30
      go_wp2_with fail
      refine hbe.mono ?_
      rintro e w1 ⟨rfl, r1, t1⟩
      obtain ⟨aS, cS, aL, cL, hp, hS, hL⟩ := r1.cells
      have p0 : w1.cell? ⟨p, 0, none⟩ = some (.slice aS D.n cS) := by rw [cell_of_row _ _ _ _ _ _ hp]; rfl
      have p2 : w1.cell? ⟨p, 2, none⟩ = some (.int .i64 (D.ops : Int)) := by rw [cell_of_row _ _ _ _ _ _ hp]; rfl
      clear hp hS hL
      go_wp2_with fail
      go_ret
      exact ⟨rfl, r1, t1⟩
    · have d8 : decide ((1048576 : Int) ≤ (D.ops : Int)) = false := by simp; omega
      have e1 : D.write k l = (0, { D with off := false, now := putS D.now k l, hung := D.hung ++ [(k, l)], ops := D.ops + 1 }) := by simp only [Dk.write, hg]; simp [hk, h8, hfull]
      rw [e1, h8]
      go_enter Try.func30, Try.ntmps30
      go_wp2_with fail
      refine hbe.mono ?_
      rintro e w1 ⟨rfl, r1, t1⟩
      obtain ⟨aS, cS, aL, cL, hp, hS, hL⟩ := r1.cells
      have p0 : w1.cell? ⟨p, 0, none⟩ = some (.slice aS D.n cS) := by rw [cell_of_row _ _ _ _ _ _ hp]; rfl
      have p2 : w1.cell? ⟨p, 2, none⟩ = some (.int .i64 (D.ops : Int)) := by rw [cell_of_row _ _ _ _ _ _ hp]; rfl
      have hv1 : IsB w1.drew (.slice a 128 cap) l := by
        have := hv _ (t1.drew.below hB fun _ hk => hk.1)
        rwa [h8] at this
      obtain ⟨ua, uc, w2, hrc, hm2, hb2⟩ := run_copy w1.drew _ l hv1 (by omega)
      rw [h8] at hrc hm2
      have r1d := r1.below ((Below.refl w1.heap.size w1).drew)
      have r2 := r1d.below hb2
      have hB1 := r1d.size
      have hB2 := r2.size
      obtain ⟨a2, c2, b2, d2, hp2, _, _⟩ := r2.cells
      have p1 : w2.cell? ⟨p, 1, none⟩ = some (.slice b2 D.hung.length d2) := by rw [cell_of_row _ _ _ _ _ _ hp2]; rfl
      have p1a : w1.cell? ⟨p, 1, none⟩ = some (.slice b2 D.hung.length d2) := by
        rw [cell_of_row _ _ _ _ _ _ (show w1.heap[p]? = _ from (hb2.block p (lt_of_heap hp)).symm.trans hp2)]; rfl
      have r3 := r2.below ((Below.refl w2.heap.size w2).alloc (Nat.le_refl _) (.cells #[.int .i64 (k : Int), .slice ua 128 uc] 76))
      have hm3 := (hm2.alloc (.cells #[.int .i64 (k : Int), .slice ua 128 uc] 76)).base_le hB1
      have hp3 := (((Below.refl w2.heap.size w2).alloc (Nat.le_refl _) (.cells #[.int .i64 (k : Int), .slice ua 128 uc] 76)).block p (lt_of_heap hp2)).trans hp2
      have p1b : (w2.alloc (.cells #[.int .i64 (k : Int), .slice ua 128 uc] 76)).cell? ⟨p, 1, none⟩ = some (.slice b2 D.hung.length d2) := by rw [cell_of_row _ _ _ _ _ _ hp3]; rfl
      have hg3 : (w2.alloc (.cells #[.int .i64 (k : Int), .slice ua 128 uc] 76)).heap[w2.heap.size]? = some (.cells #[.int .i64 (k : Int), .slice ua 128 uc] 76 (0, 0)) := heap_alloc_new _ _
      have t3 : Turned (RT B w) w (w2.alloc (.cells #[.int .i64 (k : Int), .slice ua 128 uc] 76)) := (t1.drew.rt (Turned.of_below hb2)).rt (Turned.of_below ((Below.refl w2.heap.size w2).alloc (Nat.le_refl _) _))
      obtain ⟨aS3, cS3, aL3, cL3, hq, hS3, hL3⟩ := r3.cells
      rw [hp3] at hq
      simp only [Option.some.injEq, Obj.cells.injEq, Array.mk.injEq, List.cons.injEq, Value.slice.injEq, and_true, true_and] at hq
      obtain ⟨⟨rfl, rfl⟩, rfl, rfl⟩ := hq
      obtain ⟨a', c', w', hr, ⟨c0, hc0⟩, hf0, rr', ht'⟩ := RefAt.snocLoose r3.low hp3 hS3 hL3 (by have := hok.loose; have := hok.ops; simp; omega) (k, l) { D with off := false, now := putS D.now k l, hung := D.hung ++ [(k, l)] } rfl rfl rfl rfl rfl rfl _ hm3 _ hg3
      have t4 := t3.rt ht'
      obtain ⟨a5, c5, b5, d5, hp5, _, _⟩ := rr'.cells
      have p25 : (w'.setCell ⟨p, 1, none⟩ (.slice a' (D.hung.length + 1) c')).cell? ⟨p, 2, none⟩ = some (.int .i64 (D.ops : Int)) := by rw [cell_of_row _ _ _ _ _ _ hp5]; rfl
      have f25 := frozen_p hp5 2
      have rf := rr'.put { D with off := false, now := putS D.now k l, hung := D.hung ++ [(k, l)], ops := D.ops + 1 } rfl rfl rfl 2 (.int .i64 (D.ops + 1 : Nat)) (fun vS vL => rfl)
      have t5 := t4.rt (rr'.turn 2 (.int .i64 (D.ops + 1 : Nat)))
      have HR := Lib.hid (And.intro rf t5)
      clear rf t5 t4 hp5 rr' ht' hp3 hS3 hL3 t3 hg3 hm3 r3 r2 r1d hm2 hS hL hp hv1 t1 r1 hp2 hbe h
      go_wp2_with fail
      go_region_law (first | refine step_append_run rfl (.const (.slice none 0 0)) (.tmp 42) 30 30 (by rfl) _ _ _ (by rfl) (by rfl) hrc ?_ | refine step_append_run rfl (.tmp 40) (.tmp 45) 69 69 (by rfl) _ _ _ (by rfl) (by rfl) hr ?_)
      all_goals (
        go_wp2_with fail
        go_ret
        exact ⟨rfl, HR.out⟩)
  · have d8 : ((l.length : Int) == 128) = false := by simp; omega
    have e1 : D.write k l = (42, { D with off := false }) := by simp only [Dk.write, hg]; simp [hk, h8]
    rw [e1]
    go_enter Try.func30, Try.ntmps30
    go_wp2_with fail
    refine hbe.mono ?_
    rintro e w1 ⟨rfl, r1, t1⟩
    obtain ⟨aS, cS, aL, cL, hp, hS, hL⟩ := r1.cells
    have p0 : w1.cell? ⟨p, 0, none⟩ = some (.slice aS D.n cS) := by rw [cell_of_row _ _ _ _ _ _ hp]; rfl
    clear hp hS hL
    go_wp2_with fail
    go_ret
    exact ⟨rfl, r1, t1⟩
end Go.Proofs.Ytncoclbmnhbgbaa
