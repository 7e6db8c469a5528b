/- The document's disk: begins, CutAt, read, Read. -/
import Derived.Test.YtncoclbmnhbgbaaRef
import Derived.StillTailTactics
set_option linter.unusedVariables false
set_option linter.unusedSimpArgs false
namespace Go.Proofs.Ytncoclbmnhbgbaa
open Go.RowKit

theorem RefAt.put {B : Nat} {w : World} {p : Nat} {D : Dk} (h : RefAt B w p D) (D' : Dk) (hn : D'.n = D.n) (hs : D'.safe = D.safe) (hh : D'.hung = D.hung) (i : Nat) (v : Value)
    (hc : ∀ vS vL : Value, (#[vS, vL, .int .i64 (D.ops : Int), .int .i64 D.cut, .bool D.off] : Array Value).setIfInBounds i v = #[vS, vL, .int .i64 (D'.ops : Int), .int .i64 D'.cut, .bool D'.off]) :
    RefAt B (w.setCell ⟨p, i, none⟩ v) p D' := by
  obtain ⟨low, vS, vL, hp, ⟨us, h1, h2, h3⟩, ⟨us', k1, k2, k3⟩⟩ := h
  have ho : ∀ (k : Nat) c e fr, w.heap[k]? = some (.cells c e fr) → e ≠ 71 → (w.setCell ⟨p, i, none⟩ v).heap[k]? = w.heap[k]? := fun k c e fr hk he => by
    refine Below.heap_setCell _ _ _ _ fun hkp => ?_
    rw [show (⟨p, i, none⟩ : Addr).block = p from rfl] at hkp
    rw [hkp, hp] at hk; injection hk with hk; injection hk with _ hk; exact he hk.symm
  refine ⟨low, vS, vL, by rw [← hc vS vL]; exact head_setCell hp v, ?_, ?_⟩
  · rw [hn, hs]
    exact ⟨us, h1, ownsRow_block h2 (fun k c fr _ hk => ho k c _ fr hk (by decide)), fun j hj => ownsRow_block (h3 j hj) (fun k c fr _ hk => ho k c _ fr hk (by decide))⟩
  · rw [hh]
    exact ⟨us', k1, ownsRow_block k2 (fun k c fr _ hk => ho k c _ fr hk (by decide)), fun j hj hj' => ownsRow_block (k3 j hj hj') (fun k c fr _ hk => ho k c _ fr hk (by decide))⟩
theorem RefAt.turn {B : Nat} {w : World} {p : Nat} {D : Dk} (h : RefAt B w p D) (i : Nat) (v : Value) : Turned (RT B w) w (w.setCell ⟨p, i, none⟩ v) := by
  obtain ⟨low, vS, vL, hp, _⟩ := h
  exact ⟨rfl, rfl, rfl, by simp [World.setCell], fun k hk hn => Below.heap_setCell _ _ _ _ (fun e => hn (by
    have e' : k = p := e
    subst e'
    exact ⟨low, _, _, _, hp, .inl rfl⟩))⟩
theorem SafeAt.shape {B : Nat} {w : World} {v : Value} {n : Nat} {f : Nat → List UInt8} (h : SafeAt B w v n f) : ∃ a cap, v = .slice a n cap ∧ n ≤ cap ∧ cap ≤ maxLen ∧ (0 < n → ∃ g, a = some ⟨g, 0, none⟩ ∧ B ≤ g ∧ ∀ i, i < n → ∃ u, w.cell? ⟨g, i, none⟩ = some u ∧ Mine 5 B w u (f i)) := by
  obtain ⟨us, h1, h2, h3⟩ := h
  rcases h2.2 with ⟨rfl, h0⟩ | ⟨g, cap, cur, rfl, hg, hh, hn, hm, hs, ht⟩
  · exact ⟨none, 0, by rw [h0], by omega, by simp [maxLen], fun h => by omega⟩
  · refine ⟨_, cap, rfl, hn, hm, fun _ => ⟨g, rfl, hg, fun i hi => ⟨us[i]'(by omega), ?_, h3 i (by omega)⟩⟩⟩
    rw [cell_of_row _ _ _ _ _ _ hh]
    have e : us[i]? = some (us[i]'(by omega)) := List.getElem?_eq_getElem (by omega)
    have e2 : (cur.toList.take (n * 1))[i]? = us[i]? := by rw [ht]
    rw [e, List.getElem?_take, if_pos (by omega)] at e2
    simpa using e2
theorem LAt.shape {B : Nat} {w : World} {v : Value} {L : List (Nat × List UInt8)} (h : LAt B w v L) : ∃ a cap, v = .slice a L.length cap ∧ L.length ≤ cap ∧ cap ≤ maxLen ∧ (0 < L.length → ∃ g, a = some ⟨g, 0, none⟩ ∧ B ≤ g ∧ ∀ i (hi : i < L.length), ∃ u, w.cell? ⟨g, i * 2, none⟩ = some (.int .i64 (L[i].1 : Int)) ∧ w.cell? ⟨g, i * 2 + 1, none⟩ = some u ∧ Mine 5 B w u L[i].2) := by
  obtain ⟨us, h1, h2, h3⟩ := h
  rcases h2.2 with ⟨rfl, h0⟩ | ⟨g, cap, cur, rfl, hg, hh, hn, hm, hs, ht⟩
  · exact ⟨none, 0, by rw [h0], by omega, by simp [maxLen], fun h => by omega⟩
  · refine ⟨_, cap, rfl, hn, hm, fun _ => ⟨g, rfl, hg, fun i hi => ?_⟩⟩
    have hcell : ∀ j, j < 2 → ∀ c, (two L[i] (us[i]'(by omega)))[j]? = some c → w.cell? ⟨g, i * 2 + j, none⟩ = some c := fun j hj c hc => by
      rw [cell_of_row _ _ _ _ _ _ hh]
      have e := twoCells_get L us h1 i hi j hj
      rw [← ht, hc, List.getElem?_take] at e
      split at e
      · simpa using e
      · cases e
    exact ⟨us[i]'(by omega), hcell 0 (by omega) _ rfl, hcell 1 (by omega) _ rfl, h3 i hi (by omega)⟩
/-- its five cells -/
theorem RefAt.cells {B : Nat} {w : World} {p : Nat} {D : Dk} (h : RefAt B w p D) : ∃ aS cS aL cL,
    w.heap[p]? = some (.cells #[.slice aS D.n cS, .slice aL D.hung.length cL, .int .i64 (D.ops : Int), .int .i64 D.cut, .bool D.off] 71 (0, 0)) ∧
    SafeAt B w (.slice aS D.n cS) D.n (sec D.safe) ∧ LAt B w (.slice aL D.hung.length cL) D.hung := by
  obtain ⟨low, vS, vL, hp, hS, hL⟩ := h
  obtain ⟨aS, cS, rfl, _⟩ := hS.shape
  obtain ⟨aL, cL, rfl, _⟩ := hL.shape
  exact ⟨aS, cS, aL, cL, hp, hS, hL⟩

/-- an operation whose guard is shut -/
theorem still_shut {ops : Array Oper} {w : World} {Q : Act → Prop} {a : Act} {o : Oper} {rest : List Oper} (hw : Region.wanted o (yielded ops a.tmps) = false) (h : wpStill Try.prog ops w Q rest (a.put o.dst undef)) : wpStill Try.prog ops w Q (o :: rest) a := by
  refine wpStill_step fun K hK => ?_
  rw [if_neg (by rw [hw]; simp)]
  exact hK _ h

set_option maxHeartbeats 4000000 in
theorem begins_any (B : Nat) (w : World) (p : Nat) (D : Dk) (h : RefAt B w p D) (hok : D.Ok) :
    Calls Try.prog 38 #[rptr p] w fun e w' => e = .returned (.int .i64 (if D.gone then 43 else 0)) ∧ RefAt B w' p { D with off := D.gone } ∧ Turned (RT B w) w w' := by
  obtain ⟨aS, cS, aL, cL, hp, _, _⟩ := h.cells
  have c2 : w.drew.cell? ⟨p, 2, none⟩ = some (.int .i64 (D.ops : Int)) := by rw [cell_of_row w.drew _ _ _ _ _ hp]; rfl
  have c3 : w.drew.cell? ⟨p, 3, none⟩ = some (.int .i64 D.cut) := by rw [cell_of_row w.drew _ _ _ _ _ hp]; rfl
  have c4 : w.drew.cell? ⟨p, 4, none⟩ = some (.bool D.off) := by rw [cell_of_row w.drew _ _ _ _ _ hp]; rfl
  have f4 : w.drew.frozen? ⟨p, 4, none⟩ = false := frozen_p (w := w.drew) hp 4
  have hd : RefAt B w.drew p D := h.keep fun _ _ _ _ _ _ _ => rfl
  have td : Turned (RT B w) w w.drew := (Turned.refl _ _).drew
  have hu : RefAt B (w.drew.setCell ⟨p, 4, none⟩ (.bool true)) p { D with off := true } := hd.put { D with off := true } rfl rfl rfl 4 (.bool true) (fun vS vL => rfl)
  have tu : Turned (RT B w) w (w.drew.setCell ⟨p, 4, none⟩ (.bool true)) := td.rt (hd.turn 4 _)
  have ho6 := hok.ops
  have hcu := hok.c1
  have hcv := hok.c2
  clear h hp
  obtain ⟨n, sf, nw, hu6, o, c, off⟩ := D
  dsimp only at *
  have HU := Lib.hid (And.intro hu tu)
  by_cases h0 : 0 ≤ c
  · have d0 : decide (0 ≤ c) = true := by simp [h0]
    by_cases h1 : c ≤ (o : Int)
    · have d1 : decide (c ≤ (o : Int)) = true := by simp [h1]
      have hg : Dk.gone ⟨n, sf, nw, hu6, o, c, off⟩ = true := by simp [Dk.gone, h0, h1]
      rw [hg]
      clear hg hd td hu tu
      go_enter Try.func38, Try.ntmps38
      go_wp2_with fail
      refine wp_region_still_lit (by kernel_rfl) (by kernel_rfl) ?_
      change wpStill _ _ w.drew (fun a' => Exit.then _ _ .normal a' w.drew) _ _
      generalize w.drew = W at *
      repeat still_step
      refine wpStill_nil ?_
      go_wp2_with fail
      go_ret
      exact ⟨rfl, HU.out⟩
    · have d1 : decide (c ≤ (o : Int)) = false := by simpa using h1
      have hg : Dk.gone ⟨n, sf, nw, hu6, o, c, off⟩ = off := by simp [Dk.gone, h0, h1]
      rw [hg]
      have HD := Lib.hid (And.intro hd td)
      clear hg hd td hu tu HU
      cases off with
      | true =>
        go_enter Try.func38, Try.ntmps38
        go_wp2_with fail
        refine wp_region_still_lit (by kernel_rfl) (by kernel_rfl) ?_
        change wpStill _ _ w.drew (fun a' => Exit.then _ _ .normal a' w.drew) _ _
        generalize w.drew = W at *
        repeat still_step
        refine wpStill_nil ?_
        go_wp2_with fail
        go_ret
        exact ⟨rfl, HD.out⟩
      | false =>
        go_enter Try.func38, Try.ntmps38
        go_wp2_with fail
        refine wp_region_still_lit (by kernel_rfl) (by kernel_rfl) ?_
        change wpStill _ _ w.drew (fun a' => Exit.then _ _ .normal a' w.drew) _ _
        generalize w.drew = W at *
        repeat still_step
        refine wpStill_nil ?_
        go_wp2_with fail
        go_ret
        exact ⟨rfl, HD.out⟩
  · have d0 : decide (0 ≤ c) = false := by simpa using h0
    have hg : Dk.gone ⟨n, sf, nw, hu6, o, c, off⟩ = off := by simp [Dk.gone, h0]
    rw [hg]
    have HD := Lib.hid (And.intro hd td)
    clear hg hd td hu tu HU
    cases off with
    | true =>
      go_enter Try.func38, Try.ntmps38
      go_wp2_with fail
      refine wp_region_still_lit (by kernel_rfl) (by kernel_rfl) ?_
      change wpStill _ _ w.drew (fun a' => Exit.then _ _ .normal a' w.drew) _ _
      generalize w.drew = W at *
      iterate 6 still_step
      iterate 9 (with_reducible refine still_shut (by kernel_rfl) ?_; simp only [Act.put, List.setIfInBounds_toArray, List.set_cons_zero, List.set_cons_succ])
      still_step
      refine wpStill_nil ?_
      go_wp2_with fail
      go_ret
      exact ⟨rfl, HD.out⟩
    | false =>
      go_enter Try.func38, Try.ntmps38
      go_wp2_with fail
      refine wp_region_still_lit (by kernel_rfl) (by kernel_rfl) ?_
      change wpStill _ _ w.drew (fun a' => Exit.then _ _ .normal a' w.drew) _ _
      generalize w.drew = W at *
      iterate 6 still_step
      iterate 9 (with_reducible refine still_shut (by kernel_rfl) ?_; simp only [Act.put, List.setIfInBounds_toArray, List.set_cons_zero, List.set_cons_succ])
      still_step
      refine wpStill_nil ?_
      go_wp2_with fail
      go_ret
      exact ⟨rfl, HD.out⟩
set_option maxHeartbeats 1000000 in
theorem refCut_any (B : Nat) (w : World) (p : Nat) (D : Dk) (h : RefAt B w p D) (c : Int) (h1 : -9223372036854775808 ≤ c) (h2 : c ≤ 9223372036854775807) :
    Calls Try.prog 33 #[rptr p, .int .i64 c] w fun e w' => e = .returned (.tuple #[]) ∧ RefAt B w' p { D with cut := c, off := false } ∧ Turned (RT B w) w w' := by
  have hd1 : RefAt B (w.setCell ⟨p, 3, none⟩ (.int .i64 c)) p { D with cut := c } := h.put { D with cut := c } rfl rfl rfl 3 (.int .i64 c) (fun vS vL => rfl)
  have hd : RefAt B ((w.setCell ⟨p, 3, none⟩ (.int .i64 c)).setCell ⟨p, 4, none⟩ (.bool false)) p { D with cut := c, off := false } := hd1.put { D with cut := c, off := false } rfl rfl rfl 4 (.bool false) (fun vS vL => rfl)
  have ht := (h.turn 3 (.int .i64 c)).rt (hd1.turn 4 (.bool false))
  obtain ⟨aS, cS, aL, cL, hp, _, _⟩ := h.cells
  have c3 : w.cell? ⟨p, 3, none⟩ = some (.int .i64 D.cut) := by rw [cell_of_row _ _ _ _ _ _ hp]; rfl
  have c4 : w.cell? ⟨p, 4, none⟩ = some (.bool D.off) := by rw [cell_of_row _ _ _ _ _ _ hp]; rfl
  have f3 := frozen_p hp 3
  have f4 := frozen_p hp 4
  clear h hd1 hp
  go_enter Try.func33, Try.ntmps33
  go_wp2
  go_end0
  exact ⟨rfl, hd, ht⟩
end Go.Proofs.Ytncoclbmnhbgbaa
