/- slices of ints, and slices.Contains over them. -/
import Derived.Test.YtncoclbmnhbgbaaKit
import Derived.LoopTactic
set_option linter.unusedVariables false
set_option linter.unusedSimpArgs false
namespace Go.Proofs.Ytncoclbmnhbgbaa
open Go.RowKit

/-- the slice value v reads as the ints zs -/
def IsI (w : World) (v : Value) (zs : List Int) : Prop :=
  ∃ a cap, v = .slice a zs.length cap ∧ zs.length ≤ cap ∧ cap ≤ maxLen ∧ (a = none → cap = 0) ∧
    ∀ x, a = some x → (0 < zs.length → x.spot = none) ∧ ∀ i, (h : i < zs.length) → w.cell? ⟨x.block, x.off + i, none⟩ = some (.int .i64 zs[i])
theorem IsI.nil (w : World) : IsI w (.slice none 0 0) [] := ⟨none, 0, rfl, Nat.le_refl _, by simp [maxLen], fun _ => rfl, fun x h => by cases h⟩
theorem IsI.of_cells {w w' : World} {v : Value} {l : List Int} (h : IsI w v l) (hw : ∀ a u, w.cell? a = some u → w'.cell? a = some u) : IsI w' v l := by
  obtain ⟨a, cap, hv, hl, hm, hn, hc⟩ := h
  exact ⟨a, cap, hv, hl, hm, hn, fun x hx => ⟨(hc x hx).1, fun i hi => hw _ _ ((hc x hx).2 i hi)⟩⟩
theorem IsI.below {w w' : World} {v : Value} {l : List Int} (h : IsI w v l) (hb : Below w.heap.size w w') : IsI w' v l := h.of_cells (cells_below hb)
theorem IsI.drew {w : World} {v : Value} {l : List Int} (h : IsI w v l) : IsI w.drew v l := h

theorem index_step (n : Int) (l : List Int) (k : Nat) (h : k < l.length) : (n ∉ l.take k ∧ l[k] ≠ n) ↔ n ∉ l.take (k + 1) := by
  rw [List.take_add_one, List.getElem?_eq_getElem h]
  simp only [Option.toList_some, List.mem_append, List.mem_singleton, not_or]
  exact ⟨fun ⟨a, b⟩ => ⟨a, fun e => b e.symm⟩, fun ⟨a, b⟩ => ⟨a, fun e => b e.symm⟩⟩

set_option maxHeartbeats 4000000 in
theorem index_any (w : World) (v : Value) (l : List Int) (hv : IsI w v l) (n : Int) (h1 : -9223372036854775808 ≤ n) (h2 : n ≤ 9223372036854775807) :
    Calls Try.prog 37 #[v, .int .i64 n] w fun e w' => ∃ r : Int, e = .returned (.int .i64 r) ∧ (0 ≤ r ↔ n ∈ l) ∧ -1 ≤ r ∧ r ≤ 9223372036854775807 ∧ w = w' := by
  obtain ⟨a, cap, rfl, hlc, hmx, hnil, hc⟩ := hv
  unfold maxLen at hmx
  cases l with
  | nil =>
    clear hc
    go_enter Try.func37, Try.ntmps37
    go_wp2
    go_loop [5, 8, 9, 10, 11, 12, 13, 14, 15, 16] (fun _ i _ _ _ _ _ _ _ _ => i = .int .i64 0) (fun _ i _ _ _ _ _ _ _ _ => 0)
    case atStart => rfl
    case round =>
      obtain rfl := hrel
      go_wp2
      go_ret
      exact ⟨-1, rfl, by simp, by omega, by omega, rfl⟩
  | cons z r =>
    generalize hl : z :: r = l at *
    have hpos : 0 < l.length := by rw [← hl]; simp
    clear hl
    obtain ⟨x, rfl⟩ : ∃ x, a = some x := by
      cases a with
      | none => have := hnil rfl; omega
      | some x => exact ⟨x, rfl⟩
    obtain ⟨hsp, hcl⟩ := hc x rfl
    obtain ⟨B, o, sp⟩ := x
    obtain rfl : sp = none := hsp hpos
    clear hc hnil hsp
    dsimp only at hcl
    have Hcl := Lib.hid hcl
    clear hcl
    go_enter Try.func37, Try.ntmps37
    go_wp2
    go_loop [5, 8, 9, 10, 11, 12, 13, 14, 15, 16, 18] (fun _ i _ _ _ _ _ _ _ _ _ => ∃ k : Nat, k ≤ l.length ∧ i = .int .i64 (k : Int) ∧ n ∉ l.take k) (fun _ i _ _ _ _ _ _ _ _ _ => l.length - (intOf i).toNat)
    case atStart => exact ⟨0, Nat.zero_le _, rfl, by simp⟩
    case round =>
      obtain ⟨k, hk, rfl, hno⟩ := hrel
      by_cases hlt : k < l.length
      · have hd : decide ((k : Int) < (l.length : Int)) = true := by simpa using hlt
        have i0 : (0 : Int) ≤ (k : Int) := by omega
        have i1 : (k : Int) < (l.length : Int) := by omega
        have hcell : w.cell? ⟨B, o + k, none⟩ = some (.int .i64 l[k]) := Hcl.out k hlt
        have hst := index_step n l k hlt
        have hmem : l[k] ∈ l := List.getElem_mem hlt
        generalize l[k] = c at *
        have Hst := Lib.hid hst
        have Hno := Lib.hid hno
        clear hst hno
        by_cases he : c = n
        · have hb : (n == c) = true := by simp [he]
          go_wp2
          go_ret
          exact ⟨k, rfl, by simp [← he, hmem], by omega, by omega, rfl⟩
        · have hb : (n == c) = false := by simpa using fun e => he e.symm
          go_wp2
          go_round
          case rel => exact ⟨k + 1, by omega, by simp, Hst.out.1 ⟨Hno.out, he⟩⟩
          case measure => simp [intOf]; omega
      · have hd : decide ((k : Int) < (l.length : Int)) = false := by simpa using hlt
        have hall : l.take k = l := List.take_of_length_le (by omega)
        rw [hall] at hno
        have Hno := Lib.hid hno
        clear hno hall
        go_wp2
        go_ret
        exact ⟨-1, rfl, by simp [Hno.out], by omega, by omega, rfl⟩
set_option maxHeartbeats 4000000 in
theorem contains_any (w : World) (v : Value) (l : List Int) (hv : IsI w v l) (n : Int) (h1 : -9223372036854775808 ≤ n) (h2 : n ≤ 9223372036854775807) :
    Calls Try.prog 27 #[v, .int .i64 n] w fun e w' => e = .returned (.bool (decide (n ∈ l))) ∧ w = w' := by
  go_enter Try.func27, Try.ntmps27
  go_wp2_with fail
  refine (index_any w v l hv n h1 h2).mono ?_
  rintro e w1 ⟨r, rfl, hr, b1, b2, rfl⟩
  have hd : decide ((0 : Int) ≤ r) = decide (n ∈ l) := by
    by_cases h : n ∈ l
    · rw [decide_eq_true h, decide_eq_true (hr.2 h)]
    · rw [decide_eq_false h, decide_eq_false fun e => h (hr.1 e)]
  go_wp2_with fail
  go_ret
  exact ⟨rfl, rfl⟩
end Go.Proofs.Ytncoclbmnhbgbaa
