/- What a nil disk answers; first. -/
import Derived.Test.YtncoclbmnhbgbaaKit
import Derived.StillTailTactics
set_option linter.unusedVariables false
set_option linter.unusedSimpArgs false
namespace Go.Proofs.Ytncoclbmnhbgbaa
open Go.RowKit

theorem nilRead (w : World) : Calls Try.prog 12 #[.pointer none, .int .i64 0] w fun e w' => e = .returned (.tuple #[.slice none 0 0, .int .i64 1]) ∧ w = w' := by
  go_enter Try.func12, Try.ntmps12
  go_wp2_with fail
  go_ret2
  exact ⟨rfl, rfl⟩
theorem nilPower (w : World) : Calls Try.prog 29 #[.pointer none] w fun e w' => e = .returned (.int .i64 1) ∧ w = w' := by
  go_enter Try.func29, Try.ntmps29
  go_wp2_with fail
  go_ret
  exact ⟨rfl, rfl⟩
theorem nilWrite (w : World) (v : Value) : Calls Try.prog 16 #[.pointer none, .int .i64 0, v] w fun e w' => e = .returned (.int .i64 1) ∧ w = w' := by
  go_enter Try.func16, Try.ntmps16
  go_wp2_with fail
  refine (nilPower w).mono ?_
  rintro e w1 ⟨rfl, rfl⟩
  go_wp2_with fail
  go_ret
  exact ⟨rfl, rfl⟩
theorem nilFlush (w : World) : Calls Try.prog 17 #[.pointer none] w fun e w' => e = .returned (.int .i64 1) ∧ w = w' := by
  go_enter Try.func17, Try.ntmps17
  go_wp2_with fail
  refine (nilPower w).mono ?_
  rintro e w1 ⟨rfl, rfl⟩
  go_wp2_with fail
  go_ret
  exact ⟨rfl, rfl⟩
theorem nilPoke (w : World) : Calls Try.prog 20 #[.pointer none, .int .i64 0, .int .i64 0, .int .u8 1] w fun e w' => e = .returned (.int .i64 1) ∧ w = w' := by
  go_enter Try.func20, Try.ntmps20
  go_wp2_with fail
  go_ret
  exact ⟨rfl, rfl⟩
theorem nilCut (w : World) : Calls Try.prog 14 #[.pointer none, .int .i64 0] w fun e w' => e = .returned (.tuple #[]) ∧ w = w' := by
  go_enter Try.func14, Try.ntmps14
  go_wp2_with fail
  go_end0
  exact ⟨rfl, rfl⟩
theorem nilSectors (w : World) : Calls Try.prog 19 #[.pointer none] w fun e w' => e = .returned (.int .i64 0) ∧ w = w' := by
  go_enter Try.func19, Try.ntmps19
  go_wp2_with fail
  go_ret
  exact ⟨rfl, rfl⟩
theorem nilOps (w : World) : Calls Try.prog 13 #[.pointer none] w fun e w' => e = .returned (.int .i64 0) ∧ w = w' := by
  go_enter Try.func13, Try.ntmps13
  go_wp2_with fail
  go_ret
  exact ⟨rfl, rfl⟩
theorem nilLoose (w : World) : Calls Try.prog 10 #[.pointer none] w fun e w' => e = .returned (.int .i64 0) ∧ w = w' := by
  go_enter Try.func10, Try.ntmps10
  go_wp2_with fail
  go_ret
  exact ⟨rfl, rfl⟩
theorem nilCrash (w : World) : Calls Try.prog 11 #[.pointer none, .slice none 0 0] w fun e w' => e = .returned (.pointer none) ∧ w = w' := by
  go_enter Try.func11, Try.ntmps11
  go_wp2_with fail
  go_ret
  exact ⟨rfl, rfl⟩
theorem first_any (w : World) (v : Value) (l : List UInt8) (hv : IsB w v l) : Calls Try.prog 34 #[v] w fun e w' => e = .returned (.int .u8 ((l.head?.getD 0).toNat : Int)) ∧ w = w' := by
  obtain ⟨a, cap, rfl, hl, hm, hn, hc⟩ := hv
  unfold maxLen at hm
  cases l with
  | nil =>
    go_enter Try.func34, Try.ntmps34
    go_wp2_with fail
    go_ret
    exact ⟨rfl, rfl⟩
  | cons b r =>
    obtain ⟨x, rfl⟩ : ∃ x, a = some x := by
      cases a with
      | none => have := hn rfl; simp at hl; omega
      | some x => exact ⟨x, rfl⟩
    obtain ⟨hs, hcc⟩ := hc x rfl
    obtain ⟨xb, xo, xs⟩ := x
    obtain rfl : xs = none := hs (by simp)
    have h0 := hcc 0 (by simp)
    simp only [Nat.add_zero, List.getElem_cons_zero] at h0
    have hd : ((((b :: r).length : Nat) : Int) == 0) = false := by simp <;> omega
    have hp : (0 : Int) < (((b :: r).length : Nat) : Int) := by simp <;> omega
    simp only [List.head?_cons, Option.getD_some]
    clear hc hcc hn hs
    generalize (b :: r).length = n at *
    go_enter Try.func34, Try.ntmps34
    go_wp2_with fail
    go_ret
    exact ⟨rfl, rfl⟩
end Go.Proofs.Ytncoclbmnhbgbaa
