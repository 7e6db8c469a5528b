/- usanceref19: less. -/
import Derived.Test.YtaohneahlcnahaaAgPut
set_option linter.unusedVariables false
set_option linter.unusedSimpArgs false
namespace Go.Proofs.Ytaohneahlcnahaa
open Go.RowKit

theorem less_any (w : World) (x y : Du) : Calls Try.prog 30 #[.agg #[.int .i64 x.1, .int .i64 x.2], .agg #[.int .i64 y.1, .int .i64 y.2]] w fun e w' => e = .returned (.bool (decide (ord x y < 0))) ∧ Below w.heap.size w w' := by
  have hb : Below w.heap.size w ((w.alloc (.cells #[.int .i64 x.1, .int .i64 x.2] 37)).alloc (.cells #[.int .i64 y.1, .int .i64 y.2] 37)) := ((Below.refl _ w).alloc (Nat.le_refl _) _).alloc (by simp) _
  have e0 : decide (ord x y < 0) = (decide (x.1 < y.1) || ((x.1 == y.1) && decide (x.2 < y.2))) := by
    rw [Bool.eq_iff_iff]
    simp [ord_neg]
  rw [e0]
  by_cases h1 : x.1 < y.1
  · have d1 : decide (x.1 < y.1) = true := by simpa using h1
    go_enter Try.func30, Try.ntmps30
    go_wp2
    go_ret
    exact ⟨by simp [h1], hb⟩
  · have d1 : decide (x.1 < y.1) = false := by simpa using h1
    by_cases h2 : x.1 = y.1
    · have d2 : (x.1 == y.1) = true := by simpa using h2
      clear h2
      go_enter Try.func30, Try.ntmps30
      go_wp2
      go_ret
      exact ⟨by simp, hb⟩
    · have d2 : (x.1 == y.1) = false := by simpa using h2
      go_enter Try.func30, Try.ntmps30
      go_wp2
      go_ret
      exact ⟨by simp, hb⟩
end Go.Proofs.Ytaohneahlcnahaa
