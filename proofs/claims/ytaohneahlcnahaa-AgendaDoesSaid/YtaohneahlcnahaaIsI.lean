/- slices of ints: what they read as. -/
import Derived.Test.YtaohneahlcnahaaKit
set_option linter.unusedVariables false
set_option linter.unusedSimpArgs false
namespace Go.Proofs.Ytaohneahlcnahaa
open Go.RowKit

/-- the slice value v reads as the ints zs -/
def IsI (w : World) (v : Value) (zs : List Int) : Prop :=
  ∃ a cap, v = .slice a zs.length cap ∧ zs.length ≤ cap ∧ cap ≤ maxLen ∧ (a = none → cap = 0) ∧
    ∀ x, a = some x → (0 < zs.length → x.spot = none) ∧ ∀ i, (h : i < zs.length) → w.cell? ⟨x.block, x.off + i, none⟩ = some (.int .i64 zs[i])
theorem IsI.nil (w : World) : IsI w (.slice none 0 0) [] := ⟨none, 0, rfl, Nat.le_refl _, by simp [maxLen], fun _ => rfl, fun x h => by cases h⟩
theorem IsI.of_cells {w w' : World} {v : Value} {l : List Int} (h : IsI w v l) (hw : ∀ a u, w.cell? a = some u → w'.cell? a = some u) : IsI w' v l := by
  obtain ⟨a, cap, hv, hl, hm, hn, hc⟩ := h
  exact ⟨a, cap, hv, hl, hm, hn, fun x hx => ⟨(hc x hx).1, fun i hi => hw _ _ ((hc x hx).2 i hi)⟩⟩
theorem IsI.below {w w' : World} {v : Value} {l : List Int} (h : IsI w v l) (hb : Below w.heap.size w w') : IsI w' v l := h.of_cells (cells_below hb)
theorem IsI.drew {w : World} {v : Value} {l : List Int} (h : IsI w v l) : IsI w.drew v l := h
end Go.Proofs.Ytaohneahlcnahaa
