/- The contract of slices.Clone at []byte: new memory that reads as what came in. -/
import Derived.Test.YteeenihhehmmoaaDoorKit
import Derived.WalkSpells
set_option linter.unusedVariables false
set_option linter.unusedSimpArgs false
namespace Go.Proofs.YteeenihhehmmoaaDoor
open Go.RowKit

theorem info_byte : (Tryd.prog.info? 5).map (fun i => (i.zero, i.size, i.bytes)) = some (some (.int .u8 0), 1, 1) := by kernel_rfl

set_option maxHeartbeats 1000000 in
theorem clone_any (v : Value) (l : List UInt8) (w : World) (hv : IsB w v l) (hl : l.length ≤ 140737488355328) :
    Calls Tryd.prog 33 #[v] w fun e w' => ∃ u, e = .returned u ∧ Mine 5 w.heap.size w' u l ∧ Below w.heap.size w w' := by
  have hv' := hv
  obtain ⟨a, cap, rfl, hlc, hm, hnil, hc⟩ := hv'
  have hnl := fun (w : World) (a : Option Addr) (n c : Nat) => Lib.run_eql_slice_nil (P := Tryd.prog) w 24 5 a n c 0 0 Tryd.underlying24
  have hbs : ∀ w : World, (Instr.buildSlice 24 0 #[]).run Tryd.prog w = .ok (.slice (some ⟨w.heap.size, 0, none⟩) 0 0) (w.alloc (.cells #[] 5)) := fun w => by kernel_rfl
  cases a with
  | none =>
    obtain rfl : cap = 0 := hnil rfl
    obtain rfl : l = [] := List.eq_nil_of_length_eq_zero (by omega)
    clear hv hlc hm hnil hc
    go_enter Tryd.func33, Tryd.ntmps33
    go_wp2
    go_ret
    exact ⟨_, rfl, Mine.nil _ _ _, Below.refl _ _⟩
  | some x =>
    clear hc hlc hm hnil
    go_enter Tryd.func33, Tryd.ntmps33
    go_wp2_with (at_builtin; refine wpList_bytes rfl (.tmp 5) (.tmp 6) 24 rfl w.heap.size 5 info_byte Tryd.underlying24 _ [] rfl (Mine.lit [] (Nat.le_refl _) (by simp [maxLen])) _ l rfl (hv.alloc _) (by simpa using hl) (by simp) ?_)
    intro v' w' hm' _ hb' _ _
    go_wp2
    go_ret
    exact ⟨_, rfl, hm', ((Below.refl _ _).alloc (Nat.le_refl _) _).trans hb'⟩
end Go.Proofs.YteeenihhehmmoaaDoor
