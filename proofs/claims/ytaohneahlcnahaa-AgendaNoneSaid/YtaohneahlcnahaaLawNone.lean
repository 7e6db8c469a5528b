/- AgendaNone: of a nil agenda there is nothing. -/
import Derived.Test.YtaohneahlcnahaaAgShown
set_option linter.unusedVariables false
set_option linter.unusedSimpArgs false
namespace Go.Proofs.Ytaohneahlcnahaa
open Go.RowKit

theorem MineD.slot {B : Nat} {w : World} {v : Value} {L : List Du} (h : MineD B w v L) : ∃ a c, v = .slice a L.length c := by obtain ⟨a, c, e, _⟩ := h.isD; exact ⟨a, c, e⟩
set_option maxHeartbeats 4000000 in
theorem lawNone_walk (w : World) (day id : Int) : Calls Try.prog 7 #[.int .i64 day, .int .i64 id] w fun e w' => e = .returned (.bool true) ∧ Below w.heap.size w w' := by
  go_enter Try.func7, Try.ntmps7
  go_wp2_with fail
  refine (shown_any w).mono ?_
  rintro e w1 ⟨rfl, b1⟩
  go_wp2_with fail
  refine (agPut_nil w1 day id).mono ?_
  rintro e w' ⟨rfl, rfl⟩
  go_wp2_with fail
  refine (agDrop_nil w1 id).mono ?_
  rintro e w2 ⟨rfl, b2⟩
  have b2' := b1.trans (b2.mono b1.size)
  clear b1 b2
  go_wp2_with fail
  refine (agAll_nil w2).mono ?_
  rintro e w3 ⟨gf, lb, rfl, g3, b3⟩
  have b3' := b2'.trans (b3.mono b2'.size)
  have G3 := Lib.hid g3
  clear g3 b3 b2'
  go_wp2_with fail
  refine (list_pos w3 gf lb _ G3.out 9 (by decide) (by decide)).mono ?_
  rintro e w4 ⟨v4, rfl, m4, b4⟩
  have b4' := b3'.trans (b4.mono b3'.size)
  obtain ⟨x4, c4, rfl⟩ := m4.slot
  clear G3 m4 b4 b3'
  go_wp2_with fail
  refine (agUp_nil w4 day).mono ?_
  rintro e w5 ⟨gf5, lb5, rfl, g5, b5⟩
  have b5' := b4'.trans (b5.mono b4'.size)
  have G5 := Lib.hid g5
  clear g5 b5 b4'
  go_wp2_with fail
  refine (list_pos w5 gf5 lb5 _ G5.out 9 (by decide) (by decide)).mono ?_
  rintro e w6 ⟨v6, rfl, m6, b6⟩
  have b6' := b5'.trans (b6.mono b5'.size)
  obtain ⟨x6, c6, rfl⟩ := m6.slot
  clear G5 m6 b6 b5'
  go_wp2_with fail
  refine (agDays_nil w6 id).mono ?_
  rintro e w7 ⟨v7, rfl, m7, b7⟩
  have b7' := b6'.trans (b7.mono b6'.size)
  obtain ⟨x7, c7, rfl, -⟩ := m7.isI
  clear m7 b7 b6'
  go_wp2_with fail
  go_ret
  exact ⟨rfl, b7'⟩
end Go.Proofs.Ytaohneahlcnahaa
