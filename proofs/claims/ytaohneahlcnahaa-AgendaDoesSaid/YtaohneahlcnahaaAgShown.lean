/- shown: an earlier entry stands ahead. -/
import Derived.Test.YtaohneahlcnahaaAgAll
import Derived.Test.YtaohneahlcnahaaAgDrop
import Derived.Test.YtaohneahlcnahaaAgDays
set_option linter.unusedVariables false
set_option linter.unusedSimpArgs false
namespace Go.Proofs.Ytaohneahlcnahaa
open Go.RowKit

/-- an agenda of one's own from block B on turns: what lies below B is as it was -/
theorem AgAt.own {B : Nat} {w0 w w' : World} {a : Nat} {v : Value} {L : List Du} (h : AgAt B w a v L) (hb : Below B w0 w) (ht : Turned (AgT a v) w w') : Below B w0 w' :=
  hb.trans (ht.below h.size fun k hk => (h.tlt hk).1)
theorem shown_1 : putL [] 9 2 = [(9, 2)] := by decide
theorem shown_2 : putL [(9, 2)] 5 7 = [(5, 7), (9, 2)] := by decide
set_option maxHeartbeats 4000000 in
theorem shown_any (w : World) : Calls Try.prog 8 #[] w fun e w' => e = .returned (.bool true) ∧ Below w.heap.size w w' := by
  go_enter Try.func8, Try.ntmps8
  go_wp2_with fail
  refine (agNew_any w).mono ?_
  rintro e w1 ⟨a, rfl, a1, b1⟩
  have A1 := Lib.hid a1
  clear a1
  go_wp2_with fail
  refine (agPut_any _ w1 a _ [] 9 2 A1.out (by simp)).mono ?_
  rintro e w2 ⟨v2, rfl, a2, t2⟩
  have b2 := A1.out.own b1 t2
  have A2 := Lib.hid (shown_1 ▸ a2 : AgAt w.heap.size w2 a v2 [(9, 2)])
  clear A1 a2 t2 b1
  have e1 : putE 9 2 = 0 := by decide
  rw [e1]
  go_wp2_with fail
  refine (agPut_any _ w2 a _ [(9, 2)] 5 7 A2.out (by simp)).mono ?_
  rintro e w3 ⟨v3, rfl, a3, t3⟩
  have b3 := A2.out.own b2 t3
  have A3 := Lib.hid (shown_2 ▸ a3 : AgAt w.heap.size w3 a v3 [(5, 7), (9, 2)])
  clear A2 a3 t3 b2
  have e2 : putE 5 7 = 0 := by decide
  rw [e2]
  go_wp2_with fail
  refine (agAll_any _ w3 a v3 _ A3.out (by simp)).mono ?_
  rintro e w4 ⟨gf, lb, rfl, g4, b4⟩
  have b4' := b3.trans (b4.mono b3.size)
  have G4 := Lib.hid g4
  clear A3 g4 b4 b3
  go_wp2_with fail
  refine (list_pos w4 gf lb _ G4.out 9 (by decide) (by decide)).mono ?_
  rintro e w5 ⟨v5, rfl, m5, b5⟩
  have b5' := b4'.trans (b5.mono b4'.size)
  obtain ⟨x5, c5, rfl, -⟩ := id m5.isD
  obtain ⟨-, -, -, h5⟩ := m5.isD.addr
  obtain ⟨B5, o5, rfl, c6⟩ := h5 (by decide)
  have p5 := (c6 0 (by decide)).1
  have q5 := (c6 0 (by decide)).2
  simp only [Nat.zero_mul, Nat.add_zero] at p5 q5
  replace p5 : w5.cell? ⟨B5, o5, none⟩ = some (.int .i64 5) := p5
  replace q5 : w5.cell? ⟨B5, o5 + 1, none⟩ = some (.int .i64 7) := q5
  clear G4 m5 b5 b4' h5 c6
  go_wp2
  go_ret
  exact ⟨rfl, b5'⟩
end Go.Proofs.Ytaohneahlcnahaa
