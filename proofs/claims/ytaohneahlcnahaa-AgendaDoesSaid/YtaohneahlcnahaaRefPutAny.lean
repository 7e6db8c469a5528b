/- usanceref19: Put, whatever comes in. -/
import Derived.Test.YtaohneahlcnahaaRefPut
set_option linter.unusedVariables false
set_option linter.unusedSimpArgs false
namespace Go.Proofs.Ytaohneahlcnahaa
open Go.RowKit

set_option maxHeartbeats 4000000 in
theorem refPut_any (B : Nat) (w : World) (r : Nat) (u : Value) (L : List Du) (h : RefAt B w r u L) (hs : Srt L) (hl : L.length ≤ 1000000) (d n : Int) :
    Calls Try.prog 19 #[.pointer (some ⟨r, 0, none⟩), .int .i64 d, .int .i64 n] w (RPut B w r u (putE d n) (putL L d n)) := by
  by_cases h1 : d < 0
  · have d1 : decide (d < 0) = true := by simpa using h1
    have e : putE d n = 190 := if_pos (.inl h1)
    have e2 : putL L d n = L := by unfold putL; rw [e]; rfl
    rw [e, e2]
    have H := Lib.hid h
    clear e e2 h hs
    go_enter Try.func19, Try.ntmps19
    go_wp2
    go_ret
    exact ⟨u, rfl, H.out, Turned.refl _ _, .inl rfl⟩
  · have d1 : decide (d < 0) = false := by simpa using h1
    by_cases h2 : 73048 < d
    · have d2 : decide (73048 < d) = true := by simpa using h2
      have e : putE d n = 190 := if_pos (.inr h2)
      have e2 : putL L d n = L := by unfold putL; rw [e]; rfl
      rw [e, e2]
      have H := Lib.hid h
      clear e e2 h hs
      go_enter Try.func19, Try.ntmps19
      go_wp2
      go_ret
      exact ⟨u, rfl, H.out, Turned.refl _ _, .inl rfl⟩
    · have d2 : decide (73048 < d) = false := by simpa using h2
      have hno : ¬ (d < 0 ∨ 73048 < d) := by omega
      by_cases h3 : n < 1
      · have d3 : decide (n < 1) = true := by simpa using h3
        have e : putE d n = 2 := by unfold putE; rw [if_neg hno, if_pos (.inl h3)]
        have e2 : putL L d n = L := by unfold putL; rw [e]; rfl
        rw [e, e2]
        have H := Lib.hid h
        clear e e2 h hs
        go_enter Try.func19, Try.ntmps19
        go_wp2
        go_ret
        exact ⟨u, rfl, H.out, Turned.refl _ _, .inl rfl⟩
      · have d3 : decide (n < 1) = false := by simpa using h3
        by_cases h4 : 2147483647 < n
        · have d4 : decide (2147483647 < n) = true := by simpa using h4
          have e : putE d n = 2 := by unfold putE; rw [if_neg hno, if_pos (.inr h4)]
          have e2 : putL L d n = L := by unfold putL; rw [e]; rfl
          rw [e, e2]
          have H := Lib.hid h
          clear e e2 h hs
          go_enter Try.func19, Try.ntmps19
          go_wp2
          go_ret
          exact ⟨u, rfl, H.out, Turned.refl _ _, .inl rfl⟩
        · have e : putE d n = 0 := by unfold putE; rw [if_neg hno, if_neg (by omega)]
          have e2 : putL L d n = insD L (d, n) := by unfold putL; rw [e]; rfl
          rw [e, e2]
          exact refPut_good B w r u L d n h hs hl h1 h2 h3 h4
end Go.Proofs.Ytaohneahlcnahaa
