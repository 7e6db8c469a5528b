/- agenda: New, Put; slices.Clone of entries. -/
import Derived.Test.YtaohneahlcnahaaAgPut
import Derived.BigQuiet
import Derived.Lib.SliceRun
set_option linter.unusedVariables false
set_option linter.unusedSimpArgs false
namespace Go.Proofs.Ytaohneahlcnahaa
open Go.RowKit

theorem agNew_any (w : World) : Calls Try.prog 17 #[] w fun e w' => ∃ a, e = .returned (agptr a) ∧ AgAt w.heap.size w' a (.slice none 0 0) [] ∧ Below w.heap.size w w' := by
  have h1 : (w.alloc (.cells #[ordF, .slice none 0 0] 57)).heap[w.heap.size]? = some (.cells #[ordF, .slice none 0 0] 57 (0, 0)) := heap_alloc_new w _
  have hb : Below w.heap.size w (w.alloc (.cells #[ordF, .slice none 0 0] 57)) := (Below.refl _ _).alloc (Nat.le_refl _) _
  go_enter Try.func17, Try.ntmps17
  go_wp2
  go_ret
  exact ⟨_, rfl, ⟨Nat.le_refl _, h1, MineD.nil _ _, List.Pairwise.nil⟩, hb⟩
/-- what Put answers -/
def putE (day id : Int) : Int := if day < 0 ∨ 73048 < day then 190 else if id < 1 ∨ 2147483647 < id then 2 else 0
/-- what is there behind it -/
def putL (L : List Du) (day id : Int) : List Du := if putE day id = 0 then insD L (day, id) else L
theorem agPut_nil (w : World) (day id : Int) : Calls Try.prog 18 #[.pointer none, .int .i64 day, .int .i64 id] w fun e w' => e = .returned (.int .i64 1) ∧ w = w' := by
  go_enter Try.func18, Try.ntmps18
  go_wp2
  go_ret
  exact ⟨rfl, rfl⟩
def PutPost (B : Nat) (w : World) (a : Nat) (v : Value) (E : Int) (L' : List Du) (e : Ending) (w' : World) : Prop := ∃ v', e = .returned (.int .i64 E) ∧ AgAt B w' a v' L' ∧ Turned (AgT a v) w w'
set_option maxHeartbeats 4000000 in
theorem agPut_any (B : Nat) (w : World) (a : Nat) (v : Value) (L : List Du) (day id : Int) (h : AgAt B w a v L) (hl : L.length ≤ 1000000) :
    Calls Try.prog 18 #[agptr a, .int .i64 day, .int .i64 id] w (PutPost B w a v (putE day id) (putL L day id)) := by
  by_cases h1 : day < 0
  · have d1 : decide (day < 0) = true := by simpa using h1
    have e : putE day id = 190 := if_pos (.inl h1)
    have e2 : putL L day id = L := by unfold putL; rw [e]; rfl
    rw [e, e2]
    have H := Lib.hid h
    clear e e2 h
    go_enter Try.func18, Try.ntmps18
    go_wp2
    go_ret
    exact ⟨v, rfl, H.out, Turned.refl _ _⟩
  · have d1 : decide (day < 0) = false := by simpa using h1
    by_cases h2 : 73048 < day
    · have d2 : decide (73048 < day) = true := by simpa using h2
      have e : putE day id = 190 := if_pos (.inr h2)
      have e2 : putL L day id = L := by unfold putL; rw [e]; rfl
      rw [e, e2]
      have H := Lib.hid h
      clear e e2 h
      go_enter Try.func18, Try.ntmps18
      go_wp2
      go_ret
      exact ⟨v, rfl, H.out, Turned.refl _ _⟩
    · have d2 : decide (73048 < day) = false := by simpa using h2
      have hno : ¬ (day < 0 ∨ 73048 < day) := by omega
      by_cases h3 : id < 1
      · have d3 : decide (id < 1) = true := by simpa using h3
        have e : putE day id = 2 := by unfold putE; rw [if_neg hno, if_pos (.inl h3)]
        have e2 : putL L day id = L := by unfold putL; rw [e]; rfl
        rw [e, e2]
        have H := Lib.hid h
        clear e e2 h hno
        go_enter Try.func18, Try.ntmps18
        go_wp2
        go_ret
        exact ⟨v, rfl, H.out, Turned.refl _ _⟩
      · have d3 : decide (id < 1) = false := by simpa using h3
        by_cases h4 : 2147483647 < id
        · have d4 : decide (2147483647 < id) = true := by simpa using h4
          have e : putE day id = 2 := by unfold putE; rw [if_neg hno, if_pos (.inr h4)]
          have e2 : putL L day id = L := by unfold putL; rw [e]; rfl
          rw [e, e2]
          have H := Lib.hid h
          clear e e2 h hno
          go_enter Try.func18, Try.ntmps18
          go_wp2
          go_ret
          exact ⟨v, rfl, H.out, Turned.refl _ _⟩
        · have d4 : decide (2147483647 < id) = false := by simpa using h4
          have e : putE day id = 0 := by unfold putE; rw [if_neg hno, if_neg (by omega)]
          have e2 : putL L day id = insD L (day, id) := by unfold putL; rw [e]; rfl
          rw [e, e2]
          have H := Lib.hid h
          clear e e2 h hno
          go_enter Try.func18, Try.ntmps18
          go_wp2_with fail
          refine (put_any B w a v L (day, id) H.out hl).mono ?_
          rintro e w1 ⟨v1, rfl, ha, ht⟩
          have HA := Lib.hid ha
          clear ha
          go_wp2_with fail
          go_ret
          exact ⟨v1, rfl, HA.out, ht⟩
/-- slices.Clone -/
theorem dclone_any (w : World) (v : Value) (L : List Du) (hv : IsD w v L) (hlen : L.length ≤ 1000000) :
    Calls Try.prog 34 #[v] w fun e w' => ∃ v', e = .returned v' ∧ MineD w.heap.size w' v' L ∧ Below w.heap.size w w' := by
  obtain ⟨a, cap, rfl, hlc, hmx, hnil, hc⟩ := id hv
  have hnl := fun (w : World) (a : Option Addr) (n c : Nat) => Lib.run_eql_slice_nil (P := Try.prog) w 27 37 a n c 0 0 Try.underlying27
  have hbs : ∀ w : World, (Instr.buildSlice 27 0 #[]).run Try.prog w = .ok (.slice (some ⟨w.heap.size, 0, none⟩) 0 0) (w.alloc (.cells #[] 37)) := fun w => by kernel_rfl
  cases a with
  | none =>
    obtain rfl : cap = 0 := hnil rfl
    obtain rfl : L = [] := List.eq_nil_of_length_eq_zero (by omega)
    clear hc hv
    go_enter Try.func34, Try.ntmps34
    go_wp2
    go_ret
    exact ⟨_, rfl, MineD.nil _ _, Below.refl _ _⟩
  | some x =>
    have m0 : MineD w.heap.size (w.alloc (.cells #[] 37)) (.slice (some ⟨w.heap.size, 0, none⟩) 0 0) [] := MineD.lit [] (Nat.le_refl _) (by simp [maxLen])
    have b0 : Below w.heap.size w (w.alloc (.cells #[] 37)) := (Below.refl _ _).alloc (Nat.le_refl _) _
    obtain ⟨v', w1, hr, hm, hb, _, _⟩ := run_dues (w.alloc (.cells #[] 37)) w.heap.size (.slice (some ⟨w.heap.size, 0, none⟩) 0 0) [] m0 _ L (hv.below b0) (by simp; omega) (by simp)
    rw [List.nil_append] at hm
    have b1 := b0.trans hb
    clear hc hv m0 b0 hb
    go_enter Try.func34, Try.ntmps34
    go_wp2_with (at_builtin; refine Lib.wpList_append_run _ rfl _ _ _ _ rfl _ _ rfl rfl _ _ hr ?_; clear hr)
    go_ret
    exact ⟨_, rfl, hm, b1⟩
end Go.Proofs.Ytaohneahlcnahaa
