/- The map of the loose writes: its length, a look at a number, a write put behind the others, one laid anew. -/
import Derived.Test.YtncoclbmnhbgbaaDk
import Derived.WideLaws
import Derived.MapKept
set_option linter.unusedVariables false
set_option linter.unusedSimpArgs false
namespace Go.Proofs.Ytncoclbmnhbgbaa
open Go.RowKit

theorem findNow_at (L : List MapEntry) : ∀ (base k i : Nat), (∀ j (h : j < L.length), (L[j]).key = .int .i64 ((base + j : Nat) : Int)) → (h : i < L.length) →
    Instr.findNow (.int .i64) (.int .i64 ((base + i : Nat) : Int)) L k = some (some (k + i, L[i].val)) := by
  induction L with
  | nil => intro base k i hk h; simp at h
  | cons e r ih =>
    intro base k i hk h
    have h0 := hk 0 (by simp)
    simp only [List.getElem_cons_zero, Nat.add_zero] at h0
    cases i with
    | zero => simp [Instr.findNow, h0, Instr.sameNow]
    | succ i =>
      have hne : ¬ ((((base + (i + 1)) : Nat) : Int) = ((base : Nat) : Int)) := by omega
      have hb : ((((base + (i + 1)) : Nat) : Int) == ((base : Nat) : Int)) = false := beq_eq_false_iff_ne.2 hne
      have := ih (base + 1) (k + 1) i (fun j hj => by have := hk (j + 1) (by simp; omega); simpa [Nat.add_assoc, Nat.add_comm 1] using this) (by simpa using h)
      rw [show base + 1 + i = base + (i + 1) by omega, show k + 1 + i = k + (i + 1) by omega] at this
      simp only [Instr.findNow, h0, Instr.sameNow, hb, if_true, List.getElem_cons_succ]
      exact this
theorem findNow_none (L : List MapEntry) : ∀ (base k n : Nat), (∀ j (h : j < L.length), (L[j]).key = .int .i64 ((base + j : Nat) : Int)) → n ≥ base + L.length →
    Instr.findNow (.int .i64) (.int .i64 (n : Int)) L k = some none := by
  induction L with
  | nil => intro base k n hk h; rfl
  | cons e r ih =>
    intro base k n hk h
    have h0 := hk 0 (by simp)
    simp only [List.getElem_cons_zero, Nat.add_zero] at h0
    simp only [List.length_cons] at h
    have hb : (((n : Nat) : Int) == ((base : Nat) : Int)) = false := beq_eq_false_iff_ne.2 (by omega)
    simp only [Instr.findNow, h0, Instr.sameNow, hb, if_true]
    exact ih (base + 1) (k + 1) n (fun j hj => by have := hk (j + 1) (by simp; omega); simpa [Nat.add_assoc, Nat.add_comm 1] using this) (by omega)

section
variable {w : World} {M : Nat} {L : List (Nat × List UInt8)}
theorem run_len_hung (h : Hung w M L) (ty : TypeId) : (Builtin.len_ #[58] ty #[.map (some M)]).run Try.prog w = .ok (.int .i64 (L.length : Int)) w := by
  obtain ⟨es, cl, hm, hl, _⟩ := h
  rw [run_len_map (P := Try.prog) (w := w) 58 ty M es.toArray cl Try.underlying58 hm]
  simp [goInt, hl]
theorem run_look_hung (h : Hung w M L) (i : Nat) (hi : i < L.length) : (Instr.lookup 58 (.map (some M)) (.int .i64 (i : Int)) false).run Try.prog w = .ok (loose L[i]) w := by
  obtain ⟨es, cl, hm, hl, he⟩ := h
  obtain ⟨b, hb⟩ := he i hi
  have hk : ∀ j (h : j < es.length), (es[j]).key = .int .i64 ((0 + j : Nat) : Int) := fun j hj => by
    obtain ⟨b, hb⟩ := he j (by omega)
    rw [List.getElem?_eq_getElem hj] at hb
    rw [Option.some.inj hb, Nat.zero_add]
  have hf := findNow_at es 0 0 i hk (by omega)
  rw [List.getElem?_eq_getElem (by omega)] at hb
  rw [Option.some.inj hb] at hf
  simp only [Nat.zero_add] at hf
  simp [Instr.lookup, run_underlying Try.underlying58, Go.MapKept.run_getObj_map hm, Go.MapKept.run_checkKey (P := Try.prog) (k := .int .i64 (i : Int)) Try.underlying3 (by simp [Go.MapKept.IsKey]), Go.MapKept.run_findKey (P := Try.prog) Try.underlying3 hf, Result.andThen]
theorem run_put_hung (h : Hung w M L) (x : Nat × List UInt8) : ∃ es cl, w.heap[M]? = some (.map es cl) ∧
    (Instr.mapUpdate 58 (.map (some M)) (.int .i64 (L.length : Int)) (loose x)).run Try.prog w = .ok () { w with heap := w.heap.setIfInBounds M (.map (es.push ⟨.int .i64 (L.length : Int), loose x, cl⟩) (cl + 1)) } ∧
      Hung { w with heap := w.heap.setIfInBounds M (.map (es.push ⟨.int .i64 (L.length : Int), loose x, cl⟩) (cl + 1)) } M (L ++ [x]) := by
  obtain ⟨es, cl, hm, hl, he⟩ := h
  have hk : ∀ j (h : j < es.length), (es[j]).key = .int .i64 ((0 + j : Nat) : Int) := fun j hj => by
    obtain ⟨b, hb⟩ := he j (by omega)
    rw [List.getElem?_eq_getElem hj] at hb
    rw [Option.some.inj hb, Nat.zero_add]
  have hf := findNow_none es 0 0 L.length hk (by omega)
  refine ⟨es.toArray, cl, hm, ?_, ?_⟩
  · simp [Instr.mapUpdate, run_underlying Try.underlying58, Go.MapKept.run_getObj_map hm, Go.MapKept.run_checkKey (P := Try.prog) (k := .int .i64 (L.length : Int)) Try.underlying3 (by simp [Go.MapKept.IsKey]), Go.MapKept.run_findKey (P := Try.prog) Try.underlying3 hf, Go.MapKept.run_setObj_map _ hm, Result.andThen]
  · have hlt := lt_of_heap hm
    refine ⟨es ++ [⟨.int .i64 (L.length : Int), loose x, cl⟩], cl + 1, ?_, by simp [hl], fun i hi => ?_⟩
    · show (w.heap.setIfInBounds M _)[M]? = _
      rw [Array.getElem?_setIfInBounds_self_of_lt hlt]
      simp
    · by_cases hi' : i < L.length
      · obtain ⟨b, hb⟩ := he i hi'
        exact ⟨b, by rw [List.getElem?_append_left (by omega), List.getElem_append_left hi']; exact hb⟩
      · have : i = L.length := by simp at hi; omega
        subst this
        exact ⟨cl, by rw [List.getElem?_append_right (by omega)]; simp [hl]⟩
theorem run_lay_hung (h : Hung w M L) (i : Nat) (hi : i < L.length) (x : Nat × List UInt8) : ∃ es cl, w.heap[M]? = some (.map es cl) ∧
    (Instr.mapUpdate 58 (.map (some M)) (.int .i64 (i : Int)) (loose x)).run Try.prog w = .ok () { w with heap := w.heap.setIfInBounds M (.map (es.modify i fun e => { e with key := .int .i64 (i : Int), val := loose x }) cl) } ∧
      Hung { w with heap := w.heap.setIfInBounds M (.map (es.modify i fun e => { e with key := .int .i64 (i : Int), val := loose x }) cl) } M (L.set i x) := by
  obtain ⟨es, cl, hm, hl, he⟩ := h
  obtain ⟨b, hb⟩ := he i hi
  have hk : ∀ j (h : j < es.length), (es[j]).key = .int .i64 ((0 + j : Nat) : Int) := fun j hj => by
    obtain ⟨b, hb⟩ := he j (by omega)
    rw [List.getElem?_eq_getElem hj] at hb
    rw [Option.some.inj hb, Nat.zero_add]
  have hf := findNow_at es 0 0 i hk (by omega)
  simp only [Nat.zero_add] at hf
  have hki := hk i (by omega)
  simp only [Nat.zero_add] at hki
  refine ⟨es.toArray, cl, hm, ?_, ?_⟩
  · have hkt := fun W => Go.MapKept.run_keyThatStays (P := Try.prog) (d := .int .i64) (w := W) (k := .int .i64 (i : Int)) (by simp [Go.MapKept.IsKey])
    simp [Instr.mapUpdate, run_underlying Try.underlying58, Go.MapKept.run_getObj_map hm, Go.MapKept.run_checkKey (P := Try.prog) (k := .int .i64 (i : Int)) Try.underlying3 (by simp [Go.MapKept.IsKey]), Go.MapKept.run_findKey (P := Try.prog) Try.underlying3 hf, Go.MapKept.run_setObj_map _ hm, Result.andThen, hl, hi, hki, hkt]
  · have hlt := lt_of_heap hm
    refine ⟨es.modify i fun e => { e with key := .int .i64 (i : Int), val := loose x }, cl, ?_, by simp [hl], fun j hj => ?_⟩
    · show (w.heap.setIfInBounds M _)[M]? = _
      rw [Array.getElem?_setIfInBounds_self_of_lt hlt]
      simp
    · obtain ⟨b, hb⟩ := he j (by simpa using hj)
      rw [List.getElem?_modify, hb]
      by_cases hij : i = j
      · subst hij
        exact ⟨b, by simp⟩
      · exact ⟨b, by simp [hij]⟩
end
end Go.Proofs.Ytncoclbmnhbgbaa
