/- The contract of wire.TakeText. -/
import Derived.Test.YteeenihhehmmoaaDoorTakeInt
import Derived.Test.YteeenihhehmmoaaDoorPutText
set_option linter.unusedVariables false
set_option linter.unusedSimpArgs false
namespace Go.Proofs.YteeenihhehmmoaaDoor
open Go.RowKit

/-- what TakeText answers, given what TakeInt did -/
def textOf (l : List UInt8) (most : Int) (r : Int × Int × Bool) : List UInt8 × Int × Bool :=
  if r.2.2 = false ∨ r.1 < 0 ∨ most < r.1 ∨ (l.length : Int) - r.2.1 < r.1 then ([], 0, false) else ((l.drop r.2.1.toNat).take r.1.toNat, r.2.1 + r.1, true)
/-- what TakeText answers -/
def takeT (l : List UInt8) (at_ most : Int) : List UInt8 × Int × Bool := textOf l most (takeI l at_)
/-- a text, a place, yes or no -/
def threeT (r : List UInt8 × Int × Bool) : Value := .tuple #[.string ⟨r.1.toArray⟩, .int .i64 r.2.1, .bool r.2.2]
theorem takeI_bounds (l : List UInt8) (n : Int) : (takeI l n).2.2 = true → ∃ m : Nat, n = m ∧ ∃ k : Nat, 1 ≤ k ∧ (takeI l n).2.1 = m + k ∧ m + k ≤ l.length ∧ -9223372036854775808 ≤ (takeI l n).1 ∧ (takeI l n).1 ≤ 9223372036854775807 := by
  intro h
  by_cases ho : n < 0 ∨ (l.length : Int) < n
  · rw [takeI_out ho] at h; cases h
  · obtain ⟨m, rfl⟩ := Int.eq_ofNat_of_zero_le (show 0 ≤ n by omega)
    rw [takeI_in (by omega : m ≤ l.length)] at h ⊢
    cases hd : dec (l.drop m) with
    | none => rw [hd] at h; cases h
    | some p =>
      obtain ⟨u, k⟩ := p
      obtain ⟨h1, h2, h3, h4⟩ := dec_inv hd
      have h5 := uv_len10 u h1
      have h6 := zag_bound u h1
      rw [List.length_drop] at h3
      exact ⟨m, rfl, k, by omega, rfl, by omega, h6.1, h6.2⟩

set_option maxHeartbeats 1000000 in
theorem takeText_any (v : Value) (l : List UInt8) (n most : Int) (w : World) (hv : IsB w v l) (hl : l.length ≤ 140737488355328) (h1 : -9223372036854775808 ≤ n) (h2 : n ≤ 9223372036854775807)
    (h3 : -9223372036854775808 ≤ most) (h4 : most ≤ 9223372036854775807) :
    Calls Tryd.prog 15 #[v, .int .i64 n, .int .i64 most] w fun e w' => e = .returned (threeT (takeT l n most)) ∧ w = w' := by
  have hv' := hv
  obtain ⟨a, cap, rfl, hlc, hm, hnil, hc⟩ := hv'
  unfold maxLen at hm
  clear hc
  have hbd := takeI_bounds l n
  have Hto : Hid (takeT l n most = textOf l most (takeI l n)) := Lib.hid rfl
  have Htake := Lib.hid (takeInt_any _ l n w hv hl h1 h2)
  generalize takeI l n = r at *
  obtain ⟨r1, r2, r3⟩ := r
  simp only at hbd
  cases r3 with
  | false =>
    clear hbd
    go_enter Tryd.func15, Tryd.ntmps15
    go_wp2_with fail
    refine Htake.out.mono ?_
    rintro e w' ⟨rfl, rfl⟩
    unfold three
    go_wp2_with fail
    go_ret3
    refine ⟨?_, rfl⟩
    rw [Hto.out, textOf, if_pos (.inl rfl)]
    rfl
  | true =>
    obtain ⟨m, rfl, k, hk1, rfl, hmk, hr1, hr2⟩ := hbd rfl
    clear hbd
    by_cases hbad : r1 < 0 ∨ most < r1 ∨ (l.length : Int) - ((m : Int) + (k : Int)) < r1
    · have hcs : r1 < 0 ∨ (¬ r1 < 0 ∧ most < r1) ∨ (¬ r1 < 0 ∧ ¬ most < r1 ∧ (l.length : Int) - ((m : Int) + (k : Int)) < r1) := by omega
      rw [show textOf l most (r1, (m : Int) + (k : Int), true) = ([], 0, false) by rw [textOf, if_pos]; simp only; omega] at Hto
      rcases hcs with hc1 | ⟨hc1, hc2⟩ | ⟨hc1, hc2, hc3⟩
      all_goals
        go_enter Tryd.func15, Tryd.ntmps15
        go_wp2_with fail
        refine Htake.out.mono ?_
        rintro e w' ⟨rfl, rfl⟩
        unfold three
        go_wp2_with fail
        go_ret3
        refine ⟨?_, rfl⟩
        rw [Hto.out]
        rfl
    · have hc1 : ¬ r1 < 0 := by omega
      have hc2 : ¬ most < r1 := by omega
      have hc3 : ¬ (l.length : Int) - ((m : Int) + (k : Int)) < r1 := by omega
      rw [show textOf l most (r1, (m : Int) + (k : Int), true) = ((l.drop ((m : Int) + (k : Int)).toNat).take r1.toNat, (m : Int) + (k : Int) + r1, true) by
        rw [textOf, if_neg]
        rintro (h | h)
        · cases h
        · simp only at h; omega] at Hto
      obtain ⟨q, rfl⟩ := Int.eq_ofNat_of_zero_le (show 0 ≤ r1 by omega)
      have hsl := fun w => run_cut_lh (P := Tryd.prog) w Tryd.underlying24 info_byte a l.length cap (m + k) (m + k + q) ((m : Int) + (k : Int)) ((m : Int) + (k : Int) + (q : Int)) (by omega) (by omega) (by omega) (by omega)
      have hcut := hv.cut (m + k) (m + k + q) (by omega) (by omega)
      rw [show m + k + q - (m + k) = q by omega] at hcut hsl
      have hstr := run_str (P := Tryd.prog) hcut 24 9 5 Tryd.underlying24 Tryd.underlying5 Tryd.underlying9
      rw [show (l.take (m + k + q)).drop (m + k) = (l.drop ((m : Int) + (k : Int)).toNat).take ((q : Int)).toNat by rw [List.drop_take]; congr 1; omega] at hstr
      generalize (l.drop ((m : Int) + (k : Int)).toNat).take ((q : Int)).toNat = L at *
      generalize cutA a cap (m + k) = ca at *
      clear hcut hnil
      go_enter Tryd.func15, Tryd.ntmps15
      go_wp2_with fail
      refine Htake.out.mono ?_
      rintro e w' ⟨rfl, rfl⟩
      unfold three
      go_wp2_with fail
      go_ret3
      refine ⟨?_, rfl⟩
      rw [Hto.out]
      rfl
end Go.Proofs.YteeenihhehmmoaaDoor
