/- The contract of the reference's TakeText. -/
import Derived.Test.YteeenihhehmmoaaDoorTakeIntRef
import Derived.Test.YteeenihhehmmoaaDoorTakeText
set_option linter.unusedVariables false
set_option linter.unusedSimpArgs false
namespace Go.Proofs.YteeenihhehmmoaaDoor
open Go.RowKit

set_option maxHeartbeats 1000000 in
theorem refTakeText_any (v : Value) (l : List UInt8) (n most : Int) (w : World) (hv : IsB w v l) (hl : l.length ≤ 140737488355328) (h1 : -9223372036854775808 ≤ n) (h2 : n ≤ 9223372036854775807)
    (h3 : -9223372036854775808 ≤ most) (h4 : most ≤ 9223372036854775807) :
    Calls Tryd.prog 16 #[v, .int .i64 n, .int .i64 most] w (Ends (threeT (takeT l n most)) w.heap.size w) := by
  have hv' := hv
  obtain ⟨a, cap, rfl, hlc, hm, hnil, hc⟩ := hv'
  unfold maxLen at hm
  clear hc
  have hbd := takeI_bounds l n
  have Hto : Hid (takeT l n most = textOf l most (takeI l n)) := Lib.hid rfl
  have Htake := Lib.hid (refTakeInt_any _ l n w hv hl h1 h2)
  generalize takeI l n = r at *
  obtain ⟨r1, r2, r3⟩ := r
  simp only at hbd
  cases r3 with
  | false =>
    clear hbd
    go_enter Tryd.func16, Tryd.ntmps16
    go_wp2_with fail
    refine Htake.out.mono ?_
    rintro e w' ⟨rfl, hbw⟩
    unfold three
    go_wp2_with fail
    go_ret3
    refine ⟨?_, hbw⟩
    rw [Hto.out, textOf, if_pos (.inl rfl)]
    rfl
  | true =>
    obtain ⟨m, rfl, k, hk1, rfl, hmk, hr1, hr2⟩ := hbd rfl
    clear hbd
    by_cases hbad : r1 < 0 ∨ most < r1 ∨ (l.length : Int) - ((m : Int) + (k : Int)) < r1
    · have hcs : r1 < 0 ∨ (¬ r1 < 0 ∧ most < r1) ∨ (¬ r1 < 0 ∧ ¬ most < r1 ∧ (l.length : Int) - ((m : Int) + (k : Int)) < r1) := by omega
      rw [show textOf l most (r1, (m : Int) + (k : Int), true) = ([], 0, false) by rw [textOf, if_pos]; simp only; omega] at Hto
      rcases hcs with hc1 | ⟨hc1, hc2⟩ | ⟨hc1, hc2, hc3⟩
      all_goals
        go_enter Tryd.func16, Tryd.ntmps16
        go_wp2_with fail
        refine Htake.out.mono ?_
        rintro e w' ⟨rfl, hbw⟩
        unfold three
        go_wp2_with fail
        go_ret3
        refine ⟨?_, hbw⟩
        rw [Hto.out]
        rfl
    · have hc1 : ¬ r1 < 0 := by omega
      have hc2 : ¬ most < r1 := by omega
      have hc3 : ¬ (l.length : Int) - ((m : Int) + (k : Int)) < r1 := by omega
      rw [show textOf l most (r1, (m : Int) + (k : Int), true) = ((l.drop ((m : Int) + (k : Int)).toNat).take r1.toNat, (m : Int) + (k : Int) + r1, true) by
        rw [textOf, if_neg]
        rintro (h | h)
        · cases h
        · simp only at h; omega] at Hto
      obtain ⟨q, rfl⟩ := Int.eq_ofNat_of_zero_le (show 0 ≤ r1 by omega)
      have hsl := fun w => run_cut_lh (P := Tryd.prog) w Tryd.underlying24 info_byte a l.length cap (m + k) (m + k + q) ((m : Int) + (k : Int)) ((m : Int) + (k : Int) + (q : Int)) (by omega) (by omega) (by omega) (by omega)
      have hcut := hv.cut (m + k) (m + k + q) (by omega) (by omega)
      rw [show m + k + q - (m + k) = q by omega] at hcut hsl
      have hstr := fun W (hW : Below w.heap.size w W) => run_str (P := Tryd.prog) (hcut.below hW) 24 9 5 Tryd.underlying24 Tryd.underlying5 Tryd.underlying9
      rw [show (l.take (m + k + q)).drop (m + k) = (l.drop ((m : Int) + (k : Int)).toNat).take ((q : Int)).toNat by rw [List.drop_take]; congr 1; omega] at hstr
      have Hstr := Lib.hid hstr
      clear hstr
      generalize (l.drop ((m : Int) + (k : Int)).toNat).take ((q : Int)).toNat = L at *
      generalize cutA a cap (m + k) = ca at *
      clear hcut hnil
      go_enter Tryd.func16, Tryd.ntmps16
      go_wp2_with fail
      refine Htake.out.mono ?_
      rintro e w' ⟨rfl, hbw⟩
      have hstr := Hstr.out w' hbw
      unfold three
      go_wp2_with fail
      go_ret3
      refine ⟨?_, hbw⟩
      rw [Hto.out]
      rfl
end Go.Proofs.YteeenihhehmmoaaDoor
