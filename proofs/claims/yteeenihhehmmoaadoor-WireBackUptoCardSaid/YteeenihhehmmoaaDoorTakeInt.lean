/- The contract of wire.TakeInt. -/
import Derived.Test.YteeenihhehmmoaaDoorKit
import Derived.Test.YteeenihhehmmoaaDoorNumLaw
import Derived.Test.YteeenihhehmmoaaDoorBitLaw
import Derived.Test.YteeenihhehmmoaaDoorBits
import Derived.Test.YteeenihhehmmoaaDoorClone
set_option linter.unusedVariables false
set_option linter.unusedSimpArgs false
namespace Go.Proofs.YteeenihhehmmoaaDoor
open Go.RowKit

/-- three results: a number, a place, yes or no -/
def three (r : Int × Int × Bool) : Value := .tuple #[.int .i64 r.1, .int .i64 r.2.1, .bool r.2.2]

set_option maxHeartbeats 1000000 in
theorem takeInt_any (v : Value) (l : List UInt8) (n : Int) (w : World) (hv : IsB w v l) (hl : l.length ≤ 140737488355328) (h1 : -9223372036854775808 ≤ n) (h2 : n ≤ 9223372036854775807) :
    Calls Tryd.prog 13 #[v, .int .i64 n] w fun e w' => e = .returned (three (takeI l n)) ∧ w = w' := by
  have hv' := hv
  obtain ⟨a, cap, rfl, hlc, hm, hnil, hc⟩ := hv'
  unfold maxLen at hm
  have Hc := Lib.hid hc
  clear hc
  by_cases hlo : n < 0
  · go_enter Tryd.func13, Tryd.ntmps13
    go_wp2
    go_ret3
    refine ⟨?_, rfl⟩
    rw [takeI_out (.inl hlo)]
    rfl
  · by_cases hhi : (l.length : Int) < n
    · go_enter Tryd.func13, Tryd.ntmps13
      go_wp2
      go_ret3
      refine ⟨?_, rfl⟩
      rw [takeI_out (.inr hhi)]
      rfl
    · obtain ⟨m, rfl⟩ := Int.eq_ofNat_of_zero_le (show 0 ≤ n by omega)
      have hml : m ≤ l.length := by omega
      have hsl := fun w => run_cut_l (P := Tryd.prog) w Tryd.underlying24 info_byte a l.length cap m (m : Int) rfl hml
      have hcut := hv.cut m l.length hml (Nat.le_refl _)
      rw [List.take_length] at hcut
      have Htk := Lib.hid (takeI_in hml)
      have hin := rdF_inv (l.drop m) 0 0
      obtain ⟨u, k, Hd⟩ : ∃ u k, Hid (rdF 0 0 (l.drop m) = (u, k)) := ⟨_, _, Lib.hid rfl⟩
      have hin := hin u k (by omega) Hd.out
      by_cases hk0 : k = 0
      · subst hk0
        clear hin
        go_enter Tryd.func13, Tryd.ntmps13
        go_wp2_with fail
        refine (bits_any _ (l.drop m) _ hcut).mono ?_
        rintro e w' ⟨rfl, rfl⟩
        rw [Hd.out]
        go_wp2_with fail
        go_ret3
        refine ⟨?_, rfl⟩
        rw [Htk.out, dec, Hd.out, if_pos (.inl rfl)]
        rfl
      · obtain ⟨hk1, hk2, d, hd, hdb, _⟩ := hin hk0
        clear hin
        simp only [Nat.mul_zero, Nat.pow_zero, Nat.mul_one, Nat.zero_add, Nat.sub_zero, List.length_drop] at hd hdb hk1 hk2
        subst hd
        have hub : u < 18446744073709551616 := by simpa using hdb
        clear hdb
        have hp0 : ¬ (k : Int) ≤ 0 := by omega
        by_cases hk1' : k = 1
        · subst hk1'
          go_enter Tryd.func13, Tryd.ntmps13
          go_wp2_with fail
          refine (bits_any _ (l.drop m) _ hcut).mono ?_
          rintro e w' ⟨rfl, rfl⟩
          rw [Hd.out]
          go_wp2_with fail
          go_ret3
          refine ⟨?_, rfl⟩
          rw [Htk.out, dec, Hd.out, if_neg (by simp), pack, ← zag_walk u hub]
          rfl
        · obtain ⟨x, rfl⟩ : ∃ x, a = some x := by
            cases a with
            | none => have := hnil rfl; omega
            | some x => exact ⟨x, rfl⟩
          obtain ⟨xb, xo, xs⟩ := x
          obtain ⟨hs, hcs⟩ := Hc.out _ rfl
          obtain rfl : xs = none := hs (by omega)
          clear hs
          have hlt : m + k - 1 < l.length := by omega
          have hcell := hcs (m + k - 1) hlt
          simp only at hcell
          clear hcs Hc
          obtain ⟨b, Hb⟩ : ∃ b, Hid ((l[m + k - 1]).toNat = b) := ⟨(l[m + k - 1]).toNat, Lib.hid rfl⟩
          rw [Hb.out] at hcell
          have hp1 : (1 : Int) < (k : Int) := by omega
          have hix0 : 0 ≤ (m : Int) + (k : Int) - 1 := by omega
          have hix1 : (m : Int) + (k : Int) - 1 < (l.length : Int) := by omega
          have hix2 : ((m : Int) + (k : Int) - 1).toNat = m + k - 1 := by omega
          have hbz : (l.drop m).getD (k - 1) 0 = 0 ↔ b = 0 := by
            rw [← Hb.out, List.getD_eq_getElem?_getD, List.getElem?_drop, show m + (k - 1) = m + k - 1 by omega, List.getElem?_eq_getElem hlt, Option.getD_some]
            constructor
            · intro h; rw [h]; rfl
            · intro h; exact UInt8.toNat_inj.1 h
          have Hbz := Lib.hid hbz
          clear hbz
          by_cases hb0 : b = 0
          · subst hb0
            go_enter Tryd.func13, Tryd.ntmps13
            go_wp2_with fail
            refine (bits_any _ (l.drop m) _ hcut).mono ?_
            rintro e w' ⟨rfl, rfl⟩
            rw [Hd.out]
            go_wp2_with fail
            go_ret3
            refine ⟨?_, rfl⟩
            rw [Htk.out, dec, Hd.out, if_pos (.inr ⟨by simp only; omega, Hbz.out.2 (by trivial)⟩)]
            rfl
          · have hb1 : ((b : Int) == 0) = false := by simp; omega
            go_enter Tryd.func13, Tryd.ntmps13
            go_wp2_with fail
            refine (bits_any _ (l.drop m) _ hcut).mono ?_
            rintro e w' ⟨rfl, rfl⟩
            rw [Hd.out]
            go_wp2_with fail
            go_ret3
            refine ⟨?_, rfl⟩
            rw [Htk.out, dec, Hd.out, if_neg (by simp only; rintro (h | ⟨_, h⟩); exact hk0 h; exact hb0 (Hbz.out.1 h)), pack, ← zag_walk u hub]
            rfl
end Go.Proofs.YteeenihhehmmoaaDoor
