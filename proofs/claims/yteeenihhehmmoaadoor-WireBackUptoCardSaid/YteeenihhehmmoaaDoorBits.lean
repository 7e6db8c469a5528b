/- The contract of wire.bits: seven bits a byte. -/
import Derived.Test.YteeenihhehmmoaaDoorKit
import Derived.Test.YteeenihhehmmoaaDoorNumLaw
import Derived.Test.YteeenihhehmmoaaDoorBitLaw
set_option linter.unusedVariables false
set_option linter.unusedSimpArgs false
namespace Go.Proofs.YteeenihhehmmoaaDoor
open Go.RowKit

set_option maxHeartbeats 1000000 in
theorem bits_any (v : Value) (l : List UInt8) (w : World) (hv : IsB w v l) :
    Calls Tryd.prog 32 #[v] w fun e w' => e = .returned (.tuple #[.int .u64 ((rdF 0 0 l).1 : Nat), .int .i64 ((rdF 0 0 l).2 : Nat)]) ∧ w = w' := by
  obtain ⟨a, cap, rfl, hl, hm, hnil, hc⟩ := hv
  unfold maxLen at hm
  have Hc := Lib.hid hc
  clear hc
  go_enter Tryd.func32, Tryd.ntmps32
  go_wp2
  go_loop [4, 9] (fun u i => ∃ k U : Nat, k ≤ 9 ∧ k ≤ l.length ∧ i = .int .i64 k ∧ u = .int .u64 (U : Nat) ∧ rdF 0 0 l = rdF k U (l.drop k) ∧ U < 2 ^ (7 * k)) (fun _ i => l.length - (intOf i).toNat)
  case atStart => exact ⟨0, 0, by omega, Nat.zero_le _, rfl, rfl, rfl, by simp⟩
  case round =>
    obtain ⟨k, U, hk9, hk, rfl, rfl, heq, hU⟩ := hrel
    have Heq := Lib.hid heq
    clear heq
    by_cases hlt : k < l.length
    · obtain ⟨x, rfl⟩ : ∃ x, a = some x := by
        cases a with
        | none => have := hnil rfl; omega
        | some x => exact ⟨x, rfl⟩
      obtain ⟨xb, xo, xs⟩ := x
      obtain ⟨hs, hcs⟩ := Hc.out _ rfl
      obtain rfl : xs = none := hs (by omega)
      clear hs
      have hcell := hcs k hlt
      simp only at hcell
      clear hcs Hc
      have hp : (k : Int) < (l.length : Int) := by omega
      obtain ⟨b, Hb⟩ : ∃ b, Hid ((l[k]).toNat = b) := ⟨(l[k]).toNat, Lib.hid rfl⟩
      rw [Hb.out] at hcell
      have hb8 : b < 256 := by rw [← Hb.out]; exact (l[k]).toNat_lt
      have hdrop : l.drop k = l[k] :: l.drop (k + 1) := List.drop_eq_getElem_cons hlt
      have hstep := Heq.out
      rw [hdrop, rdF, Hb.out] at hstep
      have Hs := Lib.hid hstep
      clear hstep hdrop
      by_cases hend : k = 9 ∧ 1 < b
      · obtain ⟨rfl, hb1⟩ := hend
        have h1 : (1 : Int) < (b : Int) := by omega
        have hp9 : (9 : Int) < (l.length : Int) := by omega
        go_wp2
        go_ret2
        refine ⟨?_, rfl⟩
        have Hs2 := Hs.out
        simp only [true_and, hb1, true_or, if_true] at Hs2
        rw [Hs2]
        rfl
      · have h9b : decide ((9 : Int) < (k : Int)) = false := by simp; omega
        have hor := or7 U b k hU hb8 hk9
        have hlt2 : U + b % 128 * 2 ^ (7 * k) < 2 ^ (7 * (k + 1)) := by
          rw [pow7]
          have h3 : b % 128 * 2 ^ (7 * k) ≤ 127 * 2 ^ (7 * k) := Nat.mul_le_mul_right _ (by omega)
          omega
        have hlt3 : U + b % 128 * 2 ^ (7 * k) < 18446744073709551616 := by
          by_cases h9 : k = 9
          · subst h9
            have : b % 128 ≤ 1 := by omega
            have h3 : b % 128 * 2 ^ (7 * 9) ≤ 1 * 2 ^ (7 * 9) := Nat.mul_le_mul_right _ this
            omega
          · have h4 : 2 ^ (7 * (k + 1)) ≤ 2 ^ 63 := Nat.pow_le_pow_right (by decide) (by omega)
            omega
        rw [Nat.mod_eq_of_lt hlt3] at hor
        obtain ⟨V, HV⟩ : ∃ V, Hid (U + b % 128 * 2 ^ (7 * k) = V) := ⟨_, Lib.hid rfl⟩
        rw [HV.out] at hor
        rw [HV.out] at hlt2
        clear hlt3
        have h9 : (k = 9 ∧ b ≤ 1 ∧ decide ((1 : Int) < (b : Int)) = false) ∨ ((k : Int) == 9) = false := by
          by_cases h9 : k = 9
          · left; simp; omega
          · right; simp; omega
        by_cases hs : b < 128
        · have hs2 : (b : Int) < 128 := by omega
          rcases h9 with ⟨rfl, hb1, h1⟩ | h9
          · have hp9 : (9 : Int) < (l.length : Int) := by omega
            rw [show ((2 : Int) ^ (7 * 9)) = 9223372036854775808 from rfl] at hor
            go_wp2
            go_ret2
            refine ⟨?_, rfl⟩
            rw [Hs.out, if_neg (by omega), if_pos hs, HV.out]
            rfl
          · go_wp2
            go_ret2
            refine ⟨?_, rfl⟩
            rw [Hs.out, if_neg (by omega), if_pos hs, HV.out]
            rfl
        · have hs2 : ¬ (b : Int) < 128 := by omega
          have hk8 : k < 9 := by omega
          have h9 : ((k : Int) == 9) = false := by simp; omega
          go_wp2
          go_round
          case rel =>
            refine ⟨k + 1, V, by omega, by omega, by go_num, rfl, ?_, hlt2⟩
            rw [Hs.out, if_neg (by omega), if_neg hs, HV.out]
          case measure => simp [intOf]; omega
    · obtain rfl : k = l.length := by omega
      go_wp2
      go_ret2
      refine ⟨?_, rfl⟩
      rw [Heq.out, List.drop_length]
      rfl
end Go.Proofs.YteeenihhehmmoaaDoor
