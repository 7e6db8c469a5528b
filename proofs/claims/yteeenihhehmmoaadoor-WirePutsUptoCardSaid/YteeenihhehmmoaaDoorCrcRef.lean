/- The contract of usanceref02.Crc: the sum of the bytes, bit by bit. -/
import Derived.Test.YteeenihhehmmoaaDoorKit
import Derived.Test.YteeenihhehmmoaaDoorCrcLaw
set_option linter.unusedVariables false
set_option linter.unusedSimpArgs false
namespace Go.Proofs.YteeenihhehmmoaaDoor
open Go.RowKit

theorem xor_u32 (x y : Nat) (hx : x < 4294967296) (hy : y < 4294967296) : bits .xor .u32 (x : Int) (y : Int) = ((x ^^^ y : Nat) : Int) := by
  simpa using u32_xor (x : Int) (y : Int) (by omega) (by omega) (by omega) (by omega)
theorem and1_u32 (x : Nat) (hx : x < 4294967296) : bits .and .u32 (x : Int) 1 = ((x % 2 : Nat) : Int) := by
  have h := u32_and (x : Int) 1 (by omega) (by omega) (by omega) (by omega)
  rw [h, Int.toNat_natCast, show (1 : Int).toNat = 2 ^ 1 - 1 from rfl, Nat.and_two_pow_sub_one_eq_mod]
theorem steps_succ' (k c : Nat) : UsCrc.steps (k + 1) c = UsCrc.step (UsCrc.steps k c) := by
  rw [UsCrc.steps_add k 1 c]; rfl
theorem not_u32 (R : Nat) (h : R < 4294967296) : bits .xor .u32 IntKind.u32.max (R : Int) = ((UsCrc.ones ^^^ R : Nat) : Int) := by
  have h := u32_xor 4294967295 (R : Int) (by omega) (by omega) (by omega) (by omega)
  have hm : IntKind.u32.max = 4294967295 := by decide
  rw [hm, h]; rfl

set_option maxHeartbeats 1000000 in
theorem crcRef_any (v : Value) (l : List UInt8) (w : World) (hv : IsB w v l) :
    Calls Tryd.prog 12 #[v] w fun e w' => e = .returned (.int .u32 (UsCrc.crc l)) ∧ w = w' := by
  obtain ⟨a, cap, rfl, hl, hm, hnil, hc⟩ := hv
  unfold maxLen at hm
  have Hc := Lib.hid hc
  clear hc
  go_enter Tryd.func12, Tryd.ntmps12
  go_wp2
  go_loop [3, 4] (fun c i => ∃ k : Nat, k ≤ l.length ∧ i = .int .i64 k ∧ c = .int .u32 (UsCrc.run UsCrc.ones (l.take k) : Nat)) (fun _ i => l.length - (intOf i).toNat)
  case atStart => exact ⟨0, Nat.zero_le _, rfl, rfl⟩
  case round =>
    obtain ⟨k, hk, rfl, rfl⟩ := hrel
    by_cases hlt : k < l.length
    · obtain ⟨x, rfl⟩ : ∃ x, a = some x := by
        cases a with
        | none => have := hnil rfl; omega
        | some x => exact ⟨x, rfl⟩
      obtain ⟨xb, xo, xs⟩ := x
      obtain ⟨hs, hcs⟩ := Hc.out _ rfl
      obtain rfl : xs = none := hs (by omega)
      clear hs
      have hcell := hcs k hlt
      simp only at hcell
      clear hcs Hc
      have hp : (k : Int) < (l.length : Int) := by omega
      have hr := UsCrc.run_lt (l.take k) UsCrc.ones (by decide)
      have hb8 : (l[k]).toNat < 256 := (l[k]).toNat_lt
      have hstep : UsCrc.run UsCrc.ones (l.take (k + 1)) = UsCrc.steps 8 (UsCrc.run UsCrc.ones (l.take k) ^^^ (l[k]).toNat) := by
        rw [List.take_succ_eq_append_getElem hlt, UsCrc.run_append]; rfl
      have Hs := Lib.hid hstep
      clear hstep
      generalize UsCrc.run UsCrc.ones (l.take k) = R at *
      generalize (l[k]).toNat = b at *
      have hm0 : (b : Int) % 4294967296 = (b : Int) := by omega
      have hx := xor_u32 R b hr (by omega)
      have hxl : R ^^^ b < 4294967296 := Nat.xor_lt_two_pow (n := 32) hr (by omega)
      generalize R ^^^ b = X at *
      go_wp2
      go_loop [3, 5] (fun c i => ∃ j : Nat, j ≤ 8 ∧ i = .int .i64 j ∧ c = .int .u32 (UsCrc.steps j X : Nat)) (fun _ i => 8 - (intOf i).toNat)
      case atStart => exact ⟨0, Nat.zero_le _, rfl, rfl⟩
      case round =>
        obtain ⟨j, hj, rfl, rfl⟩ := hrel
        by_cases hlt2 : j < 8
        · have hp2 : (j : Int) < 8 := by omega
          have hsl := UsCrc.steps_lt j X hxl
          have hnx := steps_succ' j X
          have Hn := Lib.hid hnx
          clear hnx
          generalize UsCrc.steps j X = S at *
          have ha := and1_u32 S hsl
          by_cases hbit : S % 2 = 1
          · have hstep : UsCrc.step S = S / 2 ^^^ 3988292384 := by unfold UsCrc.step; rw [if_pos hbit]; rfl
            have hd : (S : Int) / 2 = ((S / 2 : Nat) : Int) := by omega
            have hx2 : bits .xor .u32 ((S / 2 : Nat) : Int) 3988292384 = ((S / 2 ^^^ 3988292384 : Nat) : Int) := xor_u32 (S / 2) 3988292384 (by omega) (by decide)
            rw [← hstep] at hx2
            rw [hbit] at ha
            have Hd := Lib.hid hd
            clear hd
            have hd : (S : Int) / 2 = ((S / 2 : Nat) : Int) := Hd.out
            generalize S / 2 = D at *
            go_wp2
            go_round
            case rel => exact ⟨j + 1, by omega, by go_num, by rw [Hn.out, hstep]⟩
            case measure => simp [intOf]; omega
          · have hstep : UsCrc.step S = S / 2 := by unfold UsCrc.step; rw [if_neg hbit]
            have hbit0 : S % 2 = 0 := by omega
            rw [hbit0] at ha
            go_wp2
            go_round
            case rel => exact ⟨j + 1, by omega, by go_num, by rw [Hn.out, hstep]; rfl⟩
            case measure => simp [intOf]; omega
        · obtain rfl : j = 8 := by omega
          go_wp2
          go_round
          case rel => exact ⟨k + 1, by omega, by go_num, by rw [Hs.out]⟩
          case measure => simp [intOf]; omega
    · obtain rfl : k = l.length := by omega
      rw [List.take_length]
      have hr := UsCrc.run_lt l UsCrc.ones (by decide)
      have hx := not_u32 _ hr
      have Hx := Lib.hid hx
      clear hx
      generalize hR : UsCrc.run UsCrc.ones l = R at *
      have HR := Lib.hid hR
      clear hR
      go_wp2
      go_ret
      refine ⟨congrArg (fun n => Ending.returned (.int .u32 n)) ?_, rfl⟩
      rw [UsCrc.crc, HR.out]; exact Hx.out
end Go.Proofs.YteeenihhehmmoaaDoor
