/- The contracts of wire.TakeKeyInt and of the reference's. -/
import Derived.Test.YteeenihhehmmoaaDoorTakeInt
import Derived.Test.YteeenihhehmmoaaDoorKeyInt
set_option linter.unusedVariables false
set_option linter.unusedSimpArgs false
namespace Go.Proofs.YteeenihhehmmoaaDoor
open Go.RowKit

/-- the number that bytes say, the highest first -/
def beRd (U : Nat) (l : List UInt8) : Nat := l.foldl (fun u c => u * 256 + c.toNat) U
/-- what TakeKeyInt answers -/
def takeKI (l : List UInt8) (at_ : Int) : Int × Int × Bool :=
  if at_ < 0 ∨ (l.length : Int) < at_ ∨ (l.length : Int) - at_ < 8 then (0, 0, false) else ((beRd 0 ((l.drop at_.toNat).take 8) : Int) - 9223372036854775808, at_ + 8, true)
theorem takeKI_out {l : List UInt8} {n : Int} (h : n < 0 ∨ (l.length : Int) < n ∨ (l.length : Int) - n < 8) : takeKI l n = (0, 0, false) := by rw [takeKI, if_pos h]
theorem takeKI_in {l : List UInt8} {m : Nat} (h : m + 8 ≤ l.length) : takeKI l m = ((beRd 0 ((l.drop m).take 8) : Int) - 9223372036854775808, (m : Int) + 8, true) := by
  rw [takeKI, if_neg (by omega), Int.toNat_natCast]
theorem beRd_append (U : Nat) (a b : List UInt8) : beRd U (a ++ b) = beRd (beRd U a) b := by simp [beRd]
theorem beRd_lt (l : List UInt8) : ∀ U k, U < 256 ^ k → beRd U l < 256 ^ (k + l.length) := by
  induction l with
  | nil => intro U k h; simpa [beRd] using h
  | cons c r ih =>
    intro U k h
    have h2 : U * 256 + c.toNat < 256 ^ (k + 1) := by rw [Nat.pow_succ]; have := c.toNat_lt; omega
    have := ih _ _ h2
    rw [show k + (c :: r).length = k + 1 + r.length by simp; omega]
    exact this
theorem or8 (U b : Nat) (hU : U < 72057594037927936) (hb : b < 256) : bits .or .u64 ((U : Int) * 256) (b : Int) = ((U * 256 + b : Nat) : Int) := by
  have := or_u64 (U * 256) b (by omega) (by omega)
  rw [show ((U * 256 : Nat) : Int) = (U : Int) * 256 by omega] at this
  rw [this, Nat.mul_comm U, show (256 : Nat) = 2 ^ 8 from rfl, ← Nat.two_pow_add_eq_or_of_lt (by omega : b < 2 ^ 8)]
theorem down_walk (u : Nat) (h : u < 18446744073709551616) : wrap64 (bits .xor .u64 (u : Int) 9223372036854775808) = (u : Int) - 9223372036854775808 := by
  have := xor_u64 u 9223372036854775808 h (by omega)
  rw [show ((9223372036854775808 : Nat) : Int) = 9223372036854775808 from rfl] at this
  rw [this, xor_top u h]
  unfold wrap64
  omega

set_option maxHeartbeats 1000000 in
theorem takeKeyInt_any (v : Value) (l : List UInt8) (n : Int) (w : World) (hv : IsB w v l) (hl : l.length ≤ 140737488355328) (h1 : -9223372036854775808 ≤ n) (h2 : n ≤ 9223372036854775807) :
    Calls Tryd.prog 17 #[v, .int .i64 n] w fun e w' => e = .returned (three (takeKI l n)) ∧ w = w' := by
  have hv' := hv
  obtain ⟨a, cap, rfl, hlc, hm, hnil, hc⟩ := hv'
  unfold maxLen at hm
  have Hc := Lib.hid hc
  clear hc
  by_cases hlo : n < 0
  · go_enter Tryd.func17, Tryd.ntmps17
    go_wp2
    go_ret3
    refine ⟨?_, rfl⟩
    rw [takeKI_out (.inl hlo)]
    rfl
  · by_cases hhi : (l.length : Int) < n
    · go_enter Tryd.func17, Tryd.ntmps17
      go_wp2
      go_ret3
      refine ⟨?_, rfl⟩
      rw [takeKI_out (.inr (.inl hhi))]
      rfl
    · obtain ⟨m, rfl⟩ := Int.eq_ofNat_of_zero_le (show 0 ≤ n by omega)
      by_cases h8 : (l.length : Int) - (m : Int) < 8
      · go_enter Tryd.func17, Tryd.ntmps17
        go_wp2
        go_ret3
        refine ⟨?_, rfl⟩
        rw [takeKI_out (.inr (.inr h8))]
        rfl
      · have hml : m + 8 ≤ l.length := by omega
        have hsl := fun w => run_cut_lh (P := Tryd.prog) w Tryd.underlying24 info_byte a l.length cap m (m + 8) (m : Int) ((m : Int) + 8) rfl (by omega) (by omega) (by omega)
        have hcut := hv.cut m (m + 8) (by omega) hml
        rw [show m + 8 - m = 8 by omega] at hcut hsl
        rw [show (l.take (m + 8)).drop m = (l.drop m).take 8 by rw [List.drop_take]; congr 1; omega] at hcut
        have Htk := Lib.hid (takeKI_in hml)
        have hL8 : ((l.drop m).take 8).length = 8 := by simp; omega
        have HL8 := Lib.hid hL8
        clear hL8
        generalize (l.drop m).take 8 = L at *
        obtain ⟨x, rfl⟩ : ∃ x, a = some x := by
          cases a with
          | none => have := hnil rfl; omega
          | some x => exact ⟨x, rfl⟩
        obtain ⟨y, hy⟩ : ∃ y, cutA (some x) cap m = some y := by unfold cutA; split <;> simp
        rw [hy] at hcut hsl
        obtain ⟨_, cap', hv2, _, _, _, hc2⟩ := hcut
        simp only [Value.slice.injEq] at hv2
        obtain ⟨rfl, hbad, rfl⟩ := hv2
        clear hbad
        obtain ⟨hs, hcs⟩ := hc2 _ rfl
        obtain ⟨yb, yo, ys⟩ := y
        obtain rfl : ys = none := hs (by have := HL8.out; omega)
        have Hcs := Lib.hid hcs
        clear hcs hc2 hy Hc
        go_enter Tryd.func17, Tryd.ntmps17
        go_wp2
        go_loop [7, 31] (fun u i => ∃ k : Nat, k ≤ 8 ∧ i = .int .i64 k ∧ u = .int .u64 (beRd 0 (L.take k) : Nat)) (fun _ i => 8 - (intOf i).toNat)
        case atStart => exact ⟨0, by omega, rfl, rfl⟩
        case round =>
          obtain ⟨k, hk, rfl, rfl⟩ := hrel
          by_cases hlt : k < 8
          · have hkL : k < L.length := by have := HL8.out; omega
            have hcell := Hcs.out k hkL
            have hb8 : (L[k]).toNat < 256 := (L[k]).toNat_lt
            have hU := beRd_lt (L.take k) 0 0 (by decide)
            rw [List.length_take, Nat.zero_add, Nat.min_eq_left (by omega)] at hU
            have hU2 : beRd 0 (L.take k) < 72057594037927936 := Nat.lt_of_lt_of_le hU (by
              have : 256 ^ k ≤ 256 ^ 7 := Nat.pow_le_pow_right (by decide) (by omega)
              exact this)
            have Hst : Hid (beRd 0 (L.take (k + 1)) = beRd 0 (L.take k) * 256 + (L[k]).toNat) := by
              refine Lib.hid ?_
              rw [List.take_succ_eq_append_getElem hkL, beRd_append]; rfl
            clear hU
            have hor := or8 (beRd 0 (L.take k)) (L[k]).toNat hU2 hb8
            generalize (L[k]).toNat = b at *
            generalize beRd 0 (L.take k) = U at *
            rw [← Hst.out] at hor
            have hp : (k : Int) < 8 := by omega
            go_wp2
            go_round
            case rel => exact ⟨k + 1, by omega, by go_num, rfl⟩
            case measure => simp [intOf]; omega
          · obtain rfl : k = 8 := by omega
            have hfull : L.take 8 = L := List.take_of_length_le (by have := HL8.out; omega)
            rw [hfull]
            have hU := beRd_lt L 0 0 (by decide)
            rw [HL8.out] at hU
            have hU2 : beRd 0 L < 18446744073709551616 := hU
            clear hU
            have Hdw := Lib.hid (down_walk (beRd 0 L) hU2)
            go_wp2
            go_ret3
            refine ⟨?_, rfl⟩
            rw [Htk.out, ← Hdw.out]
            rfl

set_option maxHeartbeats 1000000 in
theorem refTakeKeyInt_any (v : Value) (l : List UInt8) (n : Int) (w : World) (hv : IsB w v l) (hl : l.length ≤ 140737488355328) (h1 : -9223372036854775808 ≤ n) (h2 : n ≤ 9223372036854775807) :
    Calls Tryd.prog 18 #[v, .int .i64 n] w fun e w' => e = .returned (three (takeKI l n)) ∧ w = w' := by
  have hv' := hv
  obtain ⟨a, cap, rfl, hlc, hm, hnil, hc⟩ := hv'
  unfold maxLen at hm
  have Hc := Lib.hid hc
  clear hc
  by_cases hlo : n < 0
  · go_enter Tryd.func18, Tryd.ntmps18
    go_wp2
    go_ret3
    refine ⟨?_, rfl⟩
    rw [takeKI_out (.inl hlo)]
    rfl
  · by_cases hhi : (l.length : Int) < n
    · go_enter Tryd.func18, Tryd.ntmps18
      go_wp2
      go_ret3
      refine ⟨?_, rfl⟩
      rw [takeKI_out (.inr (.inl hhi))]
      rfl
    · obtain ⟨m, rfl⟩ := Int.eq_ofNat_of_zero_le (show 0 ≤ n by omega)
      by_cases h8 : (l.length : Int) - (m : Int) < 8
      · go_enter Tryd.func18, Tryd.ntmps18
        go_wp2
        go_ret3
        refine ⟨?_, rfl⟩
        rw [takeKI_out (.inr (.inr h8))]
        rfl
      · have hml : m + 8 ≤ l.length := by omega
        have Htk := Lib.hid (takeKI_in hml)
        have hL8 : ((l.drop m).take 8).length = 8 := by simp; omega
        have HL8 := Lib.hid hL8
        clear hL8
        have HLk : ∀ k, (h : k < 8) → (h' : k < ((l.drop m).take 8).length) → ((l.drop m).take 8)[k] = l[m + k] := fun k h h' => by simp
        have HLk := Lib.hid HLk
        generalize hL : (l.drop m).take 8 = L at *
        clear hL
        obtain ⟨x, rfl⟩ : ∃ x, a = some x := by
          cases a with
          | none => have := hnil rfl; omega
          | some x => exact ⟨x, rfl⟩
        obtain ⟨xb, xo, xs⟩ := x
        obtain ⟨hs, hcs⟩ := Hc.out _ rfl
        obtain rfl : xs = none := hs (by omega)
        clear hs
        have Hcs := Lib.hid hcs
        clear hcs Hc
        go_enter Tryd.func18, Tryd.ntmps18
        go_wp2
        go_loop [7, 8] (fun u i => ∃ k : Nat, k ≤ 8 ∧ i = .int .i64 k ∧ u = .int .u64 (beRd 0 (L.take k) : Nat)) (fun _ i => 8 - (intOf i).toNat)
        case atStart => exact ⟨0, by omega, rfl, rfl⟩
        case round =>
          obtain ⟨k, hk, rfl, rfl⟩ := hrel
          by_cases hlt : k < 8
          · have hkL : k < L.length := by have := HL8.out; omega
            have hcell := Hcs.out (m + k) (by omega)
            rw [← HLk.out k hlt hkL] at hcell
            have hb8 : (L[k]).toNat < 256 := (L[k]).toNat_lt
            have hU := beRd_lt (L.take k) 0 0 (by decide)
            rw [List.length_take, Nat.zero_add, Nat.min_eq_left (by omega)] at hU
            have hU2 : beRd 0 (L.take k) < 72057594037927936 := Nat.lt_of_lt_of_le hU (by
              have : 256 ^ k ≤ 256 ^ 7 := Nat.pow_le_pow_right (by decide) (by omega)
              exact this)
            have Hst : Hid (beRd 0 (L.take (k + 1)) = beRd 0 (L.take k) * 256 + (L[k]).toNat) := by
              refine Lib.hid ?_
              rw [List.take_succ_eq_append_getElem hkL, beRd_append]; rfl
            clear hU
            have hor := or8 (beRd 0 (L.take k)) (L[k]).toNat hU2 hb8
            generalize (L[k]).toNat = b at *
            generalize beRd 0 (L.take k) = U at *
            rw [← Hst.out] at hor
            have hp : (k : Int) < 8 := by omega
            have hix1 : (m : Int) + (k : Int) < (l.length : Int) := by omega
            go_wp2
            go_round
            case rel => exact ⟨k + 1, by omega, by go_num, rfl⟩
            case measure => simp [intOf]; omega
          · obtain rfl : k = 8 := by omega
            have hfull : L.take 8 = L := List.take_of_length_le (by have := HL8.out; omega)
            rw [hfull]
            have hU := beRd_lt L 0 0 (by decide)
            rw [HL8.out] at hU
            have hU2 : beRd 0 L < 18446744073709551616 := hU
            clear hU
            have Hdw := Lib.hid (down_walk (beRd 0 L) hU2)
            go_wp2
            go_ret3
            refine ⟨?_, rfl⟩
            rw [Htk.out, ← Hdw.out]
            rfl
end Go.Proofs.YteeenihhehmmoaaDoor
