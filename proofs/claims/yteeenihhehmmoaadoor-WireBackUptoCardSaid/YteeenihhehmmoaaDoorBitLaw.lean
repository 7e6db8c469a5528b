/- Plain laws on bits of numbers, in the walk's own spelling. -/
import Derived.WalkKit
import Derived.Test.YteeenihhehmmoaaDoorNumLaw
set_option linter.unusedVariables false
set_option linter.unusedSimpArgs false
namespace Go.Proofs.YteeenihhehmmoaaDoor
open Go Go.RowKit
theorem xor_ones64 (a : Nat) (h : a < 18446744073709551616) : a ^^^ 18446744073709551615 = 18446744073709551615 - a := by
  have h1 : (BitVec.ofNat 64 a ^^^ BitVec.allOnes 64).toNat = (~~~ BitVec.ofNat 64 a).toNat := by rw [BitVec.xor_allOnes]
  rw [BitVec.toNat_xor, BitVec.toNat_not, BitVec.toNat_ofNat, BitVec.toNat_allOnes, Nat.mod_eq_of_lt (by omega)] at h1
  simpa using h1
theorem xor_u64 (x y : Nat) (hx : x < 18446744073709551616) (hy : y < 18446744073709551616) : bits .xor .u64 (x : Int) (y : Int) = ((x ^^^ y : Nat) : Int) := by
  simpa using u64_xor (x : Int) (y : Int) (by omega) (by omega) (by omega) (by omega)
theorem or_u64 (x y : Nat) (hx : x < 18446744073709551616) (hy : y < 18446744073709551616) : bits .or .u64 (x : Int) (y : Int) = ((x ||| y : Nat) : Int) := by
  simpa using u64_or (x : Int) (y : Int) (by omega) (by omega) (by omega) (by omega)
theorem and_u64 (x y : Nat) (hx : x < 18446744073709551616) (hy : y < 18446744073709551616) : bits .and .u64 (x : Int) (y : Int) = ((x &&& y : Nat) : Int) := by
  simpa using u64_and (x : Int) (y : Int) (by omega) (by omega) (by omega) (by omega)
theorem xor_u64_zero (n : Int) (h0 : 0 ≤ n) (h1 : n < 18446744073709551616) : bits .xor .u64 n 0 = n := by
  obtain ⟨m, rfl⟩ := Int.eq_ofNat_of_zero_le h0
  have := xor_u64 m 0 (by omega) (by omega)
  simpa using this
theorem xor_u64_ones (n : Int) (h0 : 0 ≤ n) (h1 : n < 18446744073709551616) : bits .xor .u64 n 18446744073709551615 = 18446744073709551615 - n := by
  obtain ⟨m, rfl⟩ := Int.eq_ofNat_of_zero_le h0
  have := xor_u64 m 18446744073709551615 (by omega) (by omega)
  rw [xor_ones64 m (by omega)] at this
  rw [show ((18446744073709551615 : Nat) : Int) = 18446744073709551615 from rfl] at this
  rw [this]; omega
theorem or128 (u : Nat) : (u % 256) ||| 128 = u % 128 + 128 := by
  have h : ∀ x : Fin 256, x.val ||| 128 = x.val % 128 + 128 := by decide +kernel
  have h := h ⟨u % 256, by omega⟩
  simp only at h
  rw [h]; omega
theorem or128_u8 (u : Nat) : bits .or .u8 ((u : Int) % 256) 128 = (((UInt8.ofNat (u % 128 + 128)).toNat : Nat) : Int) := by
  have h := u8_or ((u : Int) % 256) 128 (by omega) (by omega) (by omega) (by omega)
  rw [h, UInt8.toNat_ofNat', show ((u : Int) % 256).toNat = u % 256 by omega, show (128 : Int).toNat = 128 from rfl, or128]
  omega
theorem low_u8 (u : Nat) : (u : Int) % 256 = (((UInt8.ofNat u).toNat : Nat) : Int) := by
  rw [UInt8.toNat_ofNat']; omega
theorem and127_u8 (b : Nat) (hb : b < 256) : bits .and .u8 (b : Int) 127 = ((b % 128 : Nat) : Int) := by
  have h := u8_and (b : Int) 127 (by omega) (by omega) (by omega) (by omega)
  rw [h, Int.toNat_natCast, show (127 : Int).toNat = 2 ^ 7 - 1 from rfl, Nat.and_two_pow_sub_one_eq_mod]
theorem wrap_u64_nat (n : Nat) : IntKind.u64.wrap (n : Int) = ((n % 18446744073709551616 : Nat) : Int) := by rw [IntKind.wrap_u64]; omega
/-- seven bits more -/
theorem or7 (U b k : Nat) (hU : U < 2 ^ (7 * k)) (hb : b < 256) (hk : k ≤ 9) :
    bits .or .u64 (U : Int) (IntKind.u64.wrap (IntKind.u64.wrap (bits .and .u8 (b : Int) 127) * 2 ^ (7 * k))) = (((U + b % 128 * 2 ^ (7 * k)) % 18446744073709551616 : Nat) : Int) := by
  have hp : 2 ^ (7 * k) ≤ 2 ^ 63 := Nat.pow_le_pow_right (by decide) (by omega)
  have hp2 : (2 : Nat) ^ 64 = 2 ^ (7 * k) * 2 ^ (64 - 7 * k) := by rw [← Nat.pow_add]; congr 1; omega
  rw [and127_u8 b hb, wrap_u64_nat, Nat.mod_eq_of_lt (by omega : b % 128 < 18446744073709551616)]
  rw [show ((b % 128 : Nat) : Int) * 2 ^ (7 * k) = ((b % 128 * 2 ^ (7 * k) : Nat) : Int) by simp, wrap_u64_nat]
  have e : b % 128 * 2 ^ (7 * k) % 18446744073709551616 = 2 ^ (7 * k) * (b % 128 % 2 ^ (64 - 7 * k)) := by
    rw [show (18446744073709551616 : Nat) = 2 ^ 64 from rfl, hp2, Nat.mul_comm (b % 128), Nat.mul_mod_mul_left]
  rw [or_u64 U _ (by omega) (Nat.mod_lt _ (by decide)), e, Nat.or_comm, ← Nat.two_pow_add_eq_or_of_lt hU]
  have e2 : (U + b % 128 * 2 ^ (7 * k)) % 18446744073709551616 = 2 ^ (7 * k) * (b % 128 % 2 ^ (64 - 7 * k)) + U := by
    rw [show (18446744073709551616 : Nat) = 2 ^ 64 from rfl, hp2, Nat.mul_comm (b % 128), Nat.mod_mul]
    rw [Nat.add_mul_mod_self_left, Nat.mod_eq_of_lt hU, Nat.add_mul_div_left _ _ (Nat.two_pow_pos _), Nat.div_eq_of_lt hU, Nat.zero_add, Nat.add_comm]
  rw [e2]
theorem and1_u64 (u : Nat) (h : u < 18446744073709551616) : bits .and .u64 (u : Int) 1 = ((u % 2 : Nat) : Int) := by
  have h := and_u64 u 1 h (by decide)
  rw [show ((1 : Nat) : Int) = 1 from rfl] at h
  rw [h, show (1 : Nat) = 2 ^ 1 - 1 from rfl, Nat.and_two_pow_sub_one_eq_mod]
theorem xor_i64_zero (n : Int) (h0 : 0 ≤ n) (h1 : n < 9223372036854775808) : bits .xor .i64 n 0 = n := by
  obtain ⟨m, rfl⟩ := Int.eq_ofNat_of_zero_le h0
  show IntKind.i64.wrap (((BitVec.ofInt 64 (m : Int) ^^^ BitVec.ofInt 64 0).toNat : Nat) : Int) = _
  rw [BitVec.toNat_xor, BitVec.ofInt_natCast, BitVec.toNat_ofNat, show (BitVec.ofInt 64 0).toNat = 0 from rfl, Nat.xor_zero, Nat.mod_eq_of_lt (by omega), IntKind.wrap_i64]
  omega
theorem xor_i64_ones (n : Int) (h0 : 0 ≤ n) (h1 : n < 9223372036854775808) : bits .xor .i64 n (-1) = -n - 1 := by
  obtain ⟨m, rfl⟩ := Int.eq_ofNat_of_zero_le h0
  show IntKind.i64.wrap (((BitVec.ofInt 64 (m : Int) ^^^ BitVec.ofInt 64 (-1)).toNat : Nat) : Int) = _
  rw [BitVec.toNat_xor, BitVec.ofInt_natCast, BitVec.toNat_ofNat, show (BitVec.ofInt 64 (-1)).toNat = 18446744073709551615 from rfl, Nat.mod_eq_of_lt (by omega), xor_ones64 m (by omega), IntKind.wrap_i64]
  omega
theorem zag_walk (u : Nat) (h : u < 18446744073709551616) : bits .xor .i64 ((u : Int) / 2) (wrap64 (-wrap64 (bits .and .u64 (u : Int) 1))) = zag u := by
  rw [and1_u64 u h]
  have e : ∀ x : Int, wrap64 x = IntKind.i64.wrap x := fun x => (IntWalk.i64_left x).symm
  by_cases h2 : u % 2 = 0
  · rw [h2, e, e, IntKind.wrap_i64, IntKind.wrap_i64]
    rw [show (-((((0 : Nat) : Int) + 9223372036854775808) % 18446744073709551616 - 9223372036854775808) + 9223372036854775808) % 18446744073709551616 - 9223372036854775808 = 0 from rfl]
    rw [xor_i64_zero _ (by omega) (by omega), zag, if_pos h2]
    omega
  · rw [show u % 2 = 1 by omega, e, e, IntKind.wrap_i64, IntKind.wrap_i64]
    rw [show (-((((1 : Nat) : Int) + 9223372036854775808) % 18446744073709551616 - 9223372036854775808) + 9223372036854775808) % 18446744073709551616 - 9223372036854775808 = -1 from rfl]
    rw [xor_i64_ones _ (by omega) (by omega), zag, if_neg h2]
    omega
end Go.Proofs.YteeenihhehmmoaaDoor
