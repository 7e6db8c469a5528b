/- The contracts of wire.KeyInt and of the reference's: eight bytes, the highest first. -/
import Derived.Test.YteeenihhehmmoaaDoorPutInt
set_option linter.unusedVariables false
set_option linter.unusedSimpArgs false
namespace Go.Proofs.YteeenihhehmmoaaDoor
open Go.RowKit

/-- so many bytes of a number, the highest first -/
def beN : Nat → Nat → List UInt8
  | 0, _ => []
  | k + 1, K => beN k (K / 256) ++ [UInt8.ofNat K]
/-- a number as one that is not below 0, in its order -/
def up (n : Int) : Nat := (n + 9223372036854775808).toNat
/-- a number's part of a key -/
def keyI (n : Int) : List UInt8 := beN 8 (up n)
theorem beN_len (k : Nat) : ∀ K, (beN k K).length = k := by
  induction k with
  | zero => intro K; rfl
  | succ k ih => intro K; simp [beN, ih]
theorem low_xor_pow (c k : Nat) : c = c % 2 ^ k ^^^ (c / 2 ^ k * 2 ^ k) := by
  apply Nat.eq_of_testBit_eq
  intro i
  rw [Nat.testBit_xor, Nat.testBit_mod_two_pow, Nat.testBit_mul_two_pow, Nat.testBit_div_two_pow]
  by_cases h : i < k
  · simp [h, Nat.not_le.2 h]
  · have h' : k ≤ i := by omega
    simp [h, h']
theorem xor_top (x : Nat) (h : x < 18446744073709551616) : x ^^^ 9223372036854775808 = (x + 9223372036854775808) % 18446744073709551616 := by
  have key : ∀ y, y < 9223372036854775808 → y ^^^ 9223372036854775808 = y + 9223372036854775808 := fun y hy => by
    have e := low_xor_pow (y + 9223372036854775808) 63
    rw [show (2 : Nat) ^ 63 = 9223372036854775808 from rfl, show (y + 9223372036854775808) % 9223372036854775808 = y by omega,
      show (y + 9223372036854775808) / 9223372036854775808 * 9223372036854775808 = 9223372036854775808 by omega] at e
    exact e.symm
  by_cases hx : x < 9223372036854775808
  · rw [key x hx]; omega
  · have e := key (x - 9223372036854775808) (by omega)
    rw [show x - 9223372036854775808 + 9223372036854775808 = x by omega] at e
    have e2 := congrArg (· ^^^ 9223372036854775808) e
    simp only [Nat.xor_assoc, Nat.xor_self, Nat.xor_zero] at e2
    rw [← e2]; omega
theorem up_pos (n : Int) (h0 : 0 ≤ n) (h2 : n ≤ 9223372036854775807) : bits .xor .u64 n 9223372036854775808 = ((up n : Nat) : Int) := by
  obtain ⟨m, rfl⟩ := Int.eq_ofNat_of_zero_le h0
  have := xor_u64 m 9223372036854775808 (by omega) (by omega)
  rw [show ((9223372036854775808 : Nat) : Int) = 9223372036854775808 from rfl] at this
  rw [this, xor_top _ (by omega), up]; omega
theorem up_neg (n : Int) (h0 : ¬ 0 ≤ n) (h1 : -9223372036854775808 ≤ n) : bits .xor .u64 (IntKind.u64.wrap n) 9223372036854775808 = ((up n : Nat) : Int) := by
  obtain ⟨m, hm⟩ := Int.eq_ofNat_of_zero_le (show 0 ≤ IntKind.u64.wrap n by rw [IntKind.wrap_u64]; omega)
  have h3 := hm
  rw [IntKind.wrap_u64] at h3
  have := xor_u64 m 9223372036854775808 (by omega) (by omega)
  rw [show ((9223372036854775808 : Nat) : Int) = 9223372036854775808 from rfl] at this
  rw [hm, this, xor_top _ (by omega), up]; omega
theorem up_lt (n : Int) (h1 : -9223372036854775808 ≤ n) (h2 : n ≤ 9223372036854775807) : up n < 18446744073709551616 := by unfold up; omega

/-- one byte more -/
theorem beN_step (K t s : Nat) (ht : t ≤ 7) (hs : s = 8 * (7 - t)) : beN (t + 1) (K / 256 ^ (7 - t)) = beN t (K / 256 ^ (8 - t)) ++ [UInt8.ofNat (K / 2 ^ s)] := by
  have e1 : 256 ^ (8 - t) = 256 ^ (7 - t) * 256 := by rw [show 8 - t = 7 - t + 1 by omega, Nat.pow_succ]
  have e2 : 2 ^ s = 256 ^ (7 - t) := by rw [hs, Nat.pow_mul]
  rw [beN, Nat.div_div_eq_div_mul, ← e1, ← e2]
theorem byte_of (K s : Nat) : (K : Int) / 2 ^ s % 256 = (((UInt8.ofNat (K / 2 ^ s)).toNat : Nat) : Int) := by
  rw [UInt8.toNat_ofNat']
  have : (K : Int) / 2 ^ s = ((K / 2 ^ s : Nat) : Int) := by simp
  rw [this]; omega

set_option maxHeartbeats 1000000 in
theorem keyInt_any (v : Value) (l : List UInt8) (n : Int) (w : World) (hv : IsB w v l) (hl : l.length ≤ 140737488355300) (h1 : -9223372036854775808 ≤ n) (h2 : n ≤ 9223372036854775807) :
    Calls Tryd.prog 21 #[v, .int .i64 n] w (PutEnd 5 w.heap.size w (l ++ keyI n)) := by
  have Hz : ∃ K, K < 18446744073709551616 ∧ Hid (up n = K) := ⟨_, up_lt n h1 h2, rfl⟩
  by_cases h0 : 0 ≤ n
  all_goals
    first | have hx := up_pos n h0 h2 | have hx := up_neg n h0 h1
    obtain ⟨K, hK, HK⟩ := Hz
    rw [HK.out] at hx
    go_enter Tryd.func21, Tryd.ntmps21
    go_wp2_with (go_at_call 33; refine (clone_any _ l _ hv (by omega)).mono ?_; rintro e w' ⟨u, rfl, hm, hb⟩)
    go_loopw [0, 6] (fun b i wr => ∃ (e : Int) (t : Nat), i = .int .i64 e ∧ Hid (e = 56 - 8 * (t : Int)) ∧ -8 ≤ e ∧ e ≤ 56 ∧ t ≤ 8 ∧ Mine 5 w.heap.size wr b (l ++ beN t (K / 256 ^ (8 - t))) ∧ Below w.heap.size w wr) (fun _ i _ => (intOf i + 8).toNat)
    case atStart => exact ⟨56, 0, rfl, Lib.hid rfl, by omega, by omega, by omega, by simpa [beN] using hm, hb⟩
    case round =>
      obtain ⟨e, t, rfl, He, he1, he2, ht, hown, hbl⟩ := hrel
      have hsz := hbl.size
      have hbl8 := beN_len t (K / 256 ^ (8 - t))
      have Hbl8 := Lib.hid hbl8
      clear hbl8
      by_cases hlt : 0 ≤ e
      · obtain ⟨s, rfl⟩ := Int.eq_ofNat_of_zero_le hlt
        have hib := isB_byte wr 5 ((K : Int) / 2 ^ s % 256) _ (byte_of K s)
        have hs7 : t ≤ 7 := by have := He.out; omega
        have Hst := Lib.hid (beN_step K t s hs7 (by have := He.out; omega))
        generalize UInt8.ofNat (K / 2 ^ s) = x at *
        go_wp2_with (at_builtin; refine wpList_bytes rfl (.tmp 16) (.tmp 21) 24 rfl w.heap.size 5 info_byte Tryd.underlying24 _ _ rfl (hown.alloc _) _ [x] rfl hib (by rw [List.length_append, Hbl8.out]; simp; omega) (by simp; omega) ?_)
        intro v' w' hm' _ hb' _ _
        clear hown
        go_wp2
        go_roundw
        case rel =>
          refine ⟨(s : Int) - 8, t + 1, rfl, ?_, by omega, by omega, by omega, ?_, hbl.trans (((Below.refl _ _).alloc (by omega) _).trans hb')⟩
          · have := He.out; exact Lib.hid (by omega)
          · rw [show 8 - (t + 1) = 7 - t by omega, Hst.out, ← List.append_assoc]
            first | exact hm' | (rw [List.append_assoc]; exact hm')
        case measure => simp [intOf]; omega
      · have he8 : t = 8 := by have := He.out; omega
        subst he8
        clear Hbl8
        go_wp2
        go_ret
        refine ⟨_, rfl, ?_, hbl⟩
        rw [keyI, HK.out]
        simpa using hown

set_option maxHeartbeats 1000000 in
theorem refKeyInt_any (n : Int) (w : World) (h1 : -9223372036854775808 ≤ n) (h2 : n ≤ 9223372036854775807) :
    Calls Tryd.prog 30 #[.int .i64 n] w (PutEnd 5 w.heap.size w (keyI n)) := by
  have Hz : ∃ K, K < 18446744073709551616 ∧ Hid (up n = K) := ⟨_, up_lt n h1 h2, rfl⟩
  by_cases h0 : 0 ≤ n
  all_goals
    first | have hx := up_pos n h0 h2 | have hx := up_neg n h0 h1
    obtain ⟨K, hK, HK⟩ := Hz
    rw [HK.out] at hx
    go_enter Tryd.func30, Tryd.ntmps30
    go_wp2
    go_loopw [4, 5] (fun b i wr => ∃ (e : Int) (t : Nat), i = .int .i64 e ∧ Hid (e = 7 - (t : Int)) ∧ -1 ≤ e ∧ e ≤ 7 ∧ t ≤ 8 ∧ Mine 5 w.heap.size wr b (beN t (K / 256 ^ (8 - t))) ∧ Below w.heap.size w wr) (fun _ i _ => (intOf i + 8).toNat)
    case atStart => exact ⟨7, 0, rfl, Lib.hid rfl, by omega, by omega, by omega, by simpa [beN] using Mine.nil _ _ _, Below.refl _ _⟩
    case round =>
      obtain ⟨e, t, rfl, He, he1, he2, ht, hown, hbl⟩ := hrel
      have hsz := hbl.size
      have hbl8 := beN_len t (K / 256 ^ (8 - t))
      have Hbl8 := Lib.hid hbl8
      clear hbl8
      by_cases hlt : 0 ≤ e
      · obtain ⟨s, rfl⟩ := Int.eq_ofNat_of_zero_le hlt
        have hib := isB_byte wr 5 ((K : Int) / 2 ^ (8 * s) % 256) _ (byte_of K (8 * s))
        have hs7 : t ≤ 7 := by have := He.out; omega
        have Hst := Lib.hid (beN_step K t (8 * s) hs7 (by have := He.out; omega))
        generalize UInt8.ofNat (K / 2 ^ (8 * s)) = x at *
        go_wp2_with (at_builtin; refine wpList_bytes rfl (.tmp 13) (.tmp 19) 24 rfl w.heap.size 5 info_byte Tryd.underlying24 _ _ rfl (hown.alloc _) _ [x] rfl hib (by rw [Hbl8.out]; simp; omega) (by simp; omega) ?_)
        intro v' w' hm' _ hb' _ _
        clear hown
        go_wp2
        go_roundw
        case rel =>
          refine ⟨(s : Int) - 1, t + 1, rfl, ?_, by omega, by omega, by omega, ?_, hbl.trans (((Below.refl _ _).alloc (by omega) _).trans hb')⟩
          · have := He.out; exact Lib.hid (by omega)
          · rw [show 8 - (t + 1) = 7 - t by omega, Hst.out]; exact hm'
        case measure => simp [intOf]; omega
      · have he8 : t = 8 := by have := He.out; omega
        subst he8
        clear Hbl8
        go_wp2
        go_ret
        refine ⟨_, rfl, ?_, hbl⟩
        rw [keyI, HK.out]
        simpa using hown
end Go.Proofs.YteeenihhehmmoaaDoor
