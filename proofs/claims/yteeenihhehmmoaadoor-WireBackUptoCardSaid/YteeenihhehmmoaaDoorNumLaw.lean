/- Plain law: a number's bytes. -/
set_option linter.unusedVariables false
set_option linter.unusedSimpArgs false
namespace Go.Proofs.YteeenihhehmmoaaDoor
/-- a number as one that is not below 0 -/
def zig (n : Int) : Nat := if 0 ≤ n then (2 * n).toNat else (-2 * n - 1).toNat
/-- and back -/
def zag (u : Nat) : Int := if u % 2 = 0 then (u / 2 : Nat) else -((u / 2 : Nat) : Int) - 1
/-- its bytes, seven bits to a byte -/
def uv (u : Nat) : List UInt8 := if u < 128 then [UInt8.ofNat u] else UInt8.ofNat (u % 128 + 128) :: uv (u / 128)
termination_by u
decreasing_by omega
/-- a number's bytes -/
def intB (n : Int) : List UInt8 := uv (zig n)
theorem uv_small (u : Nat) (h : u < 128) : uv u = [UInt8.ofNat u] := by rw [uv, if_pos h]
theorem uv_big (u : Nat) (h : ¬ u < 128) : uv u = UInt8.ofNat (u % 128 + 128) :: uv (u / 128) := by rw [uv, if_neg h]
theorem uv_len (k : Nat) : ∀ u, u < 128 ^ (k + 1) → 1 ≤ (uv u).length ∧ (uv u).length ≤ k + 1 := by
  induction k with
  | zero => intro u h; rw [uv_small u (by simpa using h)]; simp
  | succ k ih =>
    intro u h
    by_cases hs : u < 128
    · rw [uv_small u hs]; simp
    · rw [uv_big u hs]
      have := ih (u / 128) (by rw [Nat.pow_succ] at h; omega)
      simp only [List.length_cons]
      omega
theorem uv_len10 (u : Nat) (h : u < 18446744073709551616) : 1 ≤ (uv u).length ∧ (uv u).length ≤ 10 := uv_len 9 u (by simp; omega)
theorem zig_lt (n : Int) (h1 : -9223372036854775808 ≤ n) (h2 : n ≤ 9223372036854775807) : zig n < 18446744073709551616 := by
  unfold zig; split <;> omega
theorem zag_zig (n : Int) : zag (zig n) = n := by
  unfold zig zag
  split <;> split <;> omega
theorem zig_zag (u : Nat) : zig (zag u) = u := by
  unfold zig zag
  split <;> split <;> omega
theorem zag_bound (u : Nat) (h : u < 18446744073709551616) : -9223372036854775808 ≤ zag u ∧ zag u ≤ 9223372036854775807 := by
  unfold zag; split <;> omega
theorem intB_len (n : Int) (h1 : -9223372036854775808 ≤ n) (h2 : n ≤ 9223372036854775807) : 1 ≤ (intB n).length ∧ (intB n).length ≤ 10 := uv_len10 _ (zig_lt n h1 h2)

/-- reading on, from byte i on, U being read: the number, how many bytes; 0: none -/
def rdF (i U : Nat) : List UInt8 → Nat × Nat
  | [] => (0, 0)
  | c :: r => if (i = 9 ∧ 1 < c.toNat) ∨ 9 < i then (0, 0) else if c.toNat < 128 then (U + c.toNat % 128 * 2 ^ (7 * i), i + 1) else rdF (i + 1) (U + c.toNat % 128 * 2 ^ (7 * i)) r
/-- which number stands at the head of bytes, and how many bytes it takes -/
def dec (l : List UInt8) : Option (Nat × Nat) :=
  if (rdF 0 0 l).2 = 0 ∨ (1 < (rdF 0 0 l).2 ∧ l.getD ((rdF 0 0 l).2 - 1) 0 = 0) then none else some (rdF 0 0 l)
/-- an answer out of what was read -/
def pack (m : Int) : Option (Nat × Nat) → Int × Int × Bool
  | some (u, k) => (zag u, m + k, true)
  | none => (0, 0, false)
/-- what TakeInt answers -/
def takeI (l : List UInt8) (at_ : Int) : Int × Int × Bool :=
  if at_ < 0 ∨ (l.length : Int) < at_ then (0, 0, false) else pack at_ (dec (l.drop at_.toNat))
theorem takeI_out {l : List UInt8} {n : Int} (h : n < 0 ∨ (l.length : Int) < n) : takeI l n = (0, 0, false) := by rw [takeI, if_pos h]
theorem takeI_in {l : List UInt8} {m : Nat} (h : m ≤ l.length) : takeI l m = pack m (dec (l.drop m)) := by
  rw [takeI, if_neg (by omega), Int.toNat_natCast]
theorem ofNat_toNat_small (u : Nat) (h : u < 256) : (UInt8.ofNat u).toNat = u := by rw [UInt8.toNat_ofNat']; omega
theorem pow7 (i : Nat) : 2 ^ (7 * (i + 1)) = 128 * 2 ^ (7 * i) := by rw [Nat.mul_add, Nat.pow_add, Nat.mul_comm]
theorem rdF_uv (r : List UInt8) (n : Nat) : ∀ i U u, i + n = 9 → u < 2 ^ (64 - 7 * i) → rdF i U (uv u ++ r) = (U + u * 2 ^ (7 * i), i + (uv u).length) := by
  induction n with
  | zero =>
    intro i U u hi hu
    obtain rfl : i = 9 := by omega
    have hu' : u < 2 := by simpa using hu
    have e := ofNat_toNat_small u (by omega)
    rw [uv_small u (by omega)]
    simp only [List.cons_append, rdF, List.nil_append, e]
    rw [if_neg (by omega), if_pos (by omega)]
    simp
    omega
  | succ n ih =>
    intro i U u hi hu
    by_cases hs : u < 128
    · have e := ofNat_toNat_small u (by omega)
      rw [uv_small u hs]
      simp only [List.cons_append, rdF, List.nil_append, e]
      rw [if_neg (by omega), if_pos hs, Nat.mod_eq_of_lt hs]
      rfl
    · have e := ofNat_toNat_small (u % 128 + 128) (by omega)
      rw [uv_big u hs]
      simp only [List.cons_append, rdF, e]
      have hp : 2 ^ (64 - 7 * i) = 128 * 2 ^ (64 - 7 * (i + 1)) := by
        rw [show 64 - 7 * i = 64 - 7 * (i + 1) + 7 by omega, Nat.pow_add, Nat.mul_comm]
      rw [if_neg (by omega), if_neg (by omega), ih (i + 1) _ _ (by omega) (by omega), pow7]
      simp only [Prod.mk.injEq, List.length_cons]
      refine ⟨?_, by omega⟩
      rw [show (u % 128 + 128) % 128 = u % 128 by omega, ← Nat.mul_assoc, Nat.add_assoc, ← Nat.add_mul]
      congr 2
      omega
theorem rdF_inv (l : List UInt8) : ∀ i U u k, i ≤ 9 → rdF i U l = (u, k) → k ≠ 0 →
    i + 1 ≤ k ∧ k ≤ i + l.length ∧ ∃ d, u = U + d * 2 ^ (7 * i) ∧ d < 2 ^ (64 - 7 * i) ∧ ((k = i + 1 ∨ l.getD (k - 1 - i) 0 ≠ 0) → l.take (k - i) = uv d) := by
  induction l with
  | nil => intro i U u k _ h hk; simp only [rdF, Prod.mk.injEq] at h; omega
  | cons c r ih =>
    intro i U u k hi h hk
    simp only [rdF] at h
    split at h
    · simp only [Prod.mk.injEq] at h; omega
    · rename_i hc
      have hp : i < 9 → 2 ^ (64 - 7 * i) = 128 * 2 ^ (64 - 7 * (i + 1)) := fun hlt => by
        rw [show 64 - 7 * i = 64 - 7 * (i + 1) + 7 by omega, Nat.pow_add, Nat.mul_comm]
      split at h
      · rename_i hs
        simp only [Prod.mk.injEq] at h
        obtain ⟨rfl, rfl⟩ := h
        rw [Nat.mod_eq_of_lt hs]
        refine ⟨Nat.le_refl _, by simp, c.toNat, rfl, ?_, fun _ => ?_⟩
        · by_cases h9 : i = 9
          · subst h9; simp; omega
          · have := hp (by omega)
            have : 1 ≤ 2 ^ (64 - 7 * (i + 1)) := Nat.one_le_two_pow
            omega
        · rw [uv_small _ hs]
          simp
      · rename_i hs
        have h9 : i < 9 := by
          by_cases h9 : i = 9
          · exfalso; apply hc; left; exact ⟨h9, by omega⟩
          · omega
        obtain ⟨h1, h2, d, hd, hdb, ht⟩ := ih (i + 1) _ _ _ (by omega) h hk
        have h3 := hp h9
        refine ⟨by omega, by simp only [List.length_cons]; omega, c.toNat % 128 + 128 * d, ?_, by omega, fun hl => ?_⟩
        · rw [hd, pow7, Nat.add_assoc, Nat.add_mul]
          congr 2
          rw [← Nat.mul_assoc, Nat.mul_comm d 128]
        · have hl' : r.getD (k - 1 - (i + 1)) 0 ≠ 0 := by
            rcases hl with hl | hl
            · omega
            · rw [show k - 1 - i = (k - 1 - (i + 1)) + 1 by omega] at hl
              simpa using hl
          have ht' := ht (.inr hl')
          have hd0 : d ≠ 0 := by
            intro h0
            rw [h0, uv_small 0 (by omega)] at ht'
            have hk1 : k - (i + 1) = 1 := by
              have h5 := congrArg List.length ht'
              simp at h5
              omega
            rw [hk1] at ht'
            rw [show k - 1 - (i + 1) = 0 by omega] at hl'
            cases r with
            | nil => simp at ht'
            | cons y r => simp at ht' hl'; exact hl' ht'
          rw [show k - i = (k - (i + 1)) + 1 by omega, List.take_succ_cons, ht', uv_big (c.toNat % 128 + 128 * d) (by omega)]
          congr 1
          · apply UInt8.toNat_inj.1
            rw [UInt8.toNat_ofNat']
            have := c.toNat_lt
            omega
          · congr 1
            omega
theorem dec_uv (u : Nat) (h : u < 18446744073709551616) (r : List UInt8) : dec (uv u ++ r) = some (u, (uv u).length) := by
  have hr := rdF_uv r 9 0 0 u (by omega) (by simpa using h)
  have hl := uv_len10 u h
  simp only [Nat.mul_zero, Nat.pow_zero, Nat.mul_one, Nat.zero_add] at hr
  unfold dec
  rw [hr, if_neg]
  simp only
  rintro (h0 | ⟨h1, h2⟩)
  · omega
  · have hlast : ∀ n u, u < 128 ^ (n + 1) → 1 < (uv u).length → (uv u ++ r).getD ((uv u).length - 1) 0 ≠ 0 := by
      intro n
      induction n with
      | zero => intro u hu h1; rw [uv_small u (by simpa using hu)] at h1; simp at h1
      | succ n ih =>
        intro u hu h1
        by_cases hs : u < 128
        · rw [uv_small u hs] at h1; simp at h1
        · rw [uv_big u hs] at h1 ⊢
          simp only [List.length_cons, Nat.add_sub_cancel, List.cons_append]
          rcases Nat.lt_or_ge 1 (uv (u / 128)).length with hb | hb
          · have := ih (u / 128) (by rw [Nat.pow_succ] at hu; omega) hb
            rw [show (uv (u / 128)).length = (uv (u / 128)).length - 1 + 1 by omega]
            simpa using this
          · have hs2 : u / 128 < 128 := by
              rcases Nat.lt_or_ge (u / 128) 128 with hc | hc
              · exact hc
              · rw [uv_big (u / 128) (by omega)] at hb
                have := uv_len n (u / 128 / 128)
                simp only [List.length_cons] at hb
                have h6 : 1 ≤ (uv (u / 128 / 128)).length := by
                  rw [uv]; split <;> simp
                omega
            rw [uv_small _ hs2]
            simp only [List.length_cons, List.length_nil]
            intro h7
            have h8 : (UInt8.ofNat (u / 128)).toNat = 0 := by
              simp at h7; rw [h7]; rfl
            rw [ofNat_toNat_small _ (by omega)] at h8
            omega
    exact hlast 9 u (by simp; omega) h1 h2
theorem dec_inv {l : List UInt8} {u k : Nat} (h : dec l = some (u, k)) : u < 18446744073709551616 ∧ k = (uv u).length ∧ k ≤ l.length ∧ l.take k = uv u := by
  unfold dec at h
  split at h
  · cases h
  · rename_i hc
    have hr := Option.some.inj h
    rw [hr] at hc
    simp only at hc
    obtain ⟨h1, h2, d, hd, hdb, ht⟩ := rdF_inv l 0 0 u k (by omega) hr (by omega)
    simp only [Nat.mul_zero, Nat.pow_zero, Nat.mul_one, Nat.zero_add, Nat.sub_zero] at hd hdb ht h1 h2
    subst hd
    have ht' := ht (by
      by_cases hk : k = 1
      · exact .inl hk
      · refine .inr fun h0 => hc (.inr ⟨by omega, h0⟩))
    refine ⟨by simpa using hdb, ?_, h2, ht'⟩
    have := congrArg List.length ht'
    rw [List.length_take] at this
    omega
/-- seven bits a byte, summed within 64 bits -/
def acc7 (L : List UInt8) : Nat → Nat
  | 0 => 0
  | i + 1 => (acc7 L i + (L.getD i 0).toNat % 128 * 2 ^ (7 * i)) % 18446744073709551616
theorem acc7_lt (L : List UInt8) (i : Nat) : acc7 L i < 2 ^ (7 * i) := by
  induction i with
  | zero => simp [acc7]
  | succ i ih =>
    have h1 : (L.getD i 0).toNat % 128 * 2 ^ (7 * i) ≤ 127 * 2 ^ (7 * i) := Nat.mul_le_mul_right _ (by omega)
    have h2 := Nat.mod_le (acc7 L i + (L.getD i 0).toNat % 128 * 2 ^ (7 * i)) 18446744073709551616
    rw [acc7, pow7]
    omega
theorem acc7_lt64 (L : List UInt8) (i : Nat) : acc7 L i < 18446744073709551616 := by
  cases i with
  | zero => simp [acc7]
  | succ i => exact Nat.mod_lt _ (by decide)
theorem uv_get (i : Nat) : ∀ u (r : List UInt8), i < (uv u).length → ((uv u ++ r).getD i 0).toNat % 128 = u / 2 ^ (7 * i) % 128 := by
  induction i with
  | zero =>
    intro u r _
    by_cases hs : u < 128
    · rw [uv_small u hs]; simp
    · rw [uv_big u hs]; simp
  | succ i ih =>
    intro u r h
    by_cases hs : u < 128
    · rw [uv_small u hs] at h; simp at h
    · rw [uv_big u hs] at h ⊢
      have := ih (u / 128) r (by simpa using h)
      rw [pow7, ← Nat.div_div_eq_div_mul, ← this]
      simp
theorem uv_lt (n : Nat) : ∀ u, (uv u).length = n → u < 2 ^ (7 * n) := by
  induction n with
  | zero =>
    intro u h
    by_cases hs : u < 128
    · rw [uv_small u hs] at h; simp at h
    · rw [uv_big u hs] at h; simp at h
  | succ n ih =>
    intro u h
    by_cases hs : u < 128
    · have : 1 ≤ 2 ^ (7 * n) := Nat.one_le_two_pow
      rw [pow7]; omega
    · rw [uv_big u hs] at h
      have := ih (u / 128) (by simpa using h)
      rw [pow7]; omega
theorem acc7_uv (u : Nat) (hu : u < 18446744073709551616) (r : List UInt8) (i : Nat) (hi : i ≤ (uv u).length) : acc7 (uv u ++ r) i = u % 2 ^ (7 * i) := by
  induction i with
  | zero => simp [acc7]; omega
  | succ i ih =>
    rw [acc7, ih (by omega), uv_get i u r (by omega), pow7, Nat.mul_comm 128, Nat.mod_mul, Nat.mul_comm (2 ^ (7 * i)) (u / 2 ^ (7 * i) % 128)]
    apply Nat.mod_eq_of_lt
    have h1 : u % (2 ^ (7 * i) * 128) ≤ u := Nat.mod_le _ _
    rw [Nat.mod_mul, Nat.mul_comm (2 ^ (7 * i)) (u / 2 ^ (7 * i) % 128)] at h1
    omega
theorem acc7_dec {L : List UInt8} {u k : Nat} (h : dec L = some (u, k)) : acc7 L k = u ∧ uv u = L.take k := by
  obtain ⟨h1, h2, h3, h4⟩ := dec_inv h
  refine ⟨?_, h4.symm⟩
  have e : L = uv u ++ L.drop k := by rw [← h4, List.take_append_drop]
  have h5 := acc7_uv u h1 (L.drop k) k (by omega)
  rw [← e] at h5
  rw [h5, Nat.mod_eq_of_lt (uv_lt k u h2.symm)]
theorem dec_acc7 {L : List UInt8} {k : Nat} (h : uv (acc7 L k) = L.take k) (hk : k ≤ L.length) : dec L = some (acc7 L k, k) := by
  have e : L = uv (acc7 L k) ++ L.drop k := by rw [h, List.take_append_drop]
  have h5 := dec_uv (acc7 L k) (acc7_lt64 L k) (L.drop k)
  rw [← e] at h5
  rw [h5]
  have := congrArg List.length h
  rw [List.length_take] at this
  congr 2
  omega
theorem dec_k {L : List UInt8} {u k : Nat} (h : dec L = some (u, k)) : 1 ≤ k ∧ k ≤ 10 ∧ k ≤ L.length := by
  obtain ⟨h1, h2, h3, h4⟩ := dec_inv h
  have := uv_len10 u h1
  omega
end Go.Proofs.YteeenihhehmmoaaDoor
