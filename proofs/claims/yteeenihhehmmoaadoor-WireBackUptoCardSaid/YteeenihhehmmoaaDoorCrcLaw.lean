/- Plain law: the sum CRC-32 by halves of bytes is the sum bit by bit, and one byte that is another one makes it another one. -/
set_option linter.unusedVariables false
set_option linter.unusedSimpArgs false
namespace Go.Proofs.YteeenihhehmmoaaDoor
namespace UsCrc
def poly : Nat := 3988292384
def step (c : Nat) : Nat := if c % 2 = 1 then c / 2 ^^^ poly else c / 2
def steps : Nat → Nat → Nat
  | 0, c => c
  | k + 1, c => steps k (step c)
def nib : List Nat := [0, 498536548, 997073096, 651767980, 1994146192, 1802195444, 1303535960, 1342533948, 3988292384, 4027552580, 3604390888, 3412177804, 2607071920, 2262029012, 2685067896, 3183342108]
def tab (c : Nat) : Nat := nib.getD (c % 16) 0 ^^^ c / 16
def byteStep (c x : Nat) : Nat := steps 8 (c ^^^ x)
def run (c : Nat) (l : List UInt8) : Nat := l.foldl (fun c x => byteStep c x.toNat) c
def ones : Nat := 4294967295
def crc (l : List UInt8) : Nat := ones ^^^ run ones l

theorem step_xor (a b : Nat) : step (a ^^^ b) = step a ^^^ step b := by
  have h := @Nat.xor_mod_two_eq_one a b
  unfold step
  rw [Nat.xor_div_two]
  by_cases ha : a % 2 = 1 <;> by_cases hb : b % 2 = 1
  · rw [if_neg (by rw [h]; simp [ha, hb]), if_pos ha, if_pos hb]
    rw [Nat.xor_assoc, Nat.xor_comm (poly) (_ ^^^ _), Nat.xor_assoc, Nat.xor_self, Nat.xor_zero]
  · rw [if_pos (by rw [h]; simp [ha, hb]), if_pos ha, if_neg hb]
    rw [Nat.xor_assoc, Nat.xor_assoc, Nat.xor_comm poly]
  · rw [if_pos (by rw [h]; simp [ha, hb]), if_neg ha, if_pos hb]
    rw [Nat.xor_assoc]
  · rw [if_neg (by rw [h]; simp [ha, hb]), if_neg ha, if_neg hb]
theorem steps_xor (k : Nat) : ∀ a b : Nat, steps k (a ^^^ b) = steps k a ^^^ steps k b := by
  induction k with
  | zero => intro a b; rfl
  | succ k ih => intro a b; simp only [steps, step_xor, ih]
theorem steps_shift (k : Nat) : ∀ c : Nat, c % 2 ^ k = 0 → steps k c = c / 2 ^ k := by
  induction k with
  | zero => intro c _; simp [steps]
  | succ k ih =>
    intro c h
    have h2 : c % 2 = 0 := by
      have : 2 ∣ 2 ^ (k + 1) := ⟨2 ^ k, by rw [Nat.pow_succ, Nat.mul_comm]⟩
      have h3 := Nat.mod_mod_of_dvd c this
      omega
    have hs : step c = c / 2 := by unfold step; rw [if_neg (by omega)]
    have h4 : (c / 2) % 2 ^ k = 0 := by
      have h5 : c % (2 * 2 ^ k) = c % 2 + 2 * (c / 2 % 2 ^ k) := Nat.mod_mul
      have h6 : 2 ^ (k + 1) = 2 * 2 ^ k := by rw [Nat.pow_succ, Nat.mul_comm]
      rw [h6] at h; omega
    simp only [steps, hs]
    rw [ih _ h4, Nat.div_div_eq_div_mul, Nat.pow_succ, Nat.mul_comm]
theorem low_xor_high (c : Nat) : c = c % 16 ^^^ (c / 16 * 16) := by
  have := Nat.two_pow_add_eq_or_of_lt (i := 4) (b := c % 16) (by omega) (c / 16)
  apply Nat.eq_of_testBit_eq
  intro i
  rw [Nat.testBit_xor, show (16 : Nat) = 2 ^ 4 from rfl, Nat.testBit_mod_two_pow, Nat.testBit_mul_two_pow, Nat.testBit_div_two_pow]
  by_cases h : i < 4
  · simp [h, Nat.not_le.2 h]
  · have h' : 4 ≤ i := by omega
    simp [h, h']
theorem steps4_low : ∀ i, i < 16 → steps 4 i = nib.getD i 0 := by decide
theorem tab_eq (c : Nat) : tab c = steps 4 c := by
  have e := low_xor_high c
  have h1 : steps 4 (c / 16 * 16) = c / 16 := by
    rw [steps_shift 4 _ (by omega)]; omega
  have h2 := steps4_low (c % 16) (by omega)
  unfold tab
  rw [← h2]
  conv => rhs; rw [e, steps_xor, h1]
theorem steps_add (j k c : Nat) : steps (j + k) c = steps k (steps j c) := by
  induction j generalizing c with
  | zero => simp [steps]
  | succ j ih => rw [Nat.succ_add]; simp only [steps]; exact ih _
theorem tab_tab (c : Nat) : tab (tab c) = steps 8 c := by rw [tab_eq, tab_eq, ← steps_add]
theorem step_lt (c : Nat) (h : c < 4294967296) : step c < 4294967296 := by
  unfold step
  split
  · exact Nat.xor_lt_two_pow (n := 32) (by omega) (by decide)
  · omega
theorem steps_lt (k : Nat) : ∀ c, c < 4294967296 → steps k c < 4294967296 := by
  induction k with
  | zero => intro c h; exact h
  | succ k ih => intro c h; exact ih _ (step_lt c h)
theorem byteStep_lt (c x : Nat) (h : c < 4294967296) (hx : x < 4294967296) : byteStep c x < 4294967296 :=
  steps_lt 8 _ (Nat.xor_lt_two_pow (n := 32) h hx)
theorem run_lt (l : List UInt8) : ∀ c, c < 4294967296 → run c l < 4294967296 := by
  induction l with
  | nil => intro c h; exact h
  | cons x l ih => intro c h; exact ih _ (byteStep_lt c _ h (by have := x.toNat_lt; omega))
theorem run_append (l r : List UInt8) (c : Nat) : run c (l ++ r) = run (run c l) r := by simp [run]
/-- one step is one to one on 32 bits -/
theorem step_inj (a b : Nat) (ha : a < 4294967296) (hb : b < 4294967296) (h : step a = step b) : a = b := by
  have hx : step (a ^^^ b) = 0 := by rw [step_xor, h, Nat.xor_self]
  have hlt : a ^^^ b < 4294967296 := Nat.xor_lt_two_pow (n := 32) ha hb
  have h0 : a ^^^ b = 0 := by
    generalize a ^^^ b = c at hx hlt
    unfold step at hx
    split at hx
    · rename_i h1
      have e : c / 2 = poly := by
        have h3 := congrArg (· ^^^ poly) hx
        simp only [Nat.xor_assoc, Nat.xor_self, Nat.xor_zero, Nat.zero_xor] at h3
        exact h3
      simp only [poly] at e
      omega
    · omega
  have h4 := congrArg (· ^^^ b) h0
  simp only [Nat.xor_assoc, Nat.xor_self, Nat.xor_zero, Nat.zero_xor] at h4
  exact h4
theorem steps_inj (k : Nat) : ∀ a b, a < 4294967296 → b < 4294967296 → steps k a = steps k b → a = b := by
  induction k with
  | zero => intro a b _ _ h; exact h
  | succ k ih => intro a b ha hb h; exact step_inj a b ha hb (ih _ _ (step_lt _ ha) (step_lt _ hb) h)
theorem xor_cancel_right (a b x : Nat) (h : a ^^^ x = b ^^^ x) : a = b := by
  have h4 := congrArg (· ^^^ x) h
  simpa only [Nat.xor_assoc, Nat.xor_self, Nat.xor_zero] using h4
theorem xor_cancel_left (a b x : Nat) (h : x ^^^ a = x ^^^ b) : a = b :=
  xor_cancel_right a b x (by rw [Nat.xor_comm a, Nat.xor_comm b]; exact h)
theorem byteStep_inj (a b x : Nat) (ha : a < 4294967296) (hb : b < 4294967296) (hx : x < 4294967296) (h : byteStep a x = byteStep b x) : a = b :=
  xor_cancel_right a b x (steps_inj 8 _ _ (Nat.xor_lt_two_pow (n := 32) ha hx) (Nat.xor_lt_two_pow (n := 32) hb hx) h)
theorem run_inj (l : List UInt8) : ∀ a b, a < 4294967296 → b < 4294967296 → run a l = run b l → a = b := by
  induction l with
  | nil => intro a b _ _ h; exact h
  | cons x l ih =>
    intro a b ha hb h
    have hx : x.toNat < 4294967296 := by have := x.toNat_lt; omega
    exact byteStep_inj a b x.toNat ha hb hx (ih _ _ (byteStep_lt _ _ ha hx) (byteStep_lt _ _ hb hx) h)
/-- one byte that is another one makes the sum another one -/
theorem crc_differs (l r : List UInt8) (x y : UInt8) (h : crc (l ++ x :: r) = crc (l ++ y :: r)) : x = y := by
  unfold crc at h
  have h1 := xor_cancel_left _ _ _ h
  rw [run_append, run_append] at h1
  have hx : x.toNat < 4294967296 := by have := x.toNat_lt; omega
  have hy : y.toNat < 4294967296 := by have := y.toNat_lt; omega
  have hc : run ones l < 4294967296 := run_lt l ones (by decide)
  have h2 := run_inj r _ _ (byteStep_lt _ _ hc hx) (byteStep_lt _ _ hc hy) h1
  have h3 := steps_inj 8 _ _ (Nat.xor_lt_two_pow (n := 32) hc hx) (Nat.xor_lt_two_pow (n := 32) hc hy) h2
  have h4 := xor_cancel_left _ _ _ h3
  exact UInt8.toNat_inj.1 h4
end UsCrc
end Go.Proofs.YteeenihhehmmoaaDoor
