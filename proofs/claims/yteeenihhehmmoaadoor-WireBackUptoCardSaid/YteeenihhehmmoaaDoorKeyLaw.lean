/- Plain law: parts of keys stand as the numbers, the texts do, and none is the beginning of another one. -/
import Derived.Test.YteeenihhehmmoaaDoorTakeKeyText
import Derived.Test.YteeenihhehmmoaaDoorKeyInt
set_option linter.unusedVariables false
set_option linter.unusedSimpArgs false
namespace Go.Proofs.YteeenihhehmmoaaDoor
open Go

/-- how two stand: -1 below, 0 alike, 1 above; the second tells where the first says alike -/
def oth (x y : Int) : Int := if x = 0 then y else x
def ordN (a b : Nat) : Int := if a < b then -1 else if b < a then 1 else 0
def ordZ (a b : Int) : Int := if a < b then -1 else if b < a then 1 else 0
def ordL : List UInt8 → List UInt8 → Int
  | [], [] => 0
  | [], _ :: _ => -1
  | _ :: _, [] => 1
  | a :: x, b :: y => oth (ordN a.toNat b.toNat) (ordL x y)
theorem ordN_self (a : Nat) : ordN a a = 0 := by simp [ordN]
theorem ordL_spec (a : List UInt8) : ∀ b, Op.bytesLess a b = decide (ordL a b = -1) ∧ (a == b) = decide (ordL a b = 0) := by
  induction a with
  | nil => intro b; cases b <;> simp [ordL, Op.bytesLess]
  | cons a x ih =>
    intro b
    cases b with
    | nil => simp [ordL, Op.bytesLess]
    | cons b y =>
      obtain ⟨h1, h2⟩ := ih y
      rcases Nat.lt_trichotomy a.toNat b.toNat with h | h | h
      · have hlt : a < b := UInt8.lt_iff_toNat_lt.2 h
        have hne : a ≠ b := fun e => by rw [e] at h; omega
        simp [ordL, Op.bytesLess, ordN, h, hlt, oth, hne]
      · have he : a = b := UInt8.toNat_inj.1 h
        subst he
        have hn : ¬ a < a := fun h => by have := UInt8.lt_iff_toNat_lt.1 h; omega
        simp only [ordL, ordN_self, oth, Op.bytesLess]
        simp only [List.cons_beq_cons, beq_self_eq_true, Bool.true_and, h1, h2]
        simp [hn]
      · have hn : ¬ a < b := fun h' => by have := UInt8.lt_iff_toNat_lt.1 h'; omega
        have hne : a ≠ b := fun e => by rw [e] at h; omega
        have h' : ¬ a.toNat < b.toNat := by omega
        simp [ordL, Op.bytesLess, ordN, h, h', hn, oth, hne]
theorem ordL_append (p : List UInt8) (x y : List UInt8) : ordL (p ++ x) (p ++ y) = ordL x y := by
  induction p with
  | nil => rfl
  | cons a p ih => simp [ordL, ordN_self, oth, ih]
theorem ordL_keyT (s : List UInt8) : ∀ t x y, ordL (keyT s ++ x) (keyT t ++ y) = oth (ordL s t) (ordL x y) := by
  have hk0 : ∀ r : List UInt8, keyT (0 :: r) = 0 :: 255 :: keyT r := fun r => by simp [keyT, esc]
  have hk1 : ∀ (c : UInt8) (r : List UInt8), c ≠ 0 → keyT (c :: r) = c :: keyT r := fun c r h => by simp [keyT, esc, h]
  have hk : ∀ (c : UInt8) (r : List UInt8), ∃ z, keyT (c :: r) = c :: z := fun c r => by
    by_cases h : c = 0
    · subst h; exact ⟨_, hk0 r⟩
    · exact ⟨_, hk1 c r h⟩
  have hn : keyT [] = [0, 1] := rfl
  have hlow : ∀ (c : UInt8) (r z : List UInt8), ∃ u v, keyT (c :: r) ++ z = u :: v ∧ (0 < u.toNat ∨ ∃ v', u = 0 ∧ v = 255 :: v') := fun c r z => by
    by_cases h : c = 0
    · subst h; exact ⟨0, 255 :: keyT r ++ z, by rw [hk0]; rfl, .inr ⟨_, rfl, rfl⟩⟩
    · refine ⟨c, keyT r ++ z, by rw [hk1 c r h]; rfl, .inl ?_⟩
      have : c.toNat ≠ 0 := fun e => h (UInt8.toNat_inj.1 e)
      omega
  induction s with
  | nil =>
    intro t x y
    cases t with
    | nil => rw [ordL_append]; rfl
    | cons d t =>
      obtain ⟨u, v, h1, h2⟩ := hlow d t y
      rw [h1, hn]
      show oth (ordN 0 u.toNat) (ordL (1 :: x) v) = -1
      rcases h2 with h2 | ⟨v', rfl, rfl⟩
      · rw [show ordN 0 u.toNat = -1 by simp [ordN, h2]]; rfl
      · rfl
  | cons c s ih =>
    intro t x y
    cases t with
    | nil =>
      obtain ⟨u, v, h1, h2⟩ := hlow c s x
      rw [h1, hn]
      show oth (ordN u.toNat 0) (ordL v (1 :: y)) = 1
      rcases h2 with h2 | ⟨v', rfl, rfl⟩
      · rw [show ordN u.toNat 0 = 1 by simp [ordN, h2]]; rfl
      · rfl
    | cons d t =>
      by_cases hcd : c = d
      · subst hcd
        have e : ordL (c :: s) (c :: t) = ordL s t := by simp [ordL, ordN_self, oth]
        rw [e, ← ih t x y]
        by_cases h : c = 0
        · subst h
          rw [hk0, hk0]
          exact ordL_append [0, 255] _ _
        · rw [hk1 c s h, hk1 c t h]
          exact ordL_append [c] _ _
      · obtain ⟨z1, h1⟩ := hk c s
        obtain ⟨z2, h2⟩ := hk d t
        rw [h1, h2]
        have hne : c.toNat ≠ d.toNat := fun e => hcd (UInt8.toNat_inj.1 e)
        have hno : ordN c.toNat d.toNat = -1 ∨ ordN c.toNat d.toNat = 1 := by
          unfold ordN
          by_cases h3 : c.toNat < d.toNat
          · simp [h3]
          · simp [h3, show d.toNat < c.toNat by omega]
        simp only [List.cons_append, ordL]
        rcases hno with h3 | h3 <;> rw [h3] <;> rfl
theorem ordL_beN (k : Nat) : ∀ K L x y, K < 256 ^ k → L < 256 ^ k → ordL (beN k K ++ x) (beN k L ++ y) = oth (ordN K L) (ordL x y) := by
  induction k with
  | zero =>
    intro K L x y hK hL
    have h1 : K = 0 := by simpa using hK
    have h2 : L = 0 := by simpa using hL
    subst h1; subst h2
    rfl
  | succ k ih =>
    intro K L x y hK hL
    rw [Nat.pow_succ] at hK hL
    simp only [beN, List.append_assoc]
    rw [ih (K / 256) (L / 256) _ _ (by omega) (by omega)]
    simp only [List.cons_append, List.nil_append, ordL]
    have e1 : (UInt8.ofNat K).toNat = K % 256 := by rw [UInt8.toNat_ofNat']
    have e2 : (UInt8.ofNat L).toNat = L % 256 := by rw [UInt8.toNat_ofNat']
    rw [e1, e2]
    unfold ordN
    rcases Nat.lt_trichotomy (K / 256) (L / 256) with h | h | h
    · rw [if_pos h, if_pos (by omega : K < L)]; rfl
    · rw [if_neg (by omega), if_neg (by omega)]
      rcases Nat.lt_trichotomy (K % 256) (L % 256) with h2 | h2 | h2
      · rw [if_pos h2, if_pos (by omega : K < L)]; rfl
      · rw [if_neg (by omega), if_neg (by omega), if_neg (by omega), if_neg (by omega)]; rfl
      · rw [if_neg (by omega), if_pos h2, if_neg (by omega), if_pos (by omega : L < K)]; rfl
    · rw [if_neg (by omega : ¬ K / 256 < L / 256), if_pos h, if_neg (by omega : ¬ K < L), if_pos (by omega : L < K)]; rfl
theorem ordL_keyI (n m : Int) (h1 : -9223372036854775808 ≤ n) (h2 : n ≤ 9223372036854775807) (h3 : -9223372036854775808 ≤ m) (h4 : m ≤ 9223372036854775807) (x y : List UInt8) :
    ordL (keyI n ++ x) (keyI m ++ y) = oth (ordZ n m) (ordL x y) := by
  rw [keyI, keyI, ordL_beN 8 _ _ _ _ (up_lt n h1 h2) (up_lt m h3 h4)]
  congr 1
  unfold ordN ordZ up
  rcases Int.lt_trichotomy n m with h | h | h
  · rw [if_pos h, if_pos (by omega)]
  · rw [if_neg (by omega), if_neg (by omega), if_neg (by omega), if_neg (by omega)]
  · rw [if_neg (by omega : ¬ n < m), if_pos h, if_neg (by omega), if_pos (by omega)]
theorem rdT_keyT (s : List UInt8) : ∀ acc i r, rdT acc i (keyT s ++ r) = (acc ++ s, (i : Int) + (keyT s).length, true) := by
  induction s with
  | nil => intro acc i r; simp [keyT, esc, rdT]
  | cons c s ih =>
    intro acc i r
    by_cases h : c = 0
    · subst h
      have e : keyT (0 :: s) = 0 :: 255 :: keyT s := by simp [keyT, esc]
      rw [e, List.cons_append, List.cons_append, rdT_zero, if_pos rfl, ih]
      simp
      omega
    · have e : keyT (c :: s) = c :: keyT s := by simp [keyT, esc, h]
      rw [e, List.cons_append, rdT_some _ _ _ _ h, ih]
      simp
      omega
/-- no key of a text and a number is the beginning of another one -/
theorem key_prefix {s t : List UInt8} {n m : Int} {z : List UInt8} (h : keyT t ++ keyI m = keyT s ++ keyI n ++ z) : z = [] := by
  have h1 := rdT_keyT t [] 0 (keyI m)
  rw [h, List.append_assoc, rdT_keyT s [] 0 (keyI n ++ z)] at h1
  simp only [List.nil_append, Prod.mk.injEq, and_true] at h1
  obtain ⟨rfl, _⟩ := h1
  rw [List.append_assoc] at h
  have h2 := List.append_cancel_left h
  have h3 := congrArg List.length h2
  rw [List.length_append, keyI, keyI, beN_len, beN_len] at h3
  exact List.eq_nil_of_length_eq_zero (by omega)
end Go.Proofs.YteeenihhehmmoaaDoor
