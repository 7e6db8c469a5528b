/- What was put is taken as it was, at any place; what is taken, put again, has just those bytes. Plain law. -/
import Derived.Test.YteeenihhehmmoaaDoorLawShort
set_option linter.unusedVariables false
set_option linter.unusedSimpArgs false
namespace Go.Proofs.YteeenihhehmmoaaDoor
open Go.RowKit

theorem takeI_at (p r : List UInt8) (n : Int) (h1 : -9223372036854775808 ≤ n) (h2 : n ≤ 9223372036854775807) :
    takeI (p ++ (intB n ++ r)) (p.length : Int) = (n, ((p.length : Int) + ((intB n).length : Int)), true) := by
  rw [takeI_in (by rw [List.length_append]; omega), List.drop_left, intB, dec_uv _ (zig_lt n h1 h2) r, pack, zag_zig]
theorem takeT_at (p r s : List UInt8) (hs : s.length ≤ 4194304) :
    takeT (p ++ (textB s ++ r)) (p.length : Int) (s.length : Int) = (s, ((p.length : Int) + ((textB s).length : Int)), true) := by
  unfold takeT
  rw [textB, List.append_assoc, takeI_at p (s ++ r) _ (by omega) (by omega), textOf, if_neg]
  · have e : ((p.length : Int) + ((intB (s.length : Int)).length : Int)).toNat = (p ++ intB (s.length : Int)).length := by rw [List.length_append]; omega
    rw [e, ← List.append_assoc, List.drop_left, Int.toNat_natCast, List.take_left]
    simp only [Prod.mk.injEq, and_true, true_and]
    rw [List.length_append]
    omega
  · simp only [List.length_append]
    have h1 : (((p.length + ((intB (s.length : Int)).length + (s.length + r.length)) : Nat) : Int)) = (p.length : Int) + (((intB (s.length : Int)).length : Int) + ((s.length : Int) + (r.length : Int))) := by
      rw [Int.natCast_add, Int.natCast_add, Int.natCast_add]
    rw [h1]
    generalize ((intB (s.length : Int)).length : Int) = X
    simp only [Bool.true_eq_false, false_or]
    omega
theorem beRd_beN (k : Nat) : ∀ K, K < 256 ^ k → beRd 0 (beN k K) = K := by
  induction k with
  | zero => intro K h; simp only [Nat.pow_zero] at h; rw [beN, beRd]; simp; omega
  | succ k ih =>
    intro K h
    rw [Nat.pow_succ] at h
    rw [beN, beRd_append, ih (K / 256) (by omega), beRd]
    simp only [List.foldl_cons, List.foldl_nil, UInt8.toNat_ofNat']
    omega
theorem takeKI_at (p r : List UInt8) (n : Int) (h1 : -9223372036854775808 ≤ n) (h2 : n ≤ 9223372036854775807) :
    takeKI (p ++ (keyI n ++ r)) (p.length : Int) = (n, (p.length : Int) + ((keyI n).length : Int), true) := by
  have hl : (keyI n).length = 8 := by rw [keyI, beN_len]
  rw [takeKI_in (by simp only [List.length_append]; omega), List.drop_left, hl]
  have e : (keyI n ++ r).take 8 = keyI n := by
    rw [← hl]
    exact List.take_left
  rw [e, keyI, beRd_beN 8 _ (by have := up_lt n h1 h2; omega), up]
  simp only [Prod.mk.injEq, and_true]
  omega
theorem takeKT_at (p r s : List UInt8) : takeKT (p ++ (keyT s ++ r)) (p.length : Int) = (s, (p.length : Int) + ((keyT s).length : Int), true) := by
  rw [takeKT_in (by rw [List.length_append]; omega), List.drop_left, rdT_keyT, List.nil_append]

/-- a number that is taken, put again -/
theorem intB_back (l : List UInt8) (at_ : Int) (h : (takeI l at_).2.2 = true) :
    ∃ m k : Nat, at_ = m ∧ (takeI l at_).2.1 = (k : Int) ∧ m ≤ k ∧ k ≤ l.length ∧ intB (takeI l at_).1 = (l.take k).drop m := by
  by_cases ho : at_ < 0 ∨ (l.length : Int) < at_
  · rw [takeI_out ho] at h; cases h
  · obtain ⟨m, rfl⟩ : ∃ m : Nat, at_ = m := ⟨at_.toNat, by omega⟩
    have hm : m ≤ l.length := by omega
    rw [takeI_in hm] at h ⊢
    cases hd : dec (l.drop m) with
    | none => rw [hd] at h; cases h
    | some q =>
      obtain ⟨u, k⟩ := q
      obtain ⟨_, h2, h3, h4⟩ := dec_inv hd
      rw [List.length_drop] at h3
      refine ⟨m, m + k, rfl, by simp only [pack]; omega, by omega, by omega, ?_⟩
      rw [pack, intB, zig_zag, ← h4, List.drop_take]
      congr 1
      omega
theorem textB_back (l : List UInt8) (at_ most : Int) (h : (takeT l at_ most).2.2 = true) :
    ∃ m k : Nat, at_ = m ∧ (takeT l at_ most).2.1 = (k : Int) ∧ m ≤ k ∧ k ≤ l.length ∧ (takeT l at_ most).1.length ≤ l.length ∧ textB (takeT l at_ most).1 = (l.take k).drop m := by
  unfold takeT at h ⊢
  unfold textOf at h ⊢
  by_cases hc : (takeI l at_).2.2 = false ∨ (takeI l at_).1 < 0 ∨ most < (takeI l at_).1 ∨ (l.length : Int) - (takeI l at_).2.1 < (takeI l at_).1
  · rw [if_pos hc] at h; cases h
  · rw [if_neg hc] at h ⊢
    obtain ⟨m, k, e1, e2, e3, e4, e5⟩ := intB_back l at_ (by cases hh : (takeI l at_).2.2 <;> simp_all)
    obtain ⟨q, hq⟩ : ∃ q : Nat, (takeI l at_).1 = q := ⟨(takeI l at_).1.toNat, by omega⟩
    rw [hq] at e5 hc ⊢
    rw [e2] at hc ⊢
    have hlen : ((l.drop k).take q).length = q := by rw [List.length_take, List.length_drop]; omega
    simp only [Int.toNat_natCast]
    refine ⟨m, k + q, e1, by omega, by omega, by omega, by rw [hlen]; omega, ?_⟩
    rw [textB, hlen, e5, List.take_add, List.drop_append_of_le_length (by rw [List.length_take]; omega)]
theorem rdT_back : ∀ (N : Nat) (s : List UInt8), s.length ≤ N → ∀ (acc : List UInt8) (i : Nat), (rdT acc i s).2.2 = true →
    ∃ z k, (rdT acc i s).1 = acc ++ z ∧ (rdT acc i s).2.1 = ((i + k : Nat) : Int) ∧ k ≤ s.length ∧ z.length ≤ k ∧ keyT z = s.take k := by
  intro N
  induction N with
  | zero =>
    intro s hs acc i h
    obtain rfl : s = [] := List.eq_nil_of_length_eq_zero (by omega)
    cases h
  | succ N ih =>
    intro s hs acc i h
    match s, hs, h with
    | [], _, h => cases h
    | [_], _, h => cases h
    | c :: d :: r, hs, h =>
      by_cases hc : c = 0
      · subst hc
        rw [rdT_zero] at h ⊢
        by_cases h255 : d = 255
        · subst h255
          rw [if_pos rfl] at h ⊢
          obtain ⟨z, k, e1, e2, e3, e4, e5⟩ := ih r (by simp at hs; omega) _ _ h
          refine ⟨0 :: z, k + 2, by rw [e1]; simp, by rw [e2]; omega, by simp; omega, by simp; omega, ?_⟩
          have e : keyT (0 :: z) = 0 :: 255 :: keyT z := by simp [keyT, esc]
          rw [e, e5, List.take_succ_cons, List.take_succ_cons]
        · rw [if_neg h255] at h ⊢
          by_cases h1 : d = 1
          · subst h1
            rw [if_pos rfl] at h ⊢
            refine ⟨[], 2, by simp, by simp, by simp, by simp, by simp [keyT, esc]⟩
          · rw [if_neg h1] at h
            cases h
      · rw [rdT_some _ _ _ _ hc] at h ⊢
        obtain ⟨z, k, e1, e2, e3, e4, e5⟩ := ih (d :: r) (by simp at hs ⊢; omega) _ _ h
        refine ⟨c :: z, k + 1, by rw [e1]; simp, by rw [e2]; omega, by simp at e3 ⊢; omega, by simp; omega, ?_⟩
        have e : keyT (c :: z) = c :: keyT z := by simp [keyT, esc, hc]
        rw [e, e5, List.take_succ_cons]
theorem keyT_back (l : List UInt8) (at_ : Int) (h : (takeKT l at_).2.2 = true) :
    ∃ m k : Nat, at_ = m ∧ (takeKT l at_).2.1 = (k : Int) ∧ m ≤ k ∧ k ≤ l.length ∧ (takeKT l at_).1.length ≤ l.length ∧ keyT (takeKT l at_).1 = (l.take k).drop m := by
  by_cases ho : at_ < 0 ∨ (l.length : Int) < at_
  · rw [takeKT_out ho] at h; cases h
  · obtain ⟨m, rfl⟩ : ∃ m : Nat, at_ = m := ⟨at_.toNat, by omega⟩
    have hm : m ≤ l.length := by omega
    rw [takeKT_in hm] at h ⊢
    obtain ⟨z, k, e1, e2, e3, e4, e5⟩ := rdT_back _ _ (Nat.le_refl _) _ _ h
    rw [List.length_drop] at e3
    rw [List.nil_append] at e1
    refine ⟨m, m + k, rfl, e2, by omega, by omega, by rw [e1]; omega, ?_⟩
    rw [e1, e5, List.drop_take]
    congr 1
    omega
end Go.Proofs.YteeenihhehmmoaaDoor
