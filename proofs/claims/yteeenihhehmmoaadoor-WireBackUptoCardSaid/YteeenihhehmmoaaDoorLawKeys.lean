/- The walk of WireKeys: it answers true. -/
import Derived.Test.YteeenihhehmmoaaDoorShown
import Derived.Test.YteeenihhehmmoaaDoorKeyText
import Derived.Test.YteeenihhehmmoaaDoorKeyLaw
import Derived.WalkLawsBesides
set_option linter.unusedVariables false
set_option linter.unusedSimpArgs false
namespace Go.Proofs.YteeenihhehmmoaaDoor
open Go.RowKit

def lessI (a b : Bool) : Int := if a then -1 else if b then 1 else 0
theorem less_any (a b : Bool) (w : World) : Calls Tryd.prog 23 #[.bool a, .bool b] w fun e w' => e = .returned (.int .i64 (lessI a b)) ∧ w = w' := by
  cases a <;> cases b <;> (go_enter Tryd.func23, Tryd.ntmps23; go_wp2; go_ret; exact ⟨rfl, rfl⟩)
theorem ordL_range (a : List UInt8) : ∀ b, ordL a b = -1 ∨ ordL a b = 0 ∨ ordL a b = 1 := by
  induction a with
  | nil => intro b; cases b <;> simp [ordL]
  | cons a x ih =>
    intro b
    cases b with
    | nil => simp [ordL]
    | cons b y =>
      have := ih y
      simp only [ordL, oth]
      split
      · exact this
      · unfold ordN; split
        · simp
        · split <;> simp
theorem lessI_L (a b : List UInt8) : lessI (Op.bytesLess a b) (!Op.bytesLess a b && !a == b) = ordL a b := by
  obtain ⟨h1, h2⟩ := ordL_spec a b
  rw [h1, h2]
  rcases ordL_range a b with h | h | h <;> rw [h] <;> simp [lessI]
theorem lessI_Z (a b : Int) : lessI (decide (a < b)) (decide (b < a)) = ordZ a b := by
  unfold lessI ordZ
  simp only [decide_eq_true_eq]
theorem prefix_no {s t : List UInt8} {n m : Int} (h : (keyT s ++ keyI n).length < (keyT t ++ keyI m).length) : ((keyT t ++ keyI m).take (keyT s ++ keyI n).length == keyT s ++ keyI n) = false := by
  simp only [beq_eq_false_iff_ne]
  intro e
  have h1 : keyT t ++ keyI m = keyT s ++ keyI n ++ (keyT t ++ keyI m).drop (keyT s ++ keyI n).length := by
    conv => lhs; rw [← List.take_append_drop (keyT s ++ keyI n).length (keyT t ++ keyI m), e]
  have h2 := congrArg List.length (key_prefix h1)
  rw [List.length_drop] at h2
  simp only [List.length_nil] at h2
  omega

theorem extract_take (B : List UInt8) (k : Nat) : ((ByteArray.mk B.toArray).extract 0 k).toList = B.take k := by
  rw [ByteArray.toList_eq, ByteArray.data_extract]
  simp

set_option maxRecDepth 100000 in
set_option maxHeartbeats 4000000 in
theorem lawKeys_walk (s t : ByteArray) (n m : Int) (w : World) (hs : s.size ≤ 4194304) (ht : t.size ≤ 4194304) (h1 : -9223372036854775808 ≤ n) (h2 : n ≤ 9223372036854775807)
    (h3 : -9223372036854775808 ≤ m) (h4 : m ≤ 9223372036854775807) (hn : Nib w) :
    Calls Tryd.prog 5 #[.string s, .int .i64 n, .string t, .int .i64 m] w (Ends (.bool true) w.heap.size w) := by
  have hls : s.data.toList.length = s.size := by rw [Array.length_toList]; rfl
  have hlt : t.data.toList.length = t.size := by rw [Array.length_toList]; rfl
  have hks := (esc_len s.data.toList).2
  have hkt := (esc_len t.data.toList).2
  have hKs : (keyT s.data.toList).length ≤ 8388612 := by simp only [keyT, List.length_append, List.length_cons, List.length_nil]; omega
  have hKt : (keyT t.data.toList).length ≤ 8388612 := by simp only [keyT, List.length_append, List.length_cons, List.length_nil]; omega
  clear hks hkt hls hlt
  have hc : ∀ (w : World) (v : Value) (l : List UInt8), IsB w v l → (convert 24 9 v).run Tryd.prog w = .ok (.string ⟨l.toArray⟩) w := fun w v l h =>
    run_str (P := Tryd.prog) h 24 9 5 Tryd.underlying24 Tryd.underlying5 Tryd.underlying9
  have Hc := Lib.hid hc
  clear hc
  have hk1 := fun W => keyText_any (.slice none 0 0) [] s W (IsB.nil W) (by simp; omega)
  have hk2 := fun W => keyText_any (.slice none 0 0) [] t W (IsB.nil W) (by simp; omega)
  have hi1 := fun W => keyInt_any (.slice none 0 0) [] n W (IsB.nil W) (by simp) h1 h2
  have hi2 := fun W => keyInt_any (.slice none 0 0) [] m W (IsB.nil W) (by simp) h3 h4
  simp only [List.nil_append] at hk1 hk2 hi1 hi2
  have HI1 := Lib.hid hi1
  have HI2 := Lib.hid hi2
  have HK1 := Lib.hid hk1
  have HK2 := Lib.hid hk2
  clear hk1 hk2 hi1 hi2
  go_enter Tryd.func5, Tryd.ntmps5
  go_wp2_with fail
  refine (shown_any w hn).mono ?_
  rintro e w1 ⟨rfl, hb1⟩
  have hsz1 := hb1.size
  go_wp2_with fail
  refine (HK1.out w1).mono ?_
  rintro e w2 ⟨u2, rfl, hm2, hb2⟩
  have hb2' := hb1.trans (hb2.mono hsz1)
  have hsz2 := hb2'.size
  clear hb1 hsz1 hb2
  go_wp2_with fail
  refine (keyInt_any u2 _ n w2 hm2.isB (by omega) h1 h2).mono ?_
  rintro e w3 ⟨u3, rfl, hm3, hb3⟩
  have hb3' := hb2'.trans (hb3.mono hsz2)
  have hsz3 := hb3'.size
  have hs3 := Hc.out _ _ _ hm3.isB
  clear hb2' hsz2 hb3 hm2 hm3
  go_wp2_with fail
  refine (HK2.out w3).mono ?_
  rintro e w4 ⟨u4, rfl, hm4, hb4⟩
  have hb4' := hb3'.trans (hb4.mono hsz3)
  have hsz4 := hb4'.size
  clear hb3' hsz3 hb4 hs3
  go_wp2_with fail
  refine (keyInt_any u4 _ m w4 hm4.isB (by omega) h3 h4).mono ?_
  rintro e w5 ⟨u5, rfl, hm5, hb5⟩
  have hb5' := hb4'.trans (hb5.mono hsz4)
  have hsz5 := hb5'.size
  have hs5 := Hc.out _ _ _ hm5.isB
  clear hb4' hsz4 hb5 hm4 hm5
  have hst : s.toList = s.data.toList := ByteArray.toList_eq s
  have htt : t.toList = t.data.toList := ByteArray.toList_eq t
  generalize hSd : s.data.toList = S at *
  generalize hTd : t.data.toList = T at *
  have HSd := Lib.hid hSd
  have HTd := Lib.hid hTd
  clear hSd hTd
  have Ho3 := Lib.hid (ordL_keyT S T (keyI n) (keyI m))
  have Ho4 := Lib.hid (ordL_keyI n m h1 h2 h3 h4 (keyT S) (keyT T))
  have hxi : ordL (keyI n) (keyI m) = ordZ n m := by
    have := ordL_keyI n m h1 h2 h3 h4 [] []
    simp only [List.append_nil] at this
    rw [this, oth]
    split
    · rename_i h; rw [h]; rfl
    · rfl
  have hxt : ordL (keyT S) (keyT T) = ordL S T := by
    have := ordL_keyT S T [] []
    simp only [List.append_nil] at this
    rw [this, oth]
    split
    · rename_i h; rw [h]; rfl
    · rfl
  rw [hxi] at Ho3
  rw [hxt] at Ho4
  clear hxi hxt
  have Hp1 := Lib.hid (@prefix_no S T n m)
  have Hp2 := Lib.hid (@prefix_no T S m n)
  generalize hA : keyT S ++ keyI n = A at *
  generalize hB : keyT T ++ keyI m = B at *
  have hpA : A.length < B.length → (((ByteArray.mk B.toArray).extract 0 A.length).toList == A) = false := fun h => by rw [extract_take]; exact Hp1.out h
  have hpB : B.length < A.length → (((ByteArray.mk A.toArray).extract 0 B.length).toList == B) = false := fun h => by rw [extract_take]; exact Hp2.out h
  obtain ⟨z, hz⟩ : ∃ z, ordZ n m = z := ⟨_, rfl⟩
  obtain ⟨o, ho⟩ : ∃ o, ordL S T = o := ⟨_, rfl⟩
  rw [hz, ho] at Ho3 Ho4
  generalize hC : keyI n ++ keyT S = C at *
  generalize hD : keyI m ++ keyT T = D at *
  have HC := Lib.hid hC
  have HD := Lib.hid hD
  clear hC hD hA hB
  have hcs : ((o == 0) = true ∧ ordL A B = z ∧ (z == 0) = true ∧ ordL C D = o) ∨ ((o == 0) = true ∧ ordL A B = z ∧ (z == 0) = false ∧ ordL C D = z) ∨
      ((o == 0) = false ∧ ordL A B = o ∧ (z == 0) = true ∧ ordL C D = o) ∨ ((o == 0) = false ∧ ordL A B = o ∧ (z == 0) = false ∧ ordL C D = z) := by
    rw [Ho3.out, Ho4.out]
    unfold oth
    by_cases h1 : o = 0 <;> by_cases h2 : z = 0 <;> simp [h1, h2]
  clear Ho3 Ho4
  have Hz := Lib.hid hz
  have Ho := Lib.hid ho
  clear hz ho
  rcases hcs with ⟨h5, h6, h7, h8⟩ | ⟨h5, h6, h7, h8⟩ | ⟨h5, h6, h7, h8⟩ | ⟨h5, h6, h7, h8⟩
  all_goals
    have H6 := Lib.hid h6
    have H8 := Lib.hid h8
    clear h6 h8
    go_upto_region 8 with (go_at_call 23; refine (less_any _ _ _).mono ?_; rintro e w6 ⟨rfl, rfl⟩; simp only [lessI_L, lessI_Z, Hz.out, Ho.out, H6.out])
    go_cut [14] (fun b wx => b = .bool false ∧ wx = w5)
    case first =>
      go_wp2_with fail
      all_goals go_meet
      all_goals exact ⟨rfl, rfl⟩
    case rest =>
     obtain ⟨rfl, rfl⟩ := hcut
     go_wp2_with fail
     refine (HI1.out _).mono ?_
     rintro e w7 ⟨u7, rfl, hm7, hb7⟩
     have hb7' := hb5'.trans (hb7.mono hsz5)
     have hsz7 := hb7'.size
     have hk7 := (keyText_any u7 _ s w7 hm7.isB (by simp only [keyI, beN_len]; omega))
     have Hk7 := Lib.hid hk7
     clear hb5' hsz5 hb7 hm7 hk7 hs5
     go_wp2_with fail
     refine Hk7.out.mono ?_
     rintro e w8 ⟨u8, rfl, hm8, hb8⟩
     have hb8' := hb7'.trans (hb8.mono hsz7)
     have hsz8 := hb8'.size
     have hs8 := Hc.out _ _ _ hm8.isB
     rw [HSd.out, HC.out] at hs8
     clear hb7' hsz7 hb8 hm8 Hk7
     go_wp2_with fail
     refine (HI2.out w8).mono ?_
     rintro e w9 ⟨u9, rfl, hm9, hb9⟩
     have hb9' := hb8'.trans (hb9.mono hsz8)
     have hsz9 := hb9'.size
     have hk9 := (keyText_any u9 _ t w9 hm9.isB (by simp only [keyI, beN_len]; omega))
     have Hk9 := Lib.hid hk9
     clear hb8' hsz8 hb9 hm9 hk9 hs8
     go_wp2_with fail
     refine Hk9.out.mono ?_
     rintro e w10 ⟨u10, rfl, hm10, hb10⟩
     have hb10' := hb9'.trans (hb10.mono hsz9)
     have hs10 := Hc.out _ _ _ hm10.isB
     rw [HTd.out, HD.out] at hs10
     clear hb9' hsz9 hb10 hm10 Hk9
     go_wp2_with (go_at_call 23; refine (less_any _ _ _).mono ?_; rintro e w6 ⟨rfl, rfl⟩; simp only [lessI_L, lessI_Z, Hz.out, Ho.out, H8.out])
     go_ret
     exact ⟨rfl, hb10'⟩
end Go.Proofs.YteeenihhehmmoaaDoor
