/- The walk of WireApart: it answers true. -/
import Derived.Test.YteeenihhehmmoaaDoorLawShort
import Derived.Test.YteeenihhehmmoaaDoorLawKeys
import Derived.Test.YteeenihhehmmoaaDoorAppAny
import Derived.WalkLawsBesides
set_option linter.unusedVariables false
set_option linter.unusedSimpArgs false
namespace Go.Proofs.YteeenihhehmmoaaDoor
open Go.RowKit

theorem takeT_textB (s : List UInt8) (hs : s.length ≤ 4194304) (r : List UInt8) : takeT (textB s ++ r) 0 (s.length : Int) = (s, ((textB s).length : Int), true) := by
  unfold takeT
  rw [textB, List.append_assoc, takeI_intB _ (by omega) (by omega), textOf, if_neg]
  · simp only [Prod.mk.injEq, and_true]
    refine ⟨?_, by rw [List.length_append]; omega⟩
    rw [Int.toNat_natCast, Int.toNat_natCast, List.drop_left, List.take_left]
  · simp only [List.length_append]
    have h1 : ((((intB (s.length : Int)).length + (s.length + r.length) : Nat) : Int)) = ((intB (s.length : Int)).length : Int) + ((s.length : Int) + (r.length : Int)) := by
      rw [Int.natCast_add, Int.natCast_add]
    rw [h1]
    generalize ((intB (s.length : Int)).length : Int) = X
    simp only [Bool.true_eq_false, false_or]
    omega
theorem takeKT_keyT (s r : List UInt8) : takeKT (keyT s ++ r) 0 = (s, ((keyT s).length : Int), true) := by
  have h := takeKT_in (l := keyT s ++ r) (m := 0) (Nat.zero_le _)
  rw [show ((0 : Nat) : Int) = 0 from rfl] at h
  rw [h, List.drop_zero, rdT_keyT]
  simp
/-- of two different numbers the one's bytes are no beginning of the other's -/
theorem intB_apart (n m : Int) (h1 : -9223372036854775808 ≤ n) (h2 : n ≤ 9223372036854775807) (h3 : -9223372036854775808 ≤ m) (h4 : m ≤ 9223372036854775807) (h : n ≠ m) (k : Nat) :
    intB n ≠ (intB m).take k := by
  intro e
  have e1 := takeI_intB m h3 h4 []
  rw [List.append_nil, ← List.take_append_drop k (intB m), ← e, takeI_intB n h1 h2] at e1
  simp only [Prod.mk.injEq] at e1
  exact h e1.1
theorem textB_apart (s t : List UInt8) (hs : s.length ≤ 4194304) (ht : t.length ≤ 4194304) (h : s ≠ t) (k : Nat) : textB s ≠ (textB t).take k := by
  intro e
  have e0 := takeI_intB (t.length : Int) (by omega) (by omega) t
  have e1 : textB t = textB s ++ (textB t).drop k := by
    conv => lhs; rw [← List.take_append_drop k (textB t), ← e]
  have e2 : takeI (textB t) 0 = ((s.length : Int), ((intB (s.length : Int)).length : Int), true) := by
    rw [e1, textB, List.append_assoc, takeI_intB _ (by omega) (by omega)]
  rw [textB, e0] at e2
  simp only [Prod.mk.injEq] at e2
  have e3 : t.length = s.length := by omega
  have e4 := takeT_textB s hs ((textB t).drop k)
  rw [← e1, ← e3] at e4
  have e5 := takeT_textB t ht []
  rw [List.append_nil, e4] at e5
  simp only [Prod.mk.injEq] at e5
  exact h e5.1

set_option maxRecDepth 100000 in
set_option maxHeartbeats 4000000 in
theorem lawApart_walk (n m : Int) (s t : ByteArray) (v : Value) (l : List UInt8) (w : World) (hv : IsB w v l) (hl : l.length ≤ 4194304) (hs : s.size ≤ 4194304) (ht : t.size ≤ 4194304)
    (h1 : -9223372036854775808 ≤ n) (h2 : n ≤ 9223372036854775807) (h3 : -9223372036854775808 ≤ m) (h4 : m ≤ 9223372036854775807) (hn : Nib w) :
    Calls Tryd.prog 7 #[.int .i64 n, .int .i64 m, .string s, .string t, v] w (Ends (.bool true) w.heap.size w) := by
  have hls : s.data.toList.length = s.size := by rw [Array.length_toList]; rfl
  have hlt : t.data.toList.length = t.size := by rw [Array.length_toList]; rfl
  have hia := intB_len n h1 h2
  have him := intB_len m h3 h4
  have hti := intB_len (s.size : Int) (by omega) (by omega)
  have htt := intB_len (t.size : Int) (by omega) (by omega)
  have hpi := fun W => putInt_any (.slice none 0 0) [] n W (IsB.nil W) (by simp) h1 h2
  have hpm := fun W => putInt_any (.slice none 0 0) [] m W (IsB.nil W) (by simp) h3 h4
  have hpt := fun W => putText_any (.slice none 0 0) [] s W (IsB.nil W) (by simp; omega)
  have hpu := fun W => putText_any (.slice none 0 0) [] t W (IsB.nil W) (by simp; omega)
  have hkt := fun W => keyText_any (.slice none 0 0) [] s W (IsB.nil W) (by simp; omega)
  simp only [List.nil_append] at hpi hpm hpt hpu hkt
  have HPI := Lib.hid hpi
  have HPM := Lib.hid hpm
  have HPT := Lib.hid hpt
  have HPU := Lib.hid hpu
  have HKT := Lib.hid hkt
  clear hpi hpm hpt hpu hkt
  have hc : ∀ (w : World) (v : Value) (l : List UInt8), IsB w v l → (convert 24 9 v).run Tryd.prog w = .ok (.string ⟨l.toArray⟩) w := fun w v l h =>
    run_str (P := Tryd.prog) h 24 9 5 Tryd.underlying24 Tryd.underlying5 Tryd.underlying9
  have Hc := Lib.hid hc
  clear hc
  have hmt := takeT_textB s.data.toList (by omega) l
  rw [hls] at hmt
  have HMT := Lib.hid hmt
  have HMI := Lib.hid (takeI_intB n h1 h2 l)
  have HMK := Lib.hid (takeKT_keyT s.data.toList l)
  have HNM := Lib.hid (fun h => intB_apart n m h1 h2 h3 h4 h)
  have HMN := Lib.hid (fun h => intB_apart m n h3 h4 h1 h2 h)
  have HST := Lib.hid (fun h => textB_apart s.data.toList t.data.toList (by omega) (by omega) h)
  have HTS := Lib.hid (fun h => textB_apart t.data.toList s.data.toList (by omega) (by omega) h)
  have hAm : (intB n).length ≤ 10 := by omega
  have hBm : (intB m).length ≤ 10 := by omega
  have hCm : (textB s.data.toList).length ≤ 4194314 := by rw [textB, hls, List.length_append]; omega
  have hDm : (textB t.data.toList).length ≤ 4194314 := by rw [textB, hlt, List.length_append]; omega
  have hKm : (keyT s.data.toList).length ≤ 8388612 := by
    have := (esc_len s.data.toList).2
    rw [keyT, List.length_append]; simp; omega
  clear hia him hti htt hmt
  generalize intB n = A at *
  generalize intB m = B at *
  generalize textB s.data.toList = C at *
  generalize textB t.data.toList = D at *
  generalize keyT s.data.toList = K at *
  go_enter Tryd.func7, Tryd.ntmps7
  go_wp2_with fail
  refine (shown_any w hn).mono ?_
  rintro e w1 ⟨rfl, hb1⟩
  have hv1 := hv.below hb1
  have hsz1 := hb1.size
  go_wp2_with fail
  refine (HPI.out w1).mono ?_
  rintro e w2 ⟨u2, rfl, hm2, hb2⟩
  have hv2 := hv1.below hb2
  have hb2' := hb1.trans (hb2.mono hsz1)
  have hsz2 := hb2'.size
  have hs2 := Hc.out _ _ _ hm2.isB
  clear hb1 hsz1 hb2 hv1 hm2
  go_wp2_with fail
  refine (HPM.out w2).mono ?_
  rintro e w3 ⟨u3, rfl, hm3, hb3⟩
  have hv3 := hv2.below hb3
  have hb3' := hb2'.trans (hb3.mono hsz2)
  have hsz3 := hb3'.size
  have hs3 := Hc.out _ _ _ hm3.isB
  clear hb2' hsz2 hb3 hv2 hm3 hs2
  go_wp2_with fail
  refine (HPT.out w3).mono ?_
  rintro e w4 ⟨u4, rfl, hm4, hb4⟩
  have hv4 := hv3.below hb4
  have hb4' := hb3'.trans (hb4.mono hsz3)
  have hsz4 := hb4'.size
  have hs4 := Hc.out _ _ _ hm4.isB
  clear hb3' hsz3 hb4 hv3 hm4 hs3
  go_wp2_with fail
  refine (HPU.out w4).mono ?_
  rintro e w5 ⟨u5, rfl, hm5, hb5⟩
  have hv5 := hv4.below hb5
  have hb5' := hb4'.trans (hb5.mono hsz4)
  have hsz5 := hb5'.size
  have hs5 := Hc.out _ _ _ hm5.isB
  clear hb4' hsz4 hb5 hv4 hm5 hs4
  go_upto_region 6 with fail
  go_cut [16] (fun b wx => b = .bool true ∧ w5 = wx)
  case first =>
    by_cases hnm : n = m
    · subst hnm
      go_wp2_with fail
      go_meet
      exact ⟨rfl, rfl⟩
    · have hz : (n == m) = false := beq_false_of_ne hnm
      by_cases hBA : (B.length : Int) < (A.length : Int)
      · have hx1 : (A == ((ByteArray.mk B.toArray).extract 0 B.length).toList) = false := beq_false_of_ne (by rw [extract_take]; exact HNM.out hnm _)
        have hx2 : (B == ((ByteArray.mk A.toArray).extract 0 B.length).toList) = false := beq_false_of_ne (by rw [extract_take]; exact HMN.out (Ne.symm hnm) _)
        have hle : B.length ≤ A.length := by omega
        go_wp2_with fail
        all_goals go_meet
        all_goals exact ⟨rfl, rfl⟩
      · have hx1 : (A == ((ByteArray.mk B.toArray).extract 0 A.length).toList) = false := beq_false_of_ne (by rw [extract_take]; exact HNM.out hnm _)
        have hx2 : (B == ((ByteArray.mk A.toArray).extract 0 A.length).toList) = false := beq_false_of_ne (by rw [extract_take]; exact HMN.out (Ne.symm hnm) _)
        have hle : A.length ≤ B.length := by omega
        go_wp2_with fail
        all_goals go_meet
        all_goals exact ⟨rfl, rfl⟩
  case rest =>
    obtain ⟨rfl, rfl⟩ := hcut
    go_upto_region 7 with fail
    go_cut [17] (fun b wx => b = .bool true ∧ w5 = wx)
    case first =>
      by_cases hst : s = t
      · subst hst
        go_wp2_with fail
        go_meet
        exact ⟨rfl, rfl⟩
      · have hsd : ¬ s.data.toList = t.data.toList := fun h => hst (by
          cases s; cases t
          congr 1
          exact Array.ext' h)
        have hz : (s.toList == t.toList) = false := by
          rw [ByteArray.toList_eq, ByteArray.toList_eq]
          exact beq_false_of_ne hsd
        by_cases hDC : (D.length : Int) < (C.length : Int)
        · have hx1 : (C == ((ByteArray.mk D.toArray).extract 0 D.length).toList) = false := beq_false_of_ne (by rw [extract_take]; exact HST.out hsd _)
          have hx2 : (D == ((ByteArray.mk C.toArray).extract 0 D.length).toList) = false := beq_false_of_ne (by rw [extract_take]; exact HTS.out (Ne.symm hsd) _)
          have hle : D.length ≤ C.length := by omega
          go_wp2_with fail
          all_goals go_meet
          all_goals exact ⟨rfl, rfl⟩
        · have hx1 : (C == ((ByteArray.mk D.toArray).extract 0 C.length).toList) = false := beq_false_of_ne (by rw [extract_take]; exact HST.out hsd _)
          have hx2 : (D == ((ByteArray.mk C.toArray).extract 0 C.length).toList) = false := beq_false_of_ne (by rw [extract_take]; exact HTS.out (Ne.symm hsd) _)
          have hle : C.length ≤ D.length := by omega
          go_wp2_with fail
          all_goals go_meet
          all_goals exact ⟨rfl, rfl⟩
    case rest =>
      obtain ⟨rfl, rfl⟩ := hcut
      clear HNM HMN HST HTS
      have hsA : (ByteArray.mk A.toArray).size = A.length := by simp [ByteArray.size]
      have hsC : (ByteArray.mk C.toArray).size = C.length := by simp [ByteArray.size]
      go_wp2_with (first
        | ((with_reducible refine wpList_conv (.tmp 91) 9 24 5 Tryd.underlying9 Tryd.underlying24 Tryd.underlying5 (ByteArray.mk A.toArray) ?_ ?_ ?_); (exact rfl); (rw [hsA]; omega); intro cap6 x6 hc1 hc2 hib6 hb6 hlt6 hat6; have hf6 := conv_free hc1 hat6; rw [hsA] at hf6 hib6; have hbx6 := hb5'.trans (hb6.mono hsz5); have hvx6 := hv.below hbx6; have hszx6 := hbx6.size; clear hat6 hc1 hlt6 hb6)
        | (at_builtin; refine wpList_app_any rfl (.tmp 92) (.tmp 93) 24 rfl w.heap.size 5 info_byte Tryd.underlying24 w5.heap.size A.length cap6 A rfl hib6 hsz5 ?_ _ l rfl hvx6 ?_ ?_ ?_; (exact hf6); (omega); (omega); intro v6 y6 hiy6 hby6))
      have hby6' := hbx6.trans hby6
      have hsy6 := hby6'.size
      clear hbx6 hby6 hib6 hf6 hvx6 hszx6 hc2
      refine (takeInt_any v6 (A ++ l) 0 y6 hiy6 (by rw [List.length_append]; omega) (by omega) (by omega)).mono ?_
      rintro e w7 ⟨rfl, rfl⟩
      rw [HMI.out]
      unfold three
      clear hiy6
      go_wp2_with (first
        | ((with_reducible refine wpList_conv (.tmp 100) 9 24 5 Tryd.underlying9 Tryd.underlying24 Tryd.underlying5 (ByteArray.mk C.toArray) ?_ ?_ ?_); (exact rfl); (rw [hsC]; omega); intro cap8 x8 hc1 hc2 hib8 hb8 hlt8 hat8; have hf8 := conv_free hc1 hat8; rw [hsC] at hf8 hib8; have hbx8 := hby6'.trans (hb8.mono hsy6); have hvx8 := hv.below hbx8; have hszx8 := hbx8.size; clear hat8 hc1 hlt8 hb8)
        | (at_builtin; refine wpList_app_any rfl (.tmp 101) (.tmp 102) 24 rfl w.heap.size 5 info_byte Tryd.underlying24 y6.heap.size C.length cap8 C rfl hib8 hsy6 ?_ _ l rfl hvx8 ?_ ?_ ?_; (exact hf8); (omega); (omega); intro v8 y8 hiy8 hby8))
      have hby8' := hbx8.trans hby8
      have hsy8 := hby8'.size
      clear hbx8 hby8 hib8 hf8 hvx8 hszx8 hc2
      refine (takeText_any v8 (C ++ l) 0 (s.size : Int) y8 hiy8 (by rw [List.length_append]; omega) (by omega) (by omega) (by omega) (by omega)).mono ?_
      rintro e w7 ⟨rfl, rfl⟩
      rw [HMT.out]
      unfold threeT
      clear hiy8
      go_wp2_with fail
      refine (HKT.out y8).mono ?_
      rintro e w9 ⟨u9, rfl, hm9, hb9⟩
      have hb9' := hby8'.trans (hb9.mono hsy8)
      have hsz9 := hb9'.size
      have hv9 := hv.below hb9'
      have hm9' := hm9.base_le hsy8
      go_wp2_with (at_builtin; refine wpList_bytes rfl (.tmp 112) (.tmp 113) 24 rfl w.heap.size 5 info_byte Tryd.underlying24 _ K rfl hm9' _ l rfl hv9 (by omega) (by omega) ?_; intro v10 w10 hm10 hg10 hb10 _ hr10)
      have hb10' := hb9'.trans hb10
      have hsz10 := hb10'.size
      have hi10 := hm10.isB
      clear hg10 hr10 hb10 hm10 hm9' hm9 hb9 hb9'
      refine (takeKeyText_any v10 (K ++ l) 0 w10 hi10 (by rw [List.length_append]; omega) (by omega) (by omega)).mono ?_
      rintro e w11 ⟨rfl, hb11⟩
      rw [HMK.out]
      unfold threeT
      have hb11' := hb10'.trans (hb11.mono hsz10)
      have hsz11 := hb11'.size
      clear hb10' hb11
      have hssd : (ByteArray.mk s.data.toList.toArray) = s := by simp
      rw [hssd]
      go_wp2_with fail
      refine (HKT.out w11).mono ?_
      rintro e w12 ⟨u12, rfl, hm12, hb12⟩
      have hb12' := hb11'.trans (hb12.mono hsz11)
      have hi12 := hm12.isB
      obtain ⟨a12, c12, rfl, _, _, _, _⟩ := hi12
      go_wp2_with fail
      go_ret
      exact ⟨rfl, hb12'⟩
end Go.Proofs.YteeenihhehmmoaaDoor
