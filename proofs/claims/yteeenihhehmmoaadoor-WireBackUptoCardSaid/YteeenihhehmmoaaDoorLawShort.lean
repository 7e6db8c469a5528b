/- The walk of WireShort: it answers true. -/
import Derived.Test.YteeenihhehmmoaaDoorShown
import Derived.Test.YteeenihhehmmoaaDoorPutText
import Derived.Test.YteeenihhehmmoaaDoorTakeText
import Derived.Test.YteeenihhehmmoaaDoorTakeKeyInt
import Derived.Test.YteeenihhehmmoaaDoorKeyLaw
set_option linter.unusedVariables false
set_option linter.unusedSimpArgs false
namespace Go.Proofs.YteeenihhehmmoaaDoor
open Go.RowKit

/-- of a beginning of a number's bytes nothing is taken -/
theorem dec_short (u : Nat) (h : u < 18446744073709551616) (k : Nat) (hk : k < (uv u).length) : dec ((uv u).take k) = none := by
  cases hd : dec ((uv u).take k) with
  | none => rfl
  | some p =>
    obtain ⟨u', k'⟩ := p
    exfalso
    obtain ⟨h1, h2, h3, h4⟩ := dec_inv hd
    have e : uv u = uv u' ++ (uv u).drop k' := by
      have h5 : k' ≤ k := by rw [List.length_take] at h3; omega
      rw [List.take_take, Nat.min_eq_left h5] at h4
      rw [← h4, List.take_append_drop]
    have h6 := dec_uv u' h1 ((uv u).drop k')
    rw [← e] at h6
    have h7 := dec_uv u h []
    rw [List.append_nil, h6] at h7
    simp only [Option.some.injEq, Prod.mk.injEq] at h7
    rw [List.length_take] at h3
    omega
theorem takeI_short (n : Int) (h1 : -9223372036854775808 ≤ n) (h2 : n ≤ 9223372036854775807) (k : Nat) (hk : k < (intB n).length) : takeI ((intB n).take k) 0 = (0, 0, false) := by
  have h := takeI_in (l := (intB n).take k) (m := 0) (Nat.zero_le _)
  rw [show ((0 : Nat) : Int) = 0 from rfl] at h
  rw [h, List.drop_zero, intB, dec_short _ (zig_lt n h1 h2) k hk]
  rfl
theorem takeI_intB (n : Int) (h1 : -9223372036854775808 ≤ n) (h2 : n ≤ 9223372036854775807) (r : List UInt8) : takeI (intB n ++ r) 0 = (n, ((intB n).length : Int), true) := by
  have h := takeI_in (l := intB n ++ r) (m := 0) (Nat.zero_le _)
  rw [show ((0 : Nat) : Int) = 0 from rfl] at h
  rw [h, List.drop_zero, intB, dec_uv _ (zig_lt n h1 h2) r, pack, zag_zig]
  simp
theorem takeT_short (s : List UInt8) (hs : s.length ≤ 4194304) (most : Int) (k : Nat) (hk : k < (textB s).length) : takeT ((textB s).take k) 0 most = ([], 0, false) := by
  unfold takeT
  have hl := intB_len (s.length : Int) (by omega) (by omega)
  by_cases hc : k < (intB (s.length : Int)).length
  · have e : (textB s).take k = (intB (s.length : Int)).take k := by rw [textB, List.take_append_of_le_length (by omega)]
    rw [e, takeI_short _ (by omega) (by omega) k hc]
    rfl
  · have e : (textB s).take k = intB (s.length : Int) ++ s.take (k - (intB (s.length : Int)).length) := by
      rw [textB, List.take_append, List.take_of_length_le (by omega)]
    rw [e, takeI_intB _ (by omega) (by omega), textOf, if_pos]
    right; right; right
    simp only [List.length_append, List.length_take]
    have : k < (intB (s.length : Int)).length + s.length := by rw [textB, List.length_append] at hk; exact hk
    omega
theorem takeT_most (s : List UInt8) (hs : s.length ≤ 4194304) : takeT (textB s) 0 ((s.length : Int) - 1) = ([], 0, false) := by
  unfold takeT
  rw [textB, takeI_intB _ (by omega) (by omega), textOf, if_pos]
  right; right; left
  simp only
  omega
theorem takeI_end (l : List UInt8) : takeI l (l.length : Int) = (0, 0, false) := by
  rw [takeI_in (Nat.le_refl _), List.drop_length]
  rfl
theorem takeKI_short (n : Int) (k : Nat) (hk : k < (keyI n).length) : takeKI ((keyI n).take k) 0 = (0, 0, false) := by
  rw [keyI, beN_len] at hk
  refine takeKI_out (.inr (.inr ?_))
  rw [List.length_take]
  omega
theorem rdT_short (s : List UInt8) : ∀ acc i k, k < (keyT s).length → rdT acc i ((keyT s).take k) = ([], 0, false) := by
  induction s with
  | nil =>
    intro acc i k hk
    have hk2 : k < 2 := by simpa [keyT, esc] using hk
    rcases (by omega : k = 0 ∨ k = 1) with rfl | rfl
    · rfl
    · rfl
  | cons c s ih =>
    intro acc i k hk
    by_cases h : c = 0
    · subst h
      have e : keyT (0 :: s) = 0 :: 255 :: keyT s := by simp [keyT, esc]
      rw [e] at hk ⊢
      match k, hk with
      | 0, _ => rfl
      | 1, _ => rfl
      | k + 2, hk =>
        simp only [List.take_succ_cons, rdT_zero, if_pos]
        exact ih _ _ _ (by simpa using hk)
    · have e : keyT (c :: s) = c :: keyT s := by simp [keyT, esc, h]
      rw [e] at hk ⊢
      match k, hk with
      | 0, _ => rfl
      | k + 1, hk =>
        rw [List.take_succ_cons, rdT_some _ _ _ _ h]
        exact ih _ _ _ (by simpa using hk)
theorem takeKT_short (s : List UInt8) (k : Nat) (hk : k < (keyT s).length) : takeKT ((keyT s).take k) 0 = ([], 0, false) := by
  have h := takeKT_in (l := (keyT s).take k) (m := 0) (Nat.zero_le _)
  rw [show ((0 : Nat) : Int) = 0 from rfl] at h
  rw [h, List.drop_zero, rdT_short s _ _ k hk]

theorem IsB.pre {w : World} {a : Option Addr} {len cap : Nat} {l : List UInt8} (hv : IsB w (.slice a len cap) l) (k : Nat) (hk : k ≤ l.length) :
    IsB w (.slice a k cap) (l.take k) := by
  have h := hv.cut 0 k (Nat.zero_le _) hk
  rw [List.drop_zero] at h
  have e : cutA a cap 0 = a := by
    unfold cutA
    split
    · rfl
    · cases a with
      | none => rfl
      | some a => rfl
  rw [e] at h
  exact h

set_option maxRecDepth 100000 in
set_option maxHeartbeats 4000000 in
theorem lawShort_walk (n : Int) (s : ByteArray) (cut : Int) (w : World) (hs : s.size ≤ 4194304) (h1 : -9223372036854775808 ≤ n) (h2 : n ≤ 9223372036854775807)
    (h3 : -9223372036854775808 ≤ cut) (h4 : cut ≤ 9223372036854775807) (hn : Nib w) :
    Calls Tryd.prog 9 #[.int .i64 n, .string s, .int .i64 cut] w (Ends (.bool true) w.heap.size w) := by
  have hls : s.data.toList.length = s.size := by rw [Array.length_toList]; rfl
  have hia := intB_len n h1 h2
  have hti := intB_len (s.size : Int) (by omega) (by omega)
  have hpi := fun W => putInt_any (.slice none 0 0) [] n W (IsB.nil W) (by simp) h1 h2
  have hpt := fun W => putText_any (.slice none 0 0) [] s W (IsB.nil W) (by simp; omega)
  have hki := fun W => keyInt_any (.slice none 0 0) [] n W (IsB.nil W) (by simp) h1 h2
  have hkt := fun W => keyText_any (.slice none 0 0) [] s W (IsB.nil W) (by simp; omega)
  simp only [List.nil_append] at hpi hpt hki hkt
  have HPI := Lib.hid hpi
  have HPT := Lib.hid hpt
  have HKI := Lib.hid hki
  have HKT := Lib.hid hkt
  clear hpi hpt hki hkt
  have hmt := takeT_most s.data.toList (by omega)
  rw [hls] at hmt
  have HMT := Lib.hid hmt
  have HEI := Lib.hid (takeI_end (intB n))
  have HSI := Lib.hid (takeI_short n h1 h2)
  have HST := Lib.hid (takeT_short s.data.toList (by omega))
  have HSKI := Lib.hid (takeKI_short n)
  have HSKT := Lib.hid (takeKT_short s.data.toList)
  have hA : 0 < (intB n).length := by omega
  have hAm : (intB n).length ≤ 10 := by omega
  have hB : 0 < (textB s.data.toList).length := by rw [textB, hls, List.length_append]; omega
  have hBm : (textB s.data.toList).length ≤ 4194314 := by rw [textB, hls, List.length_append]; omega
  have hC : 0 < (keyI n).length := by rw [keyI, beN_len]; omega
  have hCm : (keyI n).length ≤ 8 := by rw [keyI, beN_len]; omega
  have hD : 0 < (keyT s.data.toList).length := by rw [keyT, List.length_append]; simp
  have hDm : (keyT s.data.toList).length ≤ 8388612 := by
    have := (esc_len s.data.toList).2
    rw [keyT, List.length_append]; simp; omega
  clear hia hti hls hmt
  generalize intB n = A at *
  generalize textB s.data.toList = B at *
  generalize keyI n = C at *
  generalize keyT s.data.toList = D at *
  obtain ⟨c, Hc⟩ : ∃ c : Nat, Hid ((if cut < 0 then -(cut + 1) else cut) = (c : Int)) := by
    refine ⟨(if cut < 0 then -(cut + 1) else cut).toNat, Lib.hid ?_⟩
    split <;> omega
  have hmodA : (c : Int) % (A.length : Int) = ((c % A.length : Nat) : Int) := by omega
  have hmodB : (c : Int) % (B.length : Int) = ((c % B.length : Nat) : Int) := by omega
  have hmodC : (c : Int) % (C.length : Int) = ((c % C.length : Nat) : Int) := by omega
  have hmodD : (c : Int) % (D.length : Int) = ((c % D.length : Nat) : Int) := by omega
  have hlA := Nat.mod_lt c hA
  have hlB := Nat.mod_lt c hB
  have hlC := Nat.mod_lt c hC
  have hlD := Nat.mod_lt c hD
  generalize c % A.length = ka at *
  generalize c % B.length = kb at *
  generalize c % C.length = kc at *
  generalize c % D.length = kd at *
  have hzA : ((A.length : Int) == 0) = false := beq_false_of_ne (by omega)
  have hzB : ((B.length : Int) == 0) = false := beq_false_of_ne (by omega)
  have hzC : ((C.length : Int) == 0) = false := beq_false_of_ne (by omega)
  have hzD : ((D.length : Int) == 0) = false := beq_false_of_ne (by omega)
  have hcs : (cut < 0 ∧ -(cut + 1) = (c : Int)) ∨ (¬ cut < 0 ∧ cut = (c : Int)) := by
    have := Hc.out
    split at this
    · exact .inl ⟨by assumption, this⟩
    · exact .inr ⟨by assumption, this⟩
  rcases hcs with ⟨hneg, hcut⟩ | ⟨hneg, rfl⟩
  all_goals
    clear Hc
    go_enter Tryd.func9, Tryd.ntmps9
    go_wp2_with fail
    refine (shown_any w hn).mono ?_
    rintro e w1 ⟨rfl, hb1⟩
    have hsz1 := hb1.size
    go_wp2_with fail
    refine (HPI.out w1).mono ?_
    rintro e w2 ⟨u2, rfl, hm2, hb2⟩
    have hb2' := hb1.trans (hb2.mono hsz1)
    have hsz2 := hb2'.size
    clear hb1 hsz1 hb2
    go_wp2_with fail
    refine (HPT.out w2).mono ?_
    rintro e w3 ⟨u3, rfl, hm3, hb3⟩
    have hb3' := hb2'.trans (hb3.mono hsz2)
    have hsz3 := hb3'.size
    have hi2 := hm2.isB.below hb3
    clear hb2' hsz2 hb3 hm2
    go_wp2_with fail
    refine (HKI.out w3).mono ?_
    rintro e w4 ⟨u4, rfl, hm4, hb4⟩
    have hb4' := hb3'.trans (hb4.mono hsz3)
    have hsz4 := hb4'.size
    have hi2b := hi2.below hb4
    have hi3 := hm3.isB.below hb4
    clear hb3' hsz3 hb4 hm3 hi2
    go_wp2_with fail
    refine (HKT.out w4).mono ?_
    rintro e w5 ⟨u5, rfl, hm5, hb5⟩
    have hb5' := hb4'.trans (hb5.mono hsz4)
    have hiA := hi2b.below hb5
    have hiB := hi3.below hb5
    have hiC := hm4.isB.below hb5
    have hiD := hm5.isB
    clear hb4' hsz4 hb5 hm4 hm5 hi2b hi3
    obtain ⟨aA, cA, rfl, hA1, hA2, _⟩ := id hiA
    obtain ⟨aB, cB, rfl, hB1, hB2, _⟩ := id hiB
    obtain ⟨aC, cC, rfl, hC1, hC2, _⟩ := id hiC
    obtain ⟨aD, cD, rfl, hD1, hD2, _⟩ := id hiD
    have hslA := fun w => run_cut_h (P := Tryd.prog) w Tryd.underlying24 info_byte aA A.length cA ka (ka : Int) rfl (by omega)
    have hslB := fun w => run_cut_h (P := Tryd.prog) w Tryd.underlying24 info_byte aB B.length cB kb (kb : Int) rfl (by omega)
    have hslC := fun w => run_cut_h (P := Tryd.prog) w Tryd.underlying24 info_byte aC C.length cC kc (kc : Int) rfl (by omega)
    have hslD := fun w => run_cut_h (P := Tryd.prog) w Tryd.underlying24 info_byte aD D.length cD kd (kd : Int) rfl (by omega)
    have h0 : (0 : Int) ≤ 9223372036854775807 := by omega
    have h0' : (-9223372036854775808 : Int) ≤ 0 := by omega
    have hsm1 : IntKind.i64.wrap ((s.size : Int) - 1) = (s.size : Int) - 1 := IntWalk.i64_in _ (by omega)
    have hsm2 : (-9223372036854775808 : Int) ≤ (s.size : Int) - 1 := by omega
    have hsm3 : ((s.size : Int) - 1) ≤ 9223372036854775807 := by omega
    have hpA := hiA.pre ka (by omega)
    have hpB := hiB.pre kb (by omega)
    have hpC := hiC.pre kc (by omega)
    have hpD := hiD.pre kd (by omega)
    have hlpA : (A.take ka).length ≤ 140737488355320 := by rw [List.length_take]; omega
    have hlpB : (B.take kb).length ≤ 140737488355320 := by rw [List.length_take]; omega
    have hlpC : (C.take kc).length ≤ 140737488355320 := by rw [List.length_take]; omega
    have hlpD : (D.take kd).length ≤ 140737488355320 := by rw [List.length_take]; omega
    have hsz5 := hb5'.size
    have RA := Lib.hid (takeInt_any (.slice aA ka cA) (A.take ka) 0 w5 hpA (by omega) h0' h0)
    have RB := Lib.hid (takeText_any (.slice aB kb cB) (B.take kb) 0 (s.size : Int) w5 hpB (by omega) h0' h0 (by omega) (by omega))
    have RC := Lib.hid (takeKeyInt_any (.slice aC kc cC) (C.take kc) 0 w5 hpC (by omega) h0' h0)
    have RD := Lib.hid (takeKeyText_any (.slice aD kd cD) (D.take kd) 0 w5 hpD (by omega) h0' h0)
    have RE := fun W (hW : IsB W (.slice aB B.length cB) B) => takeText_any (.slice aB B.length cB) B 0 ((s.size : Int) - 1) W hW (by omega) h0' h0 hsm2 hsm3
    have RF := fun W (hW : IsB W (.slice aA A.length cA) A) => takeInt_any (.slice aA A.length cA) A (A.length : Int) W hW (by omega) (by omega) (by omega)
    rw [HMT.out] at RE
    rw [HEI.out] at RF
    have RE := Lib.hid RE
    have RF := Lib.hid RF
    have RA := Lib.hid RA.out
    have hA3 := Lib.hid (HSI.out ka hlA)
    have hB3 := Lib.hid (HST.out (s.size : Int) kb hlB)
    have hC3 := Lib.hid (HSKI.out kc hlC)
    have hD3 := Lib.hid (HSKT.out kd hlD)
    clear HMT HEI HSI HST HSKI HSKT hpA hpB hpC hpD hlpA hlpB hlpC hlpD
    go_wp2_with fail
    refine RA.out.mono ?_
    rintro e w6 ⟨rfl, rfl⟩
    rw [hA3.out]
    unfold three
    go_wp2_with fail
    refine RB.out.mono ?_
    rintro e w6 ⟨rfl, rfl⟩
    rw [hB3.out]
    unfold threeT
    go_wp2_with fail
    refine RC.out.mono ?_
    rintro e w6 ⟨rfl, rfl⟩
    rw [hC3.out]
    unfold three
    go_wp2_with fail
    refine RD.out.mono ?_
    rintro e w6 ⟨rfl, hb6⟩
    rw [hD3.out]
    unfold threeT
    have hiA6 := hiA.below hb6
    have hiB6 := hiB.below hb6
    have hb6' := hb5'.trans (hb6.mono hsz5)
    go_wp2_with fail
    refine (RE.out w6 hiB6).mono ?_
    rintro e w7 ⟨rfl, rfl⟩
    unfold threeT
    go_wp2_with fail
    refine (RF.out w6 hiA6).mono ?_
    rintro e w7 ⟨rfl, rfl⟩
    unfold three
    go_wp2_with fail
    go_ret
    exact ⟨rfl, hb6'⟩
end Go.Proofs.YteeenihhehmmoaaDoor
