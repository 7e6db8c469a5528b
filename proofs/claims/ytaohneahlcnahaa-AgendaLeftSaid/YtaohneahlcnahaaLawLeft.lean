/- AgendaLeft: an iterator that is left early has gone through the first entries, and may be begun again. -/
import Derived.Test.YtaohneahlcnahaaAgMade
import Derived.Test.YtaohneahlcnahaaSame
set_option linter.unusedVariables false
set_option linter.unusedSimpArgs false
namespace Go.Proofs.Ytaohneahlcnahaa
open Go.RowKit

/- THE PLAIN LAW -/
theorem srt_fold (l : List O3) {L : List Du} (h : Srt L) : Srt (l.foldl (fun L o => putL L o.d o.n) L) := by
  induction l generalizing L with
  | nil => exact h
  | cons x l ih =>
    refine ih ?_
    show Srt (putL L x.d x.n)
    unfold putL
    split
    · exact h.insD _
    · exact h
theorem srt_madeL (l : List O3) : Srt (madeL l) := srt_fold _ List.Pairwise.nil
theorem upL_prefix (L : List Du) (day : Int) : L.take (upL L day).length = upL L day := List.prefix_iff_eq_take.1 (List.takeWhile_prefix _) ▸ rfl
theorem upL_le (L : List Du) (day : Int) : (upL L day).length ≤ L.length := (List.takeWhile_prefix _).length_le
theorem upL_in {L : List Du} {day : Int} {k : Nat} (hk : k < (upL L day).length) : (upL L day)[k].1 ≤ day := by
  have := List.all_takeWhile (p := fun x : Du => decide (x.1 ≤ day)) (l := L)
  rw [List.all_eq_true] at this
  simpa using this _ (List.getElem_mem hk)
theorem upL_out {L : List Du} (hs : Srt L) {day : Int} {k : Nat} (h1 : (upL L day).length ≤ k) (hk : k < L.length) : day < L[k].1 := by
  induction L generalizing k with
  | nil => simp at hk
  | cons x L ih =>
    obtain ⟨hx, hs'⟩ := List.pairwise_cons.1 hs
    by_cases h : x.1 ≤ day
    · have e : upL (x :: L) day = x :: upL L day := by simp [upL, h]
      rw [e] at h1
      cases k with
      | zero => simp at h1
      | succ k => exact ih hs' (by simpa using h1) (by simpa using hk)
    · cases k with
      | zero => simpa using h
      | succ k =>
        have hk' : k < L.length := by simpa using hk
        have := ord_neg.1 (hx L[k] (List.getElem_mem hk'))
        have e : (x :: L)[k + 1] = L[k] := rfl
        rw [e]
        omega
theorem MineD.slot {B : Nat} {w : World} {v : Value} {L : List Du} (h : MineD B w v L) : ∃ a c, v = .slice a L.length c := by obtain ⟨a, c, e, _⟩ := h.isD; exact ⟨a, c, e⟩
theorem IsD.slot {w : World} {v : Value} {L : List Du} (h : IsD w v L) : ∃ a c, v = .slice a L.length c := by obtain ⟨a, c, e, _⟩ := h; exact ⟨a, c, e⟩
theorem IsD.take {w : World} {a : Option Addr} {len cap n : Nat} {L : List Du} (h : IsD w (.slice a len cap) L) (hn : n ≤ L.length) : IsD w (.slice a n cap) (L.take n) := by
  obtain ⟨a', cap', hv, hl, hm, hx, hc⟩ := h
  injection hv with e1 e2 e3
  subst e1 e2 e3
  have hl' : (L.take n).length = n := by rw [List.length_take]; omega
  refine ⟨a, cap, by rw [hl'], by omega, hm, hx, fun x hx => ⟨fun h0 => (hc x hx).1 (by omega), fun i hi => ?_⟩⟩
  have := (hc x hx).2 i (by omega)
  rw [List.getElem_take]
  exact this
def ListAny (w : World) (xs : List Du) (e : Ending) (w' : World) : Prop := ∃ v, e = .returned v ∧ IsD w' v xs ∧ Below w.heap.size w w'
theorem list_any (w : World) (gf : Nat) (lb : Array Value) (xs : List Du) (hg : Goes w gf lb xs) (m : Nat) (hm : m ≤ 1000000) :
    Calls Try.prog 10 #[.func (.func gf) #[] lb, .int .i64 (m : Int)] w (ListAny w (xs.take m)) := by
  cases m with
  | zero => exact (list_zero w gf lb).mono fun e w' ⟨h1, h2⟩ => ⟨_, h1, by rw [List.take_zero]; exact IsD.nil _, h2⟩
  | succ m => exact (list_pos w gf lb xs hg (m + 1) (by omega) hm).mono fun e w' ⟨v, h1, h2, h3⟩ => ⟨v, h1, h2.isD, h3⟩
/-- what is read through the law's tail -/
structure LeftAt (w0 w : World) (vA vF vG vU : Value) (A F G U : List Du) : Prop where
  all : IsD w vA A
  first : IsD w vF F
  again : IsD w vG G
  up : IsD w vU U
  below : Below w0.heap.size w0 w
theorem LeftAt.step {w0 w w' : World} {vA vF vG vU : Value} {A F G U : List Du} (h : LeftAt w0 w vA vF vG vU A F G U) (hb : Below w.heap.size w w') : LeftAt w0 w' vA vF vG vU A F G U :=
  ⟨h.all.below hb, h.first.below hb, h.again.below hb, h.up.below hb, h.below.trans (hb.mono h.below.size)⟩
/- THE WALK -/
set_option maxRecDepth 100000 in
set_option maxHeartbeats 8000000 in
theorem lawLeft_walk (w : World) (v : Value) (l : List O3) (most day : Int) (hv : IsP w v l) (b1 : -9223372036854775808 ≤ most ∧ most ≤ 9223372036854775807) (b2 : -9223372036854775808 ≤ day ∧ day ≤ 9223372036854775807) :
    Calls Try.prog 4 #[v, .int .i64 most, .int .i64 day] w fun e w' => e = .returned (.bool true) ∧ Below w.heap.size w w' := by
  have Hv := Lib.hid hv
  clear hv
  have hs : ∀ w1, Below w.heap.size w w1 → w.heap.size ≤ w1.heap.size := fun _ h => h.size
  have hl := madeL_length l
  have hss := srt_madeL l
  obtain ⟨m, hm⟩ : ∃ m : Nat, max 0 (min most 1000) = (m : Int) := ⟨(max 0 (min most 1000)).toNat, by omega⟩
  have hm1 : m ≤ 1000 := by omega
  have hU := upL_le (madeL l) day
  have PU := Lib.hid (upL_prefix (madeL l) day)
  have hF : ((madeL l).take m).length = min m (madeL l).length := List.length_take
  have hF1 : ((madeL l).take m).length ≤ (madeL l).length := by omega
  have PF := Lib.hid (show (madeL l).take ((madeL l).take m).length = (madeL l).take m by rw [hF]; simp [List.take_eq_take_iff])
  have UI := Lib.hid (fun k hk => upL_in (L := madeL l) (day := day) (k := k) hk)
  have UO := Lib.hid (fun k h1 hk => upL_out hss (day := day) (k := k) h1 hk)
  clear hss
  generalize hAe : madeL l = A at *
  have HAe := Lib.hid hAe
  clear hAe
  generalize hFe : A.take m = F at *
  have HFL := Lib.hid hF
  clear hF
  have HFe := Lib.hid hFe
  clear hFe
  generalize hUe : upL A day = U at *
  have HUe := Lib.hid hUe
  clear hUe
  go_enter Try.func4, Try.ntmps4
  go_wp2_with fail
  refine (shown_any w).mono ?_
  rintro e w1 ⟨rfl, b1'⟩
  have B1 := Lib.hid b1'
  clear b1'
  go_wp2_with fail
  refine (made_any w1 _ l (Hv.out.below B1.out)).mono ?_
  rintro e w2 ⟨a, v2, rfl, g2, b2'⟩
  rw [HAe.out] at g2
  have B2 := Lib.hid (B1.out.trans (b2'.mono (hs _ B1.out)))
  have G2 := Lib.hid (AgAt.down g2 (hs _ B1.out))
  clear B1 b2' g2 HAe
  go_wp2_with fail
  refine (agAll_any _ w2 a v2 _ G2.out (by omega)).mono ?_
  rintro e w3 ⟨gf, lb, rfl, g3, b3⟩
  have B3 := Lib.hid (B2.out.trans (b3.mono (hs _ B2.out)))
  have G3 := Lib.hid (G2.out.below b3)
  have F3 := Lib.hid g3
  clear B2 G2 g3 b3
  go_wp2_with fail
  refine (list_any w3 gf lb _ F3.out 1000 (by decide)).mono ?_
  rintro e w4 ⟨v4, rfl, i4, b4⟩
  rw [List.take_of_length_le (by omega)] at i4
  have B4 := Lib.hid (B3.out.trans (b4.mono (hs _ B3.out)))
  have G4 := Lib.hid (G3.out.below b4)
  have F4 := Lib.hid (F3.out.below b4)
  have A4 := Lib.hid i4
  clear B3 G3 F3 i4 b4
  go_wp2_with fail
  refine (list_any w4 gf lb _ F4.out m (by omega)).mono ?_
  rintro e w5 ⟨v5, rfl, i5, b5⟩
  rw [HFe.out] at i5
  have B5 := Lib.hid (B4.out.trans (b5.mono (hs _ B4.out)))
  have G5 := Lib.hid (G4.out.below b5)
  have F5 := Lib.hid (F4.out.below b5)
  have A5 := Lib.hid (And.intro (A4.out.below b5) i5)
  clear B4 G4 F4 A4 i5 b5 HFe
  go_wp2_with fail
  refine (list_any w5 gf lb _ F5.out 1000 (by decide)).mono ?_
  rintro e w6 ⟨v6, rfl, i6, b6⟩
  rw [List.take_of_length_le (by omega)] at i6
  have B6 := Lib.hid (B5.out.trans (b6.mono (hs _ B5.out)))
  have G6 := Lib.hid (G5.out.below b6)
  have A6 := Lib.hid (And.intro (A5.out.1.below b6) (And.intro (A5.out.2.below b6) i6))
  clear B5 G5 F5 A5 i6 b6
  go_wp2_with fail
  refine (agUp_any _ w6 a v2 _ G6.out (by omega) day).mono ?_
  rintro e w7 ⟨gf7, lb7, rfl, g7, b7⟩
  rw [HUe.out] at g7
  have B7 := Lib.hid (B6.out.trans (b7.mono (hs _ B6.out)))
  have F7 := Lib.hid g7
  have A7 := Lib.hid (And.intro (A6.out.1.below b7) (And.intro (A6.out.2.1.below b7) (A6.out.2.2.below b7)))
  clear B6 G6 A6 g7 b7 HUe
  go_wp2_with fail
  refine (list_any w7 gf7 lb7 _ F7.out 1000 (by decide)).mono ?_
  rintro e w8 ⟨v8, rfl, i8, b8⟩
  rw [List.take_of_length_le (by omega)] at i8
  have J8 := Lib.hid (LeftAt.mk (A7.out.1.below b8) (A7.out.2.1.below b8) (A7.out.2.2.below b8) i8 (B7.out.trans (b8.mono (hs _ B7.out))))
  clear B7 F7 A7 i8 b8
  obtain ⟨x4, c4, rfl⟩ := J8.out.all.slot
  obtain ⟨x5, c5, rfl⟩ := J8.out.first.slot
  obtain ⟨x6, c6, rfl⟩ := J8.out.again.slot
  obtain ⟨x8, c8, rfl⟩ := J8.out.up.slot
  have hd1 : decide ((A.length : Int) < (F.length : Int)) = false := decide_eq_false (by omega)
  go_wp2_with fail
  go_loopw [15, 41, 42, 43, 44, 45, 46, 47, 48, 49, 50, 51, 52, 53] (fun i _ _ _ _ _ _ _ _ _ _ _ _ _ wr => ∃ k : Nat, k ≤ U.length ∧ i = .int .i64 (k : Int) ∧ LeftAt w wr (.slice x4 A.length c4) (.slice x5 F.length c5) (.slice x6 A.length c6) (.slice x8 U.length c8) A F A U) (fun i _ _ _ _ _ _ _ _ _ _ _ _ _ _ => U.length - (intOf i).toNat)
  case atStart => exact ⟨0, Nat.zero_le _, rfl, J8.out⟩
  case round =>
    obtain ⟨k, hk, rfl, hj⟩ := hrel
    have HJ := Lib.hid hj
    clear J8 hj
    by_cases hlt : k < U.length
    · have hd : decide ((k : Int) < (U.length : Int)) = true := by simpa using hlt
      have hi0 : (0 : Int) ≤ (k : Int) := by omega
      have hi1 : (k : Int) < (U.length : Int) := by omega
      obtain ⟨-, -, -, hv1⟩ := HJ.out.up.addr
      obtain ⟨B1, o1, rfl, hc⟩ := hv1 (by omega)
      obtain ⟨c0, -⟩ := hc k hlt
      have hle := UI.out k hlt
      have hdd : decide (day < U[k].1) = false := decide_eq_false (by omega)
      clear hv1 hc hle
      go_wp2_with fail
      go_roundw
      case rel => exact ⟨k + 1, by omega, by go_num, HJ.out⟩
      case measure => simp [intOf]; omega
    · obtain rfl : k = U.length := by omega
      have hd : decide ((U.length : Int) < (U.length : Int)) = false := by simp
      go_wp2_with fail
      clear hd
      rename_i wq _ _ _
      go_loopw [16, 56, 57, 58, 59, 60, 61, 62, 63, 64, 65, 66, 67, 68] (fun i _ _ _ _ _ _ _ _ _ _ _ _ _ wr => ∃ k : Nat, U.length ≤ k ∧ k ≤ A.length ∧ i = .int .i64 (k : Int) ∧ LeftAt w wr (.slice x4 A.length c4) (.slice x5 F.length c5) (.slice x6 A.length c6) (.slice x8 U.length c8) A F A U) (fun i _ _ _ _ _ _ _ _ _ _ _ _ _ _ => A.length - (intOf i).toNat)
      case atStart => exact ⟨U.length, Nat.le_refl _, hU, rfl, HJ.out⟩
      case round =>
        obtain ⟨k, hk0, hk, rfl, hj⟩ := hrel
        have J9 := Lib.hid hj
        clear HJ hj
        by_cases hlt : k < A.length
        · have hd : decide ((k : Int) < (A.length : Int)) = true := by simpa using hlt
          have hi0 : (0 : Int) ≤ (k : Int) := by omega
          have hi1 : (k : Int) < (A.length : Int) := by omega
          obtain ⟨-, -, -, hv1⟩ := J9.out.all.addr
          obtain ⟨B1, o1, rfl, hc⟩ := hv1 (by omega)
          obtain ⟨c0, -⟩ := hc k hlt
          have hle := UO.out k hk0 hlt
          have hdd : decide (A[k].1 ≤ day) = false := decide_eq_false (by omega)
          clear hv1 hc hle
          go_wp2_with fail
          go_roundw
          case rel => exact ⟨k + 1, by omega, by omega, by go_num, J9.out⟩
          case measure => simp [intOf]; omega
        · obtain rfl : k = A.length := by omega
          have hd : decide ((A.length : Int) < (A.length : Int)) = false := by simp
          have hdl : decide ((U.length : Int) ≤ (A.length : Int)) = true := decide_eq_true (by omega)
          have f0 : (0 : Int) ≤ (F.length : Int) := by omega
          have f1 : (F.length : Int) ≤ (c4 : Int) := by have := J9.out.all.addr.2.1; omega
          have u0 : (0 : Int) ≤ (U.length : Int) := by omega
          have u1 : (U.length : Int) ≤ (c4 : Int) := by have := J9.out.all.addr.2.1; omega
          have I2 := Lib.hid (show IsD _ (.slice x4 F.length c4) F by have := J9.out.all.take hF1; rwa [PF.out] at this)
          have FL := HFL.out
          by_cases q1 : (F.length : Int) = most
          · have hq1 : ((F.length : Int) == most) = true := by simpa using q1
            clear FL q1
            go_wp2_with fail
            refine (same_any _ _ _ _ J9.out.first I2.out (by omega)).mono ?_
            rintro e w10 ⟨rfl, b10⟩
            have J10 := Lib.hid (J9.out.step b10)
            clear J9 I2 b10
            go_wp2_with fail
            refine (same_any w10 _ _ _ J10.out.again J10.out.all (by omega)).mono ?_
            rintro e w11 ⟨rfl, b11⟩
            have J11 := Lib.hid (J10.out.step b11)
            clear J10 b11
            have I3 := Lib.hid (show IsD w11 (.slice x4 U.length c4) U by have := J11.out.all.take hU; rwa [PU.out] at this)
            go_wp2_with fail
            refine (same_any w11 _ _ _ J11.out.up I3.out (by omega)).mono ?_
            rintro e w12 ⟨rfl, b12⟩
            have B12 := Lib.hid (J11.out.below.trans (b12.mono J11.out.below.size))
            clear J11 I3 b12
            go_wp2_with fail
            go_ret
            exact ⟨rfl, B12.out⟩
          · have hq1 : ((F.length : Int) == most) = false := by simpa using q1
            by_cases q2 : most ≤ 0
            · have hq2 : decide (most ≤ 0) = true := by simpa using q2
              have hq3 : ((F.length : Int) == 0) = true := by rw [beq_iff_eq]; omega
              clear FL q1 q2
              go_wp2_with fail
              refine (same_any _ _ _ _ J9.out.first I2.out (by omega)).mono ?_
              rintro e w10 ⟨rfl, b10⟩
              have J10 := Lib.hid (J9.out.step b10)
              clear J9 I2 b10
              go_wp2_with fail
              refine (same_any w10 _ _ _ J10.out.again J10.out.all (by omega)).mono ?_
              rintro e w11 ⟨rfl, b11⟩
              have J11 := Lib.hid (J10.out.step b11)
              clear J10 b11
              have I3 := Lib.hid (show IsD w11 (.slice x4 U.length c4) U by have := J11.out.all.take hU; rwa [PU.out] at this)
              go_wp2_with fail
              refine (same_any w11 _ _ _ J11.out.up I3.out (by omega)).mono ?_
              rintro e w12 ⟨rfl, b12⟩
              have B12 := Lib.hid (J11.out.below.trans (b12.mono J11.out.below.size))
              clear J11 I3 b12
              go_wp2_with fail
              go_ret
              exact ⟨rfl, B12.out⟩
            · have hq2 : decide (most ≤ 0) = false := by simpa using q2
              have hq3 : decide ((A.length : Int) < most) = true := decide_eq_true (by omega)
              have hq4 : ((F.length : Int) == (A.length : Int)) = true := by rw [beq_iff_eq]; omega
              clear FL q1 q2
              go_wp2_with fail
              refine (same_any _ _ _ _ J9.out.first I2.out (by omega)).mono ?_
              rintro e w10 ⟨rfl, b10⟩
              have J10 := Lib.hid (J9.out.step b10)
              clear J9 I2 b10
              go_wp2_with fail
              refine (same_any w10 _ _ _ J10.out.again J10.out.all (by omega)).mono ?_
              rintro e w11 ⟨rfl, b11⟩
              have J11 := Lib.hid (J10.out.step b11)
              clear J10 b11
              have I3 := Lib.hid (show IsD w11 (.slice x4 U.length c4) U by have := J11.out.all.take hU; rwa [PU.out] at this)
              go_wp2_with fail
              refine (same_any w11 _ _ _ J11.out.up I3.out (by omega)).mono ?_
              rintro e w12 ⟨rfl, b12⟩
              have B12 := Lib.hid (J11.out.below.trans (b12.mono J11.out.below.size))
              clear J11 I3 b12
              go_wp2_with fail
              go_ret
              exact ⟨rfl, B12.out⟩
end Go.Proofs.Ytaohneahlcnahaa
