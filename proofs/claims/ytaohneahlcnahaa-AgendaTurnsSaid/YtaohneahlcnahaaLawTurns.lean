/- AgendaTurns: in which order entries came makes no difference. -/
import Derived.Test.YtaohneahlcnahaaAgMade
import Derived.Test.YtaohneahlcnahaaSame
set_option linter.unusedVariables false
set_option linter.unusedSimpArgs false
namespace Go.Proofs.Ytaohneahlcnahaa
open Go.RowKit

/- THE PLAIN LAW -/
theorem srt_putL {L : List Du} (h : Srt L) (d n : Int) : Srt (putL L d n) := by
  unfold putL
  split
  · exact h.insD _
  · exact h
theorem mem_putL {L : List Du} {d n : Int} {y : Du} : y ∈ putL L d n ↔ (putE d n = 0 ∧ y = (d, n)) ∨ y ∈ L := by
  unfold putL
  split
  · rename_i h
    rw [mem_insD]
    simp [h]
  · rename_i h
    simp [h]
theorem srt_fold (l : List O3) {L : List Du} (h : Srt L) : Srt (l.foldl (fun L o => putL L o.d o.n) L) := by
  induction l generalizing L with
  | nil => exact h
  | cons x l ih => exact ih (srt_putL h _ _)
theorem mem_fold (l : List O3) (L : List Du) (y : Du) : y ∈ l.foldl (fun L o => putL L o.d o.n) L ↔ (∃ o ∈ l, putE o.d o.n = 0 ∧ y = (o.d, o.n)) ∨ y ∈ L := by
  induction l generalizing L with
  | nil => simp
  | cons x l ih =>
    simp only [List.foldl_cons, ih, mem_putL, List.mem_cons, exists_eq_or_imp]
    constructor
    · rintro (h | h | h)
      · exact .inl (.inr h)
      · exact .inl (.inl h)
      · exact .inr h
    · rintro ((h | h) | h)
      · exact .inr (.inl h)
      · exact .inl h
      · exact .inr (.inr h)
theorem srt_madeK (l : List O3) : Srt (madeK l) := srt_fold l List.Pairwise.nil
theorem srt_madeL (l : List O3) : Srt (madeL l) := srt_madeK _
theorem madeK_mem {l m : List O3} (h : ∀ o, o ∈ l ↔ o ∈ m) : madeK l = madeK m :=
  (srt_madeK l).ext (srt_madeK m) fun y => by unfold madeK; rw [mem_fold, mem_fold]; simp only [h]
/-- the entries turned -/
def backL (l : List O3) (k : Nat) : List O3 := (l.take 200).reverse.take k
theorem back_len (l : List O3) (k : Nat) : (backL l k).length = min k (min 200 l.length) := by simp [backL]
theorem back_succ {l : List O3} {n k : Nat} (hn : n = min 200 l.length) (hk : k < n) : ∃ h : n - 1 - k < l.length, backL l (k + 1) = backL l k ++ [l[n - 1 - k]] := by
  refine ⟨by omega, ?_⟩
  unfold backL
  rw [List.take_succ_eq_append_getElem (by simp; omega), List.getElem_reverse, List.getElem_take]
  congr 3
  simp only [List.length_take]
  omega
theorem turns_plain (l : List O3) {n : Nat} (hn : n = min 200 l.length) : madeL (backL l n) = madeL l := by
  have e : backL l n = (l.take 200).reverse := by unfold backL; exact List.take_of_length_le (by simp; omega)
  unfold madeL
  rw [e, List.take_of_length_le (l := (l.take 200).reverse) (by simp; omega)]
  exact madeK_mem fun o => by simp
/- THE WALK -/
def TurnAt (w0 : World) (v : Value) (L : List O3) (wr : World) : Prop := MineP w0.heap.size wr v L ∧ Below w0.heap.size w0 wr
set_option maxRecDepth 100000 in
set_option maxHeartbeats 4000000 in
theorem lawTurns_walk (w : World) (v : Value) (l : List O3) (hv : IsP w v l) :
    Calls Try.prog 3 #[v] w fun e w' => e = .returned (.bool true) ∧ Below w.heap.size w w' := by
  obtain ⟨a, cap, rfl, -⟩ := id hv
  have Hv := Lib.hid hv
  clear hv
  obtain ⟨n, hn⟩ : ∃ n, n = min 200 l.length := ⟨_, rfl⟩
  go_enter Try.func3, Try.ntmps3
  go_wp2_with fail
  refine (shown_any w).mono ?_
  rintro e w1 ⟨rfl, b1⟩
  have S1 := Lib.hid (show TurnAt w (.slice none 0 0) (backL l 0) w1 from ⟨MineP.nil _ _, b1⟩)
  clear b1
  go_wp2_with fail
  have hmin : min (l.length : Int) 200 = (n : Int) := by omega
  rw [hmin]
  have hnl : n ≤ l.length := by omega
  have hn200 : n ≤ 200 := by omega
  have HN := Lib.hid hn
  clear hn hmin
  go_loopw [4, 6, 11, 12, 13, 14, 15, 16, 17, 18, 19, 20, 21, 22, 23, 24, 25] (fun b i _ _ _ _ _ _ _ _ _ _ _ _ _ _ _ wr => ∃ k : Nat, k ≤ n ∧ i = .int .i64 (k : Int) ∧ TurnAt w b (backL l k) wr) (fun b i _ _ _ _ _ _ _ _ _ _ _ _ _ _ _ _ => n - (intOf i).toNat)
  case atStart => exact ⟨0, Nat.zero_le _, rfl, S1.out⟩
  case round =>
    obtain ⟨k, hk, rfl, hm⟩ := hrel
    clear S1
    have HM := Lib.hid hm
    clear hm
    by_cases hlt : k < n
    · have hd : decide ((k : Int) < (n : Int)) = true := by simpa using hlt
      have hi0 : (0 : Int) ≤ (n : Int) - 1 - (k : Int) := by omega
      have hi1 : (n : Int) - 1 - (k : Int) < (l.length : Int) := by omega
      obtain ⟨-, -, -, hv1⟩ := (Hv.out.below HM.out.2).addr
      obtain ⟨B1, o1, rfl, hc⟩ := hv1 (by omega)
      obtain ⟨hik, hbk⟩ := back_succ HN.out hlt
      obtain ⟨c0, c1, c2⟩ := hc (n - 1 - k) hik
      have HBK := Lib.hid hbk
      clear hv1 hc hbk
      obtain ⟨y, hy⟩ : ∃ y, y = l[n - 1 - k] := ⟨_, rfl⟩
      rw [← hy] at HBK c0 c1 c2
      clear hy hik
      have hbl : (backL l k).length ≤ 1000000 := by have := back_len l k; omega
      have bs := HM.out.2.size
      obtain ⟨v', w', hr, m1, b1⟩ := run_op3 (wr.alloc (.cells (ov1 y).toArray 25)) w.heap.size u4 (backL l k) (World.ownsRow.alloc HM.out.1 _) wr.heap.size y (heap_alloc_new wr _) hbl (by simp; omega)
      have S2 := Lib.hid (show TurnAt w v' (backL l (k + 1)) w' from ⟨HBK.out ▸ m1, (HM.out.2.alloc bs _).trans b1⟩)
      clear m1 b1 bs HBK HM
      go_wp2_with (at_builtin; refine Lib.wpList_append_run _ rfl _ _ _ _ rfl _ _ rfl rfl _ _ hr ?_; clear hr)
      go_roundw
      case rel => exact ⟨k + 1, by omega, by go_num, S2.out⟩
      case measure => simp [intOf]; omega
    · obtain rfl : k = n := by omega
      have hd : decide ((k : Int) < (k : Int)) = false := by simp
      obtain ⟨v1, hm1⟩ : ∃ v1, v1 = u4 := ⟨_, rfl⟩
      have PL := Lib.hid (turns_plain l HN.out)
      have h7 : ∀ w1, Below w.heap.size w w1 → w.heap.size ≤ w1.heap.size := fun _ h => h.size
      clear HN
      go_wp2_with fail
      refine (made_any wr _ l (Hv.out.below HM.out.2)).mono ?_
      rintro e w2 ⟨a2, v2, rfl, g2, b2⟩
      have BB := Lib.hid (And.intro (HM.out.1.isP.below b2) (HM.out.2.trans (b2.mono (h7 _ HM.out.2))))
      have G2 := Lib.hid g2
      clear HM g2 b2
      go_wp2_with fail
      refine (agAll_any _ w2 a2 v2 _ G2.out (by have := madeL_length l; omega)).mono ?_
      rintro e w3 ⟨gf, lb, rfl, g3, b3⟩
      have BC := Lib.hid (And.intro (BB.out.1.below b3) (BB.out.2.trans (b3.mono (h7 _ BB.out.2))))
      have G3 := Lib.hid g3
      clear BB G2 g3 b3
      go_wp2_with fail
      refine (list_pos w3 gf lb _ G3.out 1000 (by decide) (by decide)).mono ?_
      rintro e w4 ⟨v4, rfl, m4, b4⟩
      rw [List.take_of_length_le (by have := madeL_length l; omega)] at m4
      have BD := Lib.hid (And.intro m4.isD (And.intro (BC.out.1.below b4) (BC.out.2.trans (b4.mono (h7 _ BC.out.2)))))
      clear BC G3 m4 b4
      go_wp2_with fail
      refine (made_any w4 _ _ BD.out.2.1).mono ?_
      rintro e w5 ⟨a5, v5, rfl, g5, b5⟩
      rw [PL.out] at g5
      have BE := Lib.hid (And.intro (BD.out.1.below b5) (BD.out.2.2.trans (b5.mono (h7 _ BD.out.2.2))))
      have G5 := Lib.hid g5
      clear BD g5 b5
      go_wp2_with fail
      refine (agAll_any _ w5 a5 v5 _ G5.out (by have := madeL_length l; omega)).mono ?_
      rintro e w6 ⟨gf6, lb6, rfl, g6, b6⟩
      have BF := Lib.hid (And.intro (BE.out.1.below b6) (BE.out.2.trans (b6.mono (h7 _ BE.out.2))))
      have G6 := Lib.hid g6
      clear BE G5 g6 b6
      go_wp2_with fail
      refine (list_pos w6 gf6 lb6 _ G6.out 1000 (by decide) (by decide)).mono ?_
      rintro e w7 ⟨v7, rfl, m7, b7⟩
      rw [List.take_of_length_le (by have := madeL_length l; omega)] at m7
      have BG := Lib.hid (And.intro m7.isD (And.intro (BF.out.1.below b7) (BF.out.2.trans (b7.mono (h7 _ BF.out.2)))))
      clear BF G6 m7 b7
      go_wp2_with fail
      refine (same_any w7 _ _ _ BG.out.2.1 BG.out.1 (by have := madeL_length l; omega)).mono ?_
      rintro e w8 ⟨rfl, b8⟩
      have BH := BG.out.2.2.trans (b8.mono (h7 _ BG.out.2.2))
      clear BG b8
      go_wp2_with fail
      go_ret
      exact ⟨rfl, BH⟩
end Go.Proofs.Ytaohneahlcnahaa
