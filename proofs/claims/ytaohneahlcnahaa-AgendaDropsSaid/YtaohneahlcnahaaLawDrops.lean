/- AgendaDrops: a number that is dropped has no days any more, and all others have theirs. -/
import Derived.Test.YtaohneahlcnahaaAgMade
import Derived.Test.YtaohneahlcnahaaSame
set_option linter.unusedVariables false
set_option linter.unusedSimpArgs false
namespace Go.Proofs.Ytaohneahlcnahaa
open Go.RowKit

/- THE PLAIN LAW -/
theorem drop_days (L : List Du) (id : Int) : daysL (keepL L id) id = [] := by
  unfold daysL keepL
  rw [List.filter_filter]
  simp
theorem drop_other (L : List Du) {id other : Int} (h : id ≠ other) : daysL (keepL L id) other = daysL L other := by
  unfold daysL keepL
  rw [List.filter_filter]
  congr 1
  apply List.filter_congr
  intro x _
  by_cases hx : x.2 = other
  · simp [hx, Ne.symm h]
  · simp [hx]
theorem drop_count (L : List Du) (id : Int) : (keepL L id).length + (daysL L id).length = L.length := by
  unfold daysL keepL
  rw [List.length_map]
  induction L with
  | nil => rfl
  | cons x L ih => cases hx : (x.2 == id) <;> simp [hx] <;> omega
theorem MineI.keep {B : Nat} {w w' : World} {v : Value} {L : List Int} (h : MineI B w v L) (hw : ∀ k, k < w.heap.size → B ≤ k → w'.heap[k]? = w.heap[k]?) : MineI B w' v L := by
  obtain ⟨h1, h2⟩ := h
  refine ⟨h1, ?_⟩
  rcases h2 with h2 | ⟨g, cap, cur, hv, hg, hh, r⟩
  · exact .inl h2
  · exact .inr ⟨g, cap, cur, hv, hg, (hw g (lt_of_heap hh) hg).trans hh, r⟩
theorem MineI.below {B : Nat} {w w' : World} {v : Value} {L : List Int} (h : MineI B w v L) (hb : Below w.heap.size w w') : MineI B w' v L := h.keep fun k hk _ => hb.block k hk
theorem MineD.slot {B : Nat} {w : World} {v : Value} {L : List Du} (h : MineD B w v L) : ∃ a c, v = .slice a L.length c := by obtain ⟨a, c, e, _⟩ := h.isD; exact ⟨a, c, e⟩
/- THE WALK -/
set_option maxRecDepth 100000 in
set_option maxHeartbeats 8000000 in
theorem lawDrops_walk (w : World) (v : Value) (l : List O3) (id other : Int) (hv : IsP w v l) :
    Calls Try.prog 5 #[v, .int .i64 id, .int .i64 other] w fun e w' => e = .returned (.bool true) ∧ Below w.heap.size w w' := by
  have Hv := Lib.hid hv
  clear hv
  have hs : ∀ w1, Below w.heap.size w w1 → w.heap.size ≤ w1.heap.size := fun _ h => h.size
  have hl := madeL_length l
  have hk0 : (keepL (madeL l) id).length ≤ 200 := by have := keep_len (madeL l) id; omega
  have hk : (keepL (madeL l) id).length ≤ 1000000 := by omega
  have hcnt := drop_count (madeL l) id
  have e1 : (((madeL l).length : Int) - ((keepL (madeL l) id).length : Int) == ((daysL (madeL l) id).length : Int)) = true := by simp; omega
  have e4 : (((keepL (madeL l) id).length : Int) == ((madeL l).length : Int) - (((madeL l).length : Int) - ((keepL (madeL l) id).length : Int))) = true := by simp; omega
  have P2 := Lib.hid (drop_days (madeL l) id)
  go_enter Try.func5, Try.ntmps5
  go_wp2_with fail
  refine (shown_any w).mono ?_
  rintro e w1 ⟨rfl, b1⟩
  have B1 := Lib.hid b1
  clear b1
  go_wp2_with fail
  refine (made_any w1 _ l (Hv.out.below B1.out)).mono ?_
  rintro e w2 ⟨a, v2, rfl, g2, b2⟩
  have B2 := Lib.hid (B1.out.trans (b2.mono (hs _ B1.out)))
  have G2 := Lib.hid (AgAt.down g2 (hs _ B1.out))
  have ha2 := lt_of_heap g2.head
  clear B1 b2 g2
  go_wp2_with fail
  refine (agDays_any _ w2 a v2 _ G2.out (by omega) other).mono ?_
  rintro e w3 ⟨u3, rfl, m3, b3⟩
  have G3 := Lib.hid (G2.out.below b3)
  have M3 := Lib.hid m3
  have B3 := Lib.hid (B2.out.trans (b3.mono (hs _ B2.out)))
  clear G2 B2 m3 b3
  go_wp2_with fail
  refine (agDays_any _ w3 a v2 _ G3.out (by omega) id).mono ?_
  rintro e w4 ⟨u4, rfl, m4, b4⟩
  obtain ⟨x4, c4, rfl, -⟩ := m4.isI
  have G4 := Lib.hid (G3.out.below b4)
  have M4 := Lib.hid (M3.out.below b4)
  have B4 := Lib.hid (B3.out.trans (b4.mono (hs _ B3.out)))
  clear G3 M3 B3 m4 b4
  go_wp2_with fail
  refine (agDrop_any _ w4 a v2 _ G4.out (by omega) id).mono ?_
  rintro e w5 ⟨v5, rfl, g5, t5⟩
  have Z5 := Lib.hid ((M4.out.keep (fun k hk hb => t5.block k hk (by omega))).isI)
  have B5 := Lib.hid (B4.out.trans (t5.below (hs _ B4.out) (fun k hk => by have := G4.out.low; omega)))
  have G5 := Lib.hid g5
  clear G4 M4 B4 g5 t5
  go_wp2_with fail
  refine (made_any w5 _ l (Hv.out.below B5.out)).mono ?_
  rintro e w6 ⟨a6, v6, rfl, g6, b6⟩
  have Z6 := Lib.hid (Z5.out.below b6)
  have B6 := Lib.hid (B5.out.trans (b6.mono (hs _ B5.out)))
  have G6 := Lib.hid (G5.out.below b6)
  have A6 := Lib.hid g6
  clear G5 Z5 B5 g6 b6
  go_wp2_with fail
  refine (agAll_any _ w6 a6 v6 _ A6.out (by omega)).mono ?_
  rintro e w7 ⟨gf7, lb7, rfl, g7, b7⟩
  have Z7 := Lib.hid (Z6.out.below b7)
  have B7 := Lib.hid (B6.out.trans (b7.mono (hs _ B6.out)))
  have G7 := Lib.hid (G6.out.below b7)
  have F7 := Lib.hid g7
  clear G6 Z6 B6 A6 g7 b7
  go_wp2_with fail
  refine (list_pos w7 gf7 lb7 _ F7.out 1000 (by decide) (by decide)).mono ?_
  rintro e w8 ⟨v8, rfl, m8, b8⟩
  rw [List.take_of_length_le (by omega)] at m8
  obtain ⟨x8, c8, rfl⟩ := m8.slot
  have B8 := Lib.hid (B7.out.trans (b8.mono (hs _ B7.out)))
  have G8 := Lib.hid (G7.out.below b8)
  have Y8 := Lib.hid (Z7.out.below b8)
  clear G7 Z7 B7 F7 m8 b8
  by_cases hio : id = other
  · subst hio
    have hd : (id == id) = true := by simp
    have Z8 := Lib.hid (show IsI w8 (.slice none 0 0) (daysL (keepL (madeL l) id) id) by rw [P2.out]; exact IsI.nil _)
    clear Y8
    go_wp2_with fail
    refine (agDays_any _ w8 a v5 _ G8.out hk id).mono ?_
    rintro e w9 ⟨u9, rfl, m9, b9⟩
    rw [P2.out] at m9
    obtain ⟨x9, c9, rfl, -⟩ := m9.isI
    have G9 := Lib.hid (G8.out.below b9)
    have Z9 := Lib.hid (Z8.out.below b9)
    have B9 := Lib.hid (B8.out.trans (b9.mono (hs _ B8.out)))
    clear G8 Z8 B8 m9 b9
    go_wp2_with fail
    refine (agDays_any _ w9 a v5 _ G9.out hk id).mono ?_
    rintro e w10 ⟨u10, rfl, m10, b10⟩
    have I10 := Lib.hid m10.isI
    have G10 := Lib.hid (G9.out.below b10)
    have Z10 := Lib.hid (Z9.out.below b10)
    have B10 := Lib.hid (B9.out.trans (b10.mono (hs _ B9.out)))
    clear G9 Z9 B9 m10 b10
    go_wp2_with fail
    refine (ints_any w10 _ _ _ I10.out Z10.out (by have := days_len (keepL (madeL l) id) id; omega)).mono ?_
    rintro e w11 ⟨rfl, b11⟩
    have G11 := Lib.hid (G10.out.below b11)
    have B11 := Lib.hid (B10.out.trans (b11.mono (hs _ B10.out)))
    clear G10 Z10 I10 B10 b11
    go_wp2_with fail
    refine (agAll_any _ w11 a v5 _ G11.out hk).mono ?_
    rintro e w12 ⟨gf12, lb12, rfl, g12, b12⟩
    have B12 := Lib.hid (B11.out.trans (b12.mono (hs _ B11.out)))
    have F12 := Lib.hid g12
    clear G11 B11 g12 b12
    go_wp2_with fail
    refine (list_pos w12 gf12 lb12 _ F12.out 1000 (by decide) (by decide)).mono ?_
    rintro e w13 ⟨v13, rfl, m13, b13⟩
    rw [List.take_of_length_le (by omega)] at m13
    obtain ⟨x13, c13, rfl⟩ := m13.slot
    have B13 := B12.out.trans (b13.mono (hs _ B12.out))
    clear F12 B12 m13 b13
    go_wp2_with fail
    go_ret
    exact ⟨rfl, B13⟩
  · have hd : (id == other) = false := by simpa using hio
    have Z8 := Lib.hid (show IsI w8 _ (daysL (keepL (madeL l) id) other) by rw [drop_other (madeL l) hio]; exact Y8.out)
    clear Y8
    go_wp2_with fail
    refine (agDays_any _ w8 a v5 _ G8.out hk id).mono ?_
    rintro e w9 ⟨u9, rfl, m9, b9⟩
    rw [P2.out] at m9
    obtain ⟨x9, c9, rfl, -⟩ := m9.isI
    have G9 := Lib.hid (G8.out.below b9)
    have Z9 := Lib.hid (Z8.out.below b9)
    have B9 := Lib.hid (B8.out.trans (b9.mono (hs _ B8.out)))
    clear G8 Z8 B8 m9 b9
    go_wp2_with fail
    refine (agDays_any _ w9 a v5 _ G9.out hk other).mono ?_
    rintro e w10 ⟨u10, rfl, m10, b10⟩
    have I10 := Lib.hid m10.isI
    have G10 := Lib.hid (G9.out.below b10)
    have Z10 := Lib.hid (Z9.out.below b10)
    have B10 := Lib.hid (B9.out.trans (b10.mono (hs _ B9.out)))
    clear G9 Z9 B9 m10 b10
    go_wp2_with fail
    refine (ints_any w10 _ _ _ I10.out Z10.out (by have := days_len (keepL (madeL l) id) other; omega)).mono ?_
    rintro e w11 ⟨rfl, b11⟩
    have G11 := Lib.hid (G10.out.below b11)
    have B11 := Lib.hid (B10.out.trans (b11.mono (hs _ B10.out)))
    clear G10 Z10 I10 B10 b11
    go_wp2_with fail
    refine (agAll_any _ w11 a v5 _ G11.out hk).mono ?_
    rintro e w12 ⟨gf12, lb12, rfl, g12, b12⟩
    have B12 := Lib.hid (B11.out.trans (b12.mono (hs _ B11.out)))
    have F12 := Lib.hid g12
    clear G11 B11 g12 b12
    go_wp2_with fail
    refine (list_pos w12 gf12 lb12 _ F12.out 1000 (by decide) (by decide)).mono ?_
    rintro e w13 ⟨v13, rfl, m13, b13⟩
    rw [List.take_of_length_le (by omega)] at m13
    obtain ⟨x13, c13, rfl⟩ := m13.slot
    have B13 := B12.out.trans (b13.mono (hs _ B12.out))
    clear F12 B12 m13 b13
    go_wp2_with fail
    go_ret
    exact ⟨rfl, B13⟩
end Go.Proofs.Ytaohneahlcnahaa
