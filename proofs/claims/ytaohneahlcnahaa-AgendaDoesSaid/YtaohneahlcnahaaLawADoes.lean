/- AgendaDoes: an agenda has just the entries that were put and not dropped, in order. -/
import Derived.Test.YtaohneahlcnahaaAgBoth
import Derived.Test.YtaohneahlcnahaaOpenA
import Derived.Test.YtaohneahlcnahaaSame
import Derived.Test.YtaohneahlcnahaaAgMade
set_option linter.unusedVariables false
set_option linter.unusedSimpArgs false
namespace Go.Proofs.Ytaohneahlcnahaa
open Go.RowKit

def DoAt (w0 : World) (a r k : Nat) (wr : World) : Prop := ∃ v u L, L.length ≤ k ∧ Both w0.heap.size wr a v r u L ∧ Below w0.heap.size w0 wr
theorem MineI.keep {B : Nat} {w w' : World} {v : Value} {L : List Int} (h : MineI B w v L) (hw : ∀ k, k < w.heap.size → B ≤ k → w'.heap[k]? = w.heap[k]?) : MineI B w' v L := by
  obtain ⟨h1, h2⟩ := h
  refine ⟨h1, ?_⟩
  rcases h2 with h2 | ⟨g, cap, cur, hv, hg, hh, r⟩
  · exact .inl h2
  · exact .inr ⟨g, cap, cur, hv, hg, (hw g (lt_of_heap hh) hg).trans hh, r⟩
/-- the row of days while it is written over: nothing below its base turns -/
def DaysAt (bs : Nat) (w6 wr : World) (v : Value) (n : Nat) : Prop := ∃ zs : List Int, zs.length = n ∧ MineI bs wr v zs ∧ Below bs w6 wr
/-- where the two agendas lie -/
def Under (bs a : Nat) (v : Value) (r : Nat) (u : Value) : Prop := a < bs ∧ r < bs ∧ (∀ k, v.ownBlock = some k → k < bs) ∧ ∀ k, u.ownBlock = some k → k < bs
theorem Both.under {B : Nat} {w : World} {a : Nat} {v : Value} {r : Nat} {u : Value} {L : List Du} (h : Both B w a v r u L) : Under w.heap.size a v r u :=
  ⟨lt_of_heap h.ag.head, lt_of_heap h.rf.head, fun k hk => (World.ownsRow.lt h.ag.row k hk).2, fun k hk => (World.ownsRow.lt h.rf.row k hk).2⟩
theorem Both.over {B bs : Nat} {w w' : World} {a : Nat} {v : Value} {r : Nat} {u : Value} {L : List Du} (h : Both B w a v r u L) (hu : Under bs a v r u) (hb : Below bs w w') : Both B w' a v r u L :=
  ⟨h.ag.keep fun k _ hT => hb.block k (hT.elim (fun e => e ▸ hu.1) fun e => hu.2.2.1 k e.symm), ⟨h.rf.low, (hb.block r hu.2.1).trans h.rf.head, h.rf.row.keepOwn fun k _ e => hb.block k (hu.2.2.2 k e.symm)⟩, h.sep⟩
theorem upR_eq {L : List Du} (hs : Srt L) (day : Int) : upR L day = upL L day := by
  unfold upR upL
  induction L with
  | nil => rfl
  | cons x L ih =>
    obtain ⟨hx, hs'⟩ := List.pairwise_cons.1 hs
    by_cases h : x.1 ≤ day
    · simp only [List.filter_cons, List.takeWhile_cons, decide_eq_true h, if_true, ih hs']
    · have e : decide (x.1 ≤ day) = false := decide_eq_false h
      simp only [List.filter_cons, List.takeWhile_cons, e, Bool.false_eq_true, if_false]
      rw [List.filter_eq_nil_iff]
      intro y hy
      have := ord_neg.1 (hx y hy)
      simp
      omega
set_option maxRecDepth 100000 in
set_option maxHeartbeats 8000000 in
theorem lawADoes_walk (w : World) (v : Value) (l : List O3) (day id : Int) (hv : IsP w v l) (hok : ∀ x ∈ l, x.Ok) :
    Calls Try.prog 6 #[v, .int .i64 day, .int .i64 id] w fun e w' => e = .returned (.bool true) ∧ Below w.heap.size w w' := by
  obtain ⟨sa, scap, rfl, -⟩ := _root_.id hv
  have Hv := Lib.hid hv
  clear hv
  have hs : ∀ w1, Below w.heap.size w w1 → w.heap.size ≤ w1.heap.size := fun _ h => h.size
  go_enter Try.func6, Try.ntmps6
  go_wp2_with fail
  refine (shown_any w).mono ?_
  rintro e w1 ⟨rfl, b1⟩
  have B1 := Lib.hid b1
  clear b1
  go_wp2_with fail
  refine (agNew_any w1).mono ?_
  rintro e w2 ⟨a, rfl, g2, b2⟩
  have B2 := Lib.hid (B1.out.trans (b2.mono (hs _ B1.out)))
  have G2 := Lib.hid (AgAt.down g2 (hs _ B1.out))
  clear B1 b2 g2
  have hr3 : (w2.alloc (.cells #[.slice none 0 0] 46)).heap[w2.heap.size]? = some (.cells #[.slice none 0 0] 46 (0, 0)) := heap_alloc_new w2 _
  have S3 := Lib.hid (show DoAt w a w2.heap.size 0 (w2.alloc (.cells #[.slice none 0 0] 46)) from
    ⟨_, _, [], Nat.le_refl _, ⟨G2.out.below ((Below.refl _ _).alloc (Nat.le_refl _) _), ⟨hs _ B2.out, hr3, MineD.nil _ _⟩, fun k h => by cases h⟩, B2.out.alloc (hs _ B2.out) _⟩)
  clear hr3 G2 B2
  go_wp2_with fail
  rename_i K17 h17
  have HK17 := Lib.hid h17
  clear h17
  generalize w2.heap.size = r at *
  generalize w2.alloc (.cells #[.slice none 0 0] 46) = w3 at *
  go_loopw [10, 11, 12, 13, 14, 15, 25, 26, 27, 28, 29, 30, 31, 32, 33, 34, 35, 36, 37, 38, 39, 40, 41, 42, 43, 44, 45, 46, 47, 48, 49, 50, 51, 52, 53, 54, 55, 56, 57, 58, 59, 60, 61, 62, 63, 64, 65, 66, 67, 68] (fun i _ _ _ _ _ _ _ _ _ _ _ _ _ _ _ _ _ _ _ _ _ _ _ _ _ _ _ _ _ _ _ _ _ _ _ _ _ _ _ _ _ _ _ _ _ _ _ _ _ wr => ∃ k : Nat, k ≤ l.length ∧ k ≤ 200 ∧ i = .int .i64 (k : Int) ∧ DoAt w a r k wr) (fun i _ _ _ _ _ _ _ _ _ _ _ _ _ _ _ _ _ _ _ _ _ _ _ _ _ _ _ _ _ _ _ _ _ _ _ _ _ _ _ _ _ _ _ _ _ _ _ _ _ _ => l.length - (intOf i).toNat)
  case atStart => exact ⟨0, Nat.zero_le _, Nat.zero_le _, rfl, S3.out⟩
  case round =>
    obtain ⟨k, hk, hk2, rfl, hm⟩ := hrel
    clear S3
    have HM := Lib.hid hm
    clear hm
    by_cases hlt : k < l.length
    · by_cases hlt2 : k < 200
      · have hd : decide ((k : Int) < (l.length : Int)) = true := by simpa using hlt
        have hd2 : decide ((k : Int) < 200) = true := decide_eq_true (by omega)
        have hi0 : (0 : Int) ≤ (k : Int) := by omega
        have hi1 : (k : Int) < (l.length : Int) := by omega
        obtain ⟨v1, u1, L, hL, hb, bb⟩ := HM.out
        clear HM
        obtain ⟨-, -, -, hv1⟩ := (Hv.out.below bb).addr
        obtain ⟨B1, o1, rfl, hc⟩ := hv1 (by omega)
        obtain ⟨c0, c1, c2⟩ := hc k hlt
        have hy := hok l[k] (List.getElem_mem hlt)
        clear hv1 hc
        generalize l[k] = y at *
        obtain ⟨⟨y1, y2⟩, -, -⟩ := hy
        have hbx := heap_alloc_new wr (.cells #[.int .i64 y.k, .int .i64 y.d, .int .i64 y.n] 25)
        have bx : Below wr.heap.size wr (wr.alloc (.cells #[.int .i64 y.k, .int .i64 y.d, .int .i64 y.n] 25)) := (Below.refl _ _).alloc (Nat.le_refl _) _
        have HB := Lib.hid (hb.below bx)
        have BB := Lib.hid (bb.trans (bx.mono (hs _ bb)))
        have HX := Lib.hid hbx
        clear hb bb bx hbx
        cases hq : (y.k.tmod 2 == 0) with
        | true =>
          go_wp2_with fail
          refine (bothPut1 HB.out BB.out (by omega) y.d y.n).mono ?_
          rintro e w4 ⟨v4, rfl, g4, k4, b4, c4, o4⟩
          have hx4 := o4 _ _ _ HX.out
          have x1 : w4.cell? ⟨wr.heap.size, 1, none⟩ = some (.int .i64 y.d) := (cell_of_row _ _ _ _ _ _ hx4).trans rfl
          have x2 : w4.cell? ⟨wr.heap.size, 2, none⟩ = some (.int .i64 y.n) := (cell_of_row _ _ _ _ _ _ hx4).trans rfl
          have HSR := Lib.hid HB.out.ag.srt
          have H4 := Lib.hid (And.intro g4 (And.intro k4 (And.intro b4 c4)))
          clear HB BB HX g4 k4 b4 c4 o4 hx4
          go_wp2_with fail
          refine (bothPut2 H4.out.1 H4.out.2.1 HSR.out H4.out.2.2.1 (by omega) H4.out.2.2.2).mono ?_
          rintro e w5 ⟨u5, rfl, h5, b5⟩
          have H5 := Lib.hid (And.intro h5 b5)
          have hl5 := putL_length L y.d y.n
          clear H4 h5 b5 x1 x2 HSR
          go_wp2_with fail
          go_roundw
          case rel => exact ⟨k + 1, by omega, by omega, by go_num, ⟨v4, u5, _, by omega, H5.out.1, H5.out.2⟩⟩
          case measure => simp [intOf]; omega
        | false =>
          go_wp2_with fail
          refine (bothDrop1 HB.out BB.out (by omega) y.n).mono ?_
          rintro e w4 ⟨v4, rfl, g4, k4, b4, o4⟩
          have hx4 := o4 _ _ _ HX.out
          have x2 : w4.cell? ⟨wr.heap.size, 2, none⟩ = some (.int .i64 y.n) := (cell_of_row _ _ _ _ _ _ hx4).trans rfl
          have H4 := Lib.hid (And.intro g4 (And.intro k4 b4))
          clear HB BB HX g4 k4 b4 o4 hx4
          go_wp2_with fail
          refine (bothDrop2 H4.out.1 H4.out.2.1 H4.out.2.2 (by omega)).mono ?_
          rintro e w5 ⟨u5, rfl, h5, b5⟩
          have H5 := Lib.hid (And.intro h5 b5)
          have hl5 := keep_len L y.n
          clear H4 h5 b5 x2
          go_wp2_with fail
          go_roundw
          case rel => exact ⟨k + 1, by omega, by omega, by go_num, ⟨v4, u5, _, by omega, H5.out.1, H5.out.2⟩⟩
          case measure => simp [intOf]; omega
      · have hd : decide ((k : Int) < (l.length : Int)) = true := by simpa using hlt
        have hd2 : decide ((k : Int) < 200) = false := decide_eq_false (by omega)
        obtain ⟨v1, u1, L, hL, hb, bb⟩ := HM.out
        have hL2 : L.length ≤ 200 := by omega
        have HB := Lib.hid hb
        have BB := Lib.hid bb
        obtain ⟨bs, hbs⟩ : ∃ bs, bs = wr.heap.size := ⟨_, rfl⟩
        have hbw : w.heap.size ≤ bs := by rw [hbs]; exact hs _ bb
        have HB0 := Lib.hid hb
        clear HM hb bb
        obtain ⟨au, cu, rfl⟩ := HB.out.rf.slot
        go_wp2_with fail
        refine HK17.out _ _ ?_
        go_wp2_with fail
        refine (agDays_any _ wr a v1 _ HB.out.ag (by omega) id).mono ?_
        rintro e w4 ⟨v4, rfl, m4, b4⟩
        have HB4 := Lib.hid (HB.out.below b4)
        have BB4 := Lib.hid (BB.out.trans (b4.mono (hs _ BB.out)))
        have M4 := Lib.hid (hbs.symm ▸ m4 : MineI bs w4 v4 (daysL L id))
        have hs4 := b4.size
        clear HB BB m4 b4
        go_wp2_with fail
        refine (refDays_any _ w4 r _ _ HB4.out.rf (by omega) id).mono ?_
        rintro e w5 ⟨v5, rfl, m5, b5⟩
        have HB5 := Lib.hid (HB4.out.below b5)
        have BB5 := Lib.hid (BB4.out.trans (b5.mono (hs _ BB4.out)))
        have I5 := Lib.hid (And.intro (M4.out.isI.below b5) m5.isI)
        have M5 := Lib.hid (M4.out.keep fun j hj _ => b5.block j hj)
        clear HB4 BB4 M4 m5 b5
        go_wp2_with fail
        refine (ints_any w5 _ _ _ I5.out.1 I5.out.2 (by have := days_len L id; omega)).mono ?_
        rintro e w6 ⟨rfl, b6⟩
        have HB6 := Lib.hid (HB5.out.below b6)
        have BB6 := Lib.hid (BB5.out.trans (b6.mono (hs _ BB5.out)))
        have M6 := Lib.hid (M5.out.keep fun j hj _ => b6.block j hj)
        clear HB5 BB5 M5 I5 b6
        have PB := Lib.hid (fun W (hW : Below bs w6 W) => HB6.out.over (hbs ▸ HB0.out.under) hW)
        clear HB0 HB6
        obtain ⟨av4, cv4, rfl, -⟩ := _root_.id M6.out.isI
        have S6 := Lib.hid (show DaysAt bs w6 w6 (.slice av4 (daysL L id).length cv4) (daysL L id).length from ⟨_, rfl, M6.out, Below.refl _ _⟩)
        clear M6
        have hdl2 : (daysL L id).length ≤ 200 := by have := days_len L id; omega
        generalize hdl : (daysL L id).length = dl at *
        clear hdl
        go_wp2_with fail
        go_loopw [18, 77, 78, 79, 80, 81, 82, 83, 84, 85] (fun i _ _ _ _ _ _ _ _ _ wr2 => ∃ k : Nat, k ≤ dl ∧ i = .int .i64 (k : Int) ∧ DaysAt bs w6 wr2 (.slice av4 dl cv4) dl) (fun i _ _ _ _ _ _ _ _ _ _ => dl - (intOf i).toNat)
        case atStart => exact ⟨0, Nat.zero_le _, rfl, S6.out⟩
        case round =>
          obtain ⟨q, hq, rfl, hm⟩ := hrel
          have HD := Lib.hid hm
          clear S6 hm
          by_cases hql : q < dl
          · have hd9 : decide ((q : Int) < (dl : Int)) = true := by simpa using hql
            have hj0 : (0 : Int) ≤ (q : Int) := by omega
            have hj1 : (q : Int) < (dl : Int) := by omega
            obtain ⟨zs, hz, hm9, bb9⟩ := HD.out
            obtain ⟨g, cap9, ev, fz, ⟨z, hz9⟩, zs', hz', m9, b9⟩ := MineI.set hm9 (i := q) (by omega)
            injection ev with ev1 ev2 ev3
            subst ev1
            have D9 := Lib.hid (show DaysAt bs w6 _ (.slice _ dl cv4) dl from ⟨zs', by omega, m9, bb9.trans b9⟩)
            clear HD hz hm9 bb9 hz' m9 b9 ev2 ev3
            go_wp2_with fail
            go_roundw
            case rel => exact ⟨q + 1, by omega, by go_num, D9.out⟩
            case measure => simp [intOf]; omega
          · obtain rfl : q = dl := by omega
            have hd9 : decide ((q : Int) < (q : Int)) = false := by simp
            obtain ⟨zs, hz, hm9, bb9⟩ := HD.out
            have HB7 := Lib.hid (PB.out _ bb9)
            have BB7 := Lib.hid (BB6.out.trans (bb9.mono hbw))
            clear HD PB BB6 hm9 bb9 hz
            have PU := Lib.hid (upR_eq HB7.out.ag.srt day)
            have hup : (upL L day).length ≤ L.length := (List.takeWhile_prefix _).length_le
            go_wp2_with fail
            refine (agAll_any _ _ a v1 _ HB7.out.ag (by omega)).mono ?_
            rintro e w7 ⟨gf, lb, rfl, g7, b7⟩
            have HB8 := Lib.hid (HB7.out.below b7)
            have BB8 := Lib.hid (BB7.out.trans (b7.mono (hs _ BB7.out)))
            have G8 := Lib.hid g7
            clear HB7 BB7 g7 b7
            go_wp2_with fail
            refine (list_pos w7 gf lb _ G8.out 1000 (by decide) (by decide)).mono ?_
            rintro e w8 ⟨v8, rfl, m8, b8⟩
            rw [List.take_of_length_le (by omega)] at m8
            have HB9 := Lib.hid (HB8.out.below b8)
            have BB9 := Lib.hid (BB8.out.trans (b8.mono (hs _ BB8.out)))
            have I9 := Lib.hid m8.isD
            clear HB8 BB8 G8 m8 b8
            go_wp2_with fail
            refine (agUp_any _ w8 a v1 _ HB9.out.ag (by omega) day).mono ?_
            rintro e w9 ⟨gf2, lb2, rfl, g9, b9⟩
            have HB10 := Lib.hid (HB9.out.below b9)
            have BB10 := Lib.hid (BB9.out.trans (b9.mono (hs _ BB9.out)))
            have I10 := Lib.hid (I9.out.below b9)
            have G10 := Lib.hid g9
            clear HB9 BB9 I9 g9 b9
            go_wp2_with fail
            refine (list_pos w9 gf2 lb2 _ G10.out 1000 (by decide) (by decide)).mono ?_
            rintro e w10 ⟨v10, rfl, m10, b10⟩
            rw [List.take_of_length_le (by omega)] at m10
            have HB11 := Lib.hid (HB10.out.below b10)
            have BB11 := Lib.hid (BB10.out.trans (b10.mono (hs _ BB10.out)))
            have I11 := Lib.hid (And.intro (I10.out.below b10) m10.isD)
            have y11 := HB11.out.rf.cell
            clear HB10 BB10 I10 G10 m10 b10
            go_wp2_with fail
            refine (same_any w10 _ _ _ I11.out.1 HB11.out.rf.row.isD (by omega)).mono ?_
            rintro e w11 ⟨rfl, b11⟩
            have HB12 := Lib.hid (HB11.out.below b11)
            have BB12 := Lib.hid (BB11.out.trans (b11.mono (hs _ BB11.out)))
            have I12 := Lib.hid (I11.out.2.below b11)
            clear HB11 BB11 I11 b11 y11
            go_wp2_with fail
            refine (refUp_any _ w11 r _ _ HB12.out.rf (by omega) day).mono ?_
            rintro e w12 ⟨v12, rfl, m12, b12⟩
            rw [PU.out] at m12
            have HB13 := Lib.hid (HB12.out.below b12)
            have BB13 := Lib.hid (BB12.out.trans (b12.mono (hs _ BB12.out)))
            have I13 := Lib.hid (And.intro (I12.out.below b12) m12.isD)
            clear HB12 BB12 I12 m12 b12
            go_wp2_with fail
            refine (same_any w12 _ _ _ I13.out.1 I13.out.2 (by omega)).mono ?_
            rintro e w13 ⟨rfl, b13⟩
            have HB14 := Lib.hid (HB13.out.below b13)
            have BB14 := Lib.hid (BB13.out.trans (b13.mono (hs _ BB13.out)))
            clear HB13 BB13 I13 b13
            go_wp2_with fail
            refine (agDays_any _ w13 a v1 _ HB14.out.ag (by omega) id).mono ?_
            rintro e w14 ⟨v14, rfl, m14, b14⟩
            have HB15 := Lib.hid (HB14.out.below b14)
            have BB15 := Lib.hid (BB14.out.trans (b14.mono (hs _ BB14.out)))
            have I15 := Lib.hid m14.isI
            clear HB14 BB14 m14 b14
            go_wp2_with fail
            refine (refDays_any _ w14 r _ _ HB15.out.rf (by omega) id).mono ?_
            rintro e w15 ⟨v15, rfl, m15, b15⟩
            have BB16 := Lib.hid (BB15.out.trans (b15.mono (hs _ BB15.out)))
            have I16 := Lib.hid (And.intro (I15.out.below b15) m15.isI)
            clear HB15 BB15 I15 m15 b15
            go_wp2_with fail
            refine (ints_any w15 _ _ _ I16.out.1 I16.out.2 (by have := days_len L id; omega)).mono ?_
            rintro e w16 ⟨rfl, b16⟩
            have BB17 := BB16.out.trans (b16.mono (hs _ BB16.out))
            clear BB16 I16 b16
            go_wp2_with fail
            go_ret
            exact ⟨rfl, BB17⟩
    · have ek : k = l.length := by omega
      have hd : decide ((k : Int) < (l.length : Int)) = false := decide_eq_false (by omega)
      clear ek
      obtain ⟨v1, u1, L, hL, hb, bb⟩ := HM.out
      have hL2 : L.length ≤ 200 := by omega
      have HB := Lib.hid hb
      have BB := Lib.hid bb
      obtain ⟨bs, hbs⟩ : ∃ bs, bs = wr.heap.size := ⟨_, rfl⟩
      have hbw : w.heap.size ≤ bs := by rw [hbs]; exact hs _ bb
      have HB0 := Lib.hid hb
      clear HM hb bb
      obtain ⟨au, cu, rfl⟩ := HB.out.rf.slot
      go_wp2_with fail
      refine HK17.out _ _ ?_
      go_wp2_with fail
      refine (agDays_any _ wr a v1 _ HB.out.ag (by omega) id).mono ?_
      rintro e w4 ⟨v4, rfl, m4, b4⟩
      have HB4 := Lib.hid (HB.out.below b4)
      have BB4 := Lib.hid (BB.out.trans (b4.mono (hs _ BB.out)))
      have M4 := Lib.hid (hbs.symm ▸ m4 : MineI bs w4 v4 (daysL L id))
      have hs4 := b4.size
      clear HB BB m4 b4
      go_wp2_with fail
      refine (refDays_any _ w4 r _ _ HB4.out.rf (by omega) id).mono ?_
      rintro e w5 ⟨v5, rfl, m5, b5⟩
      have HB5 := Lib.hid (HB4.out.below b5)
      have BB5 := Lib.hid (BB4.out.trans (b5.mono (hs _ BB4.out)))
      have I5 := Lib.hid (And.intro (M4.out.isI.below b5) m5.isI)
      have M5 := Lib.hid (M4.out.keep fun j hj _ => b5.block j hj)
      clear HB4 BB4 M4 m5 b5
      go_wp2_with fail
      refine (ints_any w5 _ _ _ I5.out.1 I5.out.2 (by have := days_len L id; omega)).mono ?_
      rintro e w6 ⟨rfl, b6⟩
      have HB6 := Lib.hid (HB5.out.below b6)
      have BB6 := Lib.hid (BB5.out.trans (b6.mono (hs _ BB5.out)))
      have M6 := Lib.hid (M5.out.keep fun j hj _ => b6.block j hj)
      clear HB5 BB5 M5 I5 b6
      have PB := Lib.hid (fun W (hW : Below bs w6 W) => HB6.out.over (hbs ▸ HB0.out.under) hW)
      clear HB0 HB6
      obtain ⟨av4, cv4, rfl, -⟩ := _root_.id M6.out.isI
      have S6 := Lib.hid (show DaysAt bs w6 w6 (.slice av4 (daysL L id).length cv4) (daysL L id).length from ⟨_, rfl, M6.out, Below.refl _ _⟩)
      clear M6
      have hdl2 : (daysL L id).length ≤ 200 := by have := days_len L id; omega
      generalize hdl : (daysL L id).length = dl at *
      clear hdl
      go_wp2_with fail
      go_loopw [18, 77, 78, 79, 80, 81, 82, 83, 84, 85] (fun i _ _ _ _ _ _ _ _ _ wr2 => ∃ k : Nat, k ≤ dl ∧ i = .int .i64 (k : Int) ∧ DaysAt bs w6 wr2 (.slice av4 dl cv4) dl) (fun i _ _ _ _ _ _ _ _ _ _ => dl - (intOf i).toNat)
      case atStart => exact ⟨0, Nat.zero_le _, rfl, S6.out⟩
      case round =>
        obtain ⟨q, hq, rfl, hm⟩ := hrel
        have HD := Lib.hid hm
        clear S6 hm
        by_cases hql : q < dl
        · have hd9 : decide ((q : Int) < (dl : Int)) = true := by simpa using hql
          have hj0 : (0 : Int) ≤ (q : Int) := by omega
          have hj1 : (q : Int) < (dl : Int) := by omega
          obtain ⟨zs, hz, hm9, bb9⟩ := HD.out
          obtain ⟨g, cap9, ev, fz, ⟨z, hz9⟩, zs', hz', m9, b9⟩ := MineI.set hm9 (i := q) (by omega)
          injection ev with ev1 ev2 ev3
          subst ev1
          have D9 := Lib.hid (show DaysAt bs w6 _ (.slice _ dl cv4) dl from ⟨zs', by omega, m9, bb9.trans b9⟩)
          clear HD hz hm9 bb9 hz' m9 b9 ev2 ev3
          go_wp2_with fail
          go_roundw
          case rel => exact ⟨q + 1, by omega, by go_num, D9.out⟩
          case measure => simp [intOf]; omega
        · obtain rfl : q = dl := by omega
          have hd9 : decide ((q : Int) < (q : Int)) = false := by simp
          obtain ⟨zs, hz, hm9, bb9⟩ := HD.out
          have HB7 := Lib.hid (PB.out _ bb9)
          have BB7 := Lib.hid (BB6.out.trans (bb9.mono hbw))
          clear HD PB BB6 hm9 bb9 hz
          have PU := Lib.hid (upR_eq HB7.out.ag.srt day)
          have hup : (upL L day).length ≤ L.length := (List.takeWhile_prefix _).length_le
          go_wp2_with fail
          refine (agAll_any _ _ a v1 _ HB7.out.ag (by omega)).mono ?_
          rintro e w7 ⟨gf, lb, rfl, g7, b7⟩
          have HB8 := Lib.hid (HB7.out.below b7)
          have BB8 := Lib.hid (BB7.out.trans (b7.mono (hs _ BB7.out)))
          have G8 := Lib.hid g7
          clear HB7 BB7 g7 b7
          go_wp2_with fail
          refine (list_pos w7 gf lb _ G8.out 1000 (by decide) (by decide)).mono ?_
          rintro e w8 ⟨v8, rfl, m8, b8⟩
          rw [List.take_of_length_le (by omega)] at m8
          have HB9 := Lib.hid (HB8.out.below b8)
          have BB9 := Lib.hid (BB8.out.trans (b8.mono (hs _ BB8.out)))
          have I9 := Lib.hid m8.isD
          clear HB8 BB8 G8 m8 b8
          go_wp2_with fail
          refine (agUp_any _ w8 a v1 _ HB9.out.ag (by omega) day).mono ?_
          rintro e w9 ⟨gf2, lb2, rfl, g9, b9⟩
          have HB10 := Lib.hid (HB9.out.below b9)
          have BB10 := Lib.hid (BB9.out.trans (b9.mono (hs _ BB9.out)))
          have I10 := Lib.hid (I9.out.below b9)
          have G10 := Lib.hid g9
          clear HB9 BB9 I9 g9 b9
          go_wp2_with fail
          refine (list_pos w9 gf2 lb2 _ G10.out 1000 (by decide) (by decide)).mono ?_
          rintro e w10 ⟨v10, rfl, m10, b10⟩
          rw [List.take_of_length_le (by omega)] at m10
          have HB11 := Lib.hid (HB10.out.below b10)
          have BB11 := Lib.hid (BB10.out.trans (b10.mono (hs _ BB10.out)))
          have I11 := Lib.hid (And.intro (I10.out.below b10) m10.isD)
          have y11 := HB11.out.rf.cell
          clear HB10 BB10 I10 G10 m10 b10
          go_wp2_with fail
          refine (same_any w10 _ _ _ I11.out.1 HB11.out.rf.row.isD (by omega)).mono ?_
          rintro e w11 ⟨rfl, b11⟩
          have HB12 := Lib.hid (HB11.out.below b11)
          have BB12 := Lib.hid (BB11.out.trans (b11.mono (hs _ BB11.out)))
          have I12 := Lib.hid (I11.out.2.below b11)
          clear HB11 BB11 I11 b11 y11
          go_wp2_with fail
          refine (refUp_any _ w11 r _ _ HB12.out.rf (by omega) day).mono ?_
          rintro e w12 ⟨v12, rfl, m12, b12⟩
          rw [PU.out] at m12
          have HB13 := Lib.hid (HB12.out.below b12)
          have BB13 := Lib.hid (BB12.out.trans (b12.mono (hs _ BB12.out)))
          have I13 := Lib.hid (And.intro (I12.out.below b12) m12.isD)
          clear HB12 BB12 I12 m12 b12
          go_wp2_with fail
          refine (same_any w12 _ _ _ I13.out.1 I13.out.2 (by omega)).mono ?_
          rintro e w13 ⟨rfl, b13⟩
          have HB14 := Lib.hid (HB13.out.below b13)
          have BB14 := Lib.hid (BB13.out.trans (b13.mono (hs _ BB13.out)))
          clear HB13 BB13 I13 b13
          go_wp2_with fail
          refine (agDays_any _ w13 a v1 _ HB14.out.ag (by omega) id).mono ?_
          rintro e w14 ⟨v14, rfl, m14, b14⟩
          have HB15 := Lib.hid (HB14.out.below b14)
          have BB15 := Lib.hid (BB14.out.trans (b14.mono (hs _ BB14.out)))
          have I15 := Lib.hid m14.isI
          clear HB14 BB14 m14 b14
          go_wp2_with fail
          refine (refDays_any _ w14 r _ _ HB15.out.rf (by omega) id).mono ?_
          rintro e w15 ⟨v15, rfl, m15, b15⟩
          have BB16 := Lib.hid (BB15.out.trans (b15.mono (hs _ BB15.out)))
          have I16 := Lib.hid (And.intro (I15.out.below b15) m15.isI)
          clear HB15 BB15 I15 m15 b15
          go_wp2_with fail
          refine (ints_any w15 _ _ _ I16.out.1 I16.out.2 (by have := days_len L id; omega)).mono ?_
          rintro e w16 ⟨rfl, b16⟩
          have BB17 := BB16.out.trans (b16.mono (hs _ BB16.out))
          clear BB16 I16 b16
          go_wp2_with fail
          go_ret
          exact ⟨rfl, BB17⟩
end Go.Proofs.Ytaohneahlcnahaa
