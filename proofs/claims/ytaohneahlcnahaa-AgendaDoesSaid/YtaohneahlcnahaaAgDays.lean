/- agenda: Days. -/
import Derived.Test.YtaohneahlcnahaaAgAll
set_option linter.unusedVariables false
set_option linter.unusedSimpArgs false
namespace Go.Proofs.Ytaohneahlcnahaa
open Go.RowKit Go.Shelf
attribute [local go_sem] Oper.semAt_some

/-- the days of a number -/
def daysL (L : List Du) (nm : Int) : List Int := (L.filter fun x => x.2 == nm).map (·.1)
theorem days_snoc (L : List Du) (x : Du) (nm : Int) : daysL (L ++ [x]) nm = if (x.2 == nm) = true then daysL L nm ++ [x.1] else daysL L nm := by
  unfold daysL
  rw [List.filter_append]
  cases h : (x.2 == nm) <;> simp [h]
theorem days_len (L : List Du) (nm : Int) : (daysL L nm).length ≤ L.length := by
  unfold daysL
  rw [List.length_map]
  exact List.length_filter_le _ _
theorem MineI.down {B B' : Nat} {w : World} {v : Value} {zs : List Int} (h : MineI B w v zs) (hB : B' ≤ B) : MineI B' w v zs := by
  obtain ⟨h1, h2⟩ := h
  refine ⟨h1, ?_⟩
  rcases h2 with h2 | ⟨g, cap, cur, hv, hg, r⟩
  · exact .inl h2
  · exact .inr ⟨g, cap, cur, hv, by omega, r⟩
def DaysPost (w : World) (zs : List Int) (e : Ending) (w' : World) : Prop := ∃ v, e = .returned v ∧ MineI w.heap.size w' v zs ∧ Below w.heap.size w w'
set_option maxRecDepth 100000 in
set_option maxHeartbeats 4000000 in
theorem days_of (w : World) (r : Value) (nm : Int) (xs : List Du) (hlen : xs.length ≤ 1000000) (hall : ∀ w1, Below w.heap.size w w1 → Calls Try.prog 12 #[r] w1 (GoesPost w1 xs)) :
    Calls Try.prog 14 #[r, .int .i64 nm] w (DaysPost w (daysL xs nm)) := by
  refine callsIn_wide (n := 3).1 ?_
  have bM := Boxed.new w 3 (.int .i64 nm)
  have bO := Boxed.new (w.alloc (.cells #[.int .i64 nm] 3)) 39 (.slice none 0 0)
  have bM2 := bM.alloc (.cells #[.slice none 0 0] 39)
  rw [World.size_alloc] at bO
  have hB0 : Below w.heap.size w ((w.alloc (.cells #[.int .i64 nm] 3)).alloc (.cells #[.slice none 0 0] 39)) := ((Below.refl _ w).alloc (Nat.le_refl _) _).alloc (by simp) _
  have hsz : ((w.alloc (.cells #[.int .i64 nm] 3)).alloc (.cells #[.slice none 0 0] 39)).heap.size = w.heap.size + 2 := by simp
  have HALL := Lib.hid hall
  clear hall
  refine callsIn_of_wp_marks Try.func14 rfl trivial ?_ rfl
  simp only [Try.ntmps14, List.size_toArray, List.length_cons, List.length_nil, Nat.reduceAdd, Nat.reduceSub, Array.replicate_succ, Array.replicate_zero, List.push_toArray, List.append_toArray, List.nil_append, List.cons_append]
  gi_wp2_with fail
  obtain ⟨W0, hW0⟩ : ∃ W0, (w.alloc (.cells #[.int .i64 nm] 3)).alloc (.cells #[.slice none 0 0] 39) = W0 := ⟨_, rfl⟩
  rw [hW0] at bO bM2 hB0 hsz ⊢
  clear hW0 bM
  refine ⟨trivial, ?_⟩
  refine (callsIn_wide.2 (HALL.out W0 hB0)).mono ?_
  rintro e W1 ⟨gf, lb, rfl, hg, hb1⟩
  have bO1 : Boxed W1 (w.heap.size + 1) 39 (.slice none 0 0) := (hb1.block _ bO.lt).trans bO
  have bM1 : Boxed W1 w.heap.size 3 (.int .i64 nm) := (hb1.block _ bM2.lt).trans bM2
  have hB1 := hB0.trans (hb1.mono (by omega))
  have hsz1 : w.heap.size + 2 ≤ W1.heap.size := by have := hb1.size; omega
  clear bO bM2 hB0 hb1
  gi_wp2_with fail
  refine wpIn_rangeFunc_ownH (F := Fence.wide) rfl (by omega) (gf := gf) (lb := lb) rfl trivial hg.1
    (hg.2 2 (w.heap.size + 1) W1 (by omega) (Below.refl _ _) (.inr bO1)) KeptV.trans (fun W l o o' hl h1 h2 _ => KeptV.put W l o o' h1 h2 (by omega)) (Below.refl _ _) (fun _ => rfl)
    (fun pre W => ((∃ v, Boxed W (w.heap.size + 1) 39 v ∧ W.ownsRow (w.heap.size + 1) 3 1 v (daysL pre nm).length (iv (daysL pre nm)) ∧ True) ∧ Boxed W w.heap.size 3 (.int .i64 nm)) ∧ Below w.heap.size w W)
    (fun _ _ _ => False)
    (OwnFrom.and (OwnFrom.and (Own.from (holdsRow_own (w.heap.size + 1) (w.heap.size + 1) 39 3 1 (fun pre : List Du => (daysL pre nm).length) (fun pre => iv (daysL pre nm)) (fun _ _ => True)) _) (Own.from (boxed_own _ _ (fun _ => .int .i64 nm)) _)) (ownFrom_below (Nat.le_refl _) (by omega)))
    (fun _ _ _ _ _ hs _ _ => hs)
    ⟨⟨⟨_, bO1, MineI.nil _ _, trivial⟩, bM1⟩, hB1⟩
    (fun x a' W => ∃ Bx, w.heap.size + 1 < Bx ∧ W.heap[Bx]? = some (.cells #[.int .i64 x.1, .int .i64 x.2] 37 (0, 0)) ∧ a' = { tmps := #[r, .int .i64 nm, undef, .pointer (some ⟨w.heap.size, 0, none⟩), .slice none 0 0, .pointer (some ⟨w.heap.size + 1, 0, none⟩), .pointer (some ⟨Bx, 0, none⟩), r, .func (.func gf) #[] lb, .agg #[.int .i64 x.1, .int .i64 x.2], undef, undef, undef, undef, undef, undef, undef, undef, undef, undef], defers := [] })
    (fun x a' _ X Y row hs hg hr => by obtain ⟨Bx, h1, h2, h3⟩ := hs; exact ⟨Bx, h1, cells_own Bx _ _ _ () X Y row h2 hg (fun r e => (hr r e).2), h3⟩)
    ?assign ?body ?done ?stop
  case assign =>
    rintro l pre x W K ⟨⟨⟨v, bv, rv, _⟩, bm⟩, hb⟩ hK
    gi_wp2
    exact hK _ _ ((KeepsOthers.alloc _ _).from _) (KeptV.of_below bv.lt ((Below.refl _ W).alloc (Nat.le_refl _) _)) ⟨⟨⟨v, bv.alloc _, World.ownsRow.alloc rv _, trivial⟩, bm.alloc _⟩, hb.alloc hb.size _⟩ ⟨W.heap.size, bv.lt, heap_alloc_new _ _, rfl⟩
  case body =>
    rintro l pre x a' W hl ⟨rr, hr⟩ ⟨⟨⟨v, bv, rv, _⟩, bm⟩, hb⟩ ⟨Bx, hBx, hx, rfl⟩ hlt
    have cm := bm.cell
    have cx0 : W.cell? ⟨Bx, 0, none⟩ = some (.int .i64 x.1) := (cell_of_row _ _ _ _ _ _ hx).trans rfl
    have cx1 : W.cell? ⟨Bx, 1, none⟩ = some (.int .i64 x.2) := (cell_of_row _ _ _ _ _ _ hx).trans rfl
    have hdl := days_len pre nm
    have hbW : w.heap.size + 1 ≤ W.heap.size := by have := bv.lt; omega
    cases he : (x.2 == nm) with
    | false =>
      have hs : daysL (pre ++ [x]) nm = daysL pre nm := by rw [days_snoc, if_neg (by rw [he]; simp)]
      have hfin : (∃ v, Boxed W (w.heap.size + 1) 39 v ∧ W.ownsRow (w.heap.size + 1) 3 1 v (daysL (pre ++ [x]) nm).length (iv (daysL (pre ++ [x]) nm)) ∧ True) := by rw [hs]; exact ⟨v, bv, rv, trivial⟩
      have HF := Lib.hid hfin
      have HBM := Lib.hid bm
      clear hfin hs rv
      gi_wp2_with fail
      exact ⟨KeepsFrom.refl _ _, KeptV.refl _ _, ⟨HF.out, HBM.out⟩, hb⟩
    | true =>
      have hs : daysL (pre ++ [x]) nm = daysL pre nm ++ [x.1] := by rw [days_snoc, if_pos he]
      have hxd : IsI (W.alloc (.cells #[.int .i64 x.1] 3)) (.slice (some ⟨W.heap.size, 0, none⟩) 1 1) [x.1] := (MineI.lit (w := W) [x.1] (Nat.le_refl _) (by simp [maxLen])).isI
      obtain ⟨v', w1, hr1, m1, _, hg1, _, hown⟩ := run_ints (W.alloc (.cells #[.int .i64 x.1] 3)) (w.heap.size + 1) v (daysL pre nm) (World.ownsRow.alloc rv _) (.slice (some ⟨W.heap.size, 0, none⟩) 1 1) [x.1] hxd (by simp; omega) (by simp; omega)
      rw [← hs] at m1
      obtain ⟨bv1, bv2, r2, k2, b2⟩ := bv.appended (by decide) rv hbW (Nat.le_refl _) m1 hg1
      have kv := KeptV.appended bv bv2 rv r2 hg1 hown
      have bm2 : Boxed (w1.setCell ⟨w.heap.size + 1, 0, none⟩ v') w.heap.size 3 (.int .i64 nm) := ((bm.alloc _).kept hg1 (fun e => by have := (World.ownsRow.lt rv w.heap.size e.symm).1; omega)).other (by omega) _
      have hfin : (∃ u, Boxed (w1.setCell ⟨w.heap.size + 1, 0, none⟩ v') (w.heap.size + 1) 39 u ∧ (w1.setCell ⟨w.heap.size + 1, 0, none⟩ v').ownsRow (w.heap.size + 1) 3 1 u (daysL (pre ++ [x]) nm).length (iv (daysL (pre ++ [x]) nm)) ∧ True) := ⟨v', bv2, r2, trivial⟩
      have bb := hb.trans (b2.mono (by omega))
      obtain ⟨a4, N, k4, rfl⟩ : ∃ a n k, v' = .slice a n k := by obtain ⟨a, k, h, _⟩ := MineI.isI m1; exact ⟨a, _, k, h⟩
      have cv := bv.cell
      have cv1 := bv1.cell
      have fv1 := bv1.frozen
      have HF := Lib.hid hfin
      have HK := Lib.hid k2
      have HKV := Lib.hid kv
      have HBB := Lib.hid bb
      have HBM := Lib.hid bm2
      clear hfin k2 kv bb bv bv1 bv2 rv r2 m1 hg1 hown bm bm2 b2 hb hxd hs
      gi_wp2_with (gi_at_builtin; refine wpListIn_append_run rfl (.tmp 14) (.tmp 17) 39 39 rfl _ _ rfl rfl hr1 ?_; clear hr1)
      exact ⟨HK.out.from _, HKV.out, ⟨HF.out, HBM.out⟩, HBB.out⟩
  case done =>
    rintro D ys W hD rfl ⟨⟨⟨v, bv, rv, _⟩, bm⟩, hb⟩ hK
    have hc := bv.cell
    have RV := Lib.hid rv
    clear rv
    gi_wp2
    refine ⟨by simp, .inl ⟨_, _, rfl, run_takeDeferred hK, ?_⟩⟩
    exact ⟨_, results_tmp rfl _ _ _, v, rfl, MineI.down (ownsRow_putObj RV.out _ hK rfl) (by omega), hb.trans (belowK_b (w := w) (Nat.le_refl _) W D _ _ (by omega) hK rfl rfl)⟩
  case stop =>
    rintro D c pre W _ _ h _
    exact h.elim
theorem agDays_any (B : Nat) (w : World) (a : Nat) (v : Value) (L : List Du) (h : AgAt B w a v L) (hl : L.length ≤ 1000000) (nm : Int) : Calls Try.prog 14 #[agptr a, .int .i64 nm] w (DaysPost w (daysL L nm)) :=
  days_of w _ nm L hl fun w1 hw => agAll_any B w1 a v L (h.below hw) hl
theorem agDays_nil (w : World) (nm : Int) : Calls Try.prog 14 #[.pointer none, .int .i64 nm] w (DaysPost w []) :=
  days_of w _ nm [] (by simp) fun w1 _ => agAll_nil w1
end Go.Proofs.Ytaohneahlcnahaa
