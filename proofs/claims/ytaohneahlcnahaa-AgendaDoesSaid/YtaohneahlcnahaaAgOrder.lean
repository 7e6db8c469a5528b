/- cmp.Compare, cmp.Or, order, slices.BinarySearchFunc over entries. -/
import Derived.Test.YtaohneahlcnahaaDue
import Derived.Deep.RegionHeld3
import Derived.StillTailTactics
set_option linter.unusedVariables false
set_option linter.unusedSimpArgs false
namespace Go.Proofs.Ytaohneahlcnahaa
open Go.RowKit

theorem isNaN_any (w : World) (a : Int) : Calls Try.prog 41 #[.int .i64 a] w fun e w' => e = .returned (.bool false) ∧ w = w' := by
  go_enter Try.func41, Try.ntmps41
  go_wp2
  go_ret
  exact ⟨by simp, rfl⟩
def cmpI (a b : Int) : Int := if a < b then -1 else if b < a then 1 else 0
theorem cmpI_range (a b : Int) : -1 ≤ cmpI a b ∧ cmpI a b ≤ 1 := by unfold cmpI; split <;> (try split) <;> omega
theorem compare_any (w : World) (a b : Int) : Calls Try.prog 36 #[.int .i64 a, .int .i64 b] w fun e w' => e = .returned (.int .i64 (cmpI a b)) ∧ w = w' := by
  unfold cmpI
  by_cases h1 : a < b
  · have d1 : decide (a < b) = true := by simpa using h1
    rw [if_pos h1]
    go_enter Try.func36, Try.ntmps36
    go_wp2_with (go_at_call 41; refine (isNaN_any _ _).mono ?_; rintro e w' ⟨rfl, rfl⟩)
    go_ret
    exact ⟨rfl, rfl⟩
  · have d1 : decide (a < b) = false := by simpa using h1
    rw [if_neg h1]
    by_cases h2 : b < a
    · have d2 : decide (b < a) = true := by simpa using h2
      rw [if_pos h2]
      go_enter Try.func36, Try.ntmps36
      go_wp2_with (go_at_call 41; refine (isNaN_any _ _).mono ?_; rintro e w' ⟨rfl, rfl⟩)
      go_ret
      exact ⟨rfl, rfl⟩
    · have d2 : decide (b < a) = false := by simpa using h2
      rw [if_neg h2]
      go_enter Try.func36, Try.ntmps36
      go_wp2_with (go_at_call 41; refine (isNaN_any _ _).mono ?_; rintro e w' ⟨rfl, rfl⟩)
      go_ret
      exact ⟨rfl, rfl⟩
def or2 (a b : Int) : Int := if a ≠ 0 then a else b
/-- cmp.Or of two numbers that lie at the head of a block -/
theorem or_any (w : World) (g : Nat) (a b : Int) (h0 : w.cell? ⟨g, 0, none⟩ = some (.int .i64 a)) (h1 : w.cell? ⟨g, 1, none⟩ = some (.int .i64 b)) :
    Calls Try.prog 35 #[.slice (some ⟨g, 0, none⟩) 2 2] w fun e w' => e = .returned (.int .i64 (or2 a b)) ∧ w = w' := by
  unfold or2
  by_cases ha : a = 0
  · subst ha
    by_cases hb : b = 0
    · subst hb
      go_enter Try.func35, Try.ntmps35
      go_wp2
      refine wp_loop_rounds 3 ?_
      rw [rounds_succ]
      go_wp2
      rw [rounds_succ]
      go_wp2
      rw [rounds_succ]
      go_wp2
      go_ret
      exact ⟨rfl, rfl⟩
    · have hbb : (b == 0) = false := by simpa using hb
      have hbb' : (b != 0) = true := by simpa using hb
      go_enter Try.func35, Try.ntmps35
      go_wp2
      refine wp_loop_rounds 2 ?_
      rw [rounds_succ]
      go_wp2
      rw [rounds_succ]
      go_wp2
      go_ret
      exact ⟨rfl, rfl⟩
  · have haa : (a == 0) = false := by simpa using ha
    have haa' : (a != 0) = true := by simpa using ha
    rw [if_pos ha]
    go_enter Try.func35, Try.ntmps35
    go_wp2
    refine wp_loop_rounds 1 ?_
    rw [rounds_succ]
    go_wp2
    go_ret
    exact ⟨rfl, rfl⟩
/-- the order of entries -/
def ord (x y : Du) : Int := or2 (cmpI x.1 y.1) (cmpI x.2 y.2)
/-- the two boxes of order's arguments -/
def OrdHeld (p q : Nat) (x y : Du) (W : World) : Prop := W.heap[p]? = some (.cells (dv1 x).toArray 37 (0, 0)) ∧ W.heap[q]? = some (.cells (dv1 y).toArray 37 (0, 0))
theorem OrdHeld.below {p q : Nat} {x y : Du} {w w' : World} (h : OrdHeld p q x y w) (hb : Below w.heap.size w w') : OrdHeld p q x y w' :=
  ⟨(hb.block p (lt_of_heap h.1)).trans h.1, (hb.block q (lt_of_heap h.2)).trans h.2⟩
theorem OrdHeld.cells {p q : Nat} {x y : Du} {w : World} (h : OrdHeld p q x y w) : w.cell? ⟨p, 0, none⟩ = some (.int .i64 x.1) ∧ w.cell? ⟨p, 1, none⟩ = some (.int .i64 x.2) ∧ w.cell? ⟨q, 0, none⟩ = some (.int .i64 y.1) ∧ w.cell? ⟨q, 1, none⟩ = some (.int .i64 y.2) := by
  refine ⟨?_, ?_, ?_, ?_⟩
  · rw [cell_of_row _ _ _ _ _ _ h.1]; rfl
  · rw [cell_of_row _ _ _ _ _ _ h.1]; rfl
  · rw [cell_of_row _ _ _ _ _ _ h.2]; rfl
  · rw [cell_of_row _ _ _ _ _ _ h.2]; rfl
set_option maxHeartbeats 4000000 in
theorem order_any (w : World) (x y : Du) : Calls Try.prog 28 #[.agg #[.int .i64 x.1, .int .i64 x.2], .agg #[.int .i64 y.1, .int .i64 y.2]] w fun e w' => e = .returned (.int .i64 (ord x y)) ∧ Below w.heap.size w w' := by
  have h1 : ((w.alloc (.cells (dv1 x).toArray 37)).alloc (.cells (dv1 y).toArray 37)).heap[w.heap.size]? = some (.cells (dv1 x).toArray 37 (0, 0)) := (Below.heap_alloc _ _ _ (by simp)).trans (heap_alloc_new w _)
  have h2 : ((w.alloc (.cells (dv1 x).toArray 37)).alloc (.cells (dv1 y).toArray 37)).heap[w.heap.size + 1]? = some (.cells (dv1 y).toArray 37 (0, 0)) := by
    have := heap_alloc_new (w.alloc (.cells (dv1 x).toArray 37)) (.cells (dv1 y).toArray 37)
    rwa [World.size_alloc] at this
  have hb : Below w.heap.size w ((w.alloc (.cells (dv1 x).toArray 37)).alloc (.cells (dv1 y).toArray 37)).drew := (((Below.refl _ w).alloc (Nat.le_refl _) _).alloc (by simp) _).drew
  have hh : OrdHeld w.heap.size (w.heap.size + 1) x y ((w.alloc (.cells (dv1 x).toArray 37)).alloc (.cells (dv1 y).toArray 37)).drew := ⟨h1, h2⟩
  clear h1 h2
  obtain ⟨r, hr⟩ : ∃ r, r = ord x y := ⟨_, rfl⟩
  rw [← hr]
  obtain ⟨c1, hc1⟩ : ∃ c, c = cmpI x.1 y.1 := ⟨_, rfl⟩
  obtain ⟨c2, hc2⟩ : ∃ c, c = cmpI x.2 y.2 := ⟨_, rfl⟩
  have HR := Lib.hid hr
  have H1 := Lib.hid hc1
  have H2 := Lib.hid hc2
  clear hr hc1 hc2
  go_enter Try.func28, Try.ntmps28
  go_wp2_with fail
  change Code.wp _ _ _ _ ((w.alloc (.cells (dv1 x).toArray 37)).alloc (.cells (dv1 y).toArray 37))
  generalize (w.alloc (.cells (dv1 x).toArray 37)).alloc (.cells (dv1 y).toArray 37) = W at *
  generalize hp : w.heap.size = p at *
  have HP := Lib.hid hp
  clear hp
  refine wp_region_noPanic ?_
  refine wp_region_held_drew (S := (OrdHeld p (p + 1) x y)) (by kernel_rfl) hh (fun hH => ?_)
  refine wpAnyH_take (i := 0) (oi := { dst := some 5, op := Op.fieldAddr 37 (Operand.tmp 2) 0, type := 0, pos := "agenda.go:48", after := #[], guard := none }) (v := ?_) rfl (by kernel_rfl) (by kernel_rfl) (by kernel_rfl) (fun _ _ _ h => h) (Or.inl ⟨by rfl, ?_⟩) hH ?_
  rotate_left
  · (intro w hSw; obtain ⟨q1, q2, q3, q4⟩ := hSw.cells; go_simp; try with_reducible rfl)
  try simp only [Act.put, List.setIfInBounds_toArray, List.set_cons_zero, List.set_cons_succ]
  refine wpAnyH_take (i := 1) (oi := { dst := some 6, op := Op.load 3 (Operand.tmp 5), type := 3, pos := "agenda.go:48", after := #[{ on := 0, ground := Ground.data }], guard := none }) (v := ?_) rfl (by kernel_rfl) (by kernel_rfl) (by kernel_rfl) (fun _ _ _ h => h) (Or.inl ⟨by rfl, ?_⟩) hH ?_
  rotate_left
  · (intro w hSw; obtain ⟨q1, q2, q3, q4⟩ := hSw.cells; go_simp; try with_reducible rfl)
  try simp only [Act.put, List.setIfInBounds_toArray, List.set_cons_zero, List.set_cons_succ]
  refine wpAnyH_take (i := 2) (oi := { dst := some 7, op := Op.fieldAddr 37 (Operand.tmp 3) 0, type := 0, pos := "agenda.go:48", after := #[], guard := none }) (v := ?_) rfl (by kernel_rfl) (by kernel_rfl) (by kernel_rfl) (fun _ _ _ h => h) (Or.inl ⟨by rfl, ?_⟩) hH ?_
  rotate_left
  · (intro w hSw; obtain ⟨q1, q2, q3, q4⟩ := hSw.cells; go_simp; try with_reducible rfl)
  try simp only [Act.put, List.setIfInBounds_toArray, List.set_cons_zero, List.set_cons_succ]
  refine wpAnyH_take (i := 3) (oi := { dst := some 8, op := Op.load 3 (Operand.tmp 7), type := 3, pos := "agenda.go:48", after := #[{ on := 2, ground := Ground.data }], guard := none }) (v := ?_) rfl (by kernel_rfl) (by kernel_rfl) (by kernel_rfl) (fun _ _ _ h => h) (Or.inl ⟨by rfl, ?_⟩) hH ?_
  rotate_left
  · (intro w hSw; obtain ⟨q1, q2, q3, q4⟩ := hSw.cells; go_simp; try with_reducible rfl)
  try simp only [Act.put, List.setIfInBounds_toArray, List.set_cons_zero, List.set_cons_succ]
  refine wpAnyH_take (i := 5) (oi := { dst := some 10, op := Op.fieldAddr 37 (Operand.tmp 2) 1, type := 0, pos := "agenda.go:48", after := #[], guard := none }) (v := ?_) rfl (by kernel_rfl) (by kernel_rfl) (by kernel_rfl) (fun _ _ _ h => h) (Or.inl ⟨by rfl, ?_⟩) hH ?_
  rotate_left
  · (intro w hSw; obtain ⟨q1, q2, q3, q4⟩ := hSw.cells; go_simp; try with_reducible rfl)
  try simp only [Act.put, List.setIfInBounds_toArray, List.set_cons_zero, List.set_cons_succ]
  refine wpAnyH_take (i := 6) (oi := { dst := some 11, op := Op.load 3 (Operand.tmp 10), type := 3, pos := "agenda.go:48", after := #[{ on := 5, ground := Ground.data }], guard := none }) (v := ?_) rfl (by kernel_rfl) (by kernel_rfl) (by kernel_rfl) (fun _ _ _ h => h) (Or.inl ⟨by rfl, ?_⟩) hH ?_
  rotate_left
  · (intro w hSw; obtain ⟨q1, q2, q3, q4⟩ := hSw.cells; go_simp; try with_reducible rfl)
  try simp only [Act.put, List.setIfInBounds_toArray, List.set_cons_zero, List.set_cons_succ]
  refine wpAnyH_take (i := 7) (oi := { dst := some 12, op := Op.fieldAddr 37 (Operand.tmp 3) 1, type := 0, pos := "agenda.go:48", after := #[], guard := none }) (v := ?_) rfl (by kernel_rfl) (by kernel_rfl) (by kernel_rfl) (fun _ _ _ h => h) (Or.inl ⟨by rfl, ?_⟩) hH ?_
  rotate_left
  · (intro w hSw; obtain ⟨q1, q2, q3, q4⟩ := hSw.cells; go_simp; try with_reducible rfl)
  try simp only [Act.put, List.setIfInBounds_toArray, List.set_cons_zero, List.set_cons_succ]
  refine wpAnyH_take (i := 8) (oi := { dst := some 13, op := Op.load 3 (Operand.tmp 12), type := 3, pos := "agenda.go:48", after := #[{ on := 7, ground := Ground.data }], guard := none }) (v := ?_) rfl (by kernel_rfl) (by kernel_rfl) (by kernel_rfl) (fun _ _ _ h => h) (Or.inl ⟨by rfl, ?_⟩) hH ?_
  rotate_left
  · (intro w hSw; obtain ⟨q1, q2, q3, q4⟩ := hSw.cells; go_simp; try with_reducible rfl)
  try simp only [Act.put, List.setIfInBounds_toArray, List.set_cons_zero, List.set_cons_succ]
  refine wpAnyH_ready (rs := [4]) (by kernel_rfl) (by simp) ?_
  refine AllReadyH.cons (o := { dst := some 9, op := Op.call { callee := Callee.value (Operand.func 36), args := #[Operand.tmp 6, Operand.tmp 8], argTypes := #[3, 3] }, type := 3, pos := "agenda.go:48", after := #[{ on := 1, ground := Ground.data }, { on := 3, ground := Ground.data }], guard := none }) rfl (fun K hK => ?_) AllReadyH.nil
  go_simp
  refine (compare_any W.drew x.1 y.1).mono ?_
  rintro e w' ⟨rfl, rfl⟩
  rw [← H1.out]
  go_wp2_with fail
  refine hK.out _ _ hH (fun _ => ?_)
  clear hK K
  try simp only [Act.put, List.setIfInBounds_toArray, List.set_cons_zero, List.set_cons_succ]
  refine wpAnyH_ready (rs := [9]) (by kernel_rfl) (by simp) ?_
  refine AllReadyH.cons (o := { dst := some 14, op := Op.call { callee := Callee.value (Operand.func 36), args := #[Operand.tmp 11, Operand.tmp 13], argTypes := #[3, 3] }, type := 3, pos := "agenda.go:48", after := #[{ on := 6, ground := Ground.data }, { on := 8, ground := Ground.data }, { on := 4, ground := Ground.chain }], guard := none }) rfl (fun K hK => ?_) AllReadyH.nil
  go_simp
  refine (compare_any W.drew x.2 y.2).mono ?_
  rintro e w' ⟨rfl, rfl⟩
  rw [← H2.out]
  go_wp2_with fail
  refine hK.out _ _ hH (fun _ => ?_)
  clear hK K
  try simp only [Act.put, List.setIfInBounds_toArray, List.set_cons_zero, List.set_cons_succ]
  refine wpAnyH_ready (rs := [10]) (by kernel_rfl) (by simp) ?_
  refine AllReadyH.cons (o := { dst := some 15, op := Op.buildSlice 39 2 #[(0, Operand.tmp 9), (1, Operand.tmp 14)], type := 39, pos := "agenda.go:48", after := #[{ on := 4, ground := Ground.data }, { on := 9, ground := Ground.data }], guard := none }) rfl (fun K hK => ?_) AllReadyH.nil
  go_simp
  have b10 : Below p W.drew (W.alloc (.cells #[.int .i64 c1, .int .i64 c2] 3)).drew := ((Below.refl p W.drew).alloc (by have := lt_of_heap hh.1; omega) _)
  have g10 : (W.alloc (.cells #[.int .i64 c1, .int .i64 c2] 3)).drew.heap[W.heap.size]? = some (.cells #[.int .i64 c1, .int .i64 c2] 3 (0, 0)) := heap_alloc_new W.drew _
  have hH10 : OrdHeld p (p + 1) x y (W.alloc (.cells #[.int .i64 c1, .int .i64 c2] 3)).drew := hH.below ((Below.refl _ _).alloc (Nat.le_refl _) _)
  clear hH
  refine hK.out _ _ hH10 (fun hH => ?_)
  clear hK K
  try simp only [Act.put, List.setIfInBounds_toArray, List.set_cons_zero, List.set_cons_succ]
  refine wpAnyH_ready (rs := [11]) (by kernel_rfl) (by simp) ?_
  refine AllReadyH.cons (o := { dst := some 16, op := Op.call { callee := Callee.value (Operand.func 35), args := #[Operand.tmp 15], argTypes := #[39] }, type := 3, pos := "agenda.go:48", after := #[{ on := 10, ground := Ground.data }, { on := 9, ground := Ground.chain }], guard := none }) rfl (fun K hK => ?_) AllReadyH.nil
  go_simp
  refine (or_any _ _ c1 c2 (by rw [cell_of_row _ _ _ _ _ _ g10]; rfl) (by rw [cell_of_row _ _ _ _ _ _ g10]; rfl)).mono ?_
  rintro e w' ⟨rfl, rfl⟩
  go_wp2_with fail
  refine hK.out _ _ hH10 (fun hH => ?_)
  clear hK K
  try simp only [Act.put, List.setIfInBounds_toArray, List.set_cons_zero, List.set_cons_succ]
  refine wpAnyH_take (i := 12) (oi := { dst := some 4, op := Op.assign (Operand.tmp 16), type := 3, pos := "agenda.go:48", after := #[{ on := 11, ground := Ground.data }, { on := 11, ground := Ground.chain }, { on := 0, ground := Ground.phase }, { on := 1, ground := Ground.phase }, { on := 2, ground := Ground.phase }, { on := 3, ground := Ground.phase }, { on := 4, ground := Ground.phase }, { on := 5, ground := Ground.phase }, { on := 6, ground := Ground.phase }, { on := 7, ground := Ground.phase }, { on := 8, ground := Ground.phase }, { on := 9, ground := Ground.phase }, { on := 10, ground := Ground.phase }, { on := 11, ground := Ground.phase }], guard := none }) (v := ?_) rfl (by kernel_rfl) (by kernel_rfl) (by kernel_rfl) (fun _ _ _ h => h) (Or.inl ⟨by rfl, ?_⟩) hH ?_
  rotate_left
  · (intro w hSw; obtain ⟨q1, q2, q3, q4⟩ := hSw.cells; go_simp; try with_reducible rfl)
  try simp only [Act.put, List.setIfInBounds_toArray, List.set_cons_zero, List.set_cons_succ]
  refine wpAnyH_done (by kernel_rfl) ?_ _
  refine NoPanic.normal ?_
  go_wp2_with fail
  go_ret
  refine ⟨?_, by rw [HP.out]; exact hb.trans b10⟩
  rw [HR.out, H1.out, H2.out]
  rfl
end Go.Proofs.Ytaohneahlcnahaa
