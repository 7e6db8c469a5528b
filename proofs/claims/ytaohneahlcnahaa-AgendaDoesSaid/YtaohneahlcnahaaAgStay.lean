/- agenda: Put of what is there already, or of what is refused: the row stays. -/
import Derived.Test.YtaohneahlcnahaaAgenda
import Derived.BigQuiet
import Derived.Deep.RegionHeld3
set_option linter.unusedVariables false
set_option linter.unusedSimpArgs false
namespace Go.Proofs.Ytaohneahlcnahaa
open Go.RowKit

set_option maxRecDepth 100000 in
set_option maxHeartbeats 8000000 in
theorem put_stay (B : Nat) (w : World) (a : Nat) (v : Value) (L : List Du) (x : Du) (h : AgAt B w a v L) (hl : L.length ≤ 1000000) (hx : x ∈ L) :
    Calls Try.prog 29 #[agptr a, .agg #[.int .i64 x.1, .int .i64 x.2]] w fun e w' => e = .returned (.tuple #[]) ∧ AgAt B w' a v L ∧ Below w.heap.size w w' := by
  have hbo : Below w.heap.size w (w.alloc (.cells (dv1 x).toArray 37)) := (Below.refl _ _).alloc (Nat.le_refl _) _
  have hob : XHeld w.heap.size x (w.alloc (.cells (dv1 x).toArray 37)) := heap_alloc_new w _
  have h0 := h.below hbo
  have hB := h.size
  have has := lt_of_heap h.head
  obtain ⟨av, cv, rfl, _⟩ := h.row.isD
  have HVB := Lib.hid (fun k (hk : some k = (Value.slice av L.length cv).ownBlock) => (h.tlt (.inr hk)).2)
  clear h
  go_enter Try.func29, Try.ntmps29
  go_wp2_with fail
  change Code.wp _ _ _ _ (w.alloc (.cells (dv1 x).toArray 37))
  generalize w.alloc (.cells (dv1 x).toArray 37) = W at *
  generalize hbx : w.heap.size = bx at *
  have HBX := Lib.hid hbx
  clear hbx
  have h1 := h0.below ((Below.refl W.heap.size W).drew)
  have b1 := hbo.drew
  have hh : PutHeld a (.slice av L.length cv) bx x W.drew := ⟨h1.head, hob⟩
  have hm := h1.row.isD
  clear h0 hob
  refine wp_region_noPanic ?_
  refine wp_region_held_drew (S := (PutHeld a (.slice av L.length cv) bx x)) (by kernel_rfl) hh (fun hH => ?_)
  refine wpAnyH_take (i := 0) (oi := { dst := some 7, op := Op.move (Operand.tmp 0), type := 61, pos := "agenda.go:20", after := #[], guard := none }) (v := ?_) rfl (by kernel_rfl) (by kernel_rfl) (by kernel_rfl) (fun _ _ _ h => h) (Or.inl ⟨by rfl, ?_⟩) hH ?_
  rotate_left
  · (intro w hSw; have q0 : w.cell? ⟨a, 0, none⟩ = some ordF := (cell_of_row _ _ _ _ _ _ hSw.1).trans rfl; have q1 : w.cell? ⟨a, 1, none⟩ = some (.slice av L.length cv) := (cell_of_row _ _ _ _ _ _ hSw.1).trans rfl; obtain ⟨q2, q3⟩ := hSw.2.cells; go_simp; try with_reducible rfl)
  try simp only [Act.put, List.setIfInBounds_toArray, List.set_cons_zero, List.set_cons_succ]
  refine wpAnyH_take (i := 1) (oi := { dst := some 8, op := Op.nilCheck (Operand.tmp 7), type := 0, pos := "agenda.go:20", after := #[{ on := 0, ground := Ground.data }], guard := none }) (v := ?_) rfl (by kernel_rfl) (by kernel_rfl) (by kernel_rfl) (fun _ _ _ h => h) (Or.inl ⟨by rfl, ?_⟩) hH ?_
  rotate_left
  · (intro w hSw; have q0 : w.cell? ⟨a, 0, none⟩ = some ordF := (cell_of_row _ _ _ _ _ _ hSw.1).trans rfl; have q1 : w.cell? ⟨a, 1, none⟩ = some (.slice av L.length cv) := (cell_of_row _ _ _ _ _ _ hSw.1).trans rfl; obtain ⟨q2, q3⟩ := hSw.2.cells; go_simp; try with_reducible rfl)
  try simp only [Act.put, List.setIfInBounds_toArray, List.set_cons_zero, List.set_cons_succ]
  refine wpAnyH_take (i := 2) (oi := { dst := some 9, op := Op.fieldAddr 55 (Operand.tmp 8) 1, type := 0, pos := "agenda.go:20", after := #[{ on := 1, ground := Ground.data }], guard := none }) (v := ?_) rfl (by kernel_rfl) (by kernel_rfl) (by kernel_rfl) (fun _ _ _ h => h) (Or.inl ⟨by rfl, ?_⟩) hH ?_
  rotate_left
  · (intro w hSw; have q0 : w.cell? ⟨a, 0, none⟩ = some ordF := (cell_of_row _ _ _ _ _ _ hSw.1).trans rfl; have q1 : w.cell? ⟨a, 1, none⟩ = some (.slice av L.length cv) := (cell_of_row _ _ _ _ _ _ hSw.1).trans rfl; obtain ⟨q2, q3⟩ := hSw.2.cells; go_simp; try with_reducible rfl)
  try simp only [Act.put, List.setIfInBounds_toArray, List.set_cons_zero, List.set_cons_succ]
  refine wpAnyH_take (i := 3) (oi := { dst := some 10, op := Op.load 27 (Operand.tmp 9), type := 27, pos := "agenda.go:20", after := #[{ on := 2, ground := Ground.data }], guard := none }) (v := ?_) rfl (by kernel_rfl) (by kernel_rfl) (by kernel_rfl) (fun _ _ _ h => h) (Or.inl ⟨by rfl, ?_⟩) hH ?_
  rotate_left
  · (intro w hSw; have q0 : w.cell? ⟨a, 0, none⟩ = some ordF := (cell_of_row _ _ _ _ _ _ hSw.1).trans rfl; have q1 : w.cell? ⟨a, 1, none⟩ = some (.slice av L.length cv) := (cell_of_row _ _ _ _ _ _ hSw.1).trans rfl; obtain ⟨q2, q3⟩ := hSw.2.cells; go_simp; try with_reducible rfl)
  try simp only [Act.put, List.setIfInBounds_toArray, List.set_cons_zero, List.set_cons_succ]
  refine wpAnyH_take (i := 4) (oi := { dst := some 11, op := Op.load 37 (Operand.tmp 3), type := 37, pos := "agenda.go:20", after := #[], guard := none }) (v := ?_) rfl (by kernel_rfl) (by kernel_rfl) (by kernel_rfl) (fun _ _ _ h => h) (Or.inl ⟨by rfl, ?_⟩) hH ?_
  rotate_left
  · (intro w hSw; have q0 : w.cell? ⟨a, 0, none⟩ = some ordF := (cell_of_row _ _ _ _ _ _ hSw.1).trans rfl; have q1 : w.cell? ⟨a, 1, none⟩ = some (.slice av L.length cv) := (cell_of_row _ _ _ _ _ _ hSw.1).trans rfl; obtain ⟨q2, q3⟩ := hSw.2.cells; go_simp; try with_reducible rfl)
  try simp only [Act.put, List.setIfInBounds_toArray, List.set_cons_zero, List.set_cons_succ]
  refine wpAnyH_take (i := 5) (oi := { dst := some 12, op := Op.move (Operand.tmp 0), type := 61, pos := "agenda.go:20", after := #[], guard := none }) (v := ?_) rfl (by kernel_rfl) (by kernel_rfl) (by kernel_rfl) (fun _ _ _ h => h) (Or.inl ⟨by rfl, ?_⟩) hH ?_
  rotate_left
  · (intro w hSw; have q0 : w.cell? ⟨a, 0, none⟩ = some ordF := (cell_of_row _ _ _ _ _ _ hSw.1).trans rfl; have q1 : w.cell? ⟨a, 1, none⟩ = some (.slice av L.length cv) := (cell_of_row _ _ _ _ _ _ hSw.1).trans rfl; obtain ⟨q2, q3⟩ := hSw.2.cells; go_simp; try with_reducible rfl)
  try simp only [Act.put, List.setIfInBounds_toArray, List.set_cons_zero, List.set_cons_succ]
  refine wpAnyH_take (i := 6) (oi := { dst := some 13, op := Op.nilCheck (Operand.tmp 12), type := 0, pos := "agenda.go:20", after := #[{ on := 5, ground := Ground.data }], guard := none }) (v := ?_) rfl (by kernel_rfl) (by kernel_rfl) (by kernel_rfl) (fun _ _ _ h => h) (Or.inl ⟨by rfl, ?_⟩) hH ?_
  rotate_left
  · (intro w hSw; have q0 : w.cell? ⟨a, 0, none⟩ = some ordF := (cell_of_row _ _ _ _ _ _ hSw.1).trans rfl; have q1 : w.cell? ⟨a, 1, none⟩ = some (.slice av L.length cv) := (cell_of_row _ _ _ _ _ _ hSw.1).trans rfl; obtain ⟨q2, q3⟩ := hSw.2.cells; go_simp; try with_reducible rfl)
  try simp only [Act.put, List.setIfInBounds_toArray, List.set_cons_zero, List.set_cons_succ]
  refine wpAnyH_take (i := 7) (oi := { dst := some 14, op := Op.fieldAddr 55 (Operand.tmp 13) 0, type := 0, pos := "agenda.go:20", after := #[{ on := 6, ground := Ground.data }], guard := none }) (v := ?_) rfl (by kernel_rfl) (by kernel_rfl) (by kernel_rfl) (fun _ _ _ h => h) (Or.inl ⟨by rfl, ?_⟩) hH ?_
  rotate_left
  · (intro w hSw; have q0 : w.cell? ⟨a, 0, none⟩ = some ordF := (cell_of_row _ _ _ _ _ _ hSw.1).trans rfl; have q1 : w.cell? ⟨a, 1, none⟩ = some (.slice av L.length cv) := (cell_of_row _ _ _ _ _ _ hSw.1).trans rfl; obtain ⟨q2, q3⟩ := hSw.2.cells; go_simp; try with_reducible rfl)
  try simp only [Act.put, List.setIfInBounds_toArray, List.set_cons_zero, List.set_cons_succ]
  refine wpAnyH_take (i := 8) (oi := { dst := some 15, op := Op.load 53 (Operand.tmp 14), type := 53, pos := "agenda.go:20", after := #[{ on := 7, ground := Ground.data }], guard := none }) (v := ?_) rfl (by kernel_rfl) (by kernel_rfl) (by kernel_rfl) (fun _ _ _ h => h) (Or.inl ⟨by rfl, ?_⟩) hH ?_
  rotate_left
  · (intro w hSw; have q0 : w.cell? ⟨a, 0, none⟩ = some ordF := (cell_of_row _ _ _ _ _ _ hSw.1).trans rfl; have q1 : w.cell? ⟨a, 1, none⟩ = some (.slice av L.length cv) := (cell_of_row _ _ _ _ _ _ hSw.1).trans rfl; obtain ⟨q2, q3⟩ := hSw.2.cells; go_simp; try with_reducible rfl)
  try simp only [Act.put, List.setIfInBounds_toArray, List.set_cons_zero, List.set_cons_succ]
  refine wpAnyH_ready (rs := [9]) (by kernel_rfl) (by simp) ?_
  refine AllReadyH.cons (o := { dst := some 16, op := Op.call { callee := Callee.value (Operand.func 37), args := #[Operand.tmp 10, Operand.tmp 11, Operand.tmp 15], argTypes := #[27, 37, 53] }, type := 66, pos := "agenda.go:20", after := #[{ on := 3, ground := Ground.data }, { on := 4, ground := Ground.data }, { on := 8, ground := Ground.data }], guard := none }) rfl (fun K hK => ?_) AllReadyH.nil
  go_simp
  refine (search_any W.drew _ L hm (by omega) x h1.srt).mono ?_
  rintro e w2 ⟨i, hat, rfl, b2⟩
  have hH2 : PutHeld a (.slice av L.length cv) bx x w2 := ⟨(b2.block a (lt_of_heap hH.1)).trans hH.1, (b2.block bx (lt_of_heap hH.2)).trans hH.2⟩
  clear hH
  go_wp2_with fail
  refine hK.out _ _ hH2 (fun hH => ?_)
  clear hK K
  try simp only [Act.put, List.setIfInBounds_toArray, List.set_cons_zero, List.set_cons_succ]
  refine wpAnyH_take (i := 10) (oi := { dst := some 6, op := Op.move (Operand.tmp 16), type := 66, pos := "agenda.go:20", after := #[{ on := 9, ground := Ground.data }], guard := none }) (v := ?_) rfl (by kernel_rfl) (by kernel_rfl) (by kernel_rfl) (fun _ _ _ h => h) (Or.inl ⟨by rfl, ?_⟩) hH ?_
  rotate_left
  · (intro w hSw; have q0 : w.cell? ⟨a, 0, none⟩ = some ordF := (cell_of_row _ _ _ _ _ _ hSw.1).trans rfl; have q1 : w.cell? ⟨a, 1, none⟩ = some (.slice av L.length cv) := (cell_of_row _ _ _ _ _ _ hSw.1).trans rfl; obtain ⟨q2, q3⟩ := hSw.2.cells; go_simp; try with_reducible rfl)
  try simp only [Act.put, List.setIfInBounds_toArray, List.set_cons_zero, List.set_cons_succ]
  refine wpAnyH_take (i := 11) (oi := { dst := some 17, op := Op.extract (Operand.tmp 6) 0, type := 3, pos := "agenda.go:20", after := #[{ on := 10, ground := Ground.data }], guard := none }) (v := ?_) rfl (by kernel_rfl) (by kernel_rfl) (by kernel_rfl) (fun _ _ _ h => h) (Or.inl ⟨by rfl, ?_⟩) hH ?_
  rotate_left
  · (intro w hSw; have q0 : w.cell? ⟨a, 0, none⟩ = some ordF := (cell_of_row _ _ _ _ _ _ hSw.1).trans rfl; have q1 : w.cell? ⟨a, 1, none⟩ = some (.slice av L.length cv) := (cell_of_row _ _ _ _ _ _ hSw.1).trans rfl; obtain ⟨q2, q3⟩ := hSw.2.cells; go_simp; try with_reducible rfl)
  try simp only [Act.put, List.setIfInBounds_toArray, List.set_cons_zero, List.set_cons_succ]
  refine wpAnyH_take (i := 12) (oi := { dst := some 18, op := Op.extract (Operand.tmp 6) 1, type := 4, pos := "agenda.go:20", after := #[{ on := 10, ground := Ground.data }, { on := 13, ground := Ground.gcOnly Departure.lateStores }], guard := none }) (v := ?_) rfl (by kernel_rfl) (by kernel_rfl) (by kernel_rfl) (fun _ _ _ h => h) (Or.inl ⟨by rfl, ?_⟩) hH ?_
  rotate_left
  · (intro w hSw; have q0 : w.cell? ⟨a, 0, none⟩ = some ordF := (cell_of_row _ _ _ _ _ _ hSw.1).trans rfl; have q1 : w.cell? ⟨a, 1, none⟩ = some (.slice av L.length cv) := (cell_of_row _ _ _ _ _ _ hSw.1).trans rfl; obtain ⟨q2, q3⟩ := hSw.2.cells; go_simp; try with_reducible rfl)
  try simp only [Act.put, List.setIfInBounds_toArray, List.set_cons_zero, List.set_cons_succ]
  refine wpAnyH_take (i := 13) (oi := { dst := some 4, op := Op.assign (Operand.tmp 17), type := 3, pos := "agenda.go:20", after := #[{ on := 11, ground := Ground.data }, { on := 9, ground := Ground.chain }, { on := 0, ground := Ground.phase }, { on := 1, ground := Ground.phase }, { on := 2, ground := Ground.phase }, { on := 3, ground := Ground.phase }, { on := 4, ground := Ground.phase }, { on := 5, ground := Ground.phase }, { on := 6, ground := Ground.phase }, { on := 7, ground := Ground.phase }, { on := 8, ground := Ground.phase }, { on := 9, ground := Ground.phase }, { on := 10, ground := Ground.phase }, { on := 11, ground := Ground.phase }, { on := 12, ground := Ground.textOnly Departure.lateStores }], guard := none }) (v := ?_) rfl (by kernel_rfl) (by kernel_rfl) (by kernel_rfl) (fun _ _ _ h => h) (Or.inl ⟨by rfl, ?_⟩) hH ?_
  rotate_left
  · (intro w hSw; have q0 : w.cell? ⟨a, 0, none⟩ = some ordF := (cell_of_row _ _ _ _ _ _ hSw.1).trans rfl; have q1 : w.cell? ⟨a, 1, none⟩ = some (.slice av L.length cv) := (cell_of_row _ _ _ _ _ _ hSw.1).trans rfl; obtain ⟨q2, q3⟩ := hSw.2.cells; go_simp; try with_reducible rfl)
  try simp only [Act.put, List.setIfInBounds_toArray, List.set_cons_zero, List.set_cons_succ]
  refine wpAnyH_take (i := 14) (oi := { dst := some 5, op := Op.assign (Operand.tmp 18), type := 4, pos := "agenda.go:20", after := #[{ on := 12, ground := Ground.data }, { on := 13, ground := Ground.chain }, { on := 0, ground := Ground.phase }, { on := 1, ground := Ground.phase }, { on := 2, ground := Ground.phase }, { on := 3, ground := Ground.phase }, { on := 4, ground := Ground.phase }, { on := 5, ground := Ground.phase }, { on := 6, ground := Ground.phase }, { on := 7, ground := Ground.phase }, { on := 8, ground := Ground.phase }, { on := 9, ground := Ground.phase }, { on := 10, ground := Ground.phase }, { on := 11, ground := Ground.phase }, { on := 12, ground := Ground.phase }, { on := 13, ground := Ground.phase }], guard := none }) (v := ?_) rfl (by kernel_rfl) (by kernel_rfl) (by kernel_rfl) (fun _ _ _ h => h) (Or.inl ⟨by rfl, ?_⟩) hH ?_
  rotate_left
  · (intro w hSw; have q0 : w.cell? ⟨a, 0, none⟩ = some ordF := (cell_of_row _ _ _ _ _ _ hSw.1).trans rfl; have q1 : w.cell? ⟨a, 1, none⟩ = some (.slice av L.length cv) := (cell_of_row _ _ _ _ _ _ hSw.1).trans rfl; obtain ⟨q2, q3⟩ := hSw.2.cells; go_simp; try with_reducible rfl)
  try simp only [Act.put, List.setIfInBounds_toArray, List.set_cons_zero, List.set_cons_succ]
  refine wpAnyH_done (by kernel_rfl) ?_ _
  refine NoPanic.normal ?_
  have H1 := h1.below b2
  have bb2 := b1.trans (b2.mono (by have := b1.size; have := HBX.out; omega))
  have hxb : XHeld bx x w2 := hH2.2
  clear hH hH2 b2 b1 h1 hm hh hbo
  have hdx : decide (x ∈ L) = true := by simpa using hx
  clear hx
  go_wp2_with fail
  go_end0
  exact ⟨rfl, H1, by rw [HBX.out]; exact bb2⟩
set_option maxHeartbeats 4000000 in
theorem agPut_stay (B : Nat) (w : World) (a : Nat) (v : Value) (L : List Du) (day id : Int) (h : AgAt B w a v L) (hl : L.length ≤ 1000000) (hs : putL L day id = L) :
    Calls Try.prog 18 #[agptr a, .int .i64 day, .int .i64 id] w fun e w' => e = .returned (.int .i64 (putE day id)) ∧ AgAt B w' a v L ∧ Below w.heap.size w w' := by
  by_cases h1 : day < 0
  · have d1 : decide (day < 0) = true := by simpa using h1
    have e : putE day id = 190 := if_pos (.inl h1)
    rw [e]
    have H := Lib.hid h
    clear e h hs
    go_enter Try.func18, Try.ntmps18
    go_wp2
    go_ret
    exact ⟨rfl, H.out, Below.refl _ _⟩
  · have d1 : decide (day < 0) = false := by simpa using h1
    by_cases h2 : 73048 < day
    · have d2 : decide (73048 < day) = true := by simpa using h2
      have e : putE day id = 190 := if_pos (.inr h2)
      rw [e]
      have H := Lib.hid h
      clear e h hs
      go_enter Try.func18, Try.ntmps18
      go_wp2
      go_ret
      exact ⟨rfl, H.out, Below.refl _ _⟩
    · have d2 : decide (73048 < day) = false := by simpa using h2
      have hno : ¬ (day < 0 ∨ 73048 < day) := by omega
      by_cases h3 : id < 1
      · have d3 : decide (id < 1) = true := by simpa using h3
        have e : putE day id = 2 := by unfold putE; rw [if_neg hno, if_pos (.inl h3)]
        rw [e]
        have H := Lib.hid h
        clear e h hno hs
        go_enter Try.func18, Try.ntmps18
        go_wp2
        go_ret
        exact ⟨rfl, H.out, Below.refl _ _⟩
      · have d3 : decide (id < 1) = false := by simpa using h3
        by_cases h4 : 2147483647 < id
        · have d4 : decide (2147483647 < id) = true := by simpa using h4
          have e : putE day id = 2 := by unfold putE; rw [if_neg hno, if_pos (.inr h4)]
          rw [e]
          have H := Lib.hid h
          clear e h hno hs
          go_enter Try.func18, Try.ntmps18
          go_wp2
          go_ret
          exact ⟨rfl, H.out, Below.refl _ _⟩
        · have d4 : decide (2147483647 < id) = false := by simpa using h4
          have e : putE day id = 0 := by unfold putE; rw [if_neg hno, if_neg (by omega)]
          have hm : (day, id) ∈ L := by
            have e2 : putL L day id = insD L (day, id) := by unfold putL; rw [e]; rfl
            rw [e2] at hs
            rw [← hs]
            exact mem_insD.2 (.inl rfl)
          rw [e]
          have hp := put_stay B w a v L (day, id) h hl hm
          clear e h hno hs hm
          go_enter Try.func18, Try.ntmps18
          go_wp2_with fail
          refine hp.mono ?_
          rintro e w1 ⟨rfl, ha, ht⟩
          have HA := Lib.hid ha
          clear ha hp
          go_wp2_with fail
          go_ret
          exact ⟨rfl, HA.out, ht⟩
end Go.Proofs.Ytaohneahlcnahaa
