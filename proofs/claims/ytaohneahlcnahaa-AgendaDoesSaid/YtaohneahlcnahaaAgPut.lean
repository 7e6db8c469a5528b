/- agenda: New, Put. -/
import Derived.Test.YtaohneahlcnahaaAgFind
import Derived.Test.YtaohneahlcnahaaAgInsert
set_option linter.unusedVariables false
set_option linter.unusedSimpArgs false
namespace Go.Proofs.Ytaohneahlcnahaa
open Go.RowKit

/-- an entry laid where it belongs, if it is not there -/
def insD (L : List Du) (x : Du) : List Du := if x ∈ L then L else L.filter (fun y => decide (ord y x < 0)) ++ x :: L.filter (fun y => decide (0 ≤ ord y x))
theorem At.filter {L : List Du} {x : Du} {i : Nat} (h : At L x i) : L.filter (fun y => decide (ord y x < 0)) = L.take i ∧ L.filter (fun y => decide (0 ≤ ord y x)) = L.drop i := by
  have hlo : ∀ y ∈ L.take i, ord y x < 0 := fun y hy => by
    obtain ⟨k, hk, rfl⟩ := List.getElem_of_mem hy
    rw [List.getElem_take]
    rw [List.length_take] at hk
    exact h.lo k (by omega) (by omega)
  have hhi : ∀ y ∈ L.drop i, 0 ≤ ord y x := fun y hy => by
    obtain ⟨k, hk, rfl⟩ := List.getElem_of_mem hy
    rw [List.getElem_drop]
    exact h.hi _ _ (by omega)
  have e : L = L.take i ++ L.drop i := (List.take_append_drop i L).symm
  constructor
  · conv => lhs; rw [e]
    rw [List.filter_append, List.filter_eq_self.2 (fun y hy => by simpa using hlo y hy), List.filter_eq_nil_iff.2 (fun y hy => by have := hhi y hy; simp; omega), List.append_nil]
  · conv => lhs; rw [e]
    rw [List.filter_append, List.filter_eq_nil_iff.2 (fun y hy => by have := hlo y hy; simp; omega), List.filter_eq_self.2 (fun y hy => by simpa using hhi y hy), List.nil_append]
theorem mem_insD {L : List Du} {x y : Du} : y ∈ insD L x ↔ y = x ∨ y ∈ L := by
  unfold insD
  split
  · rename_i h
    exact ⟨.inr, fun e => e.elim (fun e => e ▸ h) id⟩
  · simp only [List.mem_append, List.mem_cons, List.mem_filter, decide_eq_true_eq]
    constructor
    · rintro (h | h | h)
      · exact .inr h.1
      · exact .inl h
      · exact .inr h.1
    · rintro (h | h)
      · exact .inr (.inl h)
      · rcases Int.lt_or_le (ord y x) 0 with k | k
        · exact .inl ⟨h, k⟩
        · exact .inr (.inr ⟨h, k⟩)
theorem ord_pos {x y : Du} (h : 0 < ord x y) : ord y x < 0 := by
  have h1 : ¬ ord x y < 0 := by omega
  have h2 : ord x y ≠ 0 := by omega
  have h2' : x ≠ y := fun e => h2 (ord_zero.2 e)
  rw [ord_neg] at h1 ⊢
  rcases Int.lt_trichotomy x.1 y.1 with a | a | a
  · omega
  · rcases Int.lt_trichotomy x.2 y.2 with b | b | b
    · omega
    · exact absurd (Prod.ext a b) h2'
    · omega
  · omega
theorem Srt.insD {L : List Du} (h : Srt L) (x : Du) : Srt (insD L x) := by
  unfold Go.Proofs.Ytaohneahlcnahaa.insD
  split
  · exact h
  · rename_i hx
    refine List.pairwise_append.2 ⟨h.filter _, List.pairwise_cons.2 ⟨fun y hy => ?_, h.filter _⟩, ?_⟩
    · obtain ⟨h1, h2⟩ := List.mem_filter.1 hy
      simp only [decide_eq_true_eq] at h2
      have hne : ord y x ≠ 0 := fun e => hx (by rw [← ord_zero.1 e]; exact h1)
      exact ord_pos (by omega)
    · intro a ha b hb
      obtain ⟨_, a2⟩ := List.mem_filter.1 ha
      simp only [decide_eq_true_eq] at a2
      rcases List.mem_cons.1 hb with rfl | hb
      · exact a2
      · obtain ⟨b1, b2⟩ := List.mem_filter.1 hb
        simp only [decide_eq_true_eq] at b2
        have hne : ord b x ≠ 0 := fun e => hx (by rw [← ord_zero.1 e]; exact b1)
        exact ord_trans a2 (ord_pos (by omega))
theorem filt_len (L : List Du) (x : Du) : (L.filter (fun y => decide (0 ≤ ord y x))).length + (L.filter (fun y => decide (ord y x < 0))).length = L.length := by
  induction L with
  | nil => rfl
  | cons y r ih =>
    by_cases h : ord y x < 0
    · rw [List.filter_cons_of_neg (by simp; omega), List.filter_cons_of_pos (by simpa using h), List.length_cons, List.length_cons]
      omega
    · rw [List.filter_cons_of_pos (by simp; omega), List.filter_cons_of_neg (by simpa using h), List.length_cons, List.length_cons]
      omega
theorem insD_length (L : List Du) (x : Du) : (insD L x).length ≤ L.length + 1 := by
  unfold insD
  split
  · omega
  · rename_i hx
    have h1 := filt_len L x
    simp only [List.length_append, List.length_cons]
    omega
/-- two lists in order with the same entries are one -/
theorem Srt.ext {A B : List Du} (ha : Srt A) (hb : Srt B) (h : ∀ x, x ∈ A ↔ x ∈ B) : A = B := by
  have irr : ∀ x, ¬ ord x x < 0 := fun x => by rw [ord_zero.2 rfl]; omega
  induction A generalizing B with
  | nil =>
    cases B with
    | nil => rfl
    | cons y B => exact absurd ((h y).2 (by simp)) (by simp)
  | cons x A ih =>
    cases B with
    | nil => exact absurd ((h x).1 (by simp)) (by simp)
    | cons y B =>
      obtain ⟨ha1, ha2⟩ := List.pairwise_cons.1 ha
      obtain ⟨hb1, hb2⟩ := List.pairwise_cons.1 hb
      have hxy : x = y := by
        rcases List.mem_cons.1 ((h x).1 (by simp)) with e | e
        · exact e
        · rcases List.mem_cons.1 ((h y).2 (by simp)) with e' | e'
          · exact e'.symm
          · exact absurd (ord_trans (hb1 x e) (ha1 y e')) (irr _)
      subst hxy
      congr 1
      refine ih ha2 hb2 fun z => ?_
      constructor
      · intro hz
        rcases List.mem_cons.1 ((h z).1 (by simp [hz])) with e | e
        · subst e; exact absurd (ha1 z hz) (irr _)
        · exact e
      · intro hz
        rcases List.mem_cons.1 ((h z).2 (by simp [hz])) with e | e
        · subst e; exact absurd (hb1 z hz) (irr _)
        · exact e

/-- the order, as a value -/
abbrev ordF : Value := .func (.func 28) #[] #[]
abbrev agptr (a : Nat) : Value := .pointer (some ⟨a, 0, none⟩)
/-- an agenda in block a: its entries are L, in the row v -/
structure AgAt (B : Nat) (w : World) (a : Nat) (v : Value) (L : List Du) : Prop where
  low : B ≤ a
  head : w.heap[a]? = some (.cells #[ordF, v] 57 (0, 0))
  row : MineD B w v L
  srt : Srt L
/-- the blocks that an agenda may turn -/
def AgT (a : Nat) (v : Value) (k : Nat) : Prop := k = a ∨ some k = v.ownBlock
theorem AgAt.size {B : Nat} {w : World} {a : Nat} {v : Value} {L : List Du} (h : AgAt B w a v L) : B ≤ w.heap.size := Nat.le_trans h.low (Nat.le_of_lt (lt_of_heap h.head))
theorem MineD.notIn {B : Nat} {w : World} {v : Value} {L : List Du} (h : MineD B w v L) {a : Nat} {c : Array Value} {T : TypeId} {fr : Nat × Nat} (ha : w.heap[a]? = some (.cells c T fr)) (hT : T ≠ 37) : v.ownBlock ≠ some a := by
  intro e
  rcases h.2 with ⟨rfl, _⟩ | ⟨g, cap, cur, rfl, _, hg, _⟩
  · cases e
  · have : g = a := by simpa [Value.ownBlock] using e
    subst this
    rw [ha] at hg
    injection hg with hg
    injection hg with _ hg
    exact hT hg
theorem MineD.keepOwn {B : Nat} {w w' : World} {v : Value} {L : List Du} (h : MineD B w v L) (hw : ∀ k, k < w.heap.size → some k = v.ownBlock → w'.heap[k]? = w.heap[k]?) : MineD B w' v L := by
  obtain ⟨h1, h2⟩ := h
  refine ⟨h1, ?_⟩
  rcases h2 with h2 | ⟨g, cap, cur, hv, hg, hh, r⟩
  · exact .inl h2
  · exact .inr ⟨g, cap, cur, hv, hg, (hw g (lt_of_heap hh) (by rw [hv]; rfl)).trans hh, r⟩
theorem turned_at {T : Nat → Prop} (w : World) (a i : Nat) (v : Value) (h : T a) : Turned T w (w.setCell ⟨a, i, none⟩ v) :=
  ⟨rfl, rfl, rfl, by simp [World.setCell], fun k hk hn => Below.heap_setCell _ _ _ _ (fun e => hn (by rw [e]; exact h))⟩
theorem AgAt.apart {B : Nat} {w : World} {a : Nat} {v : Value} {L : List Du} (h : AgAt B w a v L) : v.ownBlock ≠ some a := by
  intro e
  rcases h.row.2 with ⟨rfl, _⟩ | ⟨g, cap, cur, rfl, _, hg, _⟩
  · cases e
  · have : g = a := by simpa [Value.ownBlock] using e
    subst this
    rw [h.head] at hg
    injection hg with hg
    injection hg with _ hg
    exact absurd hg (by decide)
theorem AgAt.keep {B : Nat} {w w' : World} {a : Nat} {v : Value} {L : List Du} (h : AgAt B w a v L) (hw : ∀ k, k < w.heap.size → AgT a v k → w'.heap[k]? = w.heap[k]?) : AgAt B w' a v L := by
  refine ⟨h.low, (hw a (lt_of_heap h.head) (.inl rfl)).trans h.head, ?_, h.srt⟩
  obtain ⟨h1, h2⟩ := h.row
  refine ⟨h1, ?_⟩
  rcases h2 with h2 | ⟨g, cap, cur, hv, hg, hh, r⟩
  · exact .inl h2
  · exact .inr ⟨g, cap, cur, hv, hg, (hw g (lt_of_heap hh) (.inr (by rw [hv]; rfl))).trans hh, r⟩
theorem AgAt.below {B : Nat} {w w' : World} {a : Nat} {v : Value} {L : List Du} (h : AgAt B w a v L) (hb : Below w.heap.size w w') : AgAt B w' a v L := h.keep fun k hk _ => hb.block k hk
theorem AgAt.tlt {B : Nat} {w : World} {a : Nat} {v : Value} {L : List Du} (h : AgAt B w a v L) {k : Nat} (hk : AgT a v k) : B ≤ k ∧ k < w.heap.size := by
  rcases hk with rfl | hk
  · exact ⟨h.low, lt_of_heap h.head⟩
  · exact World.ownsRow.lt h.row k hk.symm
theorem AgAt.down {B B' : Nat} {w : World} {a : Nat} {v : Value} {L : List Du} (h : AgAt B w a v L) (hB : B' ≤ B) : AgAt B' w a v L := ⟨by have := h.low; omega, h.head, h.row.down hB, h.srt⟩
/-- the box of an entry -/
def XHeld (b : Nat) (x : Du) (W : World) : Prop := W.heap[b]? = some (.cells (dv1 x).toArray 37 (0, 0))
theorem XHeld.cells {b : Nat} {x : Du} {W : World} (h : XHeld b x W) : W.cell? ⟨b, 0, none⟩ = some (.int .i64 x.1) ∧ W.cell? ⟨b, 1, none⟩ = some (.int .i64 x.2) := by
  constructor <;> · rw [cell_of_row _ _ _ _ _ _ h]; rfl
def PutHeld (a : Nat) (v : Value) (b : Nat) (x : Du) (W : World) : Prop := W.heap[a]? = some (.cells #[ordF, v] 57 (0, 0)) ∧ XHeld b x W
set_option maxRecDepth 100000 in
set_option maxHeartbeats 4000000 in
theorem put_any (B : Nat) (w : World) (a : Nat) (v : Value) (L : List Du) (x : Du) (h : AgAt B w a v L) (hl : L.length ≤ 1000000) :
    Calls Try.prog 29 #[agptr a, .agg #[.int .i64 x.1, .int .i64 x.2]] w fun e w' => ∃ v', e = .returned (.tuple #[]) ∧ AgAt B w' a v' (insD L x) ∧ Turned (AgT a v) w w' := by
  have hbo : Below w.heap.size w (w.alloc (.cells (dv1 x).toArray 37)) := (Below.refl _ _).alloc (Nat.le_refl _) _
  have hob : XHeld w.heap.size x (w.alloc (.cells (dv1 x).toArray 37)) := heap_alloc_new w _
  have h0 := h.below hbo
  have hB := h.size
  have has := lt_of_heap h.head
  obtain ⟨av, cv, rfl, _⟩ := h.row.isD
  have HVB := Lib.hid (fun k (hk : some k = (Value.slice av L.length cv).ownBlock) => (h.tlt (.inr hk)).2)
  clear h
  go_enter Try.func29, Try.ntmps29
  go_wp2_with fail
  change Code.wp _ _ _ _ (w.alloc (.cells (dv1 x).toArray 37))
  generalize w.alloc (.cells (dv1 x).toArray 37) = W at *
  generalize hbx : w.heap.size = bx at *
  have HBX := Lib.hid hbx
  clear hbx
  have h1 := h0.below ((Below.refl W.heap.size W).drew)
  have b1 := hbo.drew
  have hh : PutHeld a (.slice av L.length cv) bx x W.drew := ⟨h1.head, hob⟩
  have hm := h1.row.isD
  clear h0 hob
  refine wp_region_noPanic ?_
  refine wp_region_held_drew (S := (PutHeld a (.slice av L.length cv) bx x)) (by kernel_rfl) hh (fun hH => ?_)
  refine wpAnyH_take (i := 0) (oi := { dst := some 7, op := Op.move (Operand.tmp 0), type := 61, pos := "agenda.go:20", after := #[], guard := none }) (v := ?_) rfl (by kernel_rfl) (by kernel_rfl) (by kernel_rfl) (fun _ _ _ h => h) (Or.inl ⟨by rfl, ?_⟩) hH ?_
  rotate_left
  · (intro w hSw; have q0 : w.cell? ⟨a, 0, none⟩ = some ordF := (cell_of_row _ _ _ _ _ _ hSw.1).trans rfl; have q1 : w.cell? ⟨a, 1, none⟩ = some (.slice av L.length cv) := (cell_of_row _ _ _ _ _ _ hSw.1).trans rfl; obtain ⟨q2, q3⟩ := hSw.2.cells; go_simp; try with_reducible rfl)
  try simp only [Act.put, List.setIfInBounds_toArray, List.set_cons_zero, List.set_cons_succ]
  refine wpAnyH_take (i := 1) (oi := { dst := some 8, op := Op.nilCheck (Operand.tmp 7), type := 0, pos := "agenda.go:20", after := #[{ on := 0, ground := Ground.data }], guard := none }) (v := ?_) rfl (by kernel_rfl) (by kernel_rfl) (by kernel_rfl) (fun _ _ _ h => h) (Or.inl ⟨by rfl, ?_⟩) hH ?_
  rotate_left
  · (intro w hSw; have q0 : w.cell? ⟨a, 0, none⟩ = some ordF := (cell_of_row _ _ _ _ _ _ hSw.1).trans rfl; have q1 : w.cell? ⟨a, 1, none⟩ = some (.slice av L.length cv) := (cell_of_row _ _ _ _ _ _ hSw.1).trans rfl; obtain ⟨q2, q3⟩ := hSw.2.cells; go_simp; try with_reducible rfl)
  try simp only [Act.put, List.setIfInBounds_toArray, List.set_cons_zero, List.set_cons_succ]
  refine wpAnyH_take (i := 2) (oi := { dst := some 9, op := Op.fieldAddr 55 (Operand.tmp 8) 1, type := 0, pos := "agenda.go:20", after := #[{ on := 1, ground := Ground.data }], guard := none }) (v := ?_) rfl (by kernel_rfl) (by kernel_rfl) (by kernel_rfl) (fun _ _ _ h => h) (Or.inl ⟨by rfl, ?_⟩) hH ?_
  rotate_left
  · (intro w hSw; have q0 : w.cell? ⟨a, 0, none⟩ = some ordF := (cell_of_row _ _ _ _ _ _ hSw.1).trans rfl; have q1 : w.cell? ⟨a, 1, none⟩ = some (.slice av L.length cv) := (cell_of_row _ _ _ _ _ _ hSw.1).trans rfl; obtain ⟨q2, q3⟩ := hSw.2.cells; go_simp; try with_reducible rfl)
  try simp only [Act.put, List.setIfInBounds_toArray, List.set_cons_zero, List.set_cons_succ]
  refine wpAnyH_take (i := 3) (oi := { dst := some 10, op := Op.load 27 (Operand.tmp 9), type := 27, pos := "agenda.go:20", after := #[{ on := 2, ground := Ground.data }], guard := none }) (v := ?_) rfl (by kernel_rfl) (by kernel_rfl) (by kernel_rfl) (fun _ _ _ h => h) (Or.inl ⟨by rfl, ?_⟩) hH ?_
  rotate_left
  · (intro w hSw; have q0 : w.cell? ⟨a, 0, none⟩ = some ordF := (cell_of_row _ _ _ _ _ _ hSw.1).trans rfl; have q1 : w.cell? ⟨a, 1, none⟩ = some (.slice av L.length cv) := (cell_of_row _ _ _ _ _ _ hSw.1).trans rfl; obtain ⟨q2, q3⟩ := hSw.2.cells; go_simp; try with_reducible rfl)
  try simp only [Act.put, List.setIfInBounds_toArray, List.set_cons_zero, List.set_cons_succ]
  refine wpAnyH_take (i := 4) (oi := { dst := some 11, op := Op.load 37 (Operand.tmp 3), type := 37, pos := "agenda.go:20", after := #[], guard := none }) (v := ?_) rfl (by kernel_rfl) (by kernel_rfl) (by kernel_rfl) (fun _ _ _ h => h) (Or.inl ⟨by rfl, ?_⟩) hH ?_
  rotate_left
  · (intro w hSw; have q0 : w.cell? ⟨a, 0, none⟩ = some ordF := (cell_of_row _ _ _ _ _ _ hSw.1).trans rfl; have q1 : w.cell? ⟨a, 1, none⟩ = some (.slice av L.length cv) := (cell_of_row _ _ _ _ _ _ hSw.1).trans rfl; obtain ⟨q2, q3⟩ := hSw.2.cells; go_simp; try with_reducible rfl)
  try simp only [Act.put, List.setIfInBounds_toArray, List.set_cons_zero, List.set_cons_succ]
  refine wpAnyH_take (i := 5) (oi := { dst := some 12, op := Op.move (Operand.tmp 0), type := 61, pos := "agenda.go:20", after := #[], guard := none }) (v := ?_) rfl (by kernel_rfl) (by kernel_rfl) (by kernel_rfl) (fun _ _ _ h => h) (Or.inl ⟨by rfl, ?_⟩) hH ?_
  rotate_left
  · (intro w hSw; have q0 : w.cell? ⟨a, 0, none⟩ = some ordF := (cell_of_row _ _ _ _ _ _ hSw.1).trans rfl; have q1 : w.cell? ⟨a, 1, none⟩ = some (.slice av L.length cv) := (cell_of_row _ _ _ _ _ _ hSw.1).trans rfl; obtain ⟨q2, q3⟩ := hSw.2.cells; go_simp; try with_reducible rfl)
  try simp only [Act.put, List.setIfInBounds_toArray, List.set_cons_zero, List.set_cons_succ]
  refine wpAnyH_take (i := 6) (oi := { dst := some 13, op := Op.nilCheck (Operand.tmp 12), type := 0, pos := "agenda.go:20", after := #[{ on := 5, ground := Ground.data }], guard := none }) (v := ?_) rfl (by kernel_rfl) (by kernel_rfl) (by kernel_rfl) (fun _ _ _ h => h) (Or.inl ⟨by rfl, ?_⟩) hH ?_
  rotate_left
  · (intro w hSw; have q0 : w.cell? ⟨a, 0, none⟩ = some ordF := (cell_of_row _ _ _ _ _ _ hSw.1).trans rfl; have q1 : w.cell? ⟨a, 1, none⟩ = some (.slice av L.length cv) := (cell_of_row _ _ _ _ _ _ hSw.1).trans rfl; obtain ⟨q2, q3⟩ := hSw.2.cells; go_simp; try with_reducible rfl)
  try simp only [Act.put, List.setIfInBounds_toArray, List.set_cons_zero, List.set_cons_succ]
  refine wpAnyH_take (i := 7) (oi := { dst := some 14, op := Op.fieldAddr 55 (Operand.tmp 13) 0, type := 0, pos := "agenda.go:20", after := #[{ on := 6, ground := Ground.data }], guard := none }) (v := ?_) rfl (by kernel_rfl) (by kernel_rfl) (by kernel_rfl) (fun _ _ _ h => h) (Or.inl ⟨by rfl, ?_⟩) hH ?_
  rotate_left
  · (intro w hSw; have q0 : w.cell? ⟨a, 0, none⟩ = some ordF := (cell_of_row _ _ _ _ _ _ hSw.1).trans rfl; have q1 : w.cell? ⟨a, 1, none⟩ = some (.slice av L.length cv) := (cell_of_row _ _ _ _ _ _ hSw.1).trans rfl; obtain ⟨q2, q3⟩ := hSw.2.cells; go_simp; try with_reducible rfl)
  try simp only [Act.put, List.setIfInBounds_toArray, List.set_cons_zero, List.set_cons_succ]
  refine wpAnyH_take (i := 8) (oi := { dst := some 15, op := Op.load 53 (Operand.tmp 14), type := 53, pos := "agenda.go:20", after := #[{ on := 7, ground := Ground.data }], guard := none }) (v := ?_) rfl (by kernel_rfl) (by kernel_rfl) (by kernel_rfl) (fun _ _ _ h => h) (Or.inl ⟨by rfl, ?_⟩) hH ?_
  rotate_left
  · (intro w hSw; have q0 : w.cell? ⟨a, 0, none⟩ = some ordF := (cell_of_row _ _ _ _ _ _ hSw.1).trans rfl; have q1 : w.cell? ⟨a, 1, none⟩ = some (.slice av L.length cv) := (cell_of_row _ _ _ _ _ _ hSw.1).trans rfl; obtain ⟨q2, q3⟩ := hSw.2.cells; go_simp; try with_reducible rfl)
  try simp only [Act.put, List.setIfInBounds_toArray, List.set_cons_zero, List.set_cons_succ]
  refine wpAnyH_ready (rs := [9]) (by kernel_rfl) (by simp) ?_
  refine AllReadyH.cons (o := { dst := some 16, op := Op.call { callee := Callee.value (Operand.func 37), args := #[Operand.tmp 10, Operand.tmp 11, Operand.tmp 15], argTypes := #[27, 37, 53] }, type := 66, pos := "agenda.go:20", after := #[{ on := 3, ground := Ground.data }, { on := 4, ground := Ground.data }, { on := 8, ground := Ground.data }], guard := none }) rfl (fun K hK => ?_) AllReadyH.nil
  go_simp
  refine (search_any W.drew _ L hm (by omega) x h1.srt).mono ?_
  rintro e w2 ⟨i, hat, rfl, b2⟩
  have hH2 : PutHeld a (.slice av L.length cv) bx x w2 := ⟨(b2.block a (lt_of_heap hH.1)).trans hH.1, (b2.block bx (lt_of_heap hH.2)).trans hH.2⟩
  clear hH
  go_wp2_with fail
  refine hK.out _ _ hH2 (fun hH => ?_)
  clear hK K
  try simp only [Act.put, List.setIfInBounds_toArray, List.set_cons_zero, List.set_cons_succ]
  refine wpAnyH_take (i := 10) (oi := { dst := some 6, op := Op.move (Operand.tmp 16), type := 66, pos := "agenda.go:20", after := #[{ on := 9, ground := Ground.data }], guard := none }) (v := ?_) rfl (by kernel_rfl) (by kernel_rfl) (by kernel_rfl) (fun _ _ _ h => h) (Or.inl ⟨by rfl, ?_⟩) hH ?_
  rotate_left
  · (intro w hSw; have q0 : w.cell? ⟨a, 0, none⟩ = some ordF := (cell_of_row _ _ _ _ _ _ hSw.1).trans rfl; have q1 : w.cell? ⟨a, 1, none⟩ = some (.slice av L.length cv) := (cell_of_row _ _ _ _ _ _ hSw.1).trans rfl; obtain ⟨q2, q3⟩ := hSw.2.cells; go_simp; try with_reducible rfl)
  try simp only [Act.put, List.setIfInBounds_toArray, List.set_cons_zero, List.set_cons_succ]
  refine wpAnyH_take (i := 11) (oi := { dst := some 17, op := Op.extract (Operand.tmp 6) 0, type := 3, pos := "agenda.go:20", after := #[{ on := 10, ground := Ground.data }], guard := none }) (v := ?_) rfl (by kernel_rfl) (by kernel_rfl) (by kernel_rfl) (fun _ _ _ h => h) (Or.inl ⟨by rfl, ?_⟩) hH ?_
  rotate_left
  · (intro w hSw; have q0 : w.cell? ⟨a, 0, none⟩ = some ordF := (cell_of_row _ _ _ _ _ _ hSw.1).trans rfl; have q1 : w.cell? ⟨a, 1, none⟩ = some (.slice av L.length cv) := (cell_of_row _ _ _ _ _ _ hSw.1).trans rfl; obtain ⟨q2, q3⟩ := hSw.2.cells; go_simp; try with_reducible rfl)
  try simp only [Act.put, List.setIfInBounds_toArray, List.set_cons_zero, List.set_cons_succ]
  refine wpAnyH_take (i := 12) (oi := { dst := some 18, op := Op.extract (Operand.tmp 6) 1, type := 4, pos := "agenda.go:20", after := #[{ on := 10, ground := Ground.data }, { on := 13, ground := Ground.gcOnly Departure.lateStores }], guard := none }) (v := ?_) rfl (by kernel_rfl) (by kernel_rfl) (by kernel_rfl) (fun _ _ _ h => h) (Or.inl ⟨by rfl, ?_⟩) hH ?_
  rotate_left
  · (intro w hSw; have q0 : w.cell? ⟨a, 0, none⟩ = some ordF := (cell_of_row _ _ _ _ _ _ hSw.1).trans rfl; have q1 : w.cell? ⟨a, 1, none⟩ = some (.slice av L.length cv) := (cell_of_row _ _ _ _ _ _ hSw.1).trans rfl; obtain ⟨q2, q3⟩ := hSw.2.cells; go_simp; try with_reducible rfl)
  try simp only [Act.put, List.setIfInBounds_toArray, List.set_cons_zero, List.set_cons_succ]
  refine wpAnyH_take (i := 13) (oi := { dst := some 4, op := Op.assign (Operand.tmp 17), type := 3, pos := "agenda.go:20", after := #[{ on := 11, ground := Ground.data }, { on := 9, ground := Ground.chain }, { on := 0, ground := Ground.phase }, { on := 1, ground := Ground.phase }, { on := 2, ground := Ground.phase }, { on := 3, ground := Ground.phase }, { on := 4, ground := Ground.phase }, { on := 5, ground := Ground.phase }, { on := 6, ground := Ground.phase }, { on := 7, ground := Ground.phase }, { on := 8, ground := Ground.phase }, { on := 9, ground := Ground.phase }, { on := 10, ground := Ground.phase }, { on := 11, ground := Ground.phase }, { on := 12, ground := Ground.textOnly Departure.lateStores }], guard := none }) (v := ?_) rfl (by kernel_rfl) (by kernel_rfl) (by kernel_rfl) (fun _ _ _ h => h) (Or.inl ⟨by rfl, ?_⟩) hH ?_
  rotate_left
  · (intro w hSw; have q0 : w.cell? ⟨a, 0, none⟩ = some ordF := (cell_of_row _ _ _ _ _ _ hSw.1).trans rfl; have q1 : w.cell? ⟨a, 1, none⟩ = some (.slice av L.length cv) := (cell_of_row _ _ _ _ _ _ hSw.1).trans rfl; obtain ⟨q2, q3⟩ := hSw.2.cells; go_simp; try with_reducible rfl)
  try simp only [Act.put, List.setIfInBounds_toArray, List.set_cons_zero, List.set_cons_succ]
  refine wpAnyH_take (i := 14) (oi := { dst := some 5, op := Op.assign (Operand.tmp 18), type := 4, pos := "agenda.go:20", after := #[{ on := 12, ground := Ground.data }, { on := 13, ground := Ground.chain }, { on := 0, ground := Ground.phase }, { on := 1, ground := Ground.phase }, { on := 2, ground := Ground.phase }, { on := 3, ground := Ground.phase }, { on := 4, ground := Ground.phase }, { on := 5, ground := Ground.phase }, { on := 6, ground := Ground.phase }, { on := 7, ground := Ground.phase }, { on := 8, ground := Ground.phase }, { on := 9, ground := Ground.phase }, { on := 10, ground := Ground.phase }, { on := 11, ground := Ground.phase }, { on := 12, ground := Ground.phase }, { on := 13, ground := Ground.phase }], guard := none }) (v := ?_) rfl (by kernel_rfl) (by kernel_rfl) (by kernel_rfl) (fun _ _ _ h => h) (Or.inl ⟨by rfl, ?_⟩) hH ?_
  rotate_left
  · (intro w hSw; have q0 : w.cell? ⟨a, 0, none⟩ = some ordF := (cell_of_row _ _ _ _ _ _ hSw.1).trans rfl; have q1 : w.cell? ⟨a, 1, none⟩ = some (.slice av L.length cv) := (cell_of_row _ _ _ _ _ _ hSw.1).trans rfl; obtain ⟨q2, q3⟩ := hSw.2.cells; go_simp; try with_reducible rfl)
  try simp only [Act.put, List.setIfInBounds_toArray, List.set_cons_zero, List.set_cons_succ]
  refine wpAnyH_done (by kernel_rfl) ?_ _
  refine NoPanic.normal ?_
  have H1 := h1.below b2
  have bb2 := b1.trans (b2.mono (by have := b1.size; have := HBX.out; omega))
  have hxb : XHeld bx x w2 := hH2.2
  clear hH hH2 b2 b1 h1 hm hh hbo
  cases hdx : decide (x ∈ L) with
  | true =>
    have hx : x ∈ L := by simpa using hdx
    have e : insD L x = L := if_pos hx
    have HE := Lib.hid e
    clear hx hdx e
    go_wp2_with fail
    go_end0
    exact ⟨_, rfl, by rw [HE.out]; exact H1, Turned.of_below (by rw [HBX.out]; exact bb2)⟩
  | false =>
    have hx : x ∉ L := by simpa using hdx
    obtain ⟨e1, e2⟩ := hat.filter
    have e : insD L x = L.take i ++ x :: L.drop i := by unfold insD; rw [if_neg hx, e1, e2]
    have hil := hat.le
    have hsrt : Srt (L.take i ++ x :: L.drop i) := by rw [← e]; exact H1.srt.insD x
    have HSR := Lib.hid hsrt
    have HE := Lib.hid e
    clear hx hdx e e1 e2 hat hsrt
    go_wp2_with fail
    have H2 := H1.below ((Below.refl w2.heap.size w2).drew)
    have bb3 := bb2.drew
    have hh3 : XHeld bx x w2.drew := hxb
    have z1 : w2.drew.cell? ⟨a, 1, none⟩ = some (.slice av L.length cv) := (cell_of_row _ _ _ _ _ _ H2.head).trans rfl
    clear H1 bb2 hxb
    refine wp_region_noPanic ?_
    refine wp_region_held_drew (S := (XHeld bx x)) (by kernel_rfl) hh3 (fun hH => ?_)
    refine wpAnyH_take (i := 0) (oi := { dst := some 21, op := Op.move (Operand.tmp 0), type := 61, pos := "agenda.go:21", after := #[], guard := none }) (v := ?_) rfl (by kernel_rfl) (by kernel_rfl) (by kernel_rfl) (fun _ _ _ h => h) (Or.inl ⟨by rfl, ?_⟩) hH ?_
    rotate_left
    · (intro w hSw; obtain ⟨q2, q3⟩ := hSw.cells; go_simp; try with_reducible rfl)
    try simp only [Act.put, List.setIfInBounds_toArray, List.set_cons_zero, List.set_cons_succ]
    refine wpAnyH_take (i := 1) (oi := { dst := some 22, op := Op.move (Operand.tmp 0), type := 61, pos := "agenda.go:21", after := #[], guard := none }) (v := ?_) rfl (by kernel_rfl) (by kernel_rfl) (by kernel_rfl) (fun _ _ _ h => h) (Or.inl ⟨by rfl, ?_⟩) hH ?_
    rotate_left
    · (intro w hSw; obtain ⟨q2, q3⟩ := hSw.cells; go_simp; try with_reducible rfl)
    try simp only [Act.put, List.setIfInBounds_toArray, List.set_cons_zero, List.set_cons_succ]
    refine wpAnyH_take (i := 2) (oi := { dst := some 23, op := Op.nilCheck (Operand.tmp 22), type := 0, pos := "agenda.go:21", after := #[{ on := 1, ground := Ground.data }], guard := none }) (v := ?_) rfl (by kernel_rfl) (by kernel_rfl) (by kernel_rfl) (fun _ _ _ h => h) (Or.inl ⟨by rfl, ?_⟩) hH ?_
    rotate_left
    · (intro w hSw; obtain ⟨q2, q3⟩ := hSw.cells; go_simp; try with_reducible rfl)
    try simp only [Act.put, List.setIfInBounds_toArray, List.set_cons_zero, List.set_cons_succ]
    refine wpAnyH_take (i := 3) (oi := { dst := some 24, op := Op.fieldAddr 55 (Operand.tmp 23) 1, type := 0, pos := "agenda.go:21", after := #[{ on := 2, ground := Ground.data }], guard := none }) (v := ?_) rfl (by kernel_rfl) (by kernel_rfl) (by kernel_rfl) (fun _ _ _ h => h) (Or.inl ⟨by rfl, ?_⟩) hH ?_
    rotate_left
    · (intro w hSw; obtain ⟨q2, q3⟩ := hSw.cells; go_simp; try with_reducible rfl)
    try simp only [Act.put, List.setIfInBounds_toArray, List.set_cons_zero, List.set_cons_succ]
    refine wpAnyH_take (i := 5) (oi := { dst := some 26, op := Op.move (Operand.tmp 4), type := 3, pos := "agenda.go:21", after := #[], guard := none }) (v := ?_) rfl (by kernel_rfl) (by kernel_rfl) (by kernel_rfl) (fun _ _ _ h => h) (Or.inl ⟨by rfl, ?_⟩) hH ?_
    rotate_left
    · (intro w hSw; obtain ⟨q2, q3⟩ := hSw.cells; go_simp; try with_reducible rfl)
    try simp only [Act.put, List.setIfInBounds_toArray, List.set_cons_zero, List.set_cons_succ]
    refine wpAnyH_take (i := 6) (oi := { dst := some 27, op := Op.load 37 (Operand.tmp 3), type := 37, pos := "agenda.go:21", after := #[], guard := none }) (v := ?_) rfl (by kernel_rfl) (by kernel_rfl) (by kernel_rfl) (fun _ _ _ h => h) (Or.inl ⟨by rfl, ?_⟩) hH ?_
    rotate_left
    · (intro w hSw; obtain ⟨q2, q3⟩ := hSw.cells; go_simp; try with_reducible rfl)
    try simp only [Act.put, List.setIfInBounds_toArray, List.set_cons_zero, List.set_cons_succ]
    refine wpAnyH_ready (rs := [4, 7]) (by kernel_rfl) (by simp) ?_
    refine AllReadyH.cons (o := { dst := some 25, op := Op.load 27 (Operand.tmp 24), type := 27, pos := "agenda.go:21", after := #[{ on := 3, ground := Ground.data }], guard := none }) rfl (fun K hK => ?_) ?_
    · go_simp
      refine hK.out _ _ hH (fun _ => ?_)
      clear hK K
      try simp only [Act.put, List.setIfInBounds_toArray, List.set_cons_zero, List.set_cons_succ]
      refine wpAnyH_ready (rs := [7]) (by kernel_rfl) (by simp) ?_
      refine AllReadyH.cons (o := { dst := some 28, op := Op.buildSlice 27 1 #[(0, Operand.tmp 27)], type := 27, pos := "agenda.go:21", after := #[{ on := 6, ground := Ground.data }], guard := none }) rfl (fun K hK => ?_) AllReadyH.nil
      go_simp
      have b7 : Below w2.heap.size w2.drew (w2.alloc (.cells (dv1 x).toArray 37)).drew := ((Below.refl w2.heap.size w2.drew).alloc (Nat.le_refl _) _)
      have g7 : (w2.alloc (.cells (dv1 x).toArray 37)).drew.heap[w2.heap.size]? = some (.cells (dv1 x).toArray 37 (0, 0)) := heap_alloc_new w2.drew _
      have hH7 : XHeld bx x (w2.alloc (.cells (dv1 x).toArray 37)).drew := (b7.block bx (lt_of_heap (w := w2.drew) hh3)).trans hh3
      have H7 := H2.below b7
      have z7 : (w2.alloc (.cells #[.int .i64 x.1, .int .i64 x.2] 37)).cell? ⟨a, 1, none⟩ = some (.slice av L.length cv) := (cell_of_row _ _ _ _ _ _ H7.head).trans rfl
      refine hK.out _ _ hH7 (fun hH => ?_)
      clear hK K
      try simp only [Act.put, List.setIfInBounds_toArray, List.set_cons_zero, List.set_cons_succ]
      refine wpAnyH_ready (rs := [8]) (by kernel_rfl) (by simp) ?_
      refine AllReadyH.cons (o := { dst := some 29, op := Op.call { callee := Callee.value (Operand.func 38), args := #[Operand.tmp 25, Operand.tmp 26, Operand.tmp 28], argTypes := #[27, 3, 27] }, type := 27, pos := "agenda.go:21", after := #[{ on := 4, ground := Ground.data }, { on := 5, ground := Ground.data }, { on := 7, ground := Ground.data }], guard := none }) rfl (fun K hK => ?_) AllReadyH.nil
      go_simp
      refine (insert_any B _ _ i w2.heap.size L x H7.row g7 (by have := World.ownsRow.lt H2.row; intro e; have := (this _ e).2; change w2.heap.size < w2.heap.size at this; omega) H7.size hil (by omega)).mono ?_
      rintro e w4 ⟨v4, rfl, m4, t4⟩
      have hx4 : bx ≠ a := by omega
      have hH8 : XHeld bx x w4 := (t4.block bx (lt_of_heap hH7) (fun e => by have := HVB.out bx e; have := HBX.out; omega)).trans hH7
      have hd4 := (t4.block a (lt_of_heap H7.head) (fun e => H7.apart e.symm)).trans H7.head
      have c4 : w4.cell? ⟨a, 1, none⟩ = some (.slice av L.length cv) := (cell_of_row _ _ _ _ _ _ hd4).trans rfl
      have f4 := frozen_p hd4 1
      obtain ⟨a4, N, k4, rfl⟩ : ∃ a n k, v4 = .slice a n k := by obtain ⟨a, k, h, _⟩ := m4.isD; exact ⟨a, _, k, h⟩
      have T4 := ((Turned.of_below (T := AgT a (.slice av L.length cv)) (by rw [HBX.out]; exact bb3.trans (b7.mono (by show bx ≤ w2.drew.heap.size; have := bb3.size; have := HBX.out; omega)))).trans (t4.mono fun k _ hk => .inr hk)).trans (turned_at w4 a 1 (.slice a4 N k4) (.inl rfl))
      have A4 : AgAt B (w4.setCell ⟨a, 1, none⟩ (.slice a4 N k4)) a (.slice a4 N k4) (L.take i ++ x :: L.drop i) := ⟨H2.low, head_setCell (i := 1) hd4 _, m4.keepOwn (fun k hk e => Below.heap_setCell _ _ _ _ (fun (e2 : k = a) => m4.notIn hd4 (by decide) (by rw [← e, e2]))), HSR.out⟩
      have HA := Lib.hid A4
      have HT := Lib.hid T4
      clear A4 T4
      go_wp2_with fail
      refine hK.out _ _ hH8 (fun hH => ?_)
      clear hK K
      try simp only [Act.put, List.setIfInBounds_toArray, List.set_cons_zero, List.set_cons_succ]
      refine wpAnyH_take (i := 9) (oi := { dst := some 30, op := Op.nilCheck (Operand.tmp 21), type := 0, pos := "agenda.go:21", after := #[{ on := 0, ground := Ground.data }, { on := 0, ground := Ground.phase }, { on := 1, ground := Ground.phase }, { on := 2, ground := Ground.phase }, { on := 3, ground := Ground.phase }, { on := 4, ground := Ground.phase }, { on := 5, ground := Ground.phase }, { on := 6, ground := Ground.phase }, { on := 7, ground := Ground.phase }, { on := 8, ground := Ground.phase }], guard := none }) (v := ?_) rfl (by kernel_rfl) (by kernel_rfl) (by kernel_rfl) (fun _ _ _ h => h) (Or.inl ⟨by rfl, ?_⟩) hH ?_
      rotate_left
      · (intro w hSw; obtain ⟨q2, q3⟩ := hSw.cells; go_simp; try with_reducible rfl)
      try simp only [Act.put, List.setIfInBounds_toArray, List.set_cons_zero, List.set_cons_succ]
      refine wpAnyH_take (i := 10) (oi := { dst := some 31, op := Op.fieldAddr 55 (Operand.tmp 30) 1, type := 0, pos := "agenda.go:21", after := #[{ on := 9, ground := Ground.data }, { on := 0, ground := Ground.phase }, { on := 1, ground := Ground.phase }, { on := 2, ground := Ground.phase }, { on := 3, ground := Ground.phase }, { on := 4, ground := Ground.phase }, { on := 5, ground := Ground.phase }, { on := 6, ground := Ground.phase }, { on := 7, ground := Ground.phase }, { on := 8, ground := Ground.phase }], guard := none }) (v := ?_) rfl (by kernel_rfl) (by kernel_rfl) (by kernel_rfl) (fun _ _ _ h => h) (Or.inl ⟨by rfl, ?_⟩) hH ?_
      rotate_left
      · (intro w hSw; obtain ⟨q2, q3⟩ := hSw.cells; go_simp; try with_reducible rfl)
      try simp only [Act.put, List.setIfInBounds_toArray, List.set_cons_zero, List.set_cons_succ]
      refine wpAnyH_ready (rs := [11]) (by kernel_rfl) (by simp) ?_
      refine AllReadyH.cons (o := { dst := none, op := Op.store 27 (Operand.tmp 31) (Operand.tmp 29), type := 0, pos := "agenda.go:21", after := #[{ on := 10, ground := Ground.data }, { on := 8, ground := Ground.data }, { on := 8, ground := Ground.chain }, { on := 0, ground := Ground.phase }, { on := 1, ground := Ground.phase }, { on := 2, ground := Ground.phase }, { on := 3, ground := Ground.phase }, { on := 4, ground := Ground.phase }, { on := 5, ground := Ground.phase }, { on := 6, ground := Ground.phase }, { on := 7, ground := Ground.phase }, { on := 8, ground := Ground.phase }], guard := none }) rfl (fun K hK => ?_) AllReadyH.nil
      go_simp
      have hH9 : XHeld bx x (w4.setCell ⟨a, 1, none⟩ (.slice a4 N k4)) := (Below.heap_setCell _ _ _ _ hx4).trans hH8
      refine hK.out _ _ hH9 (fun hH => ?_)
      clear hK K
      try simp only [Act.put, List.setIfInBounds_toArray, List.set_cons_zero, List.set_cons_succ]
      refine wpAnyH_done (by kernel_rfl) ?_ _
      refine NoPanic.normal ?_
      go_wp2_with fail
      go_end0
      exact ⟨_, rfl, by rw [HE.out]; exact HA.out, HT.out⟩
    refine AllReadyH.cons (o := { dst := some 28, op := Op.buildSlice 27 1 #[(0, Operand.tmp 27)], type := 27, pos := "agenda.go:21", after := #[{ on := 6, ground := Ground.data }], guard := none }) rfl (fun K hK => ?_) ?_
    · go_simp
      have b7 : Below w2.heap.size w2.drew (w2.alloc (.cells (dv1 x).toArray 37)).drew := ((Below.refl w2.heap.size w2.drew).alloc (Nat.le_refl _) _)
      have g7 : (w2.alloc (.cells (dv1 x).toArray 37)).drew.heap[w2.heap.size]? = some (.cells (dv1 x).toArray 37 (0, 0)) := heap_alloc_new w2.drew _
      have hH7 : XHeld bx x (w2.alloc (.cells (dv1 x).toArray 37)).drew := (b7.block bx (lt_of_heap (w := w2.drew) hh3)).trans hh3
      have H7 := H2.below b7
      have z7 : (w2.alloc (.cells #[.int .i64 x.1, .int .i64 x.2] 37)).cell? ⟨a, 1, none⟩ = some (.slice av L.length cv) := (cell_of_row _ _ _ _ _ _ H7.head).trans rfl
      refine hK.out _ _ hH7 (fun hH => ?_)
      clear hK K
      try simp only [Act.put, List.setIfInBounds_toArray, List.set_cons_zero, List.set_cons_succ]
      refine wpAnyH_ready (rs := [4]) (by kernel_rfl) (by simp) ?_
      refine AllReadyH.cons (o := { dst := some 25, op := Op.load 27 (Operand.tmp 24), type := 27, pos := "agenda.go:21", after := #[{ on := 3, ground := Ground.data }], guard := none }) rfl (fun K hK => ?_) AllReadyH.nil
      go_simp
      refine hK.out _ _ hH (fun _ => ?_)
      clear hK K
      try simp only [Act.put, List.setIfInBounds_toArray, List.set_cons_zero, List.set_cons_succ]
      refine wpAnyH_ready (rs := [8]) (by kernel_rfl) (by simp) ?_
      refine AllReadyH.cons (o := { dst := some 29, op := Op.call { callee := Callee.value (Operand.func 38), args := #[Operand.tmp 25, Operand.tmp 26, Operand.tmp 28], argTypes := #[27, 3, 27] }, type := 27, pos := "agenda.go:21", after := #[{ on := 4, ground := Ground.data }, { on := 5, ground := Ground.data }, { on := 7, ground := Ground.data }], guard := none }) rfl (fun K hK => ?_) AllReadyH.nil
      go_simp
      refine (insert_any B _ _ i w2.heap.size L x H7.row g7 (by have := World.ownsRow.lt H2.row; intro e; have := (this _ e).2; change w2.heap.size < w2.heap.size at this; omega) H7.size hil (by omega)).mono ?_
      rintro e w4 ⟨v4, rfl, m4, t4⟩
      have hx4 : bx ≠ a := by omega
      have hH8 : XHeld bx x w4 := (t4.block bx (lt_of_heap hH7) (fun e => by have := HVB.out bx e; have := HBX.out; omega)).trans hH7
      have hd4 := (t4.block a (lt_of_heap H7.head) (fun e => H7.apart e.symm)).trans H7.head
      have c4 : w4.cell? ⟨a, 1, none⟩ = some (.slice av L.length cv) := (cell_of_row _ _ _ _ _ _ hd4).trans rfl
      have f4 := frozen_p hd4 1
      obtain ⟨a4, N, k4, rfl⟩ : ∃ a n k, v4 = .slice a n k := by obtain ⟨a, k, h, _⟩ := m4.isD; exact ⟨a, _, k, h⟩
      have T4 := ((Turned.of_below (T := AgT a (.slice av L.length cv)) (by rw [HBX.out]; exact bb3.trans (b7.mono (by show bx ≤ w2.drew.heap.size; have := bb3.size; have := HBX.out; omega)))).trans (t4.mono fun k _ hk => .inr hk)).trans (turned_at w4 a 1 (.slice a4 N k4) (.inl rfl))
      have A4 : AgAt B (w4.setCell ⟨a, 1, none⟩ (.slice a4 N k4)) a (.slice a4 N k4) (L.take i ++ x :: L.drop i) := ⟨H2.low, head_setCell (i := 1) hd4 _, m4.keepOwn (fun k hk e => Below.heap_setCell _ _ _ _ (fun (e2 : k = a) => m4.notIn hd4 (by decide) (by rw [← e, e2]))), HSR.out⟩
      have HA := Lib.hid A4
      have HT := Lib.hid T4
      clear A4 T4
      go_wp2_with fail
      refine hK.out _ _ hH8 (fun hH => ?_)
      clear hK K
      try simp only [Act.put, List.setIfInBounds_toArray, List.set_cons_zero, List.set_cons_succ]
      refine wpAnyH_take (i := 9) (oi := { dst := some 30, op := Op.nilCheck (Operand.tmp 21), type := 0, pos := "agenda.go:21", after := #[{ on := 0, ground := Ground.data }, { on := 0, ground := Ground.phase }, { on := 1, ground := Ground.phase }, { on := 2, ground := Ground.phase }, { on := 3, ground := Ground.phase }, { on := 4, ground := Ground.phase }, { on := 5, ground := Ground.phase }, { on := 6, ground := Ground.phase }, { on := 7, ground := Ground.phase }, { on := 8, ground := Ground.phase }], guard := none }) (v := ?_) rfl (by kernel_rfl) (by kernel_rfl) (by kernel_rfl) (fun _ _ _ h => h) (Or.inl ⟨by rfl, ?_⟩) hH ?_
      rotate_left
      · (intro w hSw; obtain ⟨q2, q3⟩ := hSw.cells; go_simp; try with_reducible rfl)
      try simp only [Act.put, List.setIfInBounds_toArray, List.set_cons_zero, List.set_cons_succ]
      refine wpAnyH_take (i := 10) (oi := { dst := some 31, op := Op.fieldAddr 55 (Operand.tmp 30) 1, type := 0, pos := "agenda.go:21", after := #[{ on := 9, ground := Ground.data }, { on := 0, ground := Ground.phase }, { on := 1, ground := Ground.phase }, { on := 2, ground := Ground.phase }, { on := 3, ground := Ground.phase }, { on := 4, ground := Ground.phase }, { on := 5, ground := Ground.phase }, { on := 6, ground := Ground.phase }, { on := 7, ground := Ground.phase }, { on := 8, ground := Ground.phase }], guard := none }) (v := ?_) rfl (by kernel_rfl) (by kernel_rfl) (by kernel_rfl) (fun _ _ _ h => h) (Or.inl ⟨by rfl, ?_⟩) hH ?_
      rotate_left
      · (intro w hSw; obtain ⟨q2, q3⟩ := hSw.cells; go_simp; try with_reducible rfl)
      try simp only [Act.put, List.setIfInBounds_toArray, List.set_cons_zero, List.set_cons_succ]
      refine wpAnyH_ready (rs := [11]) (by kernel_rfl) (by simp) ?_
      refine AllReadyH.cons (o := { dst := none, op := Op.store 27 (Operand.tmp 31) (Operand.tmp 29), type := 0, pos := "agenda.go:21", after := #[{ on := 10, ground := Ground.data }, { on := 8, ground := Ground.data }, { on := 8, ground := Ground.chain }, { on := 0, ground := Ground.phase }, { on := 1, ground := Ground.phase }, { on := 2, ground := Ground.phase }, { on := 3, ground := Ground.phase }, { on := 4, ground := Ground.phase }, { on := 5, ground := Ground.phase }, { on := 6, ground := Ground.phase }, { on := 7, ground := Ground.phase }, { on := 8, ground := Ground.phase }], guard := none }) rfl (fun K hK => ?_) AllReadyH.nil
      go_simp
      have hH9 : XHeld bx x (w4.setCell ⟨a, 1, none⟩ (.slice a4 N k4)) := (Below.heap_setCell _ _ _ _ hx4).trans hH8
      refine hK.out _ _ hH9 (fun hH => ?_)
      clear hK K
      try simp only [Act.put, List.setIfInBounds_toArray, List.set_cons_zero, List.set_cons_succ]
      refine wpAnyH_done (by kernel_rfl) ?_ _
      refine NoPanic.normal ?_
      go_wp2_with fail
      go_end0
      exact ⟨_, rfl, by rw [HE.out]; exact HA.out, HT.out⟩
    exact AllReadyH.nil
end Go.Proofs.Ytaohneahlcnahaa
