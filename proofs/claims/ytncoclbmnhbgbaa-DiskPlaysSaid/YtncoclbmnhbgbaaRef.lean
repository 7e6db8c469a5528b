/- The document's disk: how it lies in memory. It reads as the disk D whose last writes are its loose ones laid. -/
import Derived.Test.YtncoclbmnhbgbaaIntsOwn
import Derived.Test.YtncoclbmnhbgbaaDkPoke
set_option linter.unusedVariables false
set_option linter.unusedSimpArgs false
namespace Go.Proofs.Ytncoclbmnhbgbaa
open Go.RowKit

/-- the two cells of a loose write -/
def two (x : Nat × List UInt8) (u : Value) : List Value := [.int .i64 (x.1 : Int), u]
def twoCells : List (Nat × List UInt8) → List Value → List Value
  | x :: L, u :: us => two x u ++ twoCells L us
  | _, _ => []
theorem twoCells_length : ∀ (L : List (Nat × List UInt8)) (us : List Value), us.length = L.length → (twoCells L us).length = L.length * 2
  | [], us, h => by cases us <;> simp_all [twoCells]
  | x :: L, us, h => by
    cases us with
    | nil => simp at h
    | cons u us =>
      simp only [List.length_cons, Nat.add_right_cancel_iff] at h
      simp only [twoCells, List.length_append, twoCells_length L us h, List.length_cons, two, List.length_nil]
      omega
theorem twoCells_snoc : ∀ (L : List (Nat × List UInt8)) (us : List Value) (x : Nat × List UInt8) (u : Value), us.length = L.length → twoCells (L ++ [x]) (us ++ [u]) = twoCells L us ++ two x u
  | [], us, x, u, h => by
    cases us with
    | nil => simp [twoCells]
    | cons _ _ => simp at h
  | y :: L, us, x, u, h => by
    cases us with
    | nil => simp at h
    | cons v us =>
      simp only [List.length_cons, Nat.add_right_cancel_iff] at h
      simp only [List.cons_append, twoCells, twoCells_snoc L us x u h, List.append_assoc]
theorem twoCells_get : ∀ (L : List (Nat × List UInt8)) (us : List Value) (h : us.length = L.length) (i : Nat) (hi : i < L.length) (j : Nat) (hj : j < 2), (twoCells L us)[i * 2 + j]? = (two L[i] us[i])[j]?
  | [], us, h, i, hi, _, _ => by simp at hi
  | x :: L, us, h, i, hi, j, hj => by
    cases us with
    | nil => simp at h
    | cons u us =>
      simp only [List.length_cons, Nat.add_right_cancel_iff] at h
      cases i with
      | zero =>
        rw [twoCells, Nat.zero_mul, Nat.zero_add, List.getElem?_append_left (by simpa [two] using hj)]
        rfl
      | succ i =>
        have hl : (two x u).length = 2 := rfl
        rw [twoCells, List.getElem?_append_right (by rw [hl]; omega), hl, show (i + 1) * 2 + j - 2 = i * 2 + j by omega]
        exact twoCells_get L us h i (by simpa using hi) j hj
theorem twoCells_set : ∀ (L : List (Nat × List UInt8)) (us : List Value) (h : us.length = L.length) (i : Nat) (hi : i < L.length) (b : List UInt8) (u : Value), (twoCells L us).set (i * 2 + 1) u = twoCells (L.set i (L[i].1, b)) (us.set i u)
  | [], us, h, i, hi, _, _ => by simp at hi
  | x :: L, us, h, i, hi, b, u => by
    cases us with
    | nil => simp at h
    | cons v us =>
      simp only [List.length_cons, Nat.add_right_cancel_iff] at h
      cases i with
      | zero => rfl
      | succ i =>
        have := twoCells_set L us h i (by simpa using hi) b u
        simp only [twoCells, List.set_cons_succ, List.getElem_cons_succ]
        rw [← this, show (i + 1) * 2 + 1 = i * 2 + 1 + 1 + 1 by omega]
        rfl

/-- the sectors' slices, of blocks from B on: a row of slices each of which reads as a sector -/
def SafeAt (B : Nat) (w : World) (v : Value) (n : Nat) (f : Nat → List UInt8) : Prop :=
  ∃ us : List Value, us.length = n ∧ w.ownsRow B 30 1 v n us ∧ ∀ i (h : i < us.length), Mine 5 B w us[i] (f i)
/-- the loose writes -/
def LAt (B : Nat) (w : World) (v : Value) (L : List (Nat × List UInt8)) : Prop :=
  ∃ us : List Value, us.length = L.length ∧ w.ownsRow B 76 2 v L.length (twoCells L us) ∧ ∀ i (h : i < L.length) (h' : i < us.length), Mine 5 B w us[i] L[i].2
/-- the document's disk in block p: it reads as D -/
structure RefAt (B : Nat) (w : World) (p : Nat) (D : Dk) : Prop where
  low : B ≤ p
  head : ∃ vS vL, w.heap[p]? = some (.cells #[vS, vL, .int .i64 (D.ops : Int), .int .i64 D.cut, .bool D.off] 71 (0, 0)) ∧ SafeAt B w vS D.n (sec D.safe) ∧ LAt B w vL D.hung

/-- blocks that the document's disk may turn: its own kinds, from B on -/
def RT (B : Nat) (w : World) (k : Nat) : Prop := B ≤ k ∧ ∃ c e fr, w.heap[k]? = some (.cells c e fr) ∧ (e = 71 ∨ e = 30 ∨ e = 76)
theorem Turned.rt {B : Nat} {a b c : World} (h : Turned (RT B a) a b) (k : Turned (RT B b) b c) : Turned (RT B a) a c := by
  refine ⟨k.os.trans h.os, k.tape.trans h.tape, k.output.trans h.output, Nat.le_trans h.size k.size, fun i hi hn => ?_⟩
  have e1 := h.block i hi hn
  rw [k.block i (Nat.lt_of_lt_of_le hi h.size) (fun ⟨hB, c, e, fr, hc, he⟩ => hn ⟨hB, c, e, fr, by rw [← e1]; exact hc, he⟩)]
  exact e1
theorem DkAt.rt {B : Nat} {w w' : World} {F : Ft} {D : Dk} (h : DkAt w F D) (ht : Turned (RT B w) w w') : DkAt w' F D := by
  refine h.turned ht fun k hk => ?_
  rintro ⟨_, c, e, fr, hc, he⟩
  obtain ⟨cS, hS, _⟩ := h.safe
  obtain ⟨cN, hN, _⟩ := h.now
  obtain ⟨es, cl, hM, _⟩ := h.hung
  have hh := h.head
  rcases hk with rfl | rfl | rfl | rfl
  · rw [hh] at hc; injection hc with hc; injection hc with _ hc; subst hc; revert he; decide
  · rw [hS] at hc; injection hc with hc; injection hc with _ hc; subst hc; revert he; decide
  · rw [hN] at hc; injection hc with hc; injection hc with _ hc; subst hc; revert he; decide
  · rw [hM] at hc; injection hc with hc; cases hc
theorem ownsRow_block {B : Nat} {e : TypeId} {s n : Nat} {w : World} {v : Value} {xs : List Value} (h : w.ownsRow B e s v n xs) {w' : World} (hw : ∀ k c fr, B ≤ k → w.heap[k]? = some (.cells c e fr) → w'.heap[k]? = w.heap[k]?) : w'.ownsRow B e s v n xs := by
  obtain ⟨h1, h2⟩ := h
  refine ⟨h1, ?_⟩
  rcases h2 with h2 | ⟨g, cap, cur, hv, hg, hh, r⟩
  · exact .inl h2
  · exact .inr ⟨g, cap, cur, hv, hg, (hw g cur _ hg hh).trans hh, r⟩
/-- a document's disk whose blocks lie as they lay -/
theorem RefAt.keep {B : Nat} {w w' : World} {p : Nat} {D : Dk} (h : RefAt B w p D) (hw : ∀ k c e fr, B ≤ k → w.heap[k]? = some (.cells c e fr) → (e = 71 ∨ e = 30 ∨ e = 76 ∨ e = 5) → w'.heap[k]? = w.heap[k]?) : RefAt B w' p D := by
  obtain ⟨low, vS, vL, hh, ⟨us, h1, h2, h3⟩, ⟨us', k1, k2, k3⟩⟩ := h
  exact ⟨low, vS, vL, (hw p _ _ _ low hh (.inl rfl)).trans hh, ⟨us, h1, ownsRow_block h2 (fun k c fr hk hc => hw k c _ fr hk hc (.inr (.inl rfl))), fun i hi => ownsRow_block (h3 i hi) (fun k c fr hk hc => hw k c _ fr hk hc (.inr (.inr (.inr rfl))))⟩,
    ⟨us', k1, ownsRow_block k2 (fun k c fr hk hc => hw k c _ fr hk hc (.inr (.inr (.inl rfl)))), fun i hi hi' => ownsRow_block (k3 i hi hi') (fun k c fr hk hc => hw k c _ fr hk hc (.inr (.inr (.inr rfl))))⟩⟩
theorem RefAt.below {B : Nat} {w w' : World} {p : Nat} {D : Dk} (h : RefAt B w p D) (hb : Below w.heap.size w w') : RefAt B w' p D := h.keep fun k c e fr _ hc _ => hb.block k (lt_of_heap hc)
theorem RefAt.turned {B : Nat} {w w' : World} {p : Nat} {D : Dk} {F : Ft} {D' : Dk} (h : RefAt B w p D) (hd : DkAt w F D') (ht : Turned F.has w w') : RefAt B w' p D := by
  refine h.keep fun k c e fr _ hc he => ht.block k (lt_of_heap hc) fun hk => ?_
  obtain ⟨cS, hS, _⟩ := hd.safe
  obtain ⟨cN, hN, _⟩ := hd.now
  obtain ⟨es, cl, hM, _⟩ := hd.hung
  have hh := hd.head
  rcases hk with rfl | rfl | rfl | rfl
  · rw [hh] at hc; injection hc with hc; injection hc with _ hc; subst hc; revert he; decide
  · rw [hS] at hc; injection hc with hc; injection hc with _ hc; subst hc; revert he; decide
  · rw [hN] at hc; injection hc with hc; injection hc with _ hc; subst hc; revert he; decide
  · rw [hM] at hc; injection hc with hc; cases hc
/-- the document's disk as a value -/
abbrev rptr (p : Nat) : Value := .pointer (some ⟨p, 0, none⟩)
end Go.Proofs.Ytncoclbmnhbgbaa
