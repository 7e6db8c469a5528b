/- The disk: what it is in plain lists, and how it lies in memory. -/
import Derived.Test.YtncoclbmnhbgbaaKit
import Derived.WalkSpells
import Derived.Deep.MidRow
set_option linter.unusedVariables false
set_option linter.unusedSimpArgs false
namespace Go.Proofs.Ytncoclbmnhbgbaa
open Go.RowKit

/-- a disk: its sectors as at the last Flush and as written last, one behind the other; the loose writes in order; operations; at which one the power goes; is it gone -/
structure Dk where
  n : Nat
  safe : List UInt8
  now : List UInt8
  hung : List (Nat × List UInt8)
  ops : Nat
  cut : Int
  off : Bool

/-- the bytes of sector i -/
def sec (l : List UInt8) (i : Nat) : List UInt8 := (l.drop (i * 128)).take 128
/-- sector i laid anew -/
def putS (l : List UInt8) (i : Nat) (b : List UInt8) : List UInt8 := l.take (i * 128) ++ (b ++ l.drop (i * 128 + 128))

/-- sizes and bounds -/
structure Dk.Ok (D : Dk) : Prop where
  n1 : 1 ≤ D.n
  nm : D.n ≤ 16384
  safe : D.safe.length = D.n * 128
  now : D.now.length = D.n * 128
  hung : ∀ x ∈ D.hung, x.1 < D.n ∧ x.2.length = 128
  loose : D.hung.length ≤ D.ops
  ops : D.ops ≤ 1048576
  c1 : -9223372036854775808 ≤ D.cut
  c2 : D.cut ≤ 9223372036854775807

theorem sec_length {l : List UInt8} {n i : Nat} (hl : l.length = n * 128) (hi : i < n) : (sec l i).length = 128 := by
  simp only [sec, List.length_take, List.length_drop]; omega
theorem putS_length {l b : List UInt8} {n i : Nat} (hl : l.length = n * 128) (hb : b.length = 128) (hi : i < n) : (putS l i b).length = n * 128 := by
  simp only [putS, List.length_append, List.length_take, List.length_drop]; omega
theorem sec_putS_same {l b : List UInt8} {n i : Nat} (hl : l.length = n * 128) (hb : b.length = 128) (hi : i < n) : sec (putS l i b) i = b := by
  unfold sec putS
  rw [List.drop_append_of_le_length (by simp; omega)]
  rw [List.drop_eq_nil_of_le (by simp; omega), List.nil_append, List.take_append_of_le_length (by omega), List.take_of_length_le (by omega)]
theorem sec_putS_other {l b : List UInt8} {n i j : Nat} (hl : l.length = n * 128) (hb : b.length = 128) (hi : i < n) (hj : j < n) (hne : j ≠ i) : sec (putS l i b) j = sec l j := by
  apply List.ext_getElem?
  intro k
  simp only [sec, putS, List.getElem?_take, List.getElem?_drop, List.getElem?_append, List.length_take]
  split <;> try rfl
  rcases Nat.lt_or_gt_of_ne hne with h | h
  · rw [if_pos (by omega), if_pos (by omega)]
  · rw [if_neg (by omega), if_neg (by omega)]
    congr 1
    omega

/-- A row of sectors in block g that reads as l. -/
def Sects (w : World) (g cap n : Nat) (l : List UInt8) : Prop :=
  ∃ cur : Array Value, w.heap[g]? = some (.cells cur 63 (0, 0)) ∧ n ≤ cap ∧ cap ≤ maxLen ∧ cur.size = cap * 128 ∧ l.length = n * 128 ∧ cur.toList.take l.length = bv l
/-- a loose write as it lies in the map -/
def looseV (k : Nat) (cs : List Value) : Value := .agg ((.int .i64 (k : Int)) :: cs).toArray
abbrev loose (x : Nat × List UInt8) : Value := looseV x.1 (bv x.2)
/-- The map in block g holds the loose writes by their numbers. -/
def Hung (w : World) (g : Nat) (L : List (Nat × List UInt8)) : Prop :=
  ∃ (es : List MapEntry) (clock : Nat), w.heap[g]? = some (.map es.toArray clock) ∧ es.length = L.length ∧ ∀ i (h : i < L.length), ∃ b, es[i]? = some ⟨.int .i64 (i : Int), loose L[i], b⟩

/-- which blocks a disk has: itself, its two rows, its map; the rows' capacities -/
structure Ft where
  p : Nat
  S : Nat
  N : Nat
  M : Nat
  cS : Nat
  cN : Nat
def Ft.has (F : Ft) (k : Nat) : Prop := k = F.p ∨ k = F.S ∨ k = F.N ∨ k = F.M
structure Ft.Ok (F : Ft) : Prop where
  pS : F.p ≠ F.S
  pN : F.p ≠ F.N
  pM : F.p ≠ F.M
  SN : F.S ≠ F.N
  SM : F.S ≠ F.M
  NM : F.N ≠ F.M
/-- the disk D lies in memory -/
structure DkAt (w : World) (F : Ft) (D : Dk) : Prop where
  ft : F.Ok
  ok : D.Ok
  head : w.heap[F.p]? = some (.cells #[.slice (some ⟨F.S, 0, none⟩) D.n F.cS, .slice (some ⟨F.N, 0, none⟩) D.n F.cN, .map (some F.M), .int .i64 (D.ops : Int), .int .i64 D.cut, .bool D.off] 60 (0, 0))
  safe : Sects w F.S F.cS D.n D.safe
  now : Sects w F.N F.cN D.n D.now
  hung : Hung w F.M D.hung

/-- what turned is in blocks that meet T, or new -/
structure Turned (T : Nat → Prop) (w w' : World) : Prop where
  os : w'.os = w.os
  tape : w'.tape = w.tape
  output : w'.output = w.output
  size : w.heap.size ≤ w'.heap.size
  block : ∀ k, k < w.heap.size → ¬ T k → w'.heap[k]? = w.heap[k]?

theorem Turned.refl (T : Nat → Prop) (w : World) : Turned T w w := ⟨rfl, rfl, rfl, Nat.le_refl _, fun _ _ _ => rfl⟩
theorem Turned.trans {T : Nat → Prop} {a b c : World} (h : Turned T a b) (k : Turned T b c) : Turned T a c :=
  ⟨k.os.trans h.os, k.tape.trans h.tape, k.output.trans h.output, Nat.le_trans h.size k.size, fun i hi hn => (k.block i (Nat.lt_of_lt_of_le hi h.size) hn).trans (h.block i hi hn)⟩
theorem Turned.mono {T T' : Nat → Prop} {a b : World} (h : Turned T a b) (hT : ∀ k, k < a.heap.size → T k → T' k) : Turned T' a b :=
  ⟨h.os, h.tape, h.output, h.size, fun k hk hn => h.block k hk fun ht => hn (hT k hk ht)⟩
theorem Turned.drew {T : Nat → Prop} {a b : World} (h : Turned T a b) : Turned T a b.drew := ⟨h.os, h.tape, h.output, h.size, h.block⟩
theorem Turned.below {T : Nat → Prop} {a b : World} {B : Nat} (h : Turned T a b) (hB : B ≤ a.heap.size) (hT : ∀ k, T k → B ≤ k) : Below B a b :=
  ⟨h.os, h.tape, h.output, h.size, fun k hk => h.block k (by omega) (fun ht => by have := hT k ht; omega)⟩
theorem Turned.of_below {T : Nat → Prop} {a b : World} (h : Below a.heap.size a b) : Turned T a b := ⟨h.os, h.tape, h.output, h.size, fun k hk _ => h.block k hk⟩
/-- a step behind a step that made blocks of its own: those may turn -/
theorem Turned.then {T T' : Nat → Prop} {a b c : World} (h : Turned T a b) (k : Turned T' b c) (hT : ∀ i, i < a.heap.size → T' i → T i) : Turned T a c :=
  ⟨k.os.trans h.os, k.tape.trans h.tape, k.output.trans h.output, Nat.le_trans h.size k.size, fun i hi hn => (k.block i (Nat.lt_of_lt_of_le hi h.size) (fun ht => hn (hT i hi ht))).trans (h.block i hi hn)⟩

theorem lt_of_heap {w : World} {k : Nat} {o : Obj} (h : w.heap[k]? = some o) : k < w.heap.size := (Array.getElem?_eq_some_iff.1 h).1
theorem DkAt.lt {w : World} {F : Ft} {D : Dk} (h : DkAt w F D) {k : Nat} (hk : F.has k) : k < w.heap.size := by
  obtain ⟨c, hc, _⟩ := h.safe
  obtain ⟨c', hc', _⟩ := h.now
  obtain ⟨es, cl, hm, _⟩ := h.hung
  rcases hk with rfl | rfl | rfl | rfl
  · exact lt_of_heap h.head
  · exact lt_of_heap hc
  · exact lt_of_heap hc'
  · exact lt_of_heap hm
/-- a disk whose blocks did not turn -/
theorem DkAt.keep {w w' : World} {F : Ft} {D : Dk} (h : DkAt w F D) (hw : ∀ k, F.has k → w'.heap[k]? = w.heap[k]?) : DkAt w' F D := by
  have hp := hw F.p (.inl rfl)
  have hS := hw F.S (.inr (.inl rfl))
  have hN := hw F.N (.inr (.inr (.inl rfl)))
  have hM := hw F.M (.inr (.inr (.inr rfl)))
  exact ⟨h.ft, h.ok, hp.trans h.head, by unfold Sects; rw [hS]; exact h.safe, by unfold Sects; rw [hN]; exact h.now, by unfold Hung; rw [hM]; exact h.hung⟩
theorem DkAt.turned {w w' : World} {F : Ft} {D : Dk} {T : Nat → Prop} (h : DkAt w F D) (ht : Turned T w w') (hT : ∀ k, F.has k → ¬ T k) : DkAt w' F D :=
  h.keep fun k hk => ht.block k (h.lt hk) (hT k hk)
theorem DkAt.below {w w' : World} {F : Ft} {D : Dk} (h : DkAt w F D) (hb : Below w.heap.size w w') : DkAt w' F D := h.keep fun k hk => hb.block k (h.lt hk)
theorem DkAt.drew {w : World} {F : Ft} {D : Dk} (h : DkAt w F D) : DkAt w.drew F D := h.keep fun _ _ => rfl

/-- the disk as a value -/
abbrev Ft.ptr (F : Ft) : Value := .pointer (some ⟨F.p, 0, none⟩)
/-- its six cells -/
theorem DkAt.cells {w : World} {F : Ft} {D : Dk} (h : DkAt w F D) :
    w.cell? ⟨F.p, 0, none⟩ = some (.slice (some ⟨F.S, 0, none⟩) D.n F.cS) ∧ w.cell? ⟨F.p, 1, none⟩ = some (.slice (some ⟨F.N, 0, none⟩) D.n F.cN) ∧ w.cell? ⟨F.p, 2, none⟩ = some (.map (some F.M)) ∧
      w.cell? ⟨F.p, 3, none⟩ = some (.int .i64 (D.ops : Int)) ∧ w.cell? ⟨F.p, 4, none⟩ = some (.int .i64 D.cut) ∧ w.cell? ⟨F.p, 5, none⟩ = some (.bool D.off) := by
  refine ⟨?_, ?_, ?_, ?_, ?_, ?_⟩ <;> · rw [cell_of_row _ _ _ _ _ _ h.head]; rfl
end Go.Proofs.Ytncoclbmnhbgbaa
