/- what turned between two worlds, by blocks -/
import Derived.Test.YtaohneahlcnahaaKit
import Derived.WalkSpells
set_option linter.unusedVariables false
set_option linter.unusedSimpArgs false
namespace Go.Proofs.Ytaohneahlcnahaa
open Go.RowKit

/-- what turned is in blocks that meet T, or new -/
structure Turned (T : Nat → Prop) (w w' : World) : Prop where
  os : w'.os = w.os
  tape : w'.tape = w.tape
  output : w'.output = w.output
  size : w.heap.size ≤ w'.heap.size
  block : ∀ k, k < w.heap.size → ¬ T k → w'.heap[k]? = w.heap[k]?

theorem Turned.refl (T : Nat → Prop) (w : World) : Turned T w w := ⟨rfl, rfl, rfl, Nat.le_refl _, fun _ _ _ => rfl⟩
theorem Turned.trans {T : Nat → Prop} {a b c : World} (h : Turned T a b) (k : Turned T b c) : Turned T a c :=
  ⟨k.os.trans h.os, k.tape.trans h.tape, k.output.trans h.output, Nat.le_trans h.size k.size, fun i hi hn => (k.block i (Nat.lt_of_lt_of_le hi h.size) hn).trans (h.block i hi hn)⟩
theorem Turned.mono {T T' : Nat → Prop} {a b : World} (h : Turned T a b) (hT : ∀ k, k < a.heap.size → T k → T' k) : Turned T' a b :=
  ⟨h.os, h.tape, h.output, h.size, fun k hk hn => h.block k hk fun ht => hn (hT k hk ht)⟩
theorem Turned.drew {T : Nat → Prop} {a b : World} (h : Turned T a b) : Turned T a b.drew := ⟨h.os, h.tape, h.output, h.size, h.block⟩
theorem Turned.below {T : Nat → Prop} {a b : World} {B : Nat} (h : Turned T a b) (hB : B ≤ a.heap.size) (hT : ∀ k, T k → B ≤ k) : Below B a b :=
  ⟨h.os, h.tape, h.output, h.size, fun k hk => h.block k (by omega) (fun ht => by have := hT k ht; omega)⟩
theorem Turned.of_below {T : Nat → Prop} {a b : World} (h : Below a.heap.size a b) : Turned T a b := ⟨h.os, h.tape, h.output, h.size, fun k hk _ => h.block k hk⟩
/-- a step behind a step that made blocks of its own: those may turn -/
theorem Turned.then {T T' : Nat → Prop} {a b c : World} (h : Turned T a b) (k : Turned T' b c) (hT : ∀ i, i < a.heap.size → T' i → T i) : Turned T a c :=
  ⟨k.os.trans h.os, k.tape.trans h.tape, k.output.trans h.output, Nat.le_trans h.size k.size, fun i hi hn => (k.block i (Nat.lt_of_lt_of_le hi h.size) (fun ht => hn (hT i hi ht))).trans (h.block i hi hn)⟩

theorem lt_of_heap {w : World} {k : Nat} {o : Obj} (h : w.heap[k]? = some o) : k < w.heap.size := (Array.getElem?_eq_some_iff.1 h).1
end Go.Proofs.Ytaohneahlcnahaa
