/- What a round of a loop over an iterator keeps, where the loop gathers into one variable of its own. -/
import Derived.Test.YtaohneahlcnahaaTurned
import Derived.RangeFuncNested
import Derived.RangeFuncBound
import Derived.RangeFuncCalls
import Derived.RangeFuncLeaves
import Derived.RangeFuncBox
import Derived.OwnWalkIn
set_option linter.unusedVariables false
set_option linter.unusedSimpArgs false
namespace Go.Proofs.Ytaohneahlcnahaa
open Go.RowKit

/-- the variable in block b holds a slice whose cells lie in block k -/
def pointsAt (W : World) (b k : Nat) : Prop := ∃ o s n c, W.cell? ⟨b, 0, none⟩ = some (.slice (some ⟨k, o, s⟩) n c)
/-- from W to W' all blocks of cells lie as they lay, but the variable in block b and what it points at; and that is old, or new -/
structure KeptV (b : Nat) (W W' : World) : Prop where
  size : W.heap.size ≤ W'.heap.size
  cells : ∀ k c e fr, W.heap[k]? = some (.cells c e fr) → k ≠ b → ¬ pointsAt W b k → W'.heap[k]? = some (.cells c e fr)
  points : ∀ k, pointsAt W' b k → pointsAt W b k ∨ W.heap.size ≤ k
theorem KeptV.refl (b : Nat) (W : World) : KeptV b W W := ⟨Nat.le_refl _, fun k c e fr h _ _ => h, fun k h => .inl h⟩
theorem KeptV.trans {b : Nat} {A B C : World} (h : KeptV b A B) (k : KeptV b B C) : KeptV b A C := by
  refine ⟨Nat.le_trans h.size k.size, fun i c e fr hi hb hp => k.cells i c e fr (h.cells i c e fr hi hb hp) hb fun hp2 => ?_, fun i hi => ?_⟩
  · rcases h.points i hp2 with h2 | h2
    · exact hp h2
    · have := lt_of_heap hi; omega
  · rcases k.points i hi with h2 | h2
    · exact h.points i h2
    · exact .inr (Nat.le_trans h.size h2)
/-- a turn of a block that holds no cells -/
theorem KeptV.put {b : Nat} (W : World) (l : Nat) (o o' : Obj) (hl : W.heap[l]? = some o) (ho : o.isCells = false) (hb : b ≠ l) : KeptV b W (W.putObj l o') := by
  have hne : ∀ k c e fr, W.heap[k]? = some (.cells c e fr) → k ≠ l := fun k c e fr hk e => by
    subst e
    rw [hl] at hk
    obtain rfl := Option.some.inj hk
    cases ho
  have hcell : (W.putObj l o').cell? ⟨b, 0, none⟩ = W.cell? ⟨b, 0, none⟩ := World.cell?_of_block (World.putObj_heap_other hb)
  refine ⟨by simp, fun k c e fr hk _ _ => (World.putObj_heap_other (hne k c e fr hk)).trans hk, fun k hk => .inl ?_⟩
  obtain ⟨o1, s, n, c, h⟩ := hk
  exact ⟨o1, s, n, c, by rw [← hcell]; exact h⟩
theorem pointsAt.below {b k : Nat} {W W' : World} (hb : b < W.heap.size) (h : Below W.heap.size W W') : pointsAt W' b k ↔ pointsAt W b k := by
  have e : W'.cell? ⟨b, 0, none⟩ = W.cell? ⟨b, 0, none⟩ := World.cell?_of_block (h.block b hb)
  unfold pointsAt
  rw [e]
theorem KeptV.of_below {b : Nat} {W W' : World} (hb : b < W.heap.size) (h : Below W.heap.size W W') : KeptV b W W' :=
  ⟨h.size, fun k c e fr hk _ _ => (h.block k (lt_of_heap hk)).trans hk, fun k hk => .inl ((pointsAt.below hb h).1 hk)⟩
theorem grown_of_below {W W' : World} (h : Below W.heap.size W W') : W.grownBy W' none := ⟨h.os, h.tape, h.output, h.size, fun k hk _ => h.block k hk⟩
theorem abides_below {β : Type} {J : β → World → Prop} {B : Nat} (hJ : AbidesFrom B J) {s : β} {W W' : World} (hs : J s W) (h : Below W.heap.size W W') : J s W' := hJ s W W' none hs (grown_of_below h) fun r e => by cases e
theorem nil_points {W : World} {b : Nat} (h : W.cell? ⟨b, 0, none⟩ = some (.slice none 0 0)) (k : Nat) : ¬ pointsAt W b k := by
  rintro ⟨o, s, n, c, e⟩
  rw [h] at e
  cases e
theorem wpListIn_append_run {F : Fence} {n : Nat} {P : Program} {w : World} {ops : Array Oper} {rest : List Oper} {o : Oper} {a : Act} {Q : Exit → Act → World → Prop}
    (hg : o.guard = none) (s x : Operand) (t t' : TypeId) (hop : o.op = Op.call { callee := Callee.builtin Builtin.append, args := #[s, x], argTypes := #[t, t'] }) (u v : Value) (hs : a.eval s = u) (hx : a.eval x = v) {v' : Value} {w' : World}
    (hrun : (Builtin.append_ #[t, t'] o.type #[u, v]).run P w = .ok v' w') (hK : wpListIn F n P ops Q rest (a.put o.dst v') w') : wpListIn F n P ops Q (o :: rest) a w := by
  refine wpListIn_plain hg fun K hK' => ?_
  unfold Oper.wpIn
  refine ⟨?_, ?_⟩
  · simp [Oper.about, hop, resolve, Target.leads, Sem.run_pure]
  · rw [Oper.semAt_plain F _ _ (by rw [hop]; intro c hc'; cases hc')]
    simp [execOp, hop, resolve, invoke, builtin, hs, hx, hrun, Result.andThen]
    exact hK' _ _ hK
theorem cells_own (B : Nat) (c : Array Value) (e : TypeId) (fr : Nat × Nat) : Own (fun (_ : Unit) W => W.heap[B]? = some (.cells c e fr)) := by
  intro s X Y row h hg hrow
  refine (hg.block B (lt_of_heap h) fun e' => ?_).trans h
  obtain ⟨o, ho, hc⟩ := hrow B e'.symm
  rw [h] at ho
  obtain rfl := Option.some.inj ho
  cases hc
theorem own_points {W : World} {b : Nat} {t : TypeId} {v : Value} {base : Nat} {e : TypeId} {size n : Nat} {xs : List Value} (hv : Boxed W b t v) (hr : W.ownsRow base e size v n xs) (k : Nat) : some k = v.ownBlock ↔ pointsAt W b k := by
  have hc := hv.cell
  rcases hr.2 with ⟨rfl, _⟩ | ⟨g, cap, cur, rfl, _⟩
  · constructor
    · intro h; cases h
    · rintro ⟨o, s, n', c, h⟩
      rw [hc] at h
      cases h
  · constructor
    · intro h
      obtain rfl : k = g := by simpa [Value.ownBlock] using h
      exact ⟨0, none, n, cap, hc⟩
    · rintro ⟨o, s, n', c, h⟩
      rw [hc] at h
      simp only [Option.some.injEq, Value.slice.injEq, Addr.mk.injEq] at h
      rw [← h.1.1]
      rfl
/-- an append onto the row in the variable, stored back -/
theorem KeptV.appended {W w1 : World} {b : Nat} {t : TypeId} {v v' : Value} {tmp : Obj} {base : Nat} {e : TypeId} {size n n' : Nat} {xs ys : List Value} (hv : Boxed W b t v) (hv' : Boxed (w1.setCell ⟨b, 0, none⟩ v') b t v') (hr : W.ownsRow base e size v n xs)
    (hr' : (w1.setCell ⟨b, 0, none⟩ v').ownsRow base e size v' n' ys) (hg : (W.alloc tmp).grownBy w1 v.ownBlock) (hown : v'.ownBlock = v.ownBlock ∨ v'.ownBlock = some (W.alloc tmp).heap.size) : KeptV b W (w1.setCell ⟨b, 0, none⟩ v') := by
  have hsz : W.heap.size ≤ w1.heap.size := by have := hg.size; simp at this; omega
  refine ⟨by simpa [World.setCell] using hsz, fun k c e' fr hk hb hp => ?_, fun k hk => ?_⟩
  · have hlt := lt_of_heap hk
    refine (Below.heap_setCell _ _ _ _ hb).trans ((hg.block k (by simp; omega) (fun he => hp ((own_points hv hr k).1 he))).trans ((Below.heap_alloc _ _ _ hlt).trans hk))
  · have h2 := (own_points hv' hr' k).2 hk
    rcases hown with h | h
    · exact .inl ((own_points hv hr k).1 (h2.trans h))
    · rw [h] at h2
      simp at h2
      exact .inr (by omega)
end Go.Proofs.Ytaohneahlcnahaa
