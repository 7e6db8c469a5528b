/- Both disks, the program's and the document's: what is done on both keeps them alike. -/
import Derived.Test.YtncoclbmnhbgbaaAlike
import Derived.Test.YtncoclbmnhbgbaaNil
import Derived.StillTailTactics
set_option linter.unusedVariables false
set_option linter.unusedSimpArgs false
namespace Go.Proofs.Ytncoclbmnhbgbaa
open Go.RowKit

/-- what was written last is what was flushed, with the loose writes laid -/
def Dk.Lay (D : Dk) : Prop := D.now = layAll D.safe D.hung
theorem Dk.Lay.off {D : Dk} (h : D.Lay) (b : Bool) : Dk.Lay { D with off := b } := h
theorem Dk.Lay.cut {D : Dk} (h : D.Lay) (c : Int) : Dk.Lay { D with cut := c, off := false } := h
theorem Dk.Lay.write {D : Dk} (h : D.Lay) (a : Int) (l : List UInt8) : (D.write a l).2.Lay := by
  unfold Dk.write
  split
  · exact h
  · split
    · exact h
    · split
      · exact h
      · split
        · exact h
        · show putS D.now a.toNat l = layAll D.safe (D.hung ++ [(a.toNat, l)])
          rw [layAll_snoc, h]
theorem Dk.Lay.flush {D : Dk} (h : D.Lay) : D.flush.2.Lay := by
  unfold Dk.flush
  split
  · exact h
  · split
    · exact h
    · rfl
theorem Dk.Lay.crash (D : Dk) (stay : List Int) : (D.crash stay).Lay := rfl
theorem set_putS {l y : List UInt8} {n a j k : Nat} (hl : l.length = n * 128) (hy : y.length = 128) (hk : k < n) (ha : a < n) (hj : j < 128) (b : UInt8) :
    putS (l.set (a * 128 + j) b) k (if k = a then y.set j b else y) = (putS l k y).set (a * 128 + j) b := by
  have hm : min (k * 128) (n * 128) = k * 128 := by omega
  have hm2 : k * 128 + (128 + (n * 128 - (k * 128 + 128))) = n * 128 := by omega
  apply List.ext_getElem?
  intro i
  by_cases hka : k = a
  · subst hka
    rw [if_pos rfl]
    simp only [putS, List.getElem?_append, List.getElem?_take, List.getElem?_drop, List.getElem?_set, List.length_take, List.length_set, List.length_append, List.length_drop, hl, hy, hm, hm2]
    repeat' split
    all_goals first | rfl | (exfalso; omega)
  · rw [if_neg hka]
    have hne : k < a ∨ a < k := Nat.lt_or_gt_of_ne hka
    simp only [putS, List.getElem?_append, List.getElem?_take, List.getElem?_drop, List.getElem?_set, List.length_take, List.length_set, List.length_append, List.length_drop, hl, hy, hm, hm2]
    repeat' split
    all_goals first | rfl | (exfalso; omega)
theorem layAll_poke {n a j : Nat} (ha : a < n) (hj : j < 128) (b : UInt8) : ∀ (L : List (Nat × List UInt8)) (s : List UInt8), s.length = n * 128 → (∀ x ∈ L, x.1 < n ∧ x.2.length = 128) →
    layAll (s.set (a * 128 + j) b) (L.map (pokeL a j b)) = (layAll s L).set (a * 128 + j) b
  | [], s, _, _ => rfl
  | x :: L, s, hs, h => by
    obtain ⟨h1, h2⟩ := h x (by simp)
    have e : putS (s.set (a * 128 + j) b) (pokeL a j b x).1 (pokeL a j b x).2 = (putS s x.1 x.2).set (a * 128 + j) b := by
      rw [← set_putS hs h2 h1 ha hj b]
      unfold pokeL
      split <;> rfl
    have ih := layAll_poke ha hj b L (putS s x.1 x.2) (putS_length hs h2 h1) fun y hy => h y (by simp [hy])
    simp only [layAll, List.map_cons, List.foldl_cons] at ih ⊢
    rw [e]
    exact ih
theorem Dk.Lay.poke {D : Dk} (h : D.Lay) (hok : D.Ok) (a p : Int) (b : UInt8) : (D.poke a p b).2.Lay := by
  unfold Dk.poke
  split
  · exact h
  · rename_i hin
    split
    · exact h
    · rename_i hp
      show D.now.set (a.toNat * 128 + p.toNat) b = layAll (D.safe.set (a.toNat * 128 + p.toNat) b) (D.hung.map (pokeL a.toNat p.toNat b))
      have hin' : 0 ≤ a ∧ a < (D.n : Int) := Classical.not_not.1 hin
      rw [layAll_poke (n := D.n) (by omega) (by omega) b D.hung D.safe hok.safe hok.hung, h]

/-- the disks' blocks are from B on -/
structure Low (B x : Nat) (F : Ft) : Prop where
  F : ∀ k, F.has k → B ≤ k
  x : B ≤ x
/-- how an operation on both ends -/
def DoesPost (B : Nat) (w : World) (x : Nat) (e : Ending) (w' : World) : Prop := ∃ F' p' D', e = .returned (.bool true) ∧ BothAt B w' x F' p' D' ∧ Low B x F' ∧ Below B w w'
theorem keepF {w w' : World} {F : Ft} {D : Dk} (hd : DkAt w F D) (ht : Turned F.has w w') {k : Nat} {c : Array Value} {e : TypeId} {fr : Nat × Nat} (hk : w.heap[k]? = some (.cells c e fr)) (he : e ≠ 60 ∧ e ≠ 63) : w'.heap[k]? = some (.cells c e fr) := by
  rw [ht.block k (lt_of_heap hk)]
  · exact hk
  · intro hF
    obtain ⟨cS, hS, _⟩ := hd.safe
    obtain ⟨cN, hN, _⟩ := hd.now
    obtain ⟨es, cl, hM, _⟩ := hd.hung
    have hh := hd.head
    rcases hF with rfl | rfl | rfl | rfl
    · rw [hh] at hk; injection hk with hk; injection hk with _ hk; exact he.1 hk.symm
    · rw [hS] at hk; injection hk with hk; injection hk with _ hk; exact he.2 hk.symm
    · rw [hN] at hk; injection hk with hk; injection hk with _ hk; exact he.2 hk.symm
    · rw [hM] at hk; injection hk with hk; cases hk
theorem keepR {B : Nat} {w w' : World} (ht : Turned (RT B w) w w') {k : Nat} {c : Array Value} {e : TypeId} {fr : Nat × Nat} (hk : w.heap[k]? = some (.cells c e fr)) (he : e ≠ 71 ∧ e ≠ 30 ∧ e ≠ 76) : w'.heap[k]? = some (.cells c e fr) := by
  rw [ht.block k (lt_of_heap hk)]
  · exact hk
  · rintro ⟨_, c', e', fr', hc, h⟩
    rw [hk] at hc
    injection hc with hc
    injection hc with _ hc
    subst hc
    rcases h with h | h | h
    · exact he.1 h
    · exact he.2.1 h
    · exact he.2.2 h
theorem BothAt.size {B : Nat} {w : World} {x : Nat} {F : Ft} {p : Nat} {D : Dk} (h : BothAt B w x F p D) (lo : Low B x F) : B ≤ w.heap.size := Nat.le_trans lo.x (Nat.le_of_lt (lt_of_heap h.head))
theorem RefAt.down {B B' : Nat} {w : World} {p : Nat} {D : Dk} (h : RefAt B w p D) (hB : B' ≤ B) : RefAt B' w p D := by
  obtain ⟨low, vS, vL, hh, ⟨us, h1, h2, h3⟩, ⟨us', k1, k2, k3⟩⟩ := h
  have hd : ∀ {e : TypeId} {s n : Nat} {v : Value} {xs : List Value}, w.ownsRow B e s v n xs → w.ownsRow B' e s v n xs := by
    intro e s n v xs ⟨r1, r2⟩
    refine ⟨r1, ?_⟩
    rcases r2 with r2 | ⟨g, cap, cur, hv, hg, r⟩
    · exact .inl r2
    · exact .inr ⟨g, cap, cur, hv, by omega, r⟩
  exact ⟨by omega, vS, vL, hh, ⟨us, h1, hd h2, fun i hi => hd (h3 i hi)⟩, ⟨us', k1, hd k2, fun i hi hi' => hd (k3 i hi hi')⟩⟩
theorem Turned.setNew {T : Nat → Prop} {a w : World} (h : Turned T a w) {g : Nat} (hg : a.heap.size ≤ g) (i : Nat) (v : Value) : Turned T a (w.setCell ⟨g, i, none⟩ v) :=
  ⟨h.os, h.tape, h.output, by simpa [World.setCell] using h.size, fun k hk hn => (Below.heap_setCell _ _ _ _ (show k ≠ g by omega)).trans (h.block k hk hn)⟩
theorem DkAt.setNew {w : World} {F : Ft} {D : Dk} (h : DkAt w F D) {g : Nat} (hg : ∀ k, F.has k → k ≠ g) (i : Nat) (v : Value) : DkAt (w.setCell ⟨g, i, none⟩ v) F D :=
  h.keep fun k hk => Below.heap_setCell _ _ _ _ (hg k hk)
/-- one step of the loop that writes over a row of the call's own beside a disk -/
theorem over_step {W wr : World} {F : Ft} {D0 D1 : Dk} {g c : Nat} {l : List UInt8} (d : DkAt wr F D1) (t : Turned F.has W wr) (hF : ∀ k, F.has k → k < W.heap.size) (m : Mine 5 W.heap.size wr (.slice (some ⟨g, 0, none⟩) l.length c) l) (k : Nat) (x : UInt8) :
    DkAt (wr.setCell ⟨g, k, none⟩ (.int .u8 (x.toNat : Int))) F D1 ∧ Turned F.has W (wr.setCell ⟨g, k, none⟩ (.int .u8 (x.toNat : Int))) ∧ Mine 5 W.heap.size (wr.setCell ⟨g, k, none⟩ (.int .u8 (x.toNat : Int))) (.slice (some ⟨g, 0, none⟩) (l.set k x).length c) (l.set k x) := by
  have hg := (m.lt g rfl).1
  exact ⟨d.setNew (fun k hk e => by have := hF k hk; omega) _ _, t.setNew hg _ _, m.stored k x⟩
/-- the block of both disks, and the one of the operation -/
def Held2 (x ox : Nat) (cs os : Array Value) (W : World) : Prop := W.heap[x]? = some (.cells cs 54 (0, 0)) ∧ W.heap[ox]? = some (.cells os 35 (0, 0))
theorem Held2.below {x ox : Nat} {cs os : Array Value} {w w' : World} (h : Held2 x ox cs os w) (hb : Below w.heap.size w w') : Held2 x ox cs os w' :=
  ⟨(hb.block x (lt_of_heap h.1)).trans h.1, (hb.block ox (lt_of_heap h.2)).trans h.2⟩
theorem Held2.f {x ox : Nat} {cs os : Array Value} {w w' : World} {F : Ft} {D : Dk} (h : Held2 x ox cs os w) (hd : DkAt w F D) (ht : Turned F.has w w') : Held2 x ox cs os w' :=
  ⟨keepF hd ht h.1 (by decide), keepF hd ht h.2 (by decide)⟩
theorem Held2.r {x ox : Nat} {cs os : Array Value} {B : Nat} {w w' : World} (h : Held2 x ox cs os w) (ht : Turned (RT B w) w w') : Held2 x ox cs os w' :=
  ⟨keepR ht h.1 (by decide), keepR ht h.2 (by decide)⟩
theorem Held2.cells {x ox : Nat} {cs os : Array Value} {w : World} (h : Held2 x ox cs os w) : (∀ i, w.cell? ⟨x, i, none⟩ = cs[i]?) ∧ ∀ i, w.cell? ⟨ox, i, none⟩ = os[i]? :=
  ⟨fun i => cell_of_row _ _ _ _ _ _ h.1, fun i => cell_of_row _ _ _ _ _ _ h.2⟩
def Held1 (ox : Nat) (os : Array Value) (W : World) : Prop := W.heap[ox]? = some (.cells os 35 (0, 0))
theorem Held1.cells {ox : Nat} {os : Array Value} {w : World} (h : Held1 ox os w) : ∀ i, w.cell? ⟨ox, i, none⟩ = os[i]? := fun i => cell_of_row _ _ _ _ _ _ h
end Go.Proofs.Ytncoclbmnhbgbaa
