/- append of what reads as ints, onto a row of ints of the call's own. -/
import Derived.Test.YtncoclbmnhbgbaaIntsOwn
set_option linter.unusedVariables false
set_option linter.unusedSimpArgs false
namespace Go.Proofs.Ytncoclbmnhbgbaa
open Go.RowKit

theorem iv_length (l : List Int) : (iv l).length = l.length := by simp [iv]
theorem iv_append (l r : List Int) : iv (l ++ r) = iv l ++ iv r := by simp [iv]
theorem iv_oneCell (l : List Int) : ∀ u ∈ iv l, u.oneCell' = true := by
  intro u hu
  obtain ⟨_, _, rfl⟩ := List.mem_map.1 hu
  rfl
theorem iv_get (l : List Int) (i : Nat) (h : i < l.length) : (iv l)[i]? = some (.int .i64 l[i]) := by simp [iv, h]
theorem run_firstCells_isI {P : Program} {w : World} {v : Value} {l : List Int} (h : IsI w v l) : ∀ w' : World, w'.heap = w.heap → (Builtin.firstCells 1 l.length v).run P w' = .ok (iv l).toArray w' := by
  intro w' hw
  obtain ⟨a, cap, rfl, hl, hm, hn, hc⟩ := h
  cases a with
  | none =>
    have : l = [] := List.eq_nil_of_length_eq_zero (by have := hn rfl; omega)
    subst this
    simp [Builtin.firstCells, iv]
  | some x =>
    by_cases h0 : l = []
    · subst h0
      simp [Builtin.firstCells, iv, loadCells, loadCellsFrom]
    obtain ⟨b, o, s⟩ := x
    obtain ⟨hs, hc⟩ := hc _ rfl
    obtain rfl : s = none := hs (List.length_pos_iff.2 h0)
    refine run_firstCells_some (P := P) w' 1 l.length _ _ _ (iv l) (by simp [iv]) ?_
    intro j u hj
    have hlt : j < l.length := by have := (List.getElem?_eq_some_iff.1 hj).1; simpa [iv] using this
    rw [iv_get l j hlt] at hj
    obtain rfl := Option.some.inj hj
    rw [Addr.add_lit, World.cell?_of_block (w := w) (by rw [hw])]
    exact hc j hlt
theorem MineI.lit {base : Nat} {w : World} (l : List Int) (hb : base ≤ w.heap.size) (hm : l.length ≤ maxLen) :
    MineI base (w.alloc (.cells (iv l).toArray 3)) (.slice (some ⟨w.heap.size, 0, none⟩) l.length l.length) l := by
  have := World.ownsRow_lit (e := 3) (size := 1) (base := base) w (iv l).toArray l.length hb hm (by simp [iv])
  simpa [MineI] using this
/-- append of what reads as ints onto a row of ints of one's own: the run -/
theorem run_ints (w : World) (base : Nat) (v : Value) (l : List Int) (hown : MineI base w v l) (u : Value) (m : List Int) (hu : IsI w u m) (hlen : l.length + m.length ≤ 17592186044416) (hbase : base ≤ w.heap.size) :
    ∃ v' w', (Builtin.append_ #[23, 23] 23 #[v, u]).run Try.prog w = .ok v' w' ∧ MineI base w' v' (l ++ m) ∧ Below base w w' ∧ w.grownBy w' v.ownBlock := by
  obtain ⟨i, hi, hz, hs1, hb1⟩ := info_parts (P := Try.prog) (e := 3) info_int
  obtain ⟨v', w', hr, h2, h3, h4, h5⟩ := run_app (P := Try.prog) w base 23 23 23 3 i (.int .i64 0) 1 8 _ Try.underlying23 Try.underlying23 (.inl rfl) hi hz hs1 hb1 rfl (by decide) v l.length (iv l) hown u m.length (iv m)
    (fun w' => by obtain ⟨a, cap, rfl, _⟩ := hu; simp [Builtin.lenOf]) (by simp [iv]) (run_firstCells_isI hu) (iv_oneCell m) (by unfold maxLen; omega) (by omega) hbase
  refine ⟨v', w', hr, ?_, (Below.refl base w).grown h3 hbase fun k hk => (World.ownsRow.lt hown k hk).1, h3⟩
  rw [← iv_append, ← List.length_append] at h2
  exact h2
end Go.Proofs.Ytncoclbmnhbgbaa
