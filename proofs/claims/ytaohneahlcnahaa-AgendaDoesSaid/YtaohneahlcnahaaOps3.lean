/- slices of usancelaw19.Op: what they read as; rows of the call's own -/
import Derived.Test.YtaohneahlcnahaaMineI
import Derived.LoopTactic
set_option linter.unusedVariables false
set_option linter.unusedSimpArgs false
namespace Go.Proofs.Ytaohneahlcnahaa
open Go.RowKit

/-- an Op: what, a day, a number -/
structure O3 where
  k : Int
  d : Int
  n : Int
def ov1 (x : O3) : List Value := [.int .i64 x.k, .int .i64 x.d, .int .i64 x.n]
def ov (L : List O3) : List Value := L.flatMap ov1
theorem ov_cons (x : O3) (L : List O3) : ov (x :: L) = ov1 x ++ ov L := by simp [ov]
theorem ov_append (a b : List O3) : ov (a ++ b) = ov a ++ ov b := by simp [ov]
theorem ov_length (L : List O3) : (ov L).length = L.length * 3 := by
  induction L with
  | nil => rfl
  | cons x r ih => rw [ov_cons, List.length_append, ih]; simp [ov1]; omega
theorem ov_get (L : List O3) (i : Nat) (h : i < L.length) : (ov L)[i * 3]? = some (.int .i64 L[i].k) ∧ (ov L)[i * 3 + 1]? = some (.int .i64 L[i].d) ∧ (ov L)[i * 3 + 2]? = some (.int .i64 L[i].n) := by
  induction L generalizing i with
  | nil => simp at h
  | cons x r ih =>
    rw [ov_cons]
    cases i with
    | zero => exact ⟨rfl, rfl, rfl⟩
    | succ i =>
      have hl : (ov1 x).length = 3 := rfl
      have := ih i (by simpa using h)
      rw [List.getElem?_append_right (by rw [hl]; omega), List.getElem?_append_right (by rw [hl]; omega), List.getElem?_append_right (by rw [hl]; omega), hl, show (i + 1) * 3 - 3 = i * 3 by omega, show (i + 1) * 3 + 1 - 3 = i * 3 + 1 by omega, show (i + 1) * 3 + 2 - 3 = i * 3 + 2 by omega]
      exact this
theorem ov_oneCell (L : List O3) : ∀ u ∈ ov L, u.oneCell' = true := by
  intro u hu
  obtain ⟨x, _, hx⟩ := List.mem_flatMap.1 hu
  simp only [ov1, List.mem_cons, List.not_mem_nil, or_false] at hx
  rcases hx with rfl | rfl | rfl <;> rfl
/-- the slice value v reads as the Ops L -/
def IsP (w : World) (v : Value) (L : List O3) : Prop :=
  ∃ a cap, v = .slice a L.length cap ∧ L.length ≤ cap ∧ cap ≤ maxLen ∧ (a = none → cap = 0) ∧
    ∀ x, a = some x → (0 < L.length → x.spot = none) ∧ ∀ i, (h : i < L.length) → w.cell? ⟨x.block, x.off + i * 3, none⟩ = some (.int .i64 L[i].k) ∧ w.cell? ⟨x.block, x.off + i * 3 + 1, none⟩ = some (.int .i64 L[i].d) ∧ w.cell? ⟨x.block, x.off + i * 3 + 2, none⟩ = some (.int .i64 L[i].n)
theorem IsP.nil (w : World) : IsP w (.slice none 0 0) [] := ⟨none, 0, rfl, Nat.le_refl _, by simp [maxLen], fun _ => rfl, fun x h => by cases h⟩
theorem IsP.of_cells {w w' : World} {v : Value} {L : List O3} (h : IsP w v L) (hw : ∀ a u, w.cell? a = some u → w'.cell? a = some u) : IsP w' v L := by
  obtain ⟨a, cap, hv, hl, hm, hn, hc⟩ := h
  exact ⟨a, cap, hv, hl, hm, hn, fun x hx => ⟨(hc x hx).1, fun i hi => ⟨hw _ _ ((hc x hx).2 i hi).1, hw _ _ ((hc x hx).2 i hi).2.1, hw _ _ ((hc x hx).2 i hi).2.2⟩⟩⟩
theorem IsP.below {w w' : World} {v : Value} {L : List O3} (h : IsP w v L) (hb : Below w.heap.size w w') : IsP w' v L := h.of_cells (cells_below hb)
theorem IsP.drew {w : World} {v : Value} {L : List O3} (h : IsP w v L) : IsP w.drew v L := h
theorem IsP.addr {w : World} {a : Option Addr} {n cap : Nat} {L : List O3} (h : IsP w (.slice a n cap) L) : n = L.length ∧ L.length ≤ cap ∧ cap ≤ maxLen ∧ (0 < L.length → ∃ B o, a = some ⟨B, o, none⟩ ∧ ∀ i, (hi : i < L.length) → w.cell? ⟨B, o + i * 3, none⟩ = some (.int .i64 L[i].k) ∧ w.cell? ⟨B, o + i * 3 + 1, none⟩ = some (.int .i64 L[i].d) ∧ w.cell? ⟨B, o + i * 3 + 2, none⟩ = some (.int .i64 L[i].n)) := by
  obtain ⟨a', cap', hv, hl, hm, hn, hc⟩ := h
  simp only [Value.slice.injEq] at hv
  obtain ⟨rfl, rfl, rfl⟩ := hv
  refine ⟨rfl, hl, hm, fun hpos => ?_⟩
  cases a with
  | none => have := hn rfl; omega
  | some x =>
    obtain ⟨h1, h2⟩ := hc x rfl
    obtain ⟨B, o, sp⟩ := x
    obtain rfl : sp = none := h1 hpos
    exact ⟨B, o, rfl, h2⟩
/-- a row of Ops of the call's own -/
def MineP (base : Nat) (w : World) (v : Value) (L : List O3) : Prop := w.ownsRow base 25 3 v L.length (ov L)
theorem MineP.nil (base : Nat) (w : World) : MineP base w (.slice none 0 0) [] := World.ownsRow_nil w base 25 3
theorem MineP.isP {base : Nat} {w : World} {v : Value} {L : List O3} (h : MineP base w v L) : IsP w v L := by
  rcases h.2 with ⟨rfl, hn⟩ | ⟨g, cap, cur, rfl, hb, hg, hnc, hcm, hcs, htake⟩
  · obtain rfl : L = [] := List.eq_nil_of_length_eq_zero hn
    exact IsP.nil w
  · refine ⟨some ⟨g, 0, none⟩, cap, rfl, hnc, hcm, fun h => (by cases h), ?_⟩
    rintro x ⟨⟩
    refine ⟨fun _ => rfl, fun i hi => ?_⟩
    have e : ∀ j u, (ov L)[j]? = some u → w.cell? ⟨g, 0 + j, none⟩ = some u := fun j u hj => by
      have hlt : j < (ov L).length := (List.getElem?_eq_some_iff.1 hj).1
      rw [← htake, List.getElem?_take, if_pos (by rwa [ov_length] at hlt)] at hj
      rw [cell_of_row _ _ _ _ _ _ hg, Nat.zero_add]
      simpa using hj
    obtain ⟨g0, g1, g2⟩ := ov_get L i hi
    exact ⟨e _ _ g0, by rw [Nat.add_assoc]; exact e _ _ g1, by rw [Nat.add_assoc]; exact e _ _ g2⟩
theorem info_op3 : (Try.prog.info? 25).map (fun i => (i.zero, i.size, i.bytes)) = some (some (.agg #[.int .i64 0, .int .i64 0, .int .i64 0]), 3, 24) := by kernel_rfl
/-- append of one Op, laid in a block of its own -/
theorem run_op3 (w : World) (base : Nat) (v : Value) (l : List O3) (hown : MineP base w v l) (g : Nat) (x : O3) (hg : w.heap[g]? = some (.cells (ov1 x).toArray 25 (0, 0))) (hlen : l.length ≤ 1000000) (hbase : base ≤ w.heap.size) :
    ∃ v' w', (Builtin.append_ #[22, 22] 22 #[v, .slice (some ⟨g, 0, none⟩) 1 1]).run Try.prog w = .ok v' w' ∧ MineP base w' v' (l ++ [x]) ∧ Below base w w' := by
  obtain ⟨i, hi, hz, hs1, hb1⟩ := info_parts (P := Try.prog) (e := 25) info_op3
  have hf : ∀ w' : World, w'.heap = w.heap → (Builtin.firstCells 3 1 (.slice (some ⟨g, 0, none⟩) 1 1)).run Try.prog w' = .ok (ov1 x).toArray w' := fun w' hw => run_firstCells_some (P := Try.prog) w' 3 1 ⟨g, 0, none⟩ 1 1 (ov1 x) rfl (fun j u hj => by
    rw [Addr.add_lit, Nat.zero_add, cell_of_row w' _ _ _ _ _ (by rw [hw]; exact hg)]
    simpa using hj)
  obtain ⟨v', w', hr, h2, h3, h4, h5⟩ := run_app (P := Try.prog) w base 22 22 22 25 i (.agg #[.int .i64 0, .int .i64 0, .int .i64 0]) 3 24 _ Try.underlying22 Try.underlying22 (.inl rfl) hi hz hs1 hb1 rfl (by decide) v l.length (ov l) hown (.slice (some ⟨g, 0, none⟩) 1 1) 1 (ov1 x)
    (fun w' => rfl) rfl hf (fun u hu => by simp only [ov1, List.mem_cons, List.not_mem_nil, or_false] at hu; rcases hu with rfl | rfl | rfl <;> rfl) (by unfold maxLen; omega) (by omega) hbase
  refine ⟨v', w', hr, ?_, (Below.refl base w).grown h3 hbase fun k hk => (World.ownsRow.lt hown k hk).1⟩
  have e : ov l ++ ov1 x = ov (l ++ [x]) := by rw [ov_append]; simp [ov]
  rw [e] at h2
  unfold MineP
  rw [List.length_append]
  exact h2
end Go.Proofs.Ytaohneahlcnahaa
