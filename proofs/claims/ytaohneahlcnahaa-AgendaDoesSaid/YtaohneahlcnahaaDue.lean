/- slices of api.Due: what they read as; rows of the call's own; the order of entries, in plain words -/
import Derived.Test.YtaohneahlcnahaaMineI
import Derived.LoopTactic
set_option linter.unusedVariables false
set_option linter.unusedSimpArgs false
namespace Go.Proofs.Ytaohneahlcnahaa
open Go.RowKit

/-- an entry: a day, a number -/
abbrev Du := Int × Int
def dv1 (x : Du) : List Value := [.int .i64 x.1, .int .i64 x.2]
def dv (L : List Du) : List Value := L.flatMap dv1
theorem dv_nil : dv [] = [] := rfl
theorem dv_cons (x : Du) (L : List Du) : dv (x :: L) = dv1 x ++ dv L := by simp [dv]
theorem dv_append (a b : List Du) : dv (a ++ b) = dv a ++ dv b := by simp [dv]
theorem dv_length (L : List Du) : (dv L).length = L.length * 2 := by
  induction L with
  | nil => rfl
  | cons x r ih => rw [dv_cons, List.length_append, ih]; simp [dv1]; omega
theorem dv_get (L : List Du) (i : Nat) (h : i < L.length) : (dv L)[i * 2]? = some (.int .i64 L[i].1) ∧ (dv L)[i * 2 + 1]? = some (.int .i64 L[i].2) := by
  induction L generalizing i with
  | nil => simp at h
  | cons x r ih =>
    rw [dv_cons]
    cases i with
    | zero => exact ⟨rfl, rfl⟩
    | succ i =>
      have hl : (dv1 x).length = 2 := rfl
      have := ih i (by simpa using h)
      rw [List.getElem?_append_right (by rw [hl]; omega), List.getElem?_append_right (by rw [hl]; omega), hl, show (i + 1) * 2 - 2 = i * 2 by omega, show (i + 1) * 2 + 1 - 2 = i * 2 + 1 by omega]
      exact this
theorem dv_take (L : List Du) (k : Nat) : dv (L.take k) = (dv L).take (k * 2) := by
  induction L generalizing k with
  | nil => simp [dv]
  | cons x r ih =>
    cases k with
    | zero => simp [dv]
    | succ k =>
      rw [List.take_succ_cons, dv_cons, dv_cons, ih, List.take_append, show (dv1 x).length = 2 from rfl, show (k + 1) * 2 - 2 = k * 2 by omega, List.take_of_length_le (l := dv1 x) (by show 2 ≤ _; omega)]
theorem dv_drop (L : List Du) (k : Nat) : dv (L.drop k) = (dv L).drop (k * 2) := by
  induction L generalizing k with
  | nil => simp [dv]
  | cons x r ih =>
    cases k with
    | zero => simp
    | succ k =>
      rw [List.drop_succ_cons, dv_cons, ih, List.drop_append, show (dv1 x).length = 2 from rfl, show (k + 1) * 2 - 2 = k * 2 by omega, List.drop_of_length_le (l := dv1 x) (by show 2 ≤ _; omega), List.nil_append]
theorem dv_oneCell (L : List Du) : ∀ u ∈ dv L, u.oneCell' = true := by
  intro u hu
  obtain ⟨x, _, hx⟩ := List.mem_flatMap.1 hu
  simp only [dv1, List.mem_cons, List.not_mem_nil, or_false] at hx
  rcases hx with rfl | rfl <;> rfl

/-- the slice value v reads as the entries L -/
def IsD (w : World) (v : Value) (L : List Du) : Prop :=
  ∃ a cap, v = .slice a L.length cap ∧ L.length ≤ cap ∧ cap ≤ maxLen ∧ (a = none → cap = 0) ∧
    ∀ x, a = some x → (0 < L.length → x.spot = none) ∧ ∀ i, (h : i < L.length) → w.cell? ⟨x.block, x.off + i * 2, none⟩ = some (.int .i64 L[i].1) ∧ w.cell? ⟨x.block, x.off + i * 2 + 1, none⟩ = some (.int .i64 L[i].2)
theorem IsD.nil (w : World) : IsD w (.slice none 0 0) [] := ⟨none, 0, rfl, Nat.le_refl _, by simp [maxLen], fun _ => rfl, fun x h => by cases h⟩
theorem IsD.of_cells {w w' : World} {v : Value} {L : List Du} (h : IsD w v L) (hw : ∀ a u, w.cell? a = some u → w'.cell? a = some u) : IsD w' v L := by
  obtain ⟨a, cap, hv, hl, hm, hn, hc⟩ := h
  exact ⟨a, cap, hv, hl, hm, hn, fun x hx => ⟨(hc x hx).1, fun i hi => ⟨hw _ _ ((hc x hx).2 i hi).1, hw _ _ ((hc x hx).2 i hi).2⟩⟩⟩
theorem IsD.below {w w' : World} {v : Value} {L : List Du} (h : IsD w v L) (hb : Below w.heap.size w w') : IsD w' v L := h.of_cells (cells_below hb)
theorem IsD.drew {w : World} {v : Value} {L : List Du} (h : IsD w v L) : IsD w.drew v L := h
/-- a slice of them with an address -/
theorem IsD.addr {w : World} {a : Option Addr} {n cap : Nat} {L : List Du} (h : IsD w (.slice a n cap) L) : n = L.length ∧ L.length ≤ cap ∧ cap ≤ maxLen ∧ (0 < L.length → ∃ B o, a = some ⟨B, o, none⟩ ∧ ∀ i, (hi : i < L.length) → w.cell? ⟨B, o + i * 2, none⟩ = some (.int .i64 L[i].1) ∧ w.cell? ⟨B, o + i * 2 + 1, none⟩ = some (.int .i64 L[i].2)) := by
  obtain ⟨a', cap', hv, hl, hm, hn, hc⟩ := h
  simp only [Value.slice.injEq] at hv
  obtain ⟨rfl, rfl, rfl⟩ := hv
  refine ⟨rfl, hl, hm, fun hpos => ?_⟩
  cases a with
  | none => have := hn rfl; omega
  | some x =>
    obtain ⟨h1, h2⟩ := hc x rfl
    obtain ⟨B, o, sp⟩ := x
    obtain rfl : sp = none := h1 hpos
    exact ⟨B, o, rfl, h2⟩
/-- a row of entries of the call's own -/
def MineD (base : Nat) (w : World) (v : Value) (L : List Du) : Prop := w.ownsRow base 37 2 v L.length (dv L)
theorem MineD.nil (base : Nat) (w : World) : MineD base w (.slice none 0 0) [] := World.ownsRow_nil w base 37 2
theorem MineD.isD {base : Nat} {w : World} {v : Value} {L : List Du} (h : MineD base w v L) : IsD w v L := by
  rcases h.2 with ⟨rfl, hn⟩ | ⟨g, cap, cur, rfl, hb, hg, hnc, hcm, hcs, htake⟩
  · obtain rfl : L = [] := List.eq_nil_of_length_eq_zero hn
    exact IsD.nil w
  · refine ⟨some ⟨g, 0, none⟩, cap, rfl, hnc, hcm, fun h => (by cases h), ?_⟩
    rintro x ⟨⟩
    refine ⟨fun _ => rfl, fun i hi => ?_⟩
    have e : ∀ j u, (dv L)[j]? = some u → w.cell? ⟨g, 0 + j, none⟩ = some u := fun j u hj => by
      have hlt : j < (dv L).length := (List.getElem?_eq_some_iff.1 hj).1
      rw [← htake, List.getElem?_take, if_pos (by rwa [dv_length] at hlt)] at hj
      rw [cell_of_row _ _ _ _ _ _ hg, Nat.zero_add]
      simpa using hj
    exact ⟨e _ _ (dv_get L i hi).1, by rw [Nat.add_assoc]; exact e _ _ (dv_get L i hi).2⟩
theorem MineD.keep {B : Nat} {w w' : World} {v : Value} {L : List Du} (h : MineD B w v L) (hw : ∀ k, k < w.heap.size → B ≤ k → w'.heap[k]? = w.heap[k]?) : MineD B w' v L := by
  obtain ⟨h1, h2⟩ := h
  refine ⟨h1, ?_⟩
  rcases h2 with h2 | ⟨g, cap, cur, hv, hg, hh, r⟩
  · exact .inl h2
  · exact .inr ⟨g, cap, cur, hv, hg, (hw g (lt_of_heap hh) hg).trans hh, r⟩
theorem MineD.below {B : Nat} {w w' : World} {v : Value} {L : List Du} (h : MineD B w v L) (hb : Below w.heap.size w w') : MineD B w' v L := h.keep fun k hk _ => hb.block k hk
theorem MineD.down {B B' : Nat} {w : World} {v : Value} {L : List Du} (h : MineD B w v L) (hB : B' ≤ B) : MineD B' w v L := by
  obtain ⟨h1, h2⟩ := h
  refine ⟨h1, ?_⟩
  rcases h2 with h2 | ⟨g, cap, cur, hv, hg, r⟩
  · exact .inl h2
  · exact .inr ⟨g, cap, cur, hv, by omega, r⟩
theorem info_due : (Try.prog.info? 37).map (fun i => (i.zero, i.size, i.bytes)) = some (some (.agg #[.int .i64 0, .int .i64 0]), 2, 16) := by kernel_rfl
theorem run_firstCells_isD {P : Program} {w : World} {v : Value} {L : List Du} (h : IsD w v L) : ∀ w' : World, w'.heap = w.heap → (Builtin.firstCells 2 L.length v).run P w' = .ok (dv L).toArray w' := by
  intro w' hw
  obtain ⟨a, cap, rfl, hl, hm, hn, hc⟩ := h
  cases a with
  | none =>
    have : L = [] := List.eq_nil_of_length_eq_zero (by have := hn rfl; omega)
    subst this
    simp [Builtin.firstCells, dv]
  | some x =>
    by_cases h0 : L = []
    · subst h0
      simp [Builtin.firstCells, dv, loadCells, loadCellsFrom]
    obtain ⟨b, o, s⟩ := x
    obtain ⟨hs, hc⟩ := hc _ rfl
    obtain rfl : s = none := hs (List.length_pos_iff.2 h0)
    refine run_firstCells_some (P := P) w' 2 L.length _ _ _ (dv L) (dv_length L) ?_
    intro j u hj
    have hlt : j < L.length * 2 := by have := (List.getElem?_eq_some_iff.1 hj).1; rwa [dv_length] at this
    obtain ⟨g0, g1⟩ := dv_get L (j / 2) (by omega)
    obtain ⟨c0, c1⟩ := hc (j / 2) (by omega)
    rw [Addr.add_lit, World.cell?_of_block (w := w) (by rw [hw])]
    rcases (show j = j / 2 * 2 ∨ j = j / 2 * 2 + 1 by omega) with e | e
    · rw [← e] at g0 c0
      rw [g0] at hj
      obtain rfl := Option.some.inj hj
      exact c0
    · rw [← e] at g1
      rw [Nat.add_assoc, ← e] at c1
      rw [g1] at hj
      obtain rfl := Option.some.inj hj
      exact c1
/-- append of what reads as entries onto a row of entries of one's own: the run -/
theorem run_dues (w : World) (base : Nat) (v : Value) (l : List Du) (hown : MineD base w v l) (u : Value) (m : List Du) (hu : IsD w u m) (hlen : l.length + m.length ≤ 1099511627776) (hbase : base ≤ w.heap.size) :
    ∃ v' w', (Builtin.append_ #[27, 27] 27 #[v, u]).run Try.prog w = .ok v' w' ∧ MineD base w' v' (l ++ m) ∧ Below base w w' ∧ w.grownBy w' v.ownBlock ∧ (v' = .slice none 0 0 ↔ v = .slice none 0 0 ∧ m = []) ∧ (v'.ownBlock = v.ownBlock ∨ v'.ownBlock = some w.heap.size) := by
  obtain ⟨i, hi, hz, hs1, hb1⟩ := info_parts (P := Try.prog) (e := 37) info_due
  obtain ⟨v', w', hr, h2, h3, h4, h5⟩ := run_app (P := Try.prog) w base 27 27 27 37 i (.agg #[.int .i64 0, .int .i64 0]) 2 16 _ Try.underlying27 Try.underlying27 (.inl rfl) hi hz hs1 hb1 rfl (by decide) v l.length (dv l) hown u m.length (dv m)
    (fun w' => by obtain ⟨a, cap, rfl, _⟩ := hu; simp [Builtin.lenOf]) (dv_length m) (run_firstCells_isD hu) (dv_oneCell m) (by unfold maxLen; omega) (by omega) hbase
  refine ⟨v', w', hr, ?_, (Below.refl base w).grown h3 hbase fun k hk => (World.ownsRow.lt hown k hk).1, h3, by rw [h4, List.length_eq_zero_iff], h5⟩
  rw [← dv_append, ← List.length_append] at h2
  exact h2
theorem MineD.lit {base : Nat} {w : World} (l : List Du) (hb : base ≤ w.heap.size) (hm : l.length ≤ maxLen) :
    MineD base (w.alloc (.cells (dv l).toArray 37)) (.slice (some ⟨w.heap.size, 0, none⟩) l.length l.length) l := by
  have := World.ownsRow_lit (e := 37) (size := 2) (base := base) w (dv l).toArray l.length hb hm (by simp [dv_length])
  simpa [MineD] using this
end Go.Proofs.Ytaohneahlcnahaa
