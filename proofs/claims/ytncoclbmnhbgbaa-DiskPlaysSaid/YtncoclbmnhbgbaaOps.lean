/- Slices of Op that came in, and the row of Op that plays gathers. -/
import Derived.Test.YtncoclbmnhbgbaaInts
import Derived.Test.YtncoclbmnhbgbaaDk
import Derived.Laws.AppendOwn
set_option linter.unusedVariables false
set_option linter.unusedSimpArgs false
namespace Go.Proofs.Ytncoclbmnhbgbaa
open Go.RowKit

/-- an Op that came in -/
structure OpV where
  kind : Int
  at_ : Int
  n : Int
  bw : Value
  b : List UInt8
  sw : Value
  stay : List Int
/-- its five cells at an address -/
def OpV.cell (x : OpV) : Nat → Value
  | 0 => .int .i64 x.kind
  | 1 => .int .i64 x.at_
  | 2 => .int .i64 x.n
  | 3 => x.bw
  | _ => x.sw
structure OpV.Ok (w : World) (x : OpV) : Prop where
  k1 : -9223372036854775808 ≤ x.kind
  k2 : x.kind ≤ 9223372036854775807
  a1 : -9223372036854775808 ≤ x.at_
  a2 : x.at_ ≤ 9223372036854775807
  n1 : -9223372036854775808 ≤ x.n
  n2 : x.n ≤ 9223372036854775807
  isB : IsB w x.bw x.b
  isI : IsI w x.sw x.stay
/-- the slice value v reads as the Ops L -/
def IsO (w : World) (v : Value) (L : List OpV) : Prop :=
  ∃ a cap, v = .slice a L.length cap ∧ L.length ≤ cap ∧ cap ≤ maxLen ∧ (a = none → cap = 0) ∧
    ∀ x, a = some x → (0 < L.length → x.spot = none) ∧ ∀ i, (h : i < L.length) → (∀ j, j < 5 → w.cell? ⟨x.block, x.off + i * 5 + j, none⟩ = some (L[i].cell j)) ∧ L[i].Ok w
theorem IsO.below {w w' : World} {v : Value} {L : List OpV} (h : IsO w v L) (hb : Below w.heap.size w w') : IsO w' v L := by
  obtain ⟨a, cap, hv, hl, hm, hn, hc⟩ := h
  refine ⟨a, cap, hv, hl, hm, hn, fun x hx => ⟨(hc x hx).1, fun i hi => ?_⟩⟩
  obtain ⟨h1, h2⟩ := (hc x hx).2 i hi
  exact ⟨fun j hj => cells_below hb _ _ (h1 j hj), h2.k1, h2.k2, h2.a1, h2.a2, h2.n1, h2.n2, h2.isB.below hb, h2.isI.below hb⟩

/-- the five cells of an Op that plays makes -/
def five (x : Nat × List UInt8) (u : Value) : List Value := [.int .i64 0, .int .i64 (x.1 : Int), .int .i64 0, u, .slice none 0 0]
def opCells : List (Nat × List UInt8) → List Value → List Value
  | x :: L, u :: us => five x u ++ opCells L us
  | _, _ => []
theorem opCells_length : ∀ (L : List (Nat × List UInt8)) (us : List Value), us.length = L.length → (opCells L us).length = L.length * 5
  | [], us, h => by cases us <;> simp_all [opCells]
  | x :: L, us, h => by
    cases us with
    | nil => simp at h
    | cons u us =>
      simp only [List.length_cons, Nat.add_right_cancel_iff] at h
      simp only [opCells, List.length_append, opCells_length L us h, List.length_cons, five, List.length_nil]
      omega
theorem opCells_snoc : ∀ (L : List (Nat × List UInt8)) (us : List Value) (x : Nat × List UInt8) (u : Value), us.length = L.length → opCells (L ++ [x]) (us ++ [u]) = opCells L us ++ five x u
  | [], us, x, u, h => by
    cases us with
    | nil => simp [opCells]
    | cons _ _ => simp at h
  | y :: L, us, x, u, h => by
    cases us with
    | nil => simp at h
    | cons v us =>
      simp only [List.length_cons, Nat.add_right_cancel_iff] at h
      simp only [List.cons_append, opCells, opCells_snoc L us x u h, List.append_assoc]
theorem opCells_get : ∀ (L : List (Nat × List UInt8)) (us : List Value) (h : us.length = L.length) (i : Nat) (hi : i < L.length) (j : Nat) (hj : j < 5), (opCells L us)[i * 5 + j]? = (five L[i] us[i])[j]?
  | [], us, h, i, hi, _, _ => by simp at hi
  | x :: L, us, h, i, hi, j, hj => by
    cases us with
    | nil => simp at h
    | cons u us =>
      simp only [List.length_cons, Nat.add_right_cancel_iff] at h
      cases i with
      | zero =>
        rw [opCells, Nat.zero_mul, Nat.zero_add, List.getElem?_append_left (by simpa [five] using hj)]
        rfl
      | succ i =>
        have hl : (five x u).length = 5 := rfl
        rw [opCells, List.getElem?_append_right (by rw [hl]; omega), hl, show (i + 1) * 5 + j - 5 = i * 5 + j by omega]
        exact opCells_get L us h i (by simpa using hi) j hj

/-- the row of Op that plays gathers, of blocks from B on: the loose writes -/
def LooseAt (B : Nat) (w : World) (v : Value) (L : List (Nat × List UInt8)) : Prop :=
  ∃ us : List Value, us.length = L.length ∧ w.ownsRow B 35 5 v L.length (opCells L us) ∧ ∀ i (h : i < L.length) (h' : i < us.length), Mine 5 B w us[i] L[i].2
theorem ownsRow_keep {B : Nat} {e : TypeId} {s n : Nat} {w w' : World} {v : Value} {xs : List Value} (h : w.ownsRow B e s v n xs) (hw : ∀ k, k < w.heap.size → B ≤ k → w'.heap[k]? = w.heap[k]?) : w'.ownsRow B e s v n xs := by
  obtain ⟨h1, h2⟩ := h
  refine ⟨h1, ?_⟩
  rcases h2 with h2 | ⟨g, cap, cur, hv, hg, hh, r⟩
  · exact .inl h2
  · exact .inr ⟨g, cap, cur, hv, hg, (hw g (lt_of_heap hh) hg).trans hh, r⟩
theorem LooseAt.keep {B : Nat} {w w' : World} {v : Value} {L : List (Nat × List UInt8)} (h : LooseAt B w v L) (hw : ∀ k, k < w.heap.size → B ≤ k → w'.heap[k]? = w.heap[k]?) : LooseAt B w' v L := by
  obtain ⟨us, h1, h2, h3⟩ := h
  exact ⟨us, h1, ownsRow_keep h2 hw, fun i hi hi' => ownsRow_keep (h3 i hi hi') hw⟩
theorem LooseAt.below {B : Nat} {w w' : World} {v : Value} {L : List (Nat × List UInt8)} (h : LooseAt B w v L) (hb : Below w.heap.size w w') : LooseAt B w' v L := h.keep fun k hk _ => hb.block k hk
theorem LooseAt.turned {B : Nat} {w w' : World} {v : Value} {L : List (Nat × List UInt8)} {T : Nat → Prop} (h : LooseAt B w v L) (ht : Turned T w w') (hT : ∀ k, T k → k < B) : LooseAt B w' v L :=
  h.keep fun k hk hB => ht.block k hk fun hk' => by have := hT k hk'; omega
theorem LooseAt.nil (B : Nat) (w : World) : LooseAt B w (.slice none 0 0) [] := ⟨[], rfl, World.ownsRow_nil w B _ 5, fun i hi => by simp at hi⟩
/-- its slice and its cells -/
theorem LooseAt.at {B : Nat} {w : World} {v : Value} {L : List (Nat × List UInt8)} (h : LooseAt B w v L) :
    (L = [] ∧ v = .slice none 0 0) ∨ ∃ g cap, v = .slice (some ⟨g, 0, none⟩) L.length cap ∧ B ≤ g ∧ L.length ≤ cap ∧ cap ≤ maxLen ∧ ∀ i (hi : i < L.length), ∃ u, w.cell? ⟨g, i * 5 + 1, none⟩ = some (.int .i64 (L[i].1 : Int)) ∧ w.cell? ⟨g, i * 5 + 3, none⟩ = some u ∧ IsB w u L[i].2 := by
  obtain ⟨us, h1, h2, h3⟩ := h
  rcases h2.2 with ⟨rfl, h0⟩ | ⟨g, cap, cur, rfl, hg, hh, hn, hm, hs, ht⟩
  · exact .inl ⟨List.eq_nil_of_length_eq_zero h0, rfl⟩
  · refine .inr ⟨g, cap, rfl, hg, hn, hm, fun i hi => ?_⟩
    have hcell : ∀ j, j < 5 → ∀ c, (five L[i] us[i])[j]? = some c → w.cell? ⟨g, i * 5 + j, none⟩ = some c := fun j hj c hc => by
      rw [cell_of_row _ _ _ _ _ _ hh]
      have e := opCells_get L us h1 i hi j hj
      rw [← ht, hc, List.getElem?_take, if_pos (by omega)] at e
      simpa using e
    exact ⟨us[i], hcell 1 (by omega) _ rfl, hcell 3 (by omega) _ rfl, (h3 i hi (by omega)).isB⟩

theorem info_op : (Try.prog.info? 35).map (fun i => (i.zero, i.size, i.bytes)) = some (some (.agg #[.int .i64 0, .int .i64 0, .int .i64 0, .slice none 0 0, .slice none 0 0]), 5, 72) := by kernel_rfl
theorem ownsRow_other {B : Nat} {e : TypeId} {s n : Nat} {w w' : World} {v u : Value} {xs : List Value} {e' : TypeId} {s' n' : Nat} {ys : List Value} (h : w.ownsRow B e s u n xs) (hv : w.ownsRow B e' s' v n' ys) (hne : e ≠ e') (hg : w.grownBy w' v.ownBlock) : w'.ownsRow B e s u n xs := by
  obtain ⟨h1, h2⟩ := h
  refine ⟨h1, ?_⟩
  rcases h2 with h2 | ⟨g, cap, cur, hu, hbg, hh, r⟩
  · exact .inl h2
  · refine .inr ⟨g, cap, cur, hu, hbg, ?_, r⟩
    rw [hg.block g (lt_of_heap hh) ?_]
    · exact hh
    · intro e
      rcases hv.2 with ⟨rfl, _⟩ | ⟨g', _, cur', rfl, _, hh', _⟩
      · cases e
      · have : g = g' := by simpa [Value.ownBlock] using e
        subst this
        rw [hh] at hh'
        injection hh' with hh'
        injection hh' with _ hh'
        exact hne hh'
/-- one more gathered -/
theorem LooseAt.snoc {B : Nat} {w : World} {v : Value} {L : List (Nat × List UInt8)} (h : LooseAt B w v L) (hB : B ≤ w.heap.size) (hL : L.length ≤ 1000000) (x : Nat × List UInt8) (u : Value) (hu : Mine 5 B w u x.2) (g : Nat)
    (hg : w.heap[g]? = some (.cells (five x u).toArray 35 (0, 0))) :
    ∃ v' w', (Builtin.append_ #[22, 22] 22 #[v, .slice (some ⟨g, 0, none⟩) 1 1]).run Try.prog w = .ok v' w' ∧ LooseAt B w' v' (L ++ [x]) ∧ Turned (fun k => B ≤ k) w w' := by
  obtain ⟨us, h1, h2, h3⟩ := h
  obtain ⟨i, hi, hz, hs, hb⟩ : ∃ i, Try.prog.info? 35 = some i ∧ i.zero = some (.agg #[.int .i64 0, .int .i64 0, .int .i64 0, .slice none 0 0, .slice none 0 0]) ∧ i.size = 5 ∧ i.bytes = 72 := by
    have h := info_op
    cases hq : Try.prog.info? 35 with
    | none => rw [hq] at h; cases h
    | some i =>
      rw [hq, Option.map_some, Option.some.injEq, Prod.mk.injEq, Prod.mk.injEq] at h
      exact ⟨i, rfl, h⟩
  have hcell : ∀ w' : World, w'.heap = w.heap → ∀ j c, (five x u)[j]? = some c → w'.cell? ((⟨g, 0, none⟩ : Addr).add j) = some c := fun w' hw j c hj => by
    rw [Addr.add_mid, Nat.zero_add, cell_of_row w' _ _ _ _ _ (by rw [hw]; exact hg)]
    simpa using hj
  obtain ⟨ua, uc, hue, _⟩ := id hu.isB
  obtain ⟨v', w', hr, ho, hgr, _, hwh⟩ := run_app (P := Try.prog) w B 22 22 22 35 i _ 5 72 _ Try.underlying22 Try.underlying22 (.inl rfl) hi hz hs hb rfl (by decide) v L.length (opCells L us) h2
    (.slice (some ⟨g, 0, none⟩) 1 1) 1 (five x u) (fun w' => rfl) rfl (fun w' hw => run_firstCells_some (P := Try.prog) w' 5 1 ⟨g, 0, none⟩ 1 1 (five x u) rfl (hcell w' hw)) (by
      intro c hc
      simp only [five, List.mem_cons, List.not_mem_nil, or_false] at hc
      rcases hc with rfl | rfl | rfl | rfl | rfl
      · rfl
      · rfl
      · rfl
      · rw [hue]; rfl
      · rfl) (by simp [maxLen]; omega) (by omega) hB
  refine ⟨v', w', hr, ⟨us ++ [u], by simp [h1], ?_, fun i hi hi' => ?_⟩, hgr.os, hgr.tape, hgr.output, hgr.size, fun k hk hn => hgr.block k hk fun e => hn ?_⟩
  · rw [opCells_snoc L us x u h1, List.length_append]
    exact ho
  · by_cases hil : i < L.length
    · rw [List.getElem_append_left hil, List.getElem_append_left (by omega)]
      exact ownsRow_other (h3 i hil (by omega)) h2 (by decide) hgr
    · have : i = L.length := by simp at hi; omega
      subst this
      rw [List.getElem_append_right (by omega), List.getElem_append_right (by omega)]
      simp only [h1, Nat.sub_self, List.getElem_cons_zero]
      exact ownsRow_other hu h2 (by decide) hgr
  · rcases h2.2 with ⟨rfl, _⟩ | ⟨g', _, _, rfl, hb', _⟩
    · cases e
    · have : k = g' := by simpa [Value.ownBlock] using e
      omega
end Go.Proofs.Ytncoclbmnhbgbaa
