/- append onto a slice that is the head of its block, the block's mark whatever, so the cells behind the elements are not frozen. -/
import Derived.Test.YteeenihhehmmoaaDoorKit
import Derived.Deep.AppendSrc
import Derived.Lib.EndianMore
set_option linter.unusedVariables false
set_option linter.unusedSimpArgs false
namespace Go.Proofs.YteeenihhehmmoaaDoor
open Go.RowKit

section
variable {P : Program}
theorem IsB.src {w : World} {u : Value} {m : List UInt8} (hu : IsB w u m) {t e : TypeId} (ht : P.underlying t = some (.slice e)) (size : Nat) (h : size = 1) : Src P size t u m.length (bv m) w := by
  subst h
  refine ⟨.inl ⟨e, ht⟩, fun w' => ?_, run_firstCells_isB hu w rfl, run_firstCells_isB hu w.drew rfl, by simp [bv], bv_oneCell m⟩
  obtain ⟨a, cap, rfl, _⟩ := hu
  simp [Builtin.lenOf]

theorem wpList_app_any {w : World} {ops : Array Oper} {rest : List Oper} {o : Oper} {a : Act} {Q : Exit → Act → World → Prop} (hgd : o.guard = none) (s x : Operand) (t : TypeId)
    (ho : o.op = .call { callee := .builtin .append, args := #[s, x], argTypes := #[t, t] })
    (base : Nat) (e : TypeId) (hP : (P.info? e).map (fun i => (i.zero, i.size, i.bytes)) = some (some (.int .u8 0), 1, 1)) (ht : P.underlying t = some (.slice e))
    (g n cap : Nat) (l : List UInt8) (hs : a.eval s = .slice (some ⟨g, 0, none⟩) n cap) (hv : IsB w (.slice (some ⟨g, 0, none⟩) n cap) l)
    (hg : base ≤ g) (hfree : ∀ j, n ≤ j → j < cap → (w.cell? ⟨g, j, none⟩).isSome = true ∧ w.frozen? ⟨g, j, none⟩ = false)
    (u : Value) (m : List UInt8) (hx : a.eval x = u) (hu : IsB w u m)
    (hlen : l.length + m.length ≤ 140737488355328) (hbase : base ≤ w.heap.size)
    (h : ∀ v' w', IsB w' v' (l ++ m) → Below base w w' → wpList P ops Q rest (a.put o.dst v') w') : wpList P ops Q (o :: rest) a w := by
  obtain ⟨i, hi, hz, hs1, hb1⟩ := info_parts hP
  have hsrc := hu.src (P := P) ht i.size hs1
  obtain ⟨a', cap', hv', hlc, hm, hnil, hc⟩ := id hv
  simp only [Value.slice.injEq] at hv'
  obtain ⟨rfl, rfl, rfl⟩ := hv'
  obtain ⟨hsp, hcells⟩ := hc _ rfl
  simp only [Nat.zero_add] at hcells
  refine wpList_plain hgd fun K hK => ?_
  unfold Oper.wp execOp
  simp only [ho, resolve, invoke, builtin, Sem.run_bind, Sem.run_pure, Result.andThen_ok, List.map_toArray, List.map_cons, List.map_nil, hs, hx]
  by_cases hroom : l.length + m.length ≤ cap
  · have hc1 : ∀ j, j < (bv m).length → (w.cell? ⟨g, 0 + l.length * i.size + j, none⟩).isSome = true := fun j hj => by
      rw [bv_length] at hj
      rw [hs1, Nat.mul_one, Nat.zero_add]
      exact (hfree (l.length + j) (by omega) (by omega)).1
    have hf1 : ∀ j, j < (bv m).length → w.frozen? ⟨g, 0 + l.length * i.size + j, none⟩ = false := fun j hj => by
      rw [bv_length] at hj
      rw [hs1, Nat.mul_one, Nat.zero_add]
      exact (hfree (l.length + j) (by omega) (by omega)).2
    rw [run_append_room_src w t t o.type e i ht hi g 0 l.length cap u m.length (bv m) hsrc hroom hc1 hf1]
    simp only [Result.andThen_ok]
    rw [hs1, Nat.mul_one, Nat.zero_add] at hc1 ⊢
    refine hK _ _ (h _ _ ⟨_, cap, by rw [List.length_append], by rw [List.length_append]; exact hroom, hm, fun h => (by cases h), ?_⟩ (Lib.below_setCells_w hg _ _ _))
    rintro y ⟨⟩
    refine ⟨fun _ => rfl, fun i hi => ?_⟩
    simp only [Nat.zero_add]
    by_cases hil : i < l.length
    · rw [World.cell?_setCells_out _ _ _ _ _ (by simp; omega), hcells i hil, List.getElem_append_left hil]
    · rw [List.length_append] at hi
      have h2 := World.cell?_setCells_in g (bv m) l.length w hc1 (i - l.length) (by rw [bv_length]; omega)
      rw [show l.length + (i - l.length) = i by omega] at h2
      rw [h2, List.getElem_append_right (by omega)]
      simp [bv]
  · have hold : (Builtin.firstCells i.size l.length (.slice (some ⟨g, 0, none⟩) l.length cap)).run P w.drew = .ok (bv l).toArray w.drew := by
      rw [hs1]
      exact run_firstCells_isB hv w.drew rfl
    have hfit : Builtin.nextslicecap (l.length + m.length) cap * i.bytes ≤ 281474976710656 := growslice_fits (by omega) (by rw [hb1]; omega)
    rw [run_append_grow_src w t t o.type e i (.int .u8 0) ht hi hz (some ⟨g, 0, none⟩) l.length cap (bv l) hold u m.length (bv m) hsrc (by omega) (by omega) hfit]
    simp only [Result.andThen_ok]
    have hge := grownCap_ge w (l.length + m.length) cap e
    have hcm : grownCap w (l.length + m.length) cap e ≤ maxLen := grownCap_le_maxLen w (l.length + m.length) cap e (by unfold maxLen; omega)
    generalize grownCap w (l.length + m.length) cap e = C at *
    refine hK _ _ (h _ _ ⟨_, C, by rw [List.length_append], by rw [List.length_append]; exact hge, hcm, fun h => (by cases h), ?_⟩ (((Below.refl _ _).drew).alloc hbase _))
    rintro y ⟨⟩
    refine ⟨fun _ => rfl, fun i hi => ?_⟩
    simp only [Nat.zero_add]
    have hat : (w.drew.alloc (.cells ((bv l ++ bv m).toArray ++ Builtin.zeroCells (Value.int .u8 0).cells (C - (l.length + m.length))) e)).heap[w.heap.size]? = some (.cells ((bv l ++ bv m).toArray ++ Builtin.zeroCells (Value.int .u8 0).cells (C - (l.length + m.length))) e) := heap_alloc_new w.drew _
    rw [cell_of_row _ _ _ _ _ _ hat, Array.getElem?_append_left (by simp [bv]; simpa using hi)]
    have := bv_get (l ++ m) i hi
    rw [bv_append] at this
    simpa using this
/-- of []byte(s) the cells behind the text may be written -/
theorem conv_free {w : World} {g : Nat} {s : ByteArray} {cap : Nat} {e : TypeId} (hc : s.size ≤ cap)
    (h : w.heap[g]? = some (.cells (bytesRow s cap) e ((bytesRow s cap).size, (bytesRow s cap).size + 1))) :
    ∀ j, s.size ≤ j → j < cap → (w.cell? ⟨g, j, none⟩).isSome = true ∧ w.frozen? ⟨g, j, none⟩ = false := by
  intro j h1 h2
  have hs : s.data.size = s.size := rfl
  have hsz : (bytesRow s cap).size = cap := by simp [bytesRow]; omega
  rw [hsz] at h
  refine ⟨?_, ?_⟩
  · rw [cell_of_row _ _ _ _ _ _ h, Array.getElem?_eq_getElem (by rw [hsz]; exact h2)]
    rfl
  · simp only [World.frozen?, h, Bool.and_eq_false_iff, decide_eq_false_iff_not]
    left
    omega
end
end Go.Proofs.YteeenihhehmmoaaDoor
