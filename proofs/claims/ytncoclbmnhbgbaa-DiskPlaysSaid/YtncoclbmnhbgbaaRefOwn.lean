/- The document's disk: its rows grown. -/
import Derived.Test.YtncoclbmnhbgbaaRefRead
set_option linter.unusedVariables false
set_option linter.unusedSimpArgs false
namespace Go.Proofs.Ytncoclbmnhbgbaa
open Go.RowKit

theorem info_bytes1 : (Try.prog.info? 30).map (fun i => (i.zero, i.size, i.bytes)) = some (some (.slice none 0 0), 1, 24) := by kernel_rfl
theorem info_loose : (Try.prog.info? 76).map (fun i => (i.zero, i.size, i.bytes)) = some (some (.agg #[.int .i64 0, .slice none 0 0]), 2, 32) := by kernel_rfl
theorem ownsRow_kind {B : Nat} {e : TypeId} {s n : Nat} {w : World} {v : Value} {xs : List Value} (h : w.ownsRow B e s v n xs) {k : Nat} (hk : some k = v.ownBlock) : B ≤ k ∧ ∃ c, w.heap[k]? = some (.cells c e (0, 0)) := by
  rcases h.2 with ⟨rfl, _⟩ | ⟨g, _, cur, rfl, hb, hh, _⟩
  · cases hk
  · have : k = g := by simpa [Value.ownBlock] using hk
    subst this
    exact ⟨hb, cur, hh⟩
/-- the rows of other kinds lie as they lay -/
def Others (e : TypeId) (w w' : World) : Prop := ∀ (k : Nat) (c : Array Value) (e' : TypeId) (fr : Nat × Nat), w.heap[k]? = some (Obj.cells c e' fr) → e' ≠ e → w'.heap[k]? = w.heap[k]?
theorem others_own {B : Nat} {e : TypeId} {s n : Nat} {w w' : World} {v : Value} {xs : List Value} (h : w.ownsRow B e s v n xs) (hgr : w.grownBy w' v.ownBlock) : Others e w w' := by
  intro k c e' fr hk he
  refine hgr.block k (lt_of_heap hk) fun e1 => he ?_
  obtain ⟨_, c', hc⟩ := ownsRow_kind h e1
  rw [hk] at hc
  injection hc with hc; injection hc
theorem SafeAt.snoc {B : Nat} {w : World} {v : Value} {n : Nat} {f : Nat → List UInt8} (h : SafeAt B w v n f) (hB : B ≤ w.heap.size) (hn : n ≤ 1000000) (u : Value) (hu : Mine 5 B w u (f n)) (g : Nat) (hg : w.heap[g]? = some (.cells #[u] 30 (0, 0))) :
    ∃ v' w', (Builtin.append_ #[68, 68] 68 #[v, .slice (some ⟨g, 0, none⟩) 1 1]).run Try.prog w = .ok v' w' ∧ SafeAt B w' v' (n + 1) f ∧ Turned (RT B w) w w' ∧ Others 30 w w' := by
  obtain ⟨us, h1, h2, h3⟩ := h
  obtain ⟨i, hi, hz, hs, hb⟩ := info_parts (P := Try.prog) (e := 30) info_bytes1
  have hcell : ∀ w' : World, w'.heap = w.heap → ∀ j c, ([u] : List Value)[j]? = some c → w'.cell? ((⟨g, 0, none⟩ : Addr).add j) = some c := fun w' hw j c hj => by
    rw [Addr.add_mid, Nat.zero_add, cell_of_row w' _ _ _ _ _ (by rw [hw]; exact hg)]
    simpa using hj
  obtain ⟨ua, uc, hue, _⟩ := id hu.isB
  obtain ⟨v', w', hr, ho, hgr, _, _⟩ := run_app (P := Try.prog) w B 68 68 68 30 i _ 1 24 _ Try.underlying68 Try.underlying68 (.inl rfl) hi hz hs hb rfl (by decide) v n us h2
    (.slice (some ⟨g, 0, none⟩) 1 1) 1 [u] (fun w' => rfl) rfl (fun w' hw => run_firstCells_some (P := Try.prog) w' 1 1 ⟨g, 0, none⟩ 1 1 [u] rfl (hcell w' hw)) (by
      intro c hc
      rw [List.mem_singleton.1 hc, hue]; rfl) (by simp [maxLen]; omega) (by omega) hB
  refine ⟨v', w', hr, ⟨us ++ [u], by simp [h1], ho, fun j hj => ?_⟩, ⟨hgr.os, hgr.tape, hgr.output, hgr.size, fun k hk hn => hgr.block k hk fun e => hn ?_⟩, others_own h2 hgr⟩
  · by_cases hjl : j < us.length
    · rw [List.getElem_append_left hjl]
      exact ownsRow_other (h3 j hjl) h2 (by decide) hgr
    · have : j = us.length := by simp at hj; omega
      subst this
      rw [List.getElem_append_right (by omega)]
      simp only [Nat.sub_self, List.getElem_cons_zero]
      rw [h1]
      exact ownsRow_other hu h2 (by decide) hgr
  · obtain ⟨hb', c, hc⟩ := ownsRow_kind h2 e
    exact ⟨hb', c, _, _, hc, .inr (.inl rfl)⟩
theorem LAt.snoc {B : Nat} {w : World} {v : Value} {L : List (Nat × List UInt8)} (h : LAt B w v L) (hB : B ≤ w.heap.size) (hL : L.length ≤ 1048576) (x : Nat × List UInt8) (u : Value) (hu : Mine 5 B w u x.2) (g : Nat)
    (hg : w.heap[g]? = some (.cells (two x u).toArray 76 (0, 0))) :
    ∃ v' w', (Builtin.append_ #[69, 69] 69 #[v, .slice (some ⟨g, 0, none⟩) 1 1]).run Try.prog w = .ok v' w' ∧ LAt B w' v' (L ++ [x]) ∧ Turned (RT B w) w w' ∧ Others 76 w w' := by
  obtain ⟨us, h1, h2, h3⟩ := h
  obtain ⟨i, hi, hz, hs, hb⟩ : ∃ i, Try.prog.info? 76 = some i ∧ i.zero = some (.agg #[.int .i64 0, .slice none 0 0]) ∧ i.size = 2 ∧ i.bytes = 32 := by
    have h := info_loose
    cases hq : Try.prog.info? 76 with
    | none => rw [hq] at h; cases h
    | some i =>
      rw [hq, Option.map_some, Option.some.injEq, Prod.mk.injEq, Prod.mk.injEq] at h
      exact ⟨i, rfl, h⟩
  have hcell : ∀ w' : World, w'.heap = w.heap → ∀ j c, (two x u)[j]? = some c → w'.cell? ((⟨g, 0, none⟩ : Addr).add j) = some c := fun w' hw j c hj => by
    rw [Addr.add_mid, Nat.zero_add, cell_of_row w' _ _ _ _ _ (by rw [hw]; exact hg)]
    simpa using hj
  obtain ⟨ua, uc, hue, _⟩ := id hu.isB
  obtain ⟨v', w', hr, ho, hgr, _, _⟩ := run_app (P := Try.prog) w B 69 69 69 76 i _ 2 32 _ Try.underlying69 Try.underlying69 (.inl rfl) hi hz hs hb rfl (by decide) v L.length (twoCells L us) h2
    (.slice (some ⟨g, 0, none⟩) 1 1) 1 (two x u) (fun w' => rfl) rfl (fun w' hw => run_firstCells_some (P := Try.prog) w' 2 1 ⟨g, 0, none⟩ 1 1 (two x u) rfl (hcell w' hw)) (by
      intro c hc
      simp only [two, List.mem_cons, List.not_mem_nil, or_false] at hc
      rcases hc with rfl | rfl
      · rfl
      · rw [hue]; rfl) (by simp [maxLen]; omega) (by omega) hB
  refine ⟨v', w', hr, ⟨us ++ [u], by simp [h1], ?_, fun j hj hj' => ?_⟩, ⟨hgr.os, hgr.tape, hgr.output, hgr.size, fun k hk hn => hgr.block k hk fun e => hn ?_⟩, others_own h2 hgr⟩
  · rw [twoCells_snoc L us x u h1, List.length_append]
    exact ho
  · by_cases hjl : j < L.length
    · rw [List.getElem_append_left hjl, List.getElem_append_left (by omega)]
      exact ownsRow_other (h3 j hjl (by omega)) h2 (by decide) hgr
    · have : j = L.length := by simp at hj; omega
      subst this
      rw [List.getElem_append_right (by omega), List.getElem_append_right (by omega)]
      simp only [h1, Nat.sub_self, List.getElem_cons_zero]
      exact ownsRow_other hu h2 (by decide) hgr
  · obtain ⟨hb', c, hc⟩ := ownsRow_kind h2 e
    exact ⟨hb', c, _, _, hc, .inr (.inr rfl)⟩
theorem SafeAt.others {B : Nat} {w w' : World} {v : Value} {n : Nat} {f : Nat → List UInt8} (h : SafeAt B w v n f) {T : TypeId} (ho : Others T w w') (h1 : T ≠ 30) (h2 : T ≠ 5) : SafeAt B w' v n f := by
  obtain ⟨us, e1, e2, e3⟩ := h
  exact ⟨us, e1, ownsRow_block e2 (fun k c fr _ hk => ho k c _ fr hk h1.symm), fun j hj => ownsRow_block (e3 j hj) (fun k c fr _ hk => ho k c _ fr hk h2.symm)⟩
theorem LAt.others {B : Nat} {w w' : World} {v : Value} {L : List (Nat × List UInt8)} (h : LAt B w v L) {T : TypeId} (ho : Others T w w') (h1 : T ≠ 76) (h2 : T ≠ 5) : LAt B w' v L := by
  obtain ⟨us, e1, e2, e3⟩ := h
  exact ⟨us, e1, ownsRow_block e2 (fun k c fr _ hk => ho k c _ fr hk h1.symm), fun j hj hj' => ownsRow_block (e3 j hj hj') (fun k c fr _ hk => ho k c _ fr hk h2.symm)⟩
theorem others_set {w : World} {p : Nat} {c : Array Value} {e : TypeId} {fr : Nat × Nat} (hp : w.heap[p]? = some (.cells c e fr)) (i : Nat) (v : Value) : Others e w (w.setCell ⟨p, i, none⟩ v) := fun k c' e' fr' hk he => by
  refine Below.heap_setCell _ _ _ _ fun hkp => ?_
  rw [show (⟨p, i, none⟩ : Addr).block = p from rfl] at hkp
  rw [hkp, hp] at hk; injection hk with hk; injection hk with _ hk; exact he hk.symm
theorem SafeAt.congr {B : Nat} {w : World} {v : Value} {n : Nat} {f f' : Nat → List UInt8} (h : SafeAt B w v n f) (hf : ∀ i, i < n → f' i = f i) : SafeAt B w v n f' := by
  obtain ⟨us, e1, e2, e3⟩ := h
  exact ⟨us, e1, e2, fun i hi => by rw [hf i (by omega)]; exact e3 i hi⟩
/-- a sector more, and its cell stored -/
theorem RefAt.snocSafe {B : Nat} {w : World} {p : Nat} {D : Dk} {aS : Option Addr} {cS : Nat} {aL : Option Addr} {cL : Nat}
    (low : B ≤ p) (hp : w.heap[p]? = some (.cells #[.slice aS D.n cS, .slice aL D.hung.length cL, .int .i64 (D.ops : Int), .int .i64 D.cut, .bool D.off] 71 (0, 0)))
    (hS : SafeAt B w (.slice aS D.n cS) D.n (sec D.safe)) (hL : LAt B w (.slice aL D.hung.length cL) D.hung) (hn : D.n ≤ 1000000)
    (D' : Dk) (e1 : D'.n = D.n + 1) (e2 : ∀ i, i < D.n → sec D'.safe i = sec D.safe i) (e3 : D'.hung = D.hung) (e4 : D'.ops = D.ops) (e5 : D'.cut = D.cut) (e6 : D'.off = D.off)
    (u : Value) (hu : Mine 5 B w u (sec D'.safe D.n)) (g : Nat) (hg : w.heap[g]? = some (.cells #[u] 30 (0, 0))) :
    ∃ a' c' w', (Builtin.append_ #[68, 68] 68 #[.slice aS D.n cS, .slice (some ⟨g, 0, none⟩) 1 1]).run Try.prog w = .ok (.slice a' (D.n + 1) c') w' ∧
      (∃ c, w'.cell? ⟨p, 0, none⟩ = some c) ∧ w'.frozen? ⟨p, 0, none⟩ = false ∧ RefAt B (w'.setCell ⟨p, 0, none⟩ (.slice a' (D.n + 1) c')) p D' ∧ Turned (RT B w) w (w'.setCell ⟨p, 0, none⟩ (.slice a' (D.n + 1) c')) := by
  have hsz : B ≤ w.heap.size := Nat.le_of_lt (Nat.lt_of_le_of_lt low (lt_of_heap hp))
  obtain ⟨v', w', hr, hs', ht, ho⟩ := (hS.congr e2).snoc hsz hn u hu g hg
  obtain ⟨a', c', rfl, _⟩ := hs'.shape
  have hp' : w'.heap[p]? = _ := (ho p _ _ _ hp (by decide)).trans hp
  have ho2 := others_set hp' 0 (.slice a' (D.n + 1) c')
  refine ⟨a', c', w', hr, ⟨_, by rw [cell_of_row _ _ _ _ _ _ hp']; rfl⟩, frozen_p hp' 0, ?_, ?_⟩
  · refine ⟨low, .slice a' (D.n + 1) c', .slice aL D.hung.length cL, ?_, ?_, ?_⟩
    · rw [e4, e5, e6]
      exact head_setCell hp' _
    · rw [e1]
      exact hs'.others ho2 (by decide) (by decide)
    · rw [e3]
      exact (hL.others ho (by decide) (by decide)).others ho2 (by decide) (by decide)
  · refine ht.rt ⟨rfl, rfl, rfl, by simp [World.setCell], fun k hk hn => Below.heap_setCell _ _ _ _ (fun e => hn ?_)⟩
    have e' : k = p := e
    subst e'
    exact ⟨low, _, _, _, hp', .inl rfl⟩
/-- a loose write more, and its cell stored -/
theorem RefAt.snocLoose {B : Nat} {w : World} {p : Nat} {D : Dk} {aS : Option Addr} {cS : Nat} {aL : Option Addr} {cL : Nat}
    (low : B ≤ p) (hp : w.heap[p]? = some (.cells #[.slice aS D.n cS, .slice aL D.hung.length cL, .int .i64 (D.ops : Int), .int .i64 D.cut, .bool D.off] 71 (0, 0)))
    (hS : SafeAt B w (.slice aS D.n cS) D.n (sec D.safe)) (hL : LAt B w (.slice aL D.hung.length cL) D.hung) (hn : D.hung.length ≤ 1048576)
    (x : Nat × List UInt8) (D' : Dk) (e1 : D'.n = D.n) (e2 : D'.safe = D.safe) (e3 : D'.hung = D.hung ++ [x]) (e4 : D'.ops = D.ops) (e5 : D'.cut = D.cut) (e6 : D'.off = D.off)
    (u : Value) (hu : Mine 5 B w u x.2) (g : Nat) (hg : w.heap[g]? = some (.cells (two x u).toArray 76 (0, 0))) :
    ∃ a' c' w', (Builtin.append_ #[69, 69] 69 #[.slice aL D.hung.length cL, .slice (some ⟨g, 0, none⟩) 1 1]).run Try.prog w = .ok (.slice a' (D.hung.length + 1) c') w' ∧
      (∃ c, w'.cell? ⟨p, 1, none⟩ = some c) ∧ w'.frozen? ⟨p, 1, none⟩ = false ∧ RefAt B (w'.setCell ⟨p, 1, none⟩ (.slice a' (D.hung.length + 1) c')) p D' ∧ Turned (RT B w) w (w'.setCell ⟨p, 1, none⟩ (.slice a' (D.hung.length + 1) c')) := by
  have hsz : B ≤ w.heap.size := Nat.le_of_lt (Nat.lt_of_le_of_lt low (lt_of_heap hp))
  obtain ⟨v', w', hr, hs', ht, ho⟩ := hL.snoc hsz hn x u hu g hg
  obtain ⟨a', c', rfl, _⟩ := hs'.shape
  rw [List.length_append] at *
  have hp' : w'.heap[p]? = _ := (ho p _ _ _ hp (by decide)).trans hp
  have ho2 := others_set hp' 1 (.slice a' (D.hung.length + 1) c')
  refine ⟨a', c', w', hr, ⟨_, by rw [cell_of_row _ _ _ _ _ _ hp']; rfl⟩, frozen_p hp' 1, ?_, ?_⟩
  · refine ⟨low, .slice aS D.n cS, .slice a' (D.hung.length + 1) c', ?_, ?_, ?_⟩
    · rw [e4, e5, e6]
      exact head_setCell hp' _
    · rw [e1, e2]
      exact (hS.others ho (by decide) (by decide)).others ho2 (by decide) (by decide)
    · rw [e3]
      exact hs'.others ho2 (by decide) (by decide)
  · refine ht.rt ⟨rfl, rfl, rfl, by simp [World.setCell], fun k hk hn => Below.heap_setCell _ _ _ _ (fun e => hn ?_)⟩
    have e' : k = p := e
    subst e'
    exact ⟨low, _, _, _, hp', .inl rfl⟩
/-- append of what reads as bytes onto a row of bytes of one's own: the run -/
theorem run_bytes (w : World) (base : Nat) (v : Value) (l : List UInt8) (hown : Mine 5 base w v l) (u : Value) (m : List UInt8) (hu : IsB w u m) (hlen : l.length + m.length ≤ 140737488355328) (hbase : base ≤ w.heap.size) :
    ∃ v' w', (Builtin.append_ #[30, 30] 30 #[v, u]).run Try.prog w = .ok v' w' ∧ Mine 5 base w' v' (l ++ m) ∧ Below base w w' ∧ w.grownBy w' v.ownBlock := by
  obtain ⟨i, hi, hz, hs1, hb1⟩ := info_parts (P := Try.prog) (e := 5) info_byte
  obtain ⟨v', w', hr, h2, h3, h4, h5⟩ := run_app (P := Try.prog) w base 30 30 30 5 i (.int .u8 0) 1 1 _ Try.underlying30 Try.underlying30 (.inl rfl) hi hz hs1 hb1 rfl (by decide) v l.length (bv l) hown u m.length (bv m)
    (fun w' => by obtain ⟨a, cap, rfl, _⟩ := hu; simp [Builtin.lenOf]) (by simp [bv]) (run_firstCells_isB hu) (bv_oneCell m) (by unfold maxLen; omega) (by omega) hbase
  refine ⟨v', w', hr, ?_, (Below.refl base w).grown h3 hbase fun k hk => (hown.lt k hk).1, h3⟩
  rw [← bv_append, ← List.length_append] at h2
  exact h2
/-- a copy of what reads as bytes -/
theorem run_copy (w : World) (u : Value) (m : List UInt8) (hu : IsB w u m) (hlen : m.length ≤ 140737488355328) :
    ∃ a c w', (Builtin.append_ #[30, 30] 30 #[.slice none 0 0, u]).run Try.prog w = .ok (.slice a m.length c) w' ∧ Mine 5 w.heap.size w' (.slice a m.length c) m ∧ Below w.heap.size w w' := by
  obtain ⟨v', w', hr, h2, h3, h4⟩ := run_bytes w w.heap.size (.slice none 0 0) [] (Mine.nil _ _ _) u m hu (by simpa using hlen) (Nat.le_refl _)
  rw [List.nil_append] at h2
  obtain ⟨a, c, rfl, _⟩ := id h2.isB
  exact ⟨a, c, w', hr, h2, h3⟩
/-- an append whose run is known, as a step of a drawn region -/
theorem step_append_run {ops : Array Oper} {w w' : World} {K : Act → World → Prop} {Q : Exit → Act → World → Prop} {a : Act} {o : Oper} {E : Prop} (hg : o.guard = none) (s x : Operand) (t t' : TypeId) (ho : o.op = .call { callee := .builtin .append, args := #[s, x], argTypes := #[t, t'] }) (u v r : Value)
    (hs : a.eval s = u) (hx : a.eval x = v) (hr : (Builtin.append_ #[t, t'] o.type #[u, v]).run Try.prog w = .ok r w') (h : K (a.put o.dst r) w') : if Region.wanted o (yielded ops a.tmps) = true then Oper.wp Try.prog o a w K Q else E := by
  rw [if_pos (by simp [Region.wanted, hg])]
  unfold Oper.wp execOp
  simp only [ho, resolve, invoke, builtin, Sem.run_bind, Sem.run_pure, Result.andThen_ok, List.map_toArray, List.map_cons, List.map_nil, hs, hx, hr]
  exact h
end Go.Proofs.Ytncoclbmnhbgbaa
