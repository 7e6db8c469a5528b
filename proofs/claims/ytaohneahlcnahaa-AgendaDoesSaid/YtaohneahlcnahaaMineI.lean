/- rows of ints of the call's own; append onto them -/
import Derived.Test.YtaohneahlcnahaaIsI
import Derived.Test.YtaohneahlcnahaaTurned
import Derived.Deep.MidRow
set_option linter.unusedVariables false
set_option linter.unusedSimpArgs false
namespace Go.Proofs.Ytaohneahlcnahaa
open Go.RowKit

theorem info_int : (Try.prog.info? 3).map (fun i => (i.zero, i.size, i.bytes)) = some (some (.int .i64 0), 1, 8) := by kernel_rfl
def iv (zs : List Int) : List Value := zs.map fun n => .int .i64 n
def MineI (base : Nat) (w : World) (v : Value) (zs : List Int) : Prop := w.ownsRow base 3 1 v zs.length (iv zs)
theorem MineI.nil (base : Nat) (w : World) : MineI base w (.slice none 0 0) [] := World.ownsRow_nil w base 3 1
theorem MineI.isI {base : Nat} {w : World} {v : Value} {zs : List Int} (h : MineI base w v zs) : IsI w v zs := by
  rcases h.2 with ⟨rfl, hn⟩ | ⟨g, cap, cur, rfl, hb, hg, hnc, hcm, hcs, htake⟩
  · obtain rfl : zs = [] := List.eq_nil_of_length_eq_zero hn
    exact IsI.nil w
  · refine ⟨some ⟨g, 0, none⟩, cap, rfl, hnc, hcm, fun h => (by cases h), ?_⟩
    rintro x ⟨⟩
    refine ⟨fun _ => rfl, fun i hi => ?_⟩
    rw [cell_of_row _ _ _ _ _ _ hg, Nat.zero_add]
    have e : (iv zs)[i]? = some (.int .i64 zs[i]) := by simp [iv, hi]
    rw [← htake, List.getElem?_take, if_pos (by simpa [iv] using hi)] at e
    simpa using e
theorem MineI.snoc {B : Nat} {w : World} {v : Value} {zs : List Int} (h : MineI B w v zs) (hB : B ≤ w.heap.size) (hL : zs.length ≤ 1000000) (z : Int) (g : Nat) (hg : w.heap[g]? = some (.cells #[.int .i64 z] 3 (0, 0))) :
    ∃ v' w', (Builtin.append_ #[39, 39] 39 #[v, .slice (some ⟨g, 0, none⟩) 1 1]).run Try.prog w = .ok v' w' ∧ MineI B w' v' (zs ++ [z]) ∧ Turned (fun k => B ≤ k) w w' := by
  obtain ⟨i, hi, hz, hs, hb⟩ := info_parts (P := Try.prog) (e := 3) info_int
  have hcell : ∀ w' : World, w'.heap = w.heap → ∀ j c, ([.int .i64 z] : List Value)[j]? = some c → w'.cell? ((⟨g, 0, none⟩ : Addr).add j) = some c := fun w' hw j c hj => by
    rw [Addr.add_mid, Nat.zero_add, cell_of_row w' _ _ _ _ _ (by rw [hw]; exact hg)]
    simpa using hj
  obtain ⟨v', w', hr, ho, hgr, _, _⟩ := run_app (P := Try.prog) w B 39 39 39 3 i _ 1 8 _ Try.underlying39 Try.underlying39 (.inl rfl) hi hz hs hb rfl (by decide) v zs.length (iv zs) h
    (.slice (some ⟨g, 0, none⟩) 1 1) 1 [.int .i64 z] (fun w' => rfl) rfl (fun w' hw => run_firstCells_some (P := Try.prog) w' 1 1 ⟨g, 0, none⟩ 1 1 [.int .i64 z] rfl (hcell w' hw)) (by
      intro c hc
      rw [List.mem_singleton.1 hc]; rfl) (by simp [maxLen]; omega) (by omega) hB
  refine ⟨v', w', hr, ?_, hgr.os, hgr.tape, hgr.output, hgr.size, fun k hk hn => hgr.block k hk fun e => hn ?_⟩
  · unfold MineI
    rw [show iv (zs ++ [z]) = iv zs ++ [.int .i64 z] by simp [iv], List.length_append]
    exact ho
  · rcases h.2 with ⟨rfl, _⟩ | ⟨g', _, _, rfl, hb', _⟩
    · cases e
    · have : k = g' := by simpa [Value.ownBlock] using e
      omega
theorem iv_length (l : List Int) : (iv l).length = l.length := by simp [iv]
theorem iv_append (l r : List Int) : iv (l ++ r) = iv l ++ iv r := by simp [iv]
theorem iv_oneCell (l : List Int) : ∀ u ∈ iv l, u.oneCell' = true := by
  intro u hu
  obtain ⟨_, _, rfl⟩ := List.mem_map.1 hu
  rfl
theorem iv_get (l : List Int) (i : Nat) (h : i < l.length) : (iv l)[i]? = some (.int .i64 l[i]) := by simp [iv, h]
theorem run_firstCells_isI {P : Program} {w : World} {v : Value} {l : List Int} (h : IsI w v l) : ∀ w' : World, w'.heap = w.heap → (Builtin.firstCells 1 l.length v).run P w' = .ok (iv l).toArray w' := by
  intro w' hw
  obtain ⟨a, cap, rfl, hl, hm, hn, hc⟩ := h
  cases a with
  | none =>
    have : l = [] := List.eq_nil_of_length_eq_zero (by have := hn rfl; omega)
    subst this
    simp [Builtin.firstCells, iv]
  | some x =>
    by_cases h0 : l = []
    · subst h0
      simp [Builtin.firstCells, iv, loadCells, loadCellsFrom]
    obtain ⟨b, o, s⟩ := x
    obtain ⟨hs, hc⟩ := hc _ rfl
    obtain rfl : s = none := hs (List.length_pos_iff.2 h0)
    refine run_firstCells_some (P := P) w' 1 l.length _ _ _ (iv l) (by simp [iv]) ?_
    intro j u hj
    have hlt : j < l.length := by have := (List.getElem?_eq_some_iff.1 hj).1; simpa [iv] using this
    rw [iv_get l j hlt] at hj
    obtain rfl := Option.some.inj hj
    rw [Addr.add_lit, World.cell?_of_block (w := w) (by rw [hw])]
    exact hc j hlt
theorem MineI.lit {base : Nat} {w : World} (l : List Int) (hb : base ≤ w.heap.size) (hm : l.length ≤ maxLen) :
    MineI base (w.alloc (.cells (iv l).toArray 3)) (.slice (some ⟨w.heap.size, 0, none⟩) l.length l.length) l := by
  have := World.ownsRow_lit (e := 3) (size := 1) (base := base) w (iv l).toArray l.length hb hm (by simp [iv])
  simpa [MineI] using this
/-- append of what reads as ints onto a row of ints of one's own: the run -/
theorem run_ints (w : World) (base : Nat) (v : Value) (l : List Int) (hown : MineI base w v l) (u : Value) (m : List Int) (hu : IsI w u m) (hlen : l.length + m.length ≤ 17592186044416) (hbase : base ≤ w.heap.size) :
    ∃ v' w', (Builtin.append_ #[39, 39] 39 #[v, u]).run Try.prog w = .ok v' w' ∧ MineI base w' v' (l ++ m) ∧ Below base w w' ∧ w.grownBy w' v.ownBlock ∧ (v' = .slice none 0 0 ↔ v = .slice none 0 0 ∧ m = []) ∧ (v'.ownBlock = v.ownBlock ∨ v'.ownBlock = some w.heap.size) := by
  obtain ⟨i, hi, hz, hs1, hb1⟩ := info_parts (P := Try.prog) (e := 3) info_int
  obtain ⟨v', w', hr, h2, h3, h4, h5⟩ := run_app (P := Try.prog) w base 39 39 39 3 i (.int .i64 0) 1 8 _ Try.underlying39 Try.underlying39 (.inl rfl) hi hz hs1 hb1 rfl (by decide) v l.length (iv l) hown u m.length (iv m)
    (fun w' => by obtain ⟨a, cap, rfl, _⟩ := hu; simp [Builtin.lenOf]) (by simp [iv]) (run_firstCells_isI hu) (iv_oneCell m) (by unfold maxLen; omega) (by omega) hbase
  refine ⟨v', w', hr, ?_, (Below.refl base w).grown h3 hbase fun k hk => (World.ownsRow.lt hown k hk).1, h3, by rw [h4, List.length_eq_zero_iff], h5⟩
  rw [← iv_append, ← List.length_append] at h2
  exact h2
end Go.Proofs.Ytaohneahlcnahaa
