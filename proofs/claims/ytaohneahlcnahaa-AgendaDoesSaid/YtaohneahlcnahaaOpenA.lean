/- What the arguments of the agenda's statements read as: ints, slices of Op. -/
import Derived.Test.YtaohneahlcnahaaRows
import Derived.Test.YtaohneahlcnahaaOps3
import Derived.Deep.Matrix
import Derived.Deep.Slices
import Derived.Deep.Fields
import Derived.ProofKit
import Derived.OpenShut
import Derived.Deep.DeepHandedRow
import Derived.Lib.LaidTab
import Derived.SizedLaws
set_option linter.unusedVariables false
set_option linter.unusedSimpArgs false
namespace Go.Proofs.Ytaohneahlcnahaa
open Go.ChangeShapes Go.WideShapes Go.ChangeAt Go.RowKit Go.Deep

theorem own : ownKnob Try.prog.godebug = none := by kernel_rfl
theorem laidOut : laidOutB Try.prog = true := by kernel_rfl
theorem cells_int : Try.prog.cellsOf 3 = 1 := by kernel_rfl
theorem cells_op : Try.prog.cellsOf 25 = 3 := by kernel_rfl
theorem wf_int64 {n : Int} (h : (Lit.int .i64 n).wf = true) : -9223372036854775808 ≤ n ∧ n ≤ 9223372036854775807 := by
  simp only [Lit.wf, IntKind.min, IntKind.max, IntKind.signed, IntKind.bits, Bool.and_eq_true, decide_eq_true_eq] at h
  exact ⟨by simpa using h.1, by simpa using h.2⟩
section
variable {H : Type} {enc : TypeId × Value → H} {W : World}
def O3.Ok (x : O3) : Prop := (-9223372036854775808 ≤ x.k ∧ x.k ≤ 9223372036854775807) ∧ (-9223372036854775808 ≤ x.d ∧ x.d ≤ 9223372036854775807) ∧ (-9223372036854775808 ≤ x.n ∧ x.n ≤ 9223372036854775807)
/-- one Op -/
theorem op_of_trod {n : Nat} {cs : List Value} {y : DataW H × List MemPlace} (h : DataW.trod enc Try.prog W 0 (fun _ => true) true n 25 cs = some y) : ∃ x : O3, cs = ov1 x ∧ x.Ok := by
  obtain ⟨xs, m, _, _, hl, hxl, hf⟩ := DataW.trod_struct Try.underlying25 h
  rw [cells_op] at hl
  match cs, hl with
  | [c0, c1, c2], _ =>
    have hx : ∀ j, j < 3 → ∃ y, xs[j]? = some y := fun j hj => ⟨_, List.getElem?_eq_getElem (by rw [hxl]; exact hj)⟩
    have f0 := hf 0 _ rfl
    have f1 := hf 1 _ rfl
    have f2 := hf 2 _ rfl
    simp [cells_int] at f0 f1 f2
    obtain ⟨y0, e0⟩ := hx 0 (by omega)
    obtain ⟨y1, e1⟩ := hx 1 (by omega)
    obtain ⟨y2, e2⟩ := hx 2 (by omega)
    rw [e0] at f0
    rw [e1] at f1
    rw [e2] at f2
    obtain ⟨n0, h0, _, w0⟩ := DataW.trod_int Try.underlying3 f0
    obtain ⟨n1, h1, _, w1⟩ := DataW.trod_int Try.underlying3 f1
    obtain ⟨n2, h2, _, w2⟩ := DataW.trod_int Try.underlying3 f2
    simp only [List.cons.injEq, and_true] at h0 h1 h2
    exact ⟨⟨n0, n1, n2⟩, by rw [h0, h1, h2]; rfl, wf_int64 w0, wf_int64 w1, wf_int64 w2⟩
/-- a []Op that came in -/
theorem open_p {r : Reach} {b0 : Nat} {v : Value} {d : DataW H} {p : List MemPlace} (hval : Value.okWide Try.prog W r b0 22 v) (hd : DataW.Trod enc Try.prog W 0 (fun _ => true) true 22 v d p) : ∃ L, IsP W v L ∧ ∀ x ∈ L, x.Ok := by
  obtain ⟨a0, len0, cap0, rfl⟩ := okWide_slice Try.underlying22 hval
  obtain ⟨fuel, hf⟩ := hd
  rcases open_slice Try.underlying22 hf with ⟨hcs, _⟩ | ⟨a, len, cap, m, n, D, Pl, hcs, hb, hl, hm, hmm, hx, hi⟩
  · simp only [Value.cells, List.cons.injEq, and_true, Value.slice.injEq] at hcs
    obtain ⟨rfl, rfl, rfl⟩ := hcs
    exact ⟨[], IsP.nil W, fun x hx => by cases hx⟩
  · simp only [Value.cells, List.cons.injEq, and_true, Value.slice.injEq] at hcs
    obtain ⟨rfl, rfl, rfl⟩ := hcs
    simp only [if_true] at hmm
    rw [cells_op] at hi
    have hex : ∀ i : Nat, ∃ x : O3, i < len0 → (∀ j, j < 3 → ∃ u, (ov1 x)[j]? = some u ∧ W.cell? (a.add (i * 3 + j)) = some u) ∧ x.Ok := by
      intro i
      by_cases h : i < len0
      · obtain ⟨cs, hc, ht⟩ := hi i (by omega)
        obtain ⟨x, rfl, hx⟩ := op_of_trod ht
        obtain ⟨_, _, hat⟩ := World.cells?_some hc
        refine ⟨x, fun _ => ⟨fun j hj => ?_, hx⟩⟩
        have := hat j hj
        rw [Go.Deep.add_add] at this
        exact ⟨(ov1 x)[j]'(by simp [ov1]; exact hj), List.getElem?_eq_getElem _, this.trans (List.getElem?_eq_getElem _)⟩
      · exact ⟨⟨0, 0, 0⟩, fun h' => absurd h' h⟩
    obtain ⟨f, hf⟩ := Classical.axiomOfChoice hex
    have hlen : ((List.range len0).map f).length = len0 := by simp
    refine ⟨(List.range len0).map f, ⟨some a, cap0, by rw [hlen], by omega, hm, (fun h => (by cases h)), ?_⟩, ?_⟩
    · intro y hy
      obtain rfl := Option.some.inj hy
      have hs : 0 < len0 → a.spot = none := fun h0 => by
        obtain ⟨u, _, h⟩ := (hf 0 h0).1 0 (by omega)
        rw [show a.add (0 * 3 + 0) = a by simp [Addr.add]] at h
        exact World.cell?_spot h
      refine ⟨fun hpos => hs (by rw [hlen] at hpos; omega), fun i hi' => ?_⟩
      have hi2 : i < len0 := by rw [hlen] at hi'; exact hi'
      have hs' := hs (by omega)
      obtain ⟨xb, xo, xs⟩ := a
      obtain rfl : xs = none := hs'
      simp only [List.getElem_map, List.getElem_range]
      obtain ⟨u0, r0, h0⟩ := (hf i hi2).1 0 (by omega)
      obtain ⟨u1, r1, h1⟩ := (hf i hi2).1 1 (by omega)
      obtain ⟨u2, r2, h2⟩ := (hf i hi2).1 2 (by omega)
      rw [Addr.add_lit] at h0 h1 h2
      simp only [ov1, List.getElem?_cons_zero, List.getElem?_cons_succ, Option.some.injEq] at r0 r1 r2
      subst r0 r1 r2
      exact ⟨h0, by rw [Nat.add_assoc]; exact h1, by rw [Nat.add_assoc]; exact h2⟩
    · intro x hx
      obtain ⟨i, hi, rfl⟩ := List.mem_map.1 hx
      exact (hf i (by simpa using hi)).2
end
end Go.Proofs.Ytaohneahlcnahaa
