/- What the arguments of the disk's statements read as: ints, slices of ints, slices of Op. -/
import Derived.Test.YtncoclbmnhbgbaaOpen
import Derived.Test.YtncoclbmnhbgbaaOps
import Derived.Deep.Slices
import Derived.Deep.Fields
set_option linter.unusedVariables false
set_option linter.unusedSimpArgs false
namespace Go.Proofs.Ytncoclbmnhbgbaa
open Go.ChangeShapes Go.WideShapes Go.ChangeAt Go.RowKit Go.Deep

theorem cells_int : Try.prog.cellsOf 3 = 1 := by kernel_rfl
theorem cells_op : Try.prog.cellsOf 35 = 5 := by kernel_rfl
theorem cells_ints : Try.prog.cellsOf 23 = 1 := by kernel_rfl
section
variable {H : Type} {enc : TypeId × Value → H} {W : World}
theorem i_of_trod {n : Nat} {v : Value} {y : DataW H × List MemPlace} (h : DataW.trod enc Try.prog W 0 (fun _ => true) true n 23 [v] = some y) : ∃ zs, IsI W v zs ∧ ∀ z ∈ zs, -9223372036854775808 ≤ z ∧ z ≤ 9223372036854775807 := by
  rcases open_ints Try.underlying23 Try.underlying3 cells_int h with ⟨hcs, _⟩ | ⟨x, len, cap, zs, hcs, _, hl, hm, hz, hx, hcell, hwz⟩
  · simp only [List.cons.injEq, and_true] at hcs
    exact ⟨[], by rw [hcs]; exact IsI.nil W, fun z hz => (by cases hz)⟩
  · simp only [List.cons.injEq, and_true] at hcs
    simp only [if_true] at hz
    have hlen : (zs.take len).length = len := by rw [List.length_take]; omega
    refine ⟨zs.take len, ⟨some x, cap, by rw [hcs, hlen], by omega, hm, (fun h => (by cases h)), ?_⟩, fun z hz => wf_int64 (hwz z (List.mem_of_mem_take hz))⟩
    intro y hy
    obtain rfl := Option.some.inj hy
    have hs : 0 < zs.length → x.spot = none := fun hi => by
      have h := hcell 0 hi
      rw [show x.add 0 = x by simp [Addr.add]] at h
      exact World.cell?_spot h
    refine ⟨fun hpos => hs (by rw [hlen] at hpos; omega), fun i hi => ?_⟩
    have hi2 : i < len := by rw [hlen] at hi; exact hi
    have h := hcell i (by omega)
    have hs' := hs (by omega)
    obtain ⟨xb, xo, xs⟩ := x
    obtain rfl : xs = none := hs'
    rw [Addr.add_lit] at h
    rw [h, List.getElem_take, List.getD_eq_getElem?_getD, List.getElem?_eq_getElem (by omega)]
    rfl
theorem b_of_trod {n : Nat} {v : Value} {y : DataW H × List MemPlace} (h : DataW.trod enc Try.prog W 0 (fun _ => true) true n 30 [v] = some y) : ∃ l, IsB W v l := by
  rcases open_ints Try.underlying30 Try.underlying5 cells_byte h with ⟨hcs, _⟩ | ⟨x, len, cap, zs, hcs, _, hl, hm, hz, hx, hcell, hwz⟩
  · simp only [List.cons.injEq, and_true] at hcs
    exact ⟨[], by rw [hcs]; exact IsB.nil W⟩
  · simp only [List.cons.injEq, and_true] at hcs
    simp only [if_true] at hz
    have hlen : (toB (zs.take len)).length = len := by rw [toB_length, List.length_take]; omega
    refine ⟨toB (zs.take len), some x, cap, by rw [hcs, hlen], by omega, hm, (fun h => (by cases h)), ?_⟩
    intro y hy
    obtain rfl := Option.some.inj hy
    have hs : 0 < zs.length → x.spot = none := fun hi => by
      have h := hcell 0 hi
      rw [show x.add 0 = x by simp [Addr.add]] at h
      exact World.cell?_spot h
    refine ⟨fun hpos => hs (by rw [hlen] at hpos; omega), fun i hi => ?_⟩
    have hi2 : i < len := by rw [hlen] at hi; exact hi
    have h := hcell i (by omega)
    have e := toB_get (zs.take len) (fun n hn => hwz n (List.mem_of_mem_take hn)) i hi
    rw [← e]
    have e2 : (zs.take len).getD i 0 = zs.getD i 0 := by
      simp [List.getD_eq_getElem?_getD, List.getElem?_take, hi2]
    rw [e2]
    have hs' := hs (by omega)
    obtain ⟨xb, xo, xs⟩ := x
    obtain rfl : xs = none := hs'
    rw [Addr.add_lit] at h
    exact h
/-- a []int that came in -/
theorem open_i {r : Reach} {b0 : Nat} {v : Value} {d : DataW H} {p : List MemPlace} (hval : Value.okWide Try.prog W r b0 23 v) (hd : DataW.Trod enc Try.prog W 0 (fun _ => true) true 23 v d p) :
    ∃ zs, IsI W v zs ∧ ∀ z ∈ zs, -9223372036854775808 ≤ z ∧ z ≤ 9223372036854775807 := by
  obtain ⟨a0, len0, cap0, rfl⟩ := okWide_slice Try.underlying23 hval
  obtain ⟨fuel, hf⟩ := hd
  exact i_of_trod hf
/-- one Op -/
theorem op_of_trod {n : Nat} {cs : List Value} {y : DataW H × List MemPlace} (h : DataW.trod enc Try.prog W 0 (fun _ => true) true n 35 cs = some y) : ∃ x : OpV, cs = [x.cell 0, x.cell 1, x.cell 2, x.cell 3, x.cell 4] ∧ x.Ok W := by
  obtain ⟨xs, m, _, _, hl, hxl, hf⟩ := DataW.trod_struct Try.underlying35 h
  rw [cells_op] at hl
  match cs, hl with
  | [c0, c1, c2, c3, c4], _ =>
    have hx : ∀ j, j < 5 → ∃ y, xs[j]? = some y := fun j hj => ⟨_, List.getElem?_eq_getElem (by rw [hxl]; exact hj)⟩
    have f0 := hf 0 _ rfl
    have f1 := hf 1 _ rfl
    have f2 := hf 2 _ rfl
    have f3 := hf 3 _ rfl
    have f4 := hf 4 _ rfl
    simp [cells_int, cells_ints, cells_bytes] at f0 f1 f2 f3 f4
    obtain ⟨y0, e0⟩ := hx 0 (by omega)
    obtain ⟨y1, e1⟩ := hx 1 (by omega)
    obtain ⟨y2, e2⟩ := hx 2 (by omega)
    obtain ⟨y3, e3⟩ := hx 3 (by omega)
    obtain ⟨y4, e4⟩ := hx 4 (by omega)
    rw [e0] at f0
    rw [e1] at f1
    rw [e2] at f2
    rw [e3] at f3
    rw [e4] at f4
    obtain ⟨n0, h0, _, w0⟩ := DataW.trod_int Try.underlying3 f0
    obtain ⟨n1, h1, _, w1⟩ := DataW.trod_int Try.underlying3 f1
    obtain ⟨n2, h2, _, w2⟩ := DataW.trod_int Try.underlying3 f2
    obtain ⟨l, hb⟩ := b_of_trod f3
    obtain ⟨zs, hi, _⟩ := i_of_trod f4
    simp only [List.cons.injEq, and_true] at h0 h1 h2
    refine ⟨⟨n0, n1, n2, c3, l, c4, zs⟩, by rw [h0, h1, h2]; rfl, (wf_int64 w0).1, (wf_int64 w0).2, (wf_int64 w1).1, (wf_int64 w1).2, (wf_int64 w2).1, (wf_int64 w2).2, hb, hi⟩
/-- a []Op that came in -/
theorem open_o {r : Reach} {b0 : Nat} {v : Value} {d : DataW H} {p : List MemPlace} (hval : Value.okWide Try.prog W r b0 22 v) (hd : DataW.Trod enc Try.prog W 0 (fun _ => true) true 22 v d p) : ∃ L, IsO W v L := by
  obtain ⟨a0, len0, cap0, rfl⟩ := okWide_slice Try.underlying22 hval
  obtain ⟨fuel, hf⟩ := hd
  rcases open_slice Try.underlying22 hf with ⟨hcs, _⟩ | ⟨a, len, cap, m, n, D, Pl, hcs, hb, hl, hm, hmm, hx, hi⟩
  · simp only [Value.cells, List.cons.injEq, and_true, Value.slice.injEq] at hcs
    obtain ⟨rfl, rfl, rfl⟩ := hcs
    exact ⟨[], none, 0, rfl, Nat.le_refl _, by simp [maxLen], fun _ => rfl, fun x h => by cases h⟩
  · simp only [Value.cells, List.cons.injEq, and_true, Value.slice.injEq] at hcs
    obtain ⟨rfl, rfl, rfl⟩ := hcs
    simp only [if_true] at hmm
    rw [cells_op] at hi
    have hex : ∀ i : Nat, ∃ x : OpV, i < len0 → (∀ j, j < 5 → W.cell? (a.add (i * 5 + j)) = some (x.cell j)) ∧ x.Ok W := by
      intro i
      by_cases h : i < len0
      · obtain ⟨cs, hc, ht⟩ := hi i (by omega)
        obtain ⟨x, rfl, hx⟩ := op_of_trod ht
        obtain ⟨_, _, hat⟩ := World.cells?_some hc
        refine ⟨x, fun _ => ⟨fun j hj => ?_, hx⟩⟩
        have := hat j hj
        rw [Go.Deep.add_add] at this
        rw [this]
        rcases (show j = 0 ∨ j = 1 ∨ j = 2 ∨ j = 3 ∨ j = 4 by omega) with rfl | rfl | rfl | rfl | rfl <;> rfl
      · exact ⟨⟨0, 0, 0, undef, [], undef, []⟩, fun h' => absurd h' h⟩
    obtain ⟨f, hf⟩ := Classical.axiomOfChoice hex
    have hlen : ((List.range len0).map f).length = len0 := by simp
    refine ⟨(List.range len0).map f, some a, cap0, by rw [hlen], by omega, hm, (fun h => (by cases h)), ?_⟩
    intro y hy
    obtain rfl := Option.some.inj hy
    have hs : 0 < len0 → a.spot = none := fun h0 => by
      have h := (hf 0 h0).1 0 (by omega)
      rw [show a.add (0 * 5 + 0) = a by simp [Addr.add]] at h
      exact World.cell?_spot h
    refine ⟨fun hpos => hs (by rw [hlen] at hpos; omega), fun i hi' => ?_⟩
    have hi2 : i < len0 := by rw [hlen] at hi'; exact hi'
    have hs' := hs (by omega)
    obtain ⟨xb, xo, xs⟩ := a
    obtain rfl : xs = none := hs'
    simp only [List.getElem_map, List.getElem_range]
    refine ⟨fun j hj => ?_, (hf i hi2).2⟩
    have h := (hf i hi2).1 j hj
    rw [Addr.add_lit] at h
    rw [Nat.add_assoc]
    exact h
end
end Go.Proofs.Ytncoclbmnhbgbaa
