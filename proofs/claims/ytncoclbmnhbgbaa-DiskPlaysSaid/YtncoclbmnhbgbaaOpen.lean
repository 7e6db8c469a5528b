/- What the arguments of the statements read as, and what the bound on them gives. -/
import Derived.Test.YtncoclbmnhbgbaaRows
import Derived.Test.YtncoclbmnhbgbaaKit
import Derived.Deep.Matrix
import Derived.ProofKit
import Derived.OpenShut
import Derived.Deep.DeepHandedRow
import Derived.Lib.LaidTab
import Derived.SizedLaws
set_option linter.unusedVariables false
set_option linter.unusedSimpArgs false
namespace Go.Proofs.Ytncoclbmnhbgbaa
open Go.ChangeShapes Go.WideShapes Go.ChangeAt Go.RowKit Go.Deep

theorem info_slice : (Try.prog.info? 30).map (fun i => i.size) = some 1 := by kernel_rfl
theorem cells_byte : Try.prog.cellsOf 5 = 1 := by kernel_rfl
theorem cells_bytes : Try.prog.cellsOf 30 = 1 := by kernel_rfl
theorem own : ownKnob Try.prog.godebug = none := by kernel_rfl
theorem laidOut : laidOutB Try.prog = true := by kernel_rfl

/-- numbers as bytes -/
def toB (zs : List Int) : List UInt8 := zs.map fun n => UInt8.ofNat n.toNat
theorem toB_length (zs : List Int) : (toB zs).length = zs.length := by simp [toB]
theorem toB_get (zs : List Int) (hw : ∀ n ∈ zs, (Lit.int .u8 n).wf = true) (i : Nat) (h : i < (toB zs).length) : zs.getD i 0 = (((toB zs)[i]).toNat : Int) := by
  have hi : i < zs.length := by simpa [toB] using h
  have e : (toB zs)[i] = UInt8.ofNat (zs[i]).toNat := by simp [toB]
  have hb := hw zs[i] (List.getElem_mem hi)
  simp only [Lit.wf, IntKind.min, IntKind.max, IntKind.signed, IntKind.bits, Bool.and_eq_true, decide_eq_true_eq] at hb
  have h1 : (0 : Int) ≤ zs[i] := by simpa using hb.1
  have h2 : zs[i] ≤ 255 := by simpa using hb.2
  rw [List.getD_eq_getElem?_getD, List.getElem?_eq_getElem hi, Option.getD_some, e, UInt8.toNat_ofNat']
  omega

section
variable {H : Type}
theorem bulk_one_le (d : DataW H) : 1 ≤ Rows.uptoBulk d := by
  cases d with
  | lit l => cases l <;> simp [Rows.uptoBulk]
  | nil => simp [Rows.uptoBulk]
  | ptr d => simp [Rows.uptoBulk]
  | slice elems spare => simp [Rows.uptoBulk]
  | agg parts => simp [Rows.uptoBulk]
  | iface t d => simp [Rows.uptoBulk]
  | map entries => simp [Rows.uptoBulk]
  | held h => simp [Rows.uptoBulk]
theorem bulk_length_le (l : List (DataW H)) : l.length ≤ Rows.uptoBulkAll l := by
  induction l with
  | nil => simp [Rows.uptoBulkAll]
  | cons x r ih => have := bulk_one_le x; simp only [Rows.uptoBulkAll, List.length_cons]; omega
theorem bulk_slice_le (elems spare : List (DataW H)) : elems.length + spare.length + 1 ≤ Rows.uptoBulk (.slice elems spare) := by
  have h1 := bulk_length_le elems
  have h2 := bulk_length_le spare
  simp only [Rows.uptoBulk]
  omega
theorem bulk_bound {l : List (DataW H)} (hk : Rows.uptoSmall H l = true) : Rows.uptoBulkAll l ≤ 1048576 := of_decide_eq_true hk

variable {enc : TypeId × Value → H} {W : World}
/-- a []byte that came in -/
theorem open_b {r : Reach} {b0 : Nat} {v : Value} {d : DataW H} {p : List MemPlace} (hval : Value.okWide Try.prog W r b0 30 v) (hd : DataW.Trod enc Try.prog W 0 (fun _ => true) true 30 v d p) :
    ∃ l, IsB W v l ∧ l.length ≤ Rows.uptoBulk d ∧ ((d = .nil ∧ l = []) ∨ ∃ elems spare, d = .slice elems spare ∧ elems.length = l.length) := by
  obtain ⟨a0, len0, cap0, rfl⟩ := okWide_slice Try.underlying30 hval
  obtain ⟨fuel, hf⟩ := hd
  rcases open_ints Try.underlying30 Try.underlying5 cells_byte hf with ⟨hcs, _⟩ | ⟨x, l, c, zs, hcs, _, hl, hm, hz, hx, hcell, hwz⟩
  · simp [Value.cells] at hcs
    obtain ⟨rfl, rfl, rfl⟩ := hcs
    rename_i hx
    simp only [Prod.mk.injEq] at hx
    exact ⟨[], IsB.nil W, by simp, .inl ⟨hx.1, rfl⟩⟩
  · simp [Value.cells] at hcs
    obtain ⟨rfl, rfl, rfl⟩ := hcs
    simp only [if_true] at hz
    simp only [Prod.mk.injEq] at hx
    have hlen : (toB (zs.take len0)).length = len0 := by rw [toB_length, List.length_take]; omega
    refine ⟨toB (zs.take len0), ⟨some x, cap0, by rw [hlen], by omega, hm, (fun h => (by cases h)), ?_⟩, ?_, .inr ⟨_, _, hx.1, by rw [hlen]; simp [lits]; omega⟩⟩
    · intro y hy
      obtain rfl := Option.some.inj hy
      have hs : 0 < zs.length → x.spot = none := fun hi => by
        have h := hcell 0 hi
        rw [show x.add 0 = x by simp [Addr.add]] at h
        exact World.cell?_spot h
      refine ⟨fun hpos => hs (by rw [hlen] at hpos; omega), fun i hi => ?_⟩
      have hi2 : i < len0 := by rw [hlen] at hi; exact hi
      have h := hcell i (by omega)
      have e := toB_get (zs.take len0) (fun n hn => hwz n (List.mem_of_mem_take hn)) i hi
      rw [← e]
      have e2 : (zs.take len0).getD i 0 = zs.getD i 0 := by
        simp [List.getD_eq_getElem?_getD, List.getElem?_take, hi2]
      rw [e2]
      have hs' := hs (by omega)
      obtain ⟨xb, xo, xs⟩ := x
      obtain rfl : xs = none := hs'
      rw [Addr.add_lit] at h
      exact h
    · rw [hlen, hx.1]
      have h := bulk_slice_le (lits (H := H) .u8 (zs.take len0)) (lits .u8 (zs.drop len0))
      have e : (lits (H := H) .u8 (zs.take len0)).length = len0 := by simp [lits]; omega
      omega
theorem reach_b {ts : List TypeId} {ds : List (DataW H)} {j : Nat} {d : DataW H} {l : List UInt8} (hd : (d = .nil ∧ l = []) ∨ ∃ elems spare, d = .slice elems spare ∧ elems.length = l.length)
    (h : (DataW.weightsEach Try.prog ts ds).all (· ≤ reachBytes) = true) (ht : ts[j]? = some 30) (hj : ds[j]? = some d) : l.length ≤ 140737488351232 := by
  rcases hd with ⟨_, rfl⟩ | ⟨elems, spare, rfl, he⟩
  · simp
  · have h1 := sized_slice h ht hj Try.underlying30
    have e : Try.prog.bytesOf 5 = 1 := by kernel_rfl
    rw [e] at h1
    have e2 : reachBytes = 140737488351232 := rfl
    omega
theorem bulkAll_map {α : Type} (l : List α) (f : α → DataW H) (g : α → Nat) (h : ∀ x ∈ l, g x ≤ Rows.uptoBulk (f x)) : (l.map g).sum ≤ Rows.uptoBulkAll (l.map f) := by
  induction l with
  | nil => simp [Rows.uptoBulkAll]
  | cons x r ih =>
    have h1 := h x (by simp)
    have h2 := ih (fun y hy => h y (by simp [hy]))
    simp only [List.map_cons, List.sum_cons, Rows.uptoBulkAll]
    omega
/-- a [][]byte that came in -/
theorem open_bs {r : Reach} {b0 : Nat} {v : Value} {d : DataW H} {p : List MemPlace} (hval : Value.okWide Try.prog W r b0 68 v) (hd : DataW.Trod enc Try.prog W 0 (fun _ => true) true 68 v d p) :
    ∃ ls, IsBs W v ls ∧ ls.flatten.length + ls.length ≤ Rows.uptoBulk d := by
  obtain ⟨a0, len0, cap0, rfl⟩ := okWide_slice Try.underlying68 hval
  obtain ⟨fuel, hf⟩ := hd
  rcases open_int_rows Try.underlying68 Try.underlying30 Try.underlying5 cells_bytes cells_byte hf with ⟨hcs, _⟩ | ⟨x, len, cap, A, L, C, Z, hcs, _, hl, hm, hx, hr⟩
  · simp [Value.cells] at hcs
    obtain ⟨rfl, rfl, rfl⟩ := hcs
    exact ⟨[], ⟨none, 0, rfl, Nat.le_refl _, by simp [maxLen], fun _ => rfl, fun x h => by cases h⟩, by simp⟩
  · simp [Value.cells] at hcs
    obtain ⟨rfl, rfl, rfl⟩ := hcs
    simp only [Prod.mk.injEq] at hx
    have hspotx : 0 < cap0 → x.spot = none := fun hi => by
      have h := (hr 0 hi).1
      rw [show x.add 0 = x by simp [Addr.add]] at h
      exact World.cell?_spot h
    have hlens : ∀ i, i < cap0 → (toB ((Z i).take (L i))).length = L i := fun i hi => by
      obtain ⟨_, h1, _, h3, _⟩ := hr i hi
      rw [toB_length, List.length_take]; omega
    refine ⟨(List.range len0).map fun i => toB ((Z i).take (L i)), ⟨some x, cap0, by simp, by simpa using hl, hm, (fun h => (by cases h)), ?_⟩, ?_⟩
    · intro y hy
      obtain rfl := Option.some.inj hy
      refine ⟨fun hpos => hspotx (by simp at hpos; omega), fun i hi => ?_⟩
      have hi2 : i < len0 := by simpa using hi
      obtain ⟨hc, h1, h2, h3, h4, h5, h6⟩ := hr i (by omega)
      refine ⟨.slice (A i) (L i) (C i), ?_, ?_⟩
      · have hs' := hspotx (by omega)
        obtain ⟨xb, xo, xs⟩ := x
        obtain rfl : xs = none := hs'
        rw [Addr.add_lit] at hc
        exact hc
      · have e : ((List.range len0).map fun i => toB ((Z i).take (L i)))[i] = toB ((Z i).take (L i)) := by simp
        rw [e]
        have hlen := hlens i (by omega)
        refine ⟨A i, C i, by rw [hlen], by omega, h2, h5, fun y hy => ?_⟩
        obtain ⟨_, h7⟩ := h6 y hy
        have hs : 0 < C i → y.spot = none := fun hi => by
          have h := h7 0 hi
          rw [show y.add 0 = y by simp [Addr.add]] at h
          exact World.cell?_spot h
        refine ⟨fun hpos => hs (by rw [hlen] at hpos; omega), fun j hj => ?_⟩
        have hj2 : j < L i := by rw [hlen] at hj; exact hj
        have h := h7 j (by omega)
        have e := toB_get ((Z i).take (L i)) (fun n hn => h4 n (List.mem_of_mem_take hn)) j hj
        rw [← e]
        have e2 : ((Z i).take (L i)).getD j 0 = (Z i).getD j 0 := by
          simp [List.getD_eq_getElem?_getD, List.getElem?_take, hj2]
        rw [e2]
        have hs' := hs (by omega)
        obtain ⟨xb, xo, xs⟩ := y
        obtain rfl : xs = none := hs'
        rw [Addr.add_lit] at h
        exact h
    · rw [hx.1, List.length_flatten, List.map_map]
      have h1 := bulkAll_map (H := H) (List.range len0) (fun r => intRow .u8 (A r) (L r) (Z r)) (fun i => L i + 1) (fun i hi => by
        have hi2 : i < len0 := by simpa using hi
        obtain ⟨hc, h1, h2, h3, h4, h5, h6⟩ := hr i (by omega)
        unfold intRow
        cases hA : A i with
        | none => have := h5 hA; simp [Rows.uptoBulk]; omega
        | some a =>
          have h := bulk_slice_le (lits (H := H) .u8 ((Z i).take (L i))) (lits .u8 ((Z i).drop (L i)))
          have e : (lits (H := H) .u8 ((Z i).take (L i))).length = L i := by simp [lits]; omega
          simp only
          omega)
      have e1 : (List.range len0).map (List.length ∘ fun i => toB ((Z i).take (L i))) = (List.range len0).map L := by
        apply List.map_congr_left
        intro i hi
        have hi2 : i < len0 := by simpa using hi
        exact hlens i (by omega)
      have e2 : ((List.range len0).map fun i => L i + 1).sum = ((List.range len0).map L).sum + len0 := by
        generalize hR : List.range len0 = R
        have hlR : R.length = len0 := by rw [← hR]; simp
        rw [← hlR]
        clear hR hlR
        induction R with
        | nil => simp
        | cons x r ih => simp only [List.map_cons, List.sum_cons, ih, List.length_cons]; omega
      rw [e1, List.length_map, List.length_range]
      simp only [Rows.uptoBulk]
      omega
end
theorem wf_byte {n : Int} (h : (Lit.int .u8 n).wf = true) : ∃ x : UInt8, n = (x.toNat : Int) := by
  simp only [Lit.wf, IntKind.min, IntKind.max, IntKind.signed, IntKind.bits, Bool.and_eq_true, decide_eq_true_eq] at h
  have h1 : (0 : Int) ≤ n := by simpa using h.1
  have h2 : n ≤ 255 := by simpa using h.2
  refine ⟨UInt8.ofNat n.toNat, ?_⟩
  rw [UInt8.toNat_ofNat']
  omega
theorem wf_int64 {n : Int} (h : (Lit.int .i64 n).wf = true) : -9223372036854775808 ≤ n ∧ n ≤ 9223372036854775807 := by
  simp only [Lit.wf, IntKind.min, IntKind.max, IntKind.signed, IntKind.bits, Bool.and_eq_true, decide_eq_true_eq] at h
  exact ⟨by simpa using h.1, by simpa using h.2⟩
end Go.Proofs.Ytncoclbmnhbgbaa
