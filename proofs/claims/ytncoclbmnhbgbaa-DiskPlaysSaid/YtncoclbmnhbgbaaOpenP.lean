/- How much the inner slices of a []Op that came in may hold. -/
import Derived.Test.YtncoclbmnhbgbaaOpenD
import Derived.SizedLaws
set_option linter.unusedVariables false
set_option linter.unusedSimpArgs false
namespace Go.Proofs.Ytncoclbmnhbgbaa
open Go.ChangeShapes Go.WideShapes Go.ChangeAt Go.RowKit Go.Deep

section
variable {H : Type} {enc : TypeId × Value → H} {W : World}
/-- each weight within the reach -/
def Light (t : TypeId) (d : DataW H) : Prop := ∀ n ∈ d.weights Try.prog t, n ≤ reachBytes
theorem light_len {t e : TypeId} {n m k c : Nat} {a : Option Addr} {y : DataW H × List MemPlace} (hu : Try.prog.underlying t = some (.slice e)) (hb : Try.prog.bytesOf e = k)
    (h : DataW.trod enc Try.prog W 0 (fun _ => true) true n t [.slice a m c] = some y) (hl : Light t y.1) : m * k ≤ 140737488351232 := by
  rcases open_slice hu h with ⟨hcs, _⟩ | ⟨a', len, cap, m', n', D, Pl, hcs, _, _, _, _, hx, _⟩
  · simp only [List.cons.injEq, and_true, Value.slice.injEq] at hcs
    obtain ⟨_, rfl, _⟩ := hcs
    omega
  · simp only [List.cons.injEq, and_true, Value.slice.injEq] at hcs
    obtain ⟨_, rfl, _⟩ := hcs
    subst hx
    have h1 := hl _ (by simp only [DataW.weights, hu]; exact List.mem_cons_self)
    rw [hb] at h1
    have e2 : reachBytes = 140737488351232 := rfl
    simp only [List.length_map, List.length_range, Nat.add_mul] at h1
    omega
theorem light_op {n : Nat} {x : OpV} {y : DataW H × List MemPlace} (hx : x.Ok W) (h : DataW.trod enc Try.prog W 0 (fun _ => true) true n 35 [x.cell 0, x.cell 1, x.cell 2, x.cell 3, x.cell 4] = some y) (hl : Light 35 y.1) :
    x.b.length ≤ 140737488351232 ∧ x.stay.length ≤ 17592186043904 := by
  obtain ⟨xs, m, _, rfl, _, hxl, hf⟩ := DataW.trod_struct Try.underlying35 h
  have hx3 : ∃ y, xs[3]? = some y := ⟨_, List.getElem?_eq_getElem (by rw [hxl]; decide)⟩
  have hx4 : ∃ y, xs[4]? = some y := ⟨_, List.getElem?_eq_getElem (by rw [hxl]; decide)⟩
  have f3 := hf 3 _ rfl
  have f4 := hf 4 _ rfl
  simp [cells_int, cells_ints, cells_bytes] at f3 f4
  obtain ⟨y3, e3⟩ := hx3
  obtain ⟨y4, e4⟩ := hx4
  rw [e3] at f3
  rw [e4] at f4
  have l3 : Light 30 y3.1 := fun k hk => hl k (by
    simp only [DataW.weights, Try.underlying35]
    exact DataW.weights_mem_each (j := 3) rfl (by simp [e3]) k hk)
  have l4 : Light 23 y4.1 := fun k hk => hl k (by
    simp only [DataW.weights, Try.underlying35]
    exact DataW.weights_mem_each (j := 4) rfl (by simp [e4]) k hk)
  obtain ⟨ab, cb, eb, _⟩ := hx.isB
  obtain ⟨ai, ci, ei, _⟩ := hx.isI
  have f3' : DataW.trod enc Try.prog W 0 (fun _ => true) true m 30 [x.bw] = some y3 := f3
  have f4' : DataW.trod enc Try.prog W 0 (fun _ => true) true m 23 [x.sw] = some y4 := f4
  rw [eb] at f3'
  rw [ei] at f4'
  have r3 := light_len Try.underlying30 (show Try.prog.bytesOf 5 = 1 by kernel_rfl) f3' l3
  have r4 := light_len Try.underlying23 (show Try.prog.bytesOf 3 = 8 by kernel_rfl) f4' l4
  exact ⟨by omega, by omega⟩
theorem light_all {P : Program} {e : TypeId} {D : List (DataW H)} {i : Nat} {d : DataW H} (hd : D[i]? = some d) (k : Nat) (hk : k ∈ d.weights P e) : k ∈ DataW.weightsAll P e D := by
  induction D generalizing i with
  | nil => cases hd
  | cons x r ih =>
    simp only [DataW.weightsAll, List.mem_append]
    cases i with
    | zero =>
      simp only [List.getElem?_cons_zero, Option.some.injEq] at hd
      subst hd
      exact .inl hk
    | succ i => exact .inr (ih (by simpa using hd))
/-- the inner slices of a []Op that came in -/
theorem light_o {v : Value} {d : DataW H} {p : List MemPlace} {L : List OpV} (hv : IsO W v L) (hd : DataW.Trod enc Try.prog W 0 (fun _ => true) true 22 v d p) (hl : Light 22 d) :
    ∀ y ∈ L, y.b.length ≤ 140737488351232 ∧ y.stay.length ≤ 17592186043904 := by
  obtain ⟨fuel, hf⟩ := hd
  obtain ⟨a0, cap0, rfl, h1, h2, h3, hc⟩ := hv
  intro y hy
  obtain ⟨i, hi, rfl⟩ := List.getElem_of_mem hy
  rcases open_slice Try.underlying22 hf with ⟨hcs, _⟩ | ⟨a, len, cap, m, n, D, Pl, hcs, hb, hlc, hm, hmm, hx, hel⟩
  · simp only [Value.cells, List.cons.injEq, and_true, Value.slice.injEq] at hcs
    omega
  · simp only [Value.cells, List.cons.injEq, and_true, Value.slice.injEq] at hcs
    obtain ⟨rfl, hlen, rfl⟩ := hcs
    simp only [if_true] at hmm
    rw [cells_op] at hel
    simp only [Prod.mk.injEq] at hx
    obtain ⟨hsp, hcl⟩ := hc a rfl
    obtain ⟨hcell, hok⟩ := hcl i hi
    obtain ⟨cs, hcs2, ht⟩ := hel i (by omega)
    obtain ⟨_, hlcs, hat⟩ := World.cells?_some hcs2
    have hs := hsp (by omega)
    obtain ⟨xb, xo, xs⟩ := a
    obtain rfl : xs = none := hs
    have hcs5 : cs = [L[i].cell 0, L[i].cell 1, L[i].cell 2, L[i].cell 3, L[i].cell 4] := by
      have hget : ∀ j, j < 5 → cs[j]? = some (L[i].cell j) := fun j hj => by
        have r1 := hat j hj
        rw [Go.Deep.add_add, Addr.add_lit] at r1
        have r2 := hcell j hj
        rw [Nat.add_assoc] at r2
        rw [r2] at r1
        exact r1.symm
      apply List.ext_getElem?
      intro j
      rcases Nat.lt_or_ge j 5 with hj | hj
      · rw [hget j hj]
        rcases (show j = 0 ∨ j = 1 ∨ j = 2 ∨ j = 3 ∨ j = 4 by omega) with rfl | rfl | rfl | rfl | rfl <;> rfl
      · rw [List.getElem?_eq_none (by omega), List.getElem?_eq_none (by simpa using hj)]
    rw [hcs5] at ht
    refine light_op hok ht fun k hk => hl k ?_
    rw [hx.1]
    simp only [DataW.weights, Try.underlying22]
    refine List.mem_cons_of_mem _ (List.mem_append_left _ (light_all (i := i) (d := D i) ?_ k hk))
    simp [show i < len by omega]
theorem light_arg {ts : List TypeId} {ds : List (DataW H)} {j : Nat} {t : TypeId} {d : DataW H} (h : (DataW.weightsEach Try.prog ts ds).all (· ≤ reachBytes) = true) (ht : ts[j]? = some t) (hj : ds[j]? = some d) : Light t d := fun n hn => by
  have := List.all_eq_true.1 h n (DataW.weights_mem_each ht hj n hn)
  simpa using this
end
end Go.Proofs.Ytncoclbmnhbgbaa
