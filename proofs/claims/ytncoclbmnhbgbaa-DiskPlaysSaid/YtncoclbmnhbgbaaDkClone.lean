/- slices.Clone of a row of sectors. -/
import Derived.Test.YtncoclbmnhbgbaaDkNew
set_option linter.unusedVariables false
set_option linter.unusedSimpArgs false
namespace Go.Proofs.Ytncoclbmnhbgbaa
open Go.RowKit

theorem wpList_append_run {ops : Array Oper} {w w' : World} {Q : Exit → Act → World → Prop} {a : Act} {o : Oper} {rest : List Oper} (hg : o.guard = none) (s x : Operand) (t t' : TypeId) (ho : o.op = .call { callee := .builtin .append, args := #[s, x], argTypes := #[t, t'] }) (u v r : Value)
    (hs : a.eval s = u) (hx : a.eval x = v) (hr : (Builtin.append_ #[t, t'] o.type #[u, v]).run Try.prog w = .ok r w') (h : wpList Try.prog ops Q rest (a.put o.dst r) w') : wpList Try.prog ops Q (o :: rest) a w := by
  refine wpList_plain hg fun K hK => ?_
  unfold Oper.wp execOp
  simp only [ho, resolve, invoke, builtin, Sem.run_bind, Sem.run_pure, Result.andThen_ok, List.map_toArray, List.map_cons, List.map_nil, hs, hx, hr]
  exact hK _ _ h

set_option maxHeartbeats 4000000 in
theorem cloneS_any (w : World) (g cap n : Nat) (l : List UInt8) (h : Sects w g cap n l) (h1 : 1 ≤ n) (h2 : n ≤ 16384) :
    Calls Try.prog 26 #[.slice (some ⟨g, 0, none⟩) n cap] w fun e w' => ∃ g' cap', e = .returned (.slice (some ⟨g', 0, none⟩) n cap') ∧ Sects w' g' cap' n l ∧ w.heap.size ≤ g' ∧ Below w.heap.size w w' := by
  have hnl := fun (w : World) (a : Option Addr) (n c : Nat) => Lib.run_eql_slice_nil (P := Try.prog) w 57 63 a n c 0 0 Try.underlying57
  have hbs : ∀ w : World, (Instr.buildSlice 57 0 #[]).run Try.prog w = .ok (.slice (some ⟨w.heap.size, 0, none⟩) 0 0) (w.alloc (.cells #[] 63)) := fun w => by kernel_rfl
  obtain ⟨i, hi, hz, hs, hb⟩ : ∃ i, Try.prog.info? 63 = some i ∧ i.zero = some (.agg (List.replicate 128 (.int .u8 0)).toArray) ∧ i.size = 128 ∧ i.bytes = 128 := by
    have h : (Try.prog.info? 63).map (fun i => (i.zero, i.size, i.bytes)) = some (some (.agg (List.replicate 128 (.int .u8 0)).toArray), 128, 128) := by kernel_rfl
    cases hq : Try.prog.info? 63 with
    | none => rw [hq] at h; cases h
    | some i =>
      rw [hq, Option.map_some, Option.some.injEq, Prod.mk.injEq, Prod.mk.injEq] at h
      exact ⟨i, rfl, h⟩
  have hcl := h.cells
  obtain ⟨cur, hg, hn, hm, hsz, hl, ht⟩ := id h
  have hlt := lt_of_heap hg
  have W1 : ∃ W1, W1 = w.alloc (.cells #[] 63) := ⟨_, rfl⟩
  obtain ⟨W1, hW1⟩ := W1
  have hown : W1.ownsRow w.heap.size 63 128 (.slice (some ⟨w.heap.size, 0, none⟩) 0 0) 0 [] := by
    rw [hW1]
    exact ⟨rfl, .inr ⟨w.heap.size, 0, #[], rfl, Nat.le_refl _, heap_alloc_new w _, Nat.le_refl _, by simp [maxLen], rfl, rfl⟩⟩
  have hb1 : Below w.heap.size w W1 := by rw [hW1]; exact (Below.refl _ _).alloc (Nat.le_refl _) _
  have hcl1 : ∀ w' : World, w'.heap = W1.heap → ∀ j v, (bv l)[j]? = some v → w'.cell? ((⟨g, 0, none⟩ : Addr).add j) = some v := fun w' hw j v hj => by
    have e := hcl j v hj
    have hblk : ((⟨g, 0, none⟩ : Addr).add j).block = g := by rw [Addr.add_mid]
    have : w'.cell? ((⟨g, 0, none⟩ : Addr).add j) = W1.cell? ((⟨g, 0, none⟩ : Addr).add j) := by simp only [World.cell?, hw]
    rw [this, hb1.cell (by rw [hblk]; exact hlt)]
    exact e
  obtain ⟨v', W2, hr, ho2, hgr, hnil, hwhere⟩ := run_app (P := Try.prog) W1 w.heap.size 57 57 57 63 i _ 128 128 _ Try.underlying57 Try.underlying57 (.inl rfl) hi hz hs hb (by simp [Value.cells]) (by decide) _ 0 [] hown
    (.slice (some ⟨g, 0, none⟩) n cap) n (bv l) (fun w' => rfl) (by rw [bv_length, hl]) (fun w' hw => run_firstCells_some (P := Try.prog) w' 128 n ⟨g, 0, none⟩ n cap (bv l) (by rw [bv_length, hl]) (hcl1 w' hw)) (bv_oneCell l) (by simp [maxLen]; omega) (by omega) hb1.size
  rw [Nat.zero_add, List.nil_append] at ho2
  have hb2 : Below w.heap.size w W2 := hb1.grown hgr hb1.size (fun k hk => by simp only [Value.ownBlock, Option.some.injEq] at hk; omega)
  obtain ⟨ho2l, ho2r⟩ := ho2
  rcases ho2r with ⟨_, h0⟩ | ⟨g', cap', cur', rfl, hbg, hh, hnc, hcm, hcs, htk⟩
  · omega
  have hfin : Sects W2 g' cap' n l := ⟨cur', hh, hnc, hcm, hcs, hl, by rw [hl]; exact htk⟩
  clear hnil hwhere ho2l hh hcs htk hgr hown hcl1 hcl
  subst hW1
  go_enter Try.func26, Try.ntmps26
  go_wp2_with (at_builtin; refine wpList_append_run rfl (.tmp 5) (.tmp 6) 57 57 rfl _ _ _ rfl rfl hr ?_; clear hr)
  go_ret
  exact ⟨g', cap', rfl, hfin, hbg, hb2⟩
end Go.Proofs.Ytncoclbmnhbgbaa
