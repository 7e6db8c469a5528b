/- The disk's Flush. -/
import Derived.Test.YtncoclbmnhbgbaaDkRead
import Derived.Laws.AppendOwn
set_option linter.unusedVariables false
set_option linter.unusedSimpArgs false
namespace Go.Proofs.Ytncoclbmnhbgbaa
open Go.RowKit

/-- Flush: what it answers, and what is behind it -/
def Dk.flush (D : Dk) : Int × Dk :=
  if D.gone then (43, { D with off := true })
  else if 1048576 ≤ D.ops then (44, { D with off := false })
  else (0, { D with off := false, safe := D.now, hung := [], ops := D.ops + 1 })

theorem Sects.cells {w : World} {g cap n : Nat} {l : List UInt8} (h : Sects w g cap n l) : ∀ j v, (bv l)[j]? = some v → w.cell? ((⟨g, 0, none⟩ : Addr).add j) = some v := by
  obtain ⟨cur, hg, hn, hm, hs, hl, ht⟩ := h
  intro j v hj
  have e : (⟨g, 0, none⟩ : Addr).add j = ⟨g, 0 + j, none⟩ := Addr.add_mid g 0 j
  rw [e, Nat.zero_add, cell_of_row _ _ _ _ _ _ hg]
  have hjl : j < l.length := by
    have := (List.getElem?_eq_some_iff.1 hj).1
    simpa [bv] using this
  rw [← ht, List.getElem?_take, if_pos hjl] at hj
  simpa using hj
theorem Sects.lay {w : World} {g cap n : Nat} {l l' : List UInt8} (h : Sects w g cap n l) (hl' : l'.length = n * 128) : Sects (w.setCells g 0 (bv l')) g cap n l' := by
  obtain ⟨cur, hg, hn, hm, hs, hl, ht⟩ := h
  have hbl : (bv l').length = n * 128 := by rw [bv_length, hl']
  have hc : n * 128 ≤ cap * 128 := Nat.mul_le_mul_right _ hn
  obtain ⟨cur', h1, h2⟩ := setCells_heap g 63 (bv l') 0 w cur hg (by omega)
  refine ⟨cur', h1, hn, hm, ?_, hl', ?_⟩
  · rw [← Array.length_toList, h2]
    simp only [List.length_append, List.length_take, List.length_drop, hbl, Array.length_toList]
    omega
  · rw [h2, List.take_zero, List.nil_append, List.take_append_of_le_length (by omega), List.take_of_length_le (by omega)]
theorem run_copy_sects {w : World} {S cS N cN n : Nat} {l l' : List UInt8} (hS : Sects w S cS n l) (hN : Sects w N cN n l') (ty : TypeId) :
    (Builtin.copy_ #[57, 57] ty #[.slice (some ⟨S, 0, none⟩) n cS, .slice (some ⟨N, 0, none⟩) n cN]).run Try.prog w = .ok (.int .i64 (n : Int)) (w.setCells S 0 (bv l')) := by
  have hl : (bv l').length = n * 128 := by
    obtain ⟨_, _, _, _, _, hl, _⟩ := hN
    rw [bv_length, hl]
  have hfc := run_firstCells_some (P := Try.prog) w 128 n ⟨N, 0, none⟩ n cN (bv l') hl hN.cells
  obtain ⟨cur, hg, hn, hm, hs, _, _⟩ := hS
  have hc : n * 128 ≤ cS * 128 := Nat.mul_le_mul_right _ hn
  have hst := run_storeCells_cells (P := Try.prog) S 0 (bv l') 0 w (fun j hj => by rw [cell_of_row _ _ _ _ _ _ hg, Array.getElem?_eq_getElem (by omega)]; rfl) (fun j hj => frozen_p hg _) (bv_oneCell l')
  have hsz : ∀ w, (sizeOf 63).run Try.prog w = .ok 128 w := fun w => by kernel_rfl
  have hlo : ∀ w : World, (Builtin.lenOf (.slice (some ⟨N, 0, none⟩) n cN)).run Try.prog w = .ok n w := fun w => rfl
  simp only [Nat.add_zero] at hst
  unfold Builtin.copy_
  simp [run_underlying Try.underlying57, hsz, hlo, hfc, hst, goInt, Nat.min_self]
theorem run_clear_hung {w : World} {M : Nat} {L : List (Nat × List UInt8)} (h : Hung w M L) : ∃ w', (∀ ty, (Builtin.clear_ #[58] ty #[.map (some M)]).run Try.prog w = .ok (.tuple #[]) w') ∧ Hung w' M [] ∧ (∀ j, j ≠ M → w'.heap[j]? = w.heap[j]?) ∧ Turned (· = M) w w' := by
  obtain ⟨es, cl, hm, hl, he⟩ := h
  refine ⟨{ w with heap := w.heap.setIfInBounds M (.map #[] cl) }, fun ty => ?_, ⟨[], cl, (MapKept.heap_set hm).1, rfl, fun i hi => by simp at hi⟩, fun j hj => (MapKept.heap_set hm).2 j hj, rfl, rfl, rfl, by simp, fun j _ hn => (MapKept.heap_set hm).2 j hn⟩
  unfold Builtin.clear_
  simp [run_underlying Try.underlying58, MapKept.run_getObj_map hm, MapKept.run_setObj_map _ hm]
theorem turned_safe (w : World) (F : Ft) (o : Nat) (vs : List Value) : Turned F.has w (w.setCells F.S o vs) := by
  obtain ⟨h1, h2, h3, h4⟩ := setCells_rest F.S vs o w
  exact ⟨h1, h2, h3, Nat.le_of_eq h4.symm, fun k hk hn => setCells_other F.S vs o w k (fun e => hn (.inr (.inl e)))⟩
theorem DkAt.lay_safe {w : World} {F : Ft} {D : Dk} (h : DkAt w F D) (l : List UInt8) (hl : l.length = D.n * 128) : DkAt (w.setCells F.S 0 (bv l)) F { D with safe := l } := by
  have f := h.ft
  have ho : ∀ j, j ≠ F.S → (w.setCells F.S 0 (bv l)).heap[j]? = w.heap[j]? := fun j hj => setCells_other _ _ _ _ _ hj
  exact ⟨f, ⟨h.ok.n1, h.ok.nm, hl, h.ok.now, h.ok.hung, h.ok.loose, h.ok.ops, h.ok.c1, h.ok.c2⟩, (ho _ f.pS).trans h.head, h.safe.lay hl, by unfold Sects; rw [ho _ f.SN.symm]; exact h.now, by unfold Hung; rw [ho _ f.SM.symm]; exact h.hung⟩
theorem DkAt.clear_hung {w w' : World} {F : Ft} {D : Dk} (h : DkAt w F D) (hH : Hung w' F.M []) (hw : ∀ j, j ≠ F.M → w'.heap[j]? = w.heap[j]?) : DkAt w' F { D with hung := [] } := by
  have f := h.ft
  exact ⟨f, ⟨h.ok.n1, h.ok.nm, h.ok.safe, h.ok.now, fun x hx => (by cases hx), Nat.zero_le _, h.ok.ops, h.ok.c1, h.ok.c2⟩, (hw _ f.pM).trans h.head, by unfold Sects; rw [hw _ f.SM]; exact h.safe, by unfold Sects; rw [hw _ f.NM]; exact h.now, hH⟩

set_option maxHeartbeats 4000000 in
theorem flush_any (w : World) (F : Ft) (D : Dk) (h : DkAt w F D) :
    Calls Try.prog 17 #[F.ptr] w fun e w' => e = .returned (.int .i64 D.flush.1) ∧ DkAt w' F D.flush.2 ∧ Turned F.has w w' := by
  by_cases hg : D.gone = true
  · have e1 : D.flush = (43, { D with off := true }) := by simp [Dk.flush, hg]
    rw [e1]
    go_enter Try.func17, Try.ntmps17
    go_wp2_with fail
    refine (power_any w F D h).mono ?_
    rintro e w1 ⟨rfl, hd1, ht1⟩
    rw [if_pos hg]
    go_wp2_with fail
    go_ret
    exact ⟨rfl, hg ▸ hd1, ht1.has_of_p⟩
  · replace hg : D.gone = false := by simpa using hg
    by_cases hfull : 1048576 ≤ D.ops
    · have e1 : D.flush = (44, { D with off := false }) := by simp [Dk.flush, hg, hfull]
      rw [e1]
      go_enter Try.func17, Try.ntmps17
      go_wp2_with fail
      refine (power_any w F D h).mono ?_
      rintro e w1 ⟨rfl, hd1, ht1⟩
      rw [hg] at hd1 ⊢
      obtain ⟨c0, c1, c2, c3, c4, c5⟩ := hd1.cells
      have hd : decide ((1048576 : Int) ≤ (D.ops : Int)) = true := by simp; omega
      go_wp2_with fail
      go_ret
      exact ⟨rfl, hd1, ht1.has_of_p⟩
    · have e1 : D.flush = (0, { D with off := false, safe := D.now, hung := [], ops := D.ops + 1 }) := by simp [Dk.flush, hg, hfull]
      rw [e1]
      go_enter Try.func17, Try.ntmps17
      go_wp2_with fail
      refine (power_any w F D h).mono ?_
      rintro e w1 ⟨rfl, hd1, ht1⟩
      rw [hg] at hd1 ⊢
      obtain ⟨c0, c1, c2, c3, c4, c5⟩ := hd1.cells
      have hd : decide ((1048576 : Int) ≤ (D.ops : Int)) = false := by simp; omega
      go_wp2_with fail
      refine wp_region_still_tail 8 (by kernel_rfl) (by kernel_rfl) ?_
      simp only [List.take_succ_cons, List.take_zero, List.drop_succ_cons, List.drop_zero]
      change wpStill _ _ w1.drew (fun a' => wpList _ _ _ _ a' w1.drew) _ _
      have hd2 := hd1.drew
      have ht2 := ht1.has_of_p.drew
      clear c0 c1 c2 c3 c4 c5 hd1 ht1
      generalize w1.drew = W at *
      obtain ⟨c0, c1, c2, c3, c4, c5⟩ := hd2.cells
      dsimp only at c0 c1 c2 c3 c4 c5
      iterate 8 still_step
      refine wpStill_nil ?_
      have hcp := run_copy_sects hd2.safe hd2.now
      have hd3 := hd2.lay_safe D.now h.ok.now
      have ht3 := ht2.trans (turned_safe W F 0 (bv D.now))
      dsimp only at hcp hd3
      generalize W.setCells F.S 0 (bv D.now) = W2 at *
      clear c0 c1 c2 c3 c4 c5 hd2 ht2
      obtain ⟨c0, c1, c2, c3, c4, c5⟩ := hd3.cells
      dsimp only at c0 c1 c2 c3 c4 c5
      obtain ⟨W3, hcl, hH, hw3, ht4⟩ := run_clear_hung hd3.hung
      have hd4 := (hd3.clear_hung hH hw3).put_ops (D.ops + 1) (Nat.zero_le _) (Nat.lt_of_not_le hfull)
      have ht5 := (ht3.trans (ht4.mono fun _ _ e => .inr (.inr (.inr e)))).trans (turned_p W3 F 3 (.int .i64 ((D.ops + 1 : Nat) : Int))).has_of_p
      have g3 : W3.cell? ⟨F.p, 3, none⟩ = some (.int .i64 (D.ops : Int)) := (World.cell?_of_block (w := W2) (hw3 F.p h.ft.pM)).trans c3
      have f3 : W3.frozen? ⟨F.p, 3, none⟩ = false := (World.frozen?_of_block (w := W2) (hw3 F.p h.ft.pM)).trans (frozen_p hd3.head 3)
      have hops := h.ok.ops
      dsimp only at hd4
      rw [show ((D.ops + 1 : Nat) : Int) = (D.ops : Int) + 1 by omega] at hd4 ht5
      have HF := Lib.hid (And.intro hd4 ht5)
      clear hd3 ht3 ht4 hH hw3 hd4 ht5
      go_wp2_with fail
      go_ret
      exact ⟨rfl, HF.out⟩
end Go.Proofs.Ytncoclbmnhbgbaa
