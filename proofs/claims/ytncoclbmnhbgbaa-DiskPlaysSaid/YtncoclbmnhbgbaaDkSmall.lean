/- The small methods of the disk: Ops, Loose, Sectors, has. -/
import Derived.Test.YtncoclbmnhbgbaaDkMap
import Derived.RegionTactic
import Derived.BigRegion
import Derived.BigQuiet
set_option linter.unusedVariables false
set_option linter.unusedSimpArgs false
namespace Go.Proofs.Ytncoclbmnhbgbaa
open Go.RowKit

set_option maxHeartbeats 1000000 in
theorem ops_any (w : World) (F : Ft) (D : Dk) (h : DkAt w F D) : Calls Try.prog 13 #[F.ptr] w fun e w' => e = .returned (.int .i64 (D.ops : Int)) ∧ w = w' := by
  obtain ⟨c0, c1, c2, c3, c4, c5⟩ := h.cells
  go_enter Try.func13, Try.ntmps13
  go_wp2
  go_ret
  exact ⟨rfl, rfl⟩
set_option maxHeartbeats 1000000 in
theorem sectors_any (w : World) (F : Ft) (D : Dk) (h : DkAt w F D) : Calls Try.prog 19 #[F.ptr] w fun e w' => e = .returned (.int .i64 (D.n : Int)) ∧ w = w' := by
  obtain ⟨c0, c1, c2, c3, c4, c5⟩ := h.cells
  go_enter Try.func19, Try.ntmps19
  go_wp2
  go_ret
  exact ⟨rfl, rfl⟩
set_option maxHeartbeats 1000000 in
theorem loose_any (w : World) (F : Ft) (D : Dk) (h : DkAt w F D) : Calls Try.prog 10 #[F.ptr] w fun e w' => e = .returned (.int .i64 (D.hung.length : Int)) ∧ w = w' := by
  obtain ⟨c0, c1, c2, c3, c4, c5⟩ := h.cells
  have hlen := fun ty => run_len_hung h.hung ty
  go_enter Try.func10, Try.ntmps10
  go_wp2
  go_ret
  exact ⟨rfl, rfl⟩
set_option maxHeartbeats 1000000 in
theorem has_any (w : World) (F : Ft) (D : Dk) (h : DkAt w F D) (at_ : Int) (h1 : -9223372036854775808 ≤ at_) (h2 : at_ ≤ 9223372036854775807) :
    Calls Try.prog 28 #[F.ptr, .int .i64 at_] w fun e w' => e = .returned (.bool (decide (0 ≤ at_ ∧ at_ < D.n))) ∧ w = w' := by
  obtain ⟨c0, c1, c2, c3, c4, c5⟩ := h.cells
  by_cases h0 : 0 ≤ at_
  · have hd : decide (0 ≤ at_) = true := by simp [h0]
    go_enter Try.func28, Try.ntmps28
    go_wp2
    go_ret
    exact ⟨by simp [h0], rfl⟩
  · have hd : decide (0 ≤ at_) = false := by simp; omega
    go_enter Try.func28, Try.ntmps28
    go_wp2
    go_ret
    exact ⟨by simp [h0], rfl⟩

/-- a store into the disk's own block -/
theorem turned_p (w : World) (F : Ft) (i : Nat) (v : Value) : Turned (· = F.p) w (w.setCell ⟨F.p, i, none⟩ v) :=
  ⟨rfl, rfl, rfl, by simp [World.setCell], fun k hk hn => Below.heap_setCell _ _ _ _ hn⟩
theorem Turned.has_of_p {w w' : World} {F : Ft} (h : Turned (· = F.p) w w') : Turned F.has w w' := h.mono fun _ _ e => .inl e
theorem head_setCell {w : World} {g i : Nat} {c : Array Value} {t : TypeId} {fr : Nat × Nat} (h : w.heap[g]? = some (.cells c t fr)) (v : Value) : (w.setCell ⟨g, i, none⟩ v).heap[g]? = some (.cells (c.setIfInBounds i v) t fr) := by
  simp only [World.setCell, Array.getElem?_modify, if_true, h]
  rfl
theorem DkAt.put_off {w : World} {F : Ft} {D : Dk} (h : DkAt w F D) (b : Bool) : DkAt (w.setCell ⟨F.p, 5, none⟩ (.bool b)) F { D with off := b } := by
  have k := h.ft
  have ht := turned_p w F 5 (.bool b)
  have ho : ∀ j, j ≠ F.p → (w.setCell ⟨F.p, 5, none⟩ (.bool b)).heap[j]? = w.heap[j]? := fun j hj => Below.heap_setCell _ _ _ _ hj
  exact ⟨h.ft, ⟨h.ok.n1, h.ok.nm, h.ok.safe, h.ok.now, h.ok.hung, h.ok.loose, h.ok.ops, h.ok.c1, h.ok.c2⟩, head_setCell h.head _, by unfold Sects; rw [ho _ k.pS.symm]; exact h.safe, by unfold Sects; rw [ho _ k.pN.symm]; exact h.now, by unfold Hung; rw [ho _ k.pM.symm]; exact h.hung⟩
theorem DkAt.put_cut {w : World} {F : Ft} {D : Dk} (h : DkAt w F D) (c : Int) (h1 : -9223372036854775808 ≤ c) (h2 : c ≤ 9223372036854775807) : DkAt (w.setCell ⟨F.p, 4, none⟩ (.int .i64 c)) F { D with cut := c } := by
  have k := h.ft
  have ho : ∀ j, j ≠ F.p → (w.setCell ⟨F.p, 4, none⟩ (.int .i64 c)).heap[j]? = w.heap[j]? := fun j hj => Below.heap_setCell _ _ _ _ hj
  exact ⟨h.ft, ⟨h.ok.n1, h.ok.nm, h.ok.safe, h.ok.now, h.ok.hung, h.ok.loose, h.ok.ops, h1, h2⟩, head_setCell h.head _, by unfold Sects; rw [ho _ k.pS.symm]; exact h.safe, by unfold Sects; rw [ho _ k.pN.symm]; exact h.now, by unfold Hung; rw [ho _ k.pM.symm]; exact h.hung⟩
theorem DkAt.put_ops {w : World} {F : Ft} {D : Dk} (h : DkAt w F D) (o : Nat) (h1 : D.hung.length ≤ o) (h2 : o ≤ 1048576) : DkAt (w.setCell ⟨F.p, 3, none⟩ (.int .i64 (o : Int))) F { D with ops := o } := by
  have k := h.ft
  have ho : ∀ j, j ≠ F.p → (w.setCell ⟨F.p, 3, none⟩ (.int .i64 (o : Int))).heap[j]? = w.heap[j]? := fun j hj => Below.heap_setCell _ _ _ _ hj
  exact ⟨h.ft, ⟨h.ok.n1, h.ok.nm, h.ok.safe, h.ok.now, h.ok.hung, h1, h2, h.ok.c1, h.ok.c2⟩, head_setCell h.head _, by unfold Sects; rw [ho _ k.pS.symm]; exact h.safe, by unfold Sects; rw [ho _ k.pN.symm]; exact h.now, by unfold Hung; rw [ho _ k.pM.symm]; exact h.hung⟩

/-- is the power gone at the next operation? -/
def Dk.gone (D : Dk) : Bool := D.off || (decide (0 ≤ D.cut) && decide (D.cut ≤ (D.ops : Int)))
theorem frozen_p {w : World} {g : Nat} {c : Array Value} {t : TypeId} (h : w.heap[g]? = some (.cells c t (0, 0))) (i : Nat) : w.frozen? ⟨g, i, none⟩ = false := by
  simp [World.frozen?, h]

set_option maxHeartbeats 1000000 in
theorem cutAt_any (w : World) (F : Ft) (D : Dk) (h : DkAt w F D) (c : Int) (h1 : -9223372036854775808 ≤ c) (h2 : c ≤ 9223372036854775807) :
    Calls Try.prog 14 #[F.ptr, .int .i64 c] w fun e w' => e = .returned (.tuple #[]) ∧ DkAt w' F { D with cut := c, off := false } ∧ Turned (· = F.p) w w' := by
  have hd := (h.put_cut c h1 h2).put_off false
  have ht := (turned_p w F 4 (.int .i64 c)).trans (turned_p _ F 5 (.bool false))
  obtain ⟨c0, c1, c2, c3, c4, c5⟩ := h.cells
  have f4 := frozen_p h.head 4
  have f5 := frozen_p h.head 5
  clear h
  go_enter Try.func14, Try.ntmps14
  go_wp2
  go_end0
  exact ⟨rfl, hd, ht⟩
set_option maxHeartbeats 4000000 in
theorem power_any (w : World) (F : Ft) (D : Dk) (h : DkAt w F D) :
    Calls Try.prog 29 #[F.ptr] w fun e w' => e = .returned (.int .i64 (if D.gone then 43 else 0)) ∧ DkAt w' F { D with off := D.gone } ∧ Turned (· = F.p) w w' := by
  obtain ⟨c0, c1, c2, c3, c4, c5⟩ := h.cells
  have f5 := frozen_p h.head 5
  have hd := h.put_off D.gone
  have ht := turned_p w F 5 (.bool D.gone)
  generalize hg : D.gone = g at *
  unfold Dk.gone at hg
  have HD := Lib.hid (And.intro hd.drew ht.drew)
  clear hd ht
  have ho6 := h.ok.ops
  have hcu := h.ok.c1
  have hcv := h.ok.c2
  clear h
  generalize D.cut = cut at *
  generalize D.ops = ops at *
  generalize D.off = off at *
  cases off with
  | true =>
    obtain rfl : g = true := by simpa using hg.symm
    clear hg
    go_enter Try.func29, Try.ntmps29
    go_wp2
    go_region
    go_wp2
    go_ret
    exact ⟨rfl, HD.out⟩
  | false =>
    by_cases h0 : 0 ≤ cut
    · by_cases h1 : cut ≤ (ops : Int)
      · obtain rfl : g = true := by simpa [h0, h1] using hg.symm
        have d0 : decide (0 ≤ cut) = true := by simp [h0]
        have d1 : decide (cut ≤ (ops : Int)) = true := by simp [h1]
        clear hg
        go_enter Try.func29, Try.ntmps29
        go_wp2
        go_region
        go_wp2
        go_ret
        exact ⟨rfl, HD.out⟩
      · obtain rfl : g = false := by simpa [h0, h1] using hg.symm
        have d0 : decide (0 ≤ cut) = true := by simp [h0]
        have d1 : decide (cut ≤ (ops : Int)) = false := by simpa using h1
        clear hg
        go_enter Try.func29, Try.ntmps29
        go_wp2
        go_region
        go_wp2
        go_ret
        exact ⟨rfl, HD.out⟩
    · obtain rfl : g = false := by simpa [h0] using hg.symm
      have d0 : decide (0 ≤ cut) = false := by simpa using h0
      clear hg
      go_enter Try.func29, Try.ntmps29
      go_wp2
      go_region
      go_wp2
      go_ret
      exact ⟨rfl, HD.out⟩
end Go.Proofs.Ytncoclbmnhbgbaa
