/- The disk's Read. -/
import Derived.Test.YtncoclbmnhbgbaaDkWrite
import Derived.Deep.WholeRow
set_option linter.unusedVariables false
set_option linter.unusedSimpArgs false
namespace Go.Proofs.Ytncoclbmnhbgbaa
open Go.RowKit

section
variable {ops : Array Oper} {w : World} {Q : Exit → Act → World → Prop} {a : Act} {o : Oper} {rest : List Oper}
theorem wpList_value (v : Value) (w' : World) (hg : o.guard = none) (he : (execOp a.eval o).run Try.prog w = .ok (.value v) w') (h : wpList Try.prog ops Q rest (a.put o.dst v) w') : wpList Try.prog ops Q (o :: rest) a w :=
  wpList_plain hg fun _ hK => by
    unfold Oper.wp
    rw [he]
    exact hK _ _ h
theorem wpList_skip (w' : World) (hg : o.guard = none) (he : (execOp a.eval o).run Try.prog w = .ok .skip w') (h : wpList Try.prog ops Q rest (a.put o.dst undef) w') : wpList Try.prog ops Q (o :: rest) a w :=
  wpList_plain hg fun _ hK => by
    unfold Oper.wp
    rw [he]
    exact hK _ _ h
/-- a sector's variable made -/
theorem wpList_alloc_sector (hg : o.guard = none) (ho : o.op = .alloc 63)
    (h : ∀ Z : List Value, Z.length = 128 → wpList Try.prog ops Q rest (a.put o.dst (.pointer (some ⟨w.heap.size, 0, none⟩))) (w.alloc (.cells Z.toArray 63))) : wpList Try.prog ops Q (o :: rest) a w := by
  obtain ⟨Z, hZ, hz⟩ : ∃ Z : List Value, Z.length = 128 ∧ ∀ w, (zeroValue 63).run Try.prog w = .ok (.agg Z.toArray) w := ⟨List.replicate 128 (.int .u8 0), by simp, fun w => by kernel_rfl⟩
  refine wpList_value _ _ hg ?_ (h Z hZ)
  unfold execOp
  simp only [ho, Instr.alloc, Sem.run_bind, hz, Result.andThen_ok]
  rfl
/-- the variable that was made last, laid -/
theorem wpList_store_last (ty : TypeId) (x y : Operand) (ho : o.op = .store ty x y) (c c' : Array Value) (hx : a.eval x = .pointer (some ⟨w.heap.size, 0, none⟩)) (hy : a.eval y = .agg c') (hg : o.guard = none)
    (hi : (Try.prog.info? ty).map (·.size) = some c'.size) (hc : c.size = c'.size) (h1 : c'.all (·.oneCell') = true)
    (h : wpList Try.prog ops Q rest (a.put o.dst undef) (w.alloc (.cells c' ty))) : wpList Try.prog ops Q (o :: rest) a (w.alloc (.cells c ty)) := by
  refine wpList_skip _ hg ?_ h
  unfold execOp
  simp only [ho, hx, hy, Sem.run_bind, run_storeAt_new w ty c c' hi hc h1, Result.andThen_ok]
  rfl
end

/-- Read: what it answers -/
def Dk.read (D : Dk) (at_ : Int) : List UInt8 × Int := if D.off then ([], 43) else if 0 ≤ at_ ∧ at_ < D.n then (sec D.now at_.toNat, 0) else ([], 41)
/-- bytes that were read: nothing, or a block of their own -/
def Got (w w' : World) (v : Value) (l : List UInt8) : Prop :=
  (l = [] ∧ v = .slice none 0 0 ∧ w' = w) ∨ (l.length = 128 ∧ v = .slice (some ⟨w.heap.size, 0, none⟩) 128 128 ∧ w' = w.alloc (.cells (bv l).toArray 63))
theorem Got.below {w w' : World} {v : Value} {l : List UInt8} (h : Got w w' v l) : Below w.heap.size w w' := by
  rcases h with ⟨_, _, rfl⟩ | ⟨_, _, rfl⟩
  · exact Below.refl _ _
  · exact (Below.refl _ _).alloc (Nat.le_refl _) _
theorem Got.isB {w w' : World} {v : Value} {l : List UInt8} (h : Got w w' v l) : IsB w' v l := by
  rcases h with ⟨rfl, rfl, rfl⟩ | ⟨hl, rfl, rfl⟩
  · exact IsB.nil _
  · refine ⟨some ⟨w.heap.size, 0, none⟩, 128, by rw [hl], by omega, by simp [maxLen], fun e => (by cases e), ?_⟩
    rintro x ⟨⟩
    refine ⟨fun _ => rfl, fun i hi => ?_⟩
    rw [cell_of_row _ _ _ _ _ _ (heap_alloc_new w _)]
    simp only [Nat.zero_add, List.getElem?_toArray]
    exact bv_get l i hi

set_option maxHeartbeats 4000000 in
theorem read_any (w : World) (F : Ft) (D : Dk) (h : DkAt w F D) (at_ : Int) (h1 : -9223372036854775808 ≤ at_) (h2 : at_ ≤ 9223372036854775807) :
    Calls Try.prog 12 #[F.ptr, .int .i64 at_] w fun e w' => ∃ v, e = .returned (.tuple #[v, .int .i64 (D.read at_).2]) ∧ Got w w' v (D.read at_).1 := by
  obtain ⟨c0, c1, c2, c3, c4, c5⟩ := h.cells
  cases ho : D.off with
  | true =>
    have e1 : D.read at_ = ([], 43) := by simp [Dk.read, ho]
    rw [e1]
    rw [ho] at c5
    clear ho e1
    go_enter Try.func12, Try.ntmps12
    go_wp2_with fail
    go_ret2
    exact ⟨_, rfl, .inl ⟨rfl, rfl, rfl⟩⟩
  | false =>
    rw [ho] at c5
    by_cases hin : 0 ≤ at_ ∧ at_ < (D.n : Int)
    · obtain ⟨k, rfl⟩ := Int.eq_ofNat_of_zero_le hin.1
      have hk : k < D.n := by omega
      have e1 : D.read k = (sec D.now k, 0) := by simp [Dk.read, ho, hk]
      rw [e1]
      clear ho e1
      have hrg := h.now.range k hk
      have hl := sec_length h.ok.now hk
      generalize sec D.now k = l at *
      have hl8 : (bv l).length = 128 := by rw [bv_length, hl]
      have i0 : (0 : Int) ≤ (k : Int) := by omega
      have i1 : (k : Int) < (D.n : Int) := by omega
      go_enter Try.func12, Try.ntmps12
      go_wp2_with fail
      refine (has_any w F D h k h1 h2).mono ?_
      rintro e w1 ⟨rfl, rfl⟩
      rw [decide_eq_true hin]
      go_wp2_with (first | (refine wpList_load_mid rfl 63 (.tmp 25) rfl F.N (k * 128) rfl (bv l) _ hrg Try.underlying63 rfl (by rw [info_sector, hl8]) ?_) | (refine wpList_alloc_sector rfl rfl ?_; intro Z hZ) | (refine wpList_store_last 63 (.tmp 6) (.tmp 26) rfl _ (bv l).toArray rfl rfl rfl (by rw [info_sector, List.size_toArray, hl8]) (by rw [List.size_toArray, List.size_toArray, hl8, hZ]) (all_oneCell_toArray (bv_oneCell l)) ?_; clear hZ))
      go_ret2
      exact ⟨_, rfl, .inr ⟨hl, rfl, rfl⟩⟩
    · have e1 : D.read at_ = ([], 41) := by simp only [Dk.read, ho]; simp [hin]
      rw [e1]
      clear ho e1
      go_enter Try.func12, Try.ntmps12
      go_wp2_with fail
      refine (has_any w F D h at_ h1 h2).mono ?_
      rintro e w1 ⟨rfl, rfl⟩
      rw [decide_eq_false hin]
      go_wp2_with fail
      go_ret2
      exact ⟨_, rfl, .inl ⟨rfl, rfl, rfl⟩⟩
end Go.Proofs.Ytncoclbmnhbgbaa
