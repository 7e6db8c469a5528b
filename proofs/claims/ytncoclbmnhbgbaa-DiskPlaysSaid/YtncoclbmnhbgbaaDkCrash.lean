/- The disk's Crash. -/
import Derived.Test.YtncoclbmnhbgbaaDkClone
import Derived.Test.YtncoclbmnhbgbaaInts
import Derived.Deep.Cut
set_option linter.unusedVariables false
set_option linter.unusedSimpArgs false
namespace Go.Proofs.Ytncoclbmnhbgbaa
open Go.RowKit

/-- the sectors when the loose writes below k that stay are laid -/
def crashTo (D : Dk) (stay : List Int) : Nat → List UInt8
  | 0 => D.safe
  | k + 1 => if (k : Int) ∈ stay then (match D.hung[k]? with | some x => putS (crashTo D stay k) x.1 x.2 | none => crashTo D stay k) else crashTo D stay k
/-- what a crash leaves -/
def Dk.crash (D : Dk) (stay : List Int) : Dk := ⟨D.n, crashTo D stay D.hung.length, crashTo D stay D.hung.length, [], 0, -1, false⟩
theorem crashTo_length {D : Dk} (h : D.Ok) (stay : List Int) (k : Nat) : (crashTo D stay k).length = D.n * 128 := by
  induction k with
  | zero => exact h.safe
  | succ k ih =>
    simp only [crashTo]
    split
    · split
      · rename_i x hx
        obtain ⟨h1, h2⟩ := h.hung x (List.mem_of_getElem? hx)
        exact putS_length ih h2 h1
      · exact ih
    · exact ih
theorem Dk.crash_ok {D : Dk} (h : D.Ok) (stay : List Int) : (D.crash stay).Ok :=
  ⟨h.n1, h.nm, crashTo_length h _ _, crashTo_length h _ _, fun x hx => (by cases hx), Nat.le_refl _, by simp [Dk.crash], by simp [Dk.crash], by simp [Dk.crash]⟩

section
variable {ops : Array Oper} {w : World} {Q : Act → Prop} {a : Act} {o : Oper} {rest : List Oper}
theorem run_field0 (w : World) (k : Nat) (cs : List Value) : (Instr.field 66 (looseV k cs) 0).run Try.prog w = .ok (.int .i64 (k : Int)) w := by
  unfold Instr.field looseV
  simp only [Sem.run_bind, run_underlying Try.underlying66, Result.andThen_ok]
  rfl
theorem run_field1 (w : World) (k : Nat) (cs : List Value) (h : cs.length = 128) : (Instr.field 66 (looseV k cs) 1).run Try.prog w = .ok (.agg cs.toArray) w := by
  have hp : ∀ (C : Array Value) (w : World), (part 63 C 1).run Try.prog w = .ok (.agg (C.extract 1 (1 + 128))) w := fun C w => by rfl
  unfold Instr.field looseV
  simp only [Sem.run_bind, run_underlying Try.underlying66, Result.andThen_ok]
  refine (hp _ w).trans ?_
  congr 2
  simp [← h]
theorem still_field0 (x : Operand) (ho : o.op = .field 66 x 0) (k : Nat) (cs : List Value) (hx : a.eval x = looseV k cs) (hg : o.guard = none) (h : wpStill Try.prog ops w Q rest (a.put o.dst (.int .i64 (k : Int)))) : wpStill Try.prog ops w Q (o :: rest) a := by
  refine still_value _ (by simp [Region.wanted, hg]) ?_ h
  unfold execOp
  simp only [ho, hx, Sem.run_bind, run_field0 w k cs, Result.andThen_ok]
  rfl
theorem still_field1 (x : Operand) (ho : o.op = .field 66 x 1) (k : Nat) (cs : List Value) (hx : a.eval x = looseV k cs) (hg : o.guard = none) (hl : cs.length = 128) (h : wpStill Try.prog ops w Q rest (a.put o.dst (.agg cs.toArray))) : wpStill Try.prog ops w Q (o :: rest) a := by
  refine still_value _ (by simp [Region.wanted, hg]) ?_ h
  unfold execOp
  simp only [ho, hx, Sem.run_bind, run_field1 w k cs hl, Result.andThen_ok]
  rfl
theorem still_look (x y : Operand) (ho : o.op = .lookup 58 x y false) (M : Nat) (L : List (Nat × List UInt8)) (hH : Hung w M L) (i : Nat) (hi : i < L.length) (hx : a.eval x = .map (some M)) (hy : a.eval y = .int .i64 (i : Int)) (hg : o.guard = none)
    (h : wpStill Try.prog ops w Q rest (a.put o.dst (loose L[i]))) : wpStill Try.prog ops w Q (o :: rest) a := by
  refine still_value _ (by simp [Region.wanted, hg]) ?_ h
  unfold execOp
  simp only [ho, hx, hy, Sem.run_bind, run_look_hung hH i hi, Result.andThen_ok]
  rfl
end

/-- the disk that a crash makes, ahead of its second row -/
structure Half (w : World) (p S M cS n : Nat) (l : List UInt8) : Prop where
  head : w.heap[p]? = some (.cells #[.slice (some ⟨S, 0, none⟩) n cS, .slice none 0 0, .map (some M), .int .i64 0, .int .i64 (-1), .bool false] 60 (0, 0))
  safe : Sects w S cS n l
  map : w.heap[M]? = some (.map #[] 0)
theorem Half.keep {w w' : World} {p S M cS n : Nat} {l : List UInt8} (h : Half w p S M cS n l) (hw : ∀ k, k < w.heap.size → w'.heap[k]? = w.heap[k]?) : Half w' p S M cS n l := by
  obtain ⟨c, hc, r⟩ := h.safe
  exact ⟨(hw _ (lt_of_heap h.head)).trans h.head, ⟨c, (hw _ (lt_of_heap hc)).trans hc, r⟩, (hw _ (lt_of_heap h.map)).trans h.map⟩
theorem Half.put {w : World} {p S M cS n : Nat} {l b : List UInt8} (h : Half w p S M cS n l) (hpS : p ≠ S) (hSM : M ≠ S) (k : Nat) (hk : k < n) (hb : b.length = 128) : Half (w.setCells S (k * 128) (bv b)) p S M cS n (putS l k b) :=
  ⟨(setCells_other _ _ _ _ _ hpS).trans h.head, h.safe.put k hk hb, (setCells_other _ _ _ _ _ hSM).trans h.map⟩

set_option maxHeartbeats 8000000 in
theorem crash_any (w : World) (F : Ft) (D : Dk) (h : DkAt w F D) (v : Value) (stay : List Int) (hv : IsI w v stay) :
    Calls Try.prog 11 #[F.ptr, v] w fun e w' => ∃ F' : Ft, e = .returned F'.ptr ∧ DkAt w' F' (D.crash stay) ∧ F'.new w ∧ Below w.heap.size w w' := by
  obtain ⟨c0, c1, c2, c3, c4, c5⟩ := h.cells
  have hmm := fun w => run_makeMap (P := Try.prog) 58 w
  go_enter Try.func11, Try.ntmps11
  go_wp2_with fail
  refine (cloneS_any w F.S F.cS D.n D.safe h.safe h.ok.n1 h.ok.nm).mono ?_
  rintro e w1 ⟨S, cS, rfl, hS, hSb, hb1⟩
  obtain ⟨W2, hW2⟩ : ∃ W2, W2 = (w1.alloc (.map #[] 0)).alloc (.cells #[.slice (some ⟨S, 0, none⟩) D.n cS, .slice none 0 0, .map (some w1.heap.size), .int .i64 0, .int .i64 (-1), .bool false] 60) := ⟨_, rfl⟩
  have hsz := hb1.size
  have hb2 : Below w.heap.size w W2 := by rw [hW2]; exact (hb1.alloc hb1.size _).alloc (Nat.le_trans hb1.size (by simp)) _
  have hSlt : S < w1.heap.size := by obtain ⟨_, hc, _⟩ := hS; exact lt_of_heap hc
  have hh2 : Half W2 (w1.heap.size + 1) S w1.heap.size cS D.n (crashTo D stay 0) := by
    have q1 : W2.heap[w1.heap.size + 1]? = some (.cells #[.slice (some ⟨S, 0, none⟩) D.n cS, .slice none 0 0, .map (some w1.heap.size), .int .i64 0, .int .i64 (-1), .bool false] 60 (0, 0)) := by
      rw [hW2]; exact heap_alloc2_new _ _ _
    have q2 : W2.heap[w1.heap.size]? = some (.map #[] 0) := by rw [hW2]; exact heap_alloc2_old _ _ _
    obtain ⟨c, hc, r⟩ := hS
    exact ⟨q1, ⟨c, by rw [hW2, Below.heap_alloc _ _ _ (by simp; omega), Below.heap_alloc _ _ _ hSlt]; exact hc, r⟩, q2⟩
  have HW := Lib.hid hW2
  clear hW2 hS c0 c1 c3 c4 c5
  have hne1 : w1.heap.size + 1 ≠ S := by omega
  have hne2 : w1.heap.size ≠ S := by omega
  have hx : w.heap.size ≤ w1.heap.size + 1 := by omega
  go_upto_region 4 with fail
  rw [← HW.out]
  generalize w1.heap.size + 1 = p at *
  generalize w1.heap.size = M at *
  clear HW hb1 c2
  have h2 := h.below hb2
  have hlen := run_len_hung h2.hung 3
  obtain ⟨c0, c1, c2, c3, c4, c5⟩ := h2.cells
  have hloose := h.ok.loose
  have hopsb := h.ok.ops
  go_wp2_with fail
  clear c0 c1 c2 c3 c4 c5 hlen h2
  go_loopw [6, 22, 23, 24, 25, 26, 27, 28, 29, 30, 31, 32, 33, 34, 35, 36, 37, 38, 39, 40, 41, 42, 43, 44, 45, 46, 47] (fun _ i _ _ _ _ _ _ _ _ _ _ _ _ _ _ _ _ _ _ _ _ _ _ _ _ _ wr => ∃ k : Nat, k ≤ D.hung.length ∧ i = .int .i64 (k : Int) ∧ Half wr p S M cS D.n (crashTo D stay k) ∧ Below w.heap.size w wr) (fun _ i _ _ _ _ _ _ _ _ _ _ _ _ _ _ _ _ _ _ _ _ _ _ _ _ _ _ => D.hung.length - (intOf i).toNat)
  case atStart => exact ⟨0, Nat.zero_le _, rfl, hh2, hb2⟩
  case round =>
    obtain ⟨k, hk, rfl, hhr, hbr⟩ := hrel
    clear hh2 hb2
    by_cases hlt : k < D.hung.length
    · have hd : decide ((k : Int) < (D.hung.length : Int)) = true := by simpa using hlt
      go_wp2_with fail
      refine (contains_any wr v stay (hv.below hbr) k (by omega) (by omega)).mono ?_
      rintro e w3 ⟨rfl, rfl⟩
      by_cases hin : (k : Int) ∈ stay
      · rw [decide_eq_true hin]
        go_wp2_with fail
        refine wp_region_still_tail 19 (by kernel_rfl) (by kernel_rfl) ?_
        simp only [List.take_succ_cons, List.take_zero, List.drop_succ_cons, List.drop_zero]
        change wpStill _ _ wr.drew (fun a' => wpList _ _ _ _ a' wr.drew) _ _
        have hh3 : Half wr.drew p S M cS D.n (crashTo D stay k) := hhr.keep fun _ _ => rfl
        have hb3 := hbr.drew
        clear hhr hbr
        generalize wr.drew = W3 at *
        have h3 := h.below hb3
        obtain ⟨c0, c1, c2, c3, c4, c5⟩ := h3.cells
        have x0 : W3.cell? ⟨p, 0, none⟩ = some (.slice (some ⟨S, 0, none⟩) D.n cS) := by rw [cell_of_row _ _ _ _ _ _ hh3.head]; rfl
        obtain ⟨hxa, hxb⟩ := h.ok.hung D.hung[k] (List.getElem_mem hlt)
        have hbl : (bv D.hung[k].2).length = 128 := by rw [bv_length, hxb]
        have i0 : (0 : Int) ≤ (D.hung[k].1 : Int) := by omega
        have i1 : (D.hung[k].1 : Int) < (D.n : Int) := by omega
        have e1 : crashTo D stay (k + 1) = putS (crashTo D stay k) D.hung[k].1 D.hung[k].2 := by simp [crashTo, hin, List.getElem?_eq_getElem hlt]
        have hS3 := hh3.safe.there D.hung[k].1 hxa
        have hh4 := hh3.put hne1 hne2 D.hung[k].1 hxa hxb
        rw [← e1] at hh4
        have hb4 : Below w.heap.size w (W3.setCells S (D.hung[k].1 * 128) (bv D.hung[k].2)) := by
          obtain ⟨r1, r2, r3, r4⟩ := setCells_rest S (bv D.hung[k].2) (D.hung[k].1 * 128) W3
          exact hb3.trans ⟨r1, r2, r3, Nat.le_of_eq r4.symm, fun j hj => setCells_other _ _ _ _ _ (by omega)⟩
        have HH := Lib.hid (And.intro hh4 hb4)
        clear hh4 hb4 e1
        iterate 9 still_step
        refine still_look (.tmp 35) (.tmp 36) rfl F.M D.hung h3.hung k hlt rfl rfl rfl ?_
        simp only [Act.put, List.setIfInBounds_toArray, List.set_cons_zero, List.set_cons_succ]
        refine still_field0 (.tmp 37) rfl _ _ rfl rfl ?_
        simp only [Act.put, List.setIfInBounds_toArray, List.set_cons_zero, List.set_cons_succ]
        iterate 5 still_step
        refine still_look (.tmp 42) (.tmp 43) rfl F.M D.hung h3.hung k hlt rfl rfl rfl ?_
        simp only [Act.put, List.setIfInBounds_toArray, List.set_cons_zero, List.set_cons_succ]
        refine still_field1 (.tmp 44) rfl _ _ rfl rfl hbl ?_
        simp only [Act.put, List.setIfInBounds_toArray, List.set_cons_zero, List.set_cons_succ]
        generalize D.hung[k] = x at *
        obtain ⟨xa, xb⟩ := x
        dsimp only at *
        still_step
        refine wpStill_nil ?_
        refine wpList_store_mid rfl 63 (.tmp 46) (.tmp 45) rfl S (xa * 128) (bv xb).toArray rfl rfl (by rw [List.size_toArray, hbl]; exact hS3) (by rw [info_sector, List.size_toArray, hbl]) (all_oneCell_toArray (bv_oneCell xb)) ?_
        rw [List.toList_toArray]
        generalize W3.setCells S (xa * 128) (bv xb) = W4 at *
        clear hS3 c0 c1 c2 c3 c4 c5 x0 h3 hb3 hh3
        refine wpList_nil ?_
        go_wp2_with fail
        go_roundw
        case rel => exact ⟨k + 1, by omega, by go_num, HH.out.1, HH.out.2⟩
        case measure => simp [intOf]; omega
      · rw [decide_eq_false hin]
        have e1 : crashTo D stay (k + 1) = crashTo D stay k := by simp [crashTo, hin]
        rw [← e1] at hhr
        have HH := Lib.hid hhr
        clear hhr e1
        go_wp2_with fail
        go_roundw
        case rel => exact ⟨k + 1, by omega, by go_num, HH.out, hbr⟩
        case measure => simp [intOf]; omega
    · obtain rfl : k = D.hung.length := by omega
      have hd : decide ((D.hung.length : Int) < (D.hung.length : Int)) = false := by simp
      have x0 : wr.cell? ⟨p, 0, none⟩ = some (.slice (some ⟨S, 0, none⟩) D.n cS) := by rw [cell_of_row _ _ _ _ _ _ hhr.head]; rfl
      go_wp2_with fail
      refine (cloneS_any wr S cS D.n _ hhr.safe h.ok.n1 h.ok.nm).mono ?_
      rintro e w5 ⟨N, cN, rfl, hN, hNb, hb5⟩
      have hh5 := hhr.keep hb5.block
      have hpN : p < wr.heap.size := lt_of_heap hhr.head
      have hMN : M < wr.heap.size := lt_of_heap hhr.map
      have hSN : S < wr.heap.size := by obtain ⟨_, hc, _⟩ := hhr.safe; exact lt_of_heap hc
      have x1 : w5.cell? ⟨p, 1, none⟩ = some (.slice none 0 0) := by rw [cell_of_row _ _ _ _ _ _ hh5.head]; rfl
      have f1 := frozen_p hh5.head 1
      have hpM : p ≠ M := fun e => by
        have q := hhr.head
        rw [e, hhr.map] at q
        cases q
      have hfin : DkAt (w5.setCell ⟨p, 1, none⟩ (.slice (some ⟨N, 0, none⟩) D.n cN)) ⟨p, S, N, M, cS, cN⟩ (D.crash stay) := by
        have ho : ∀ j, j ≠ p → (w5.setCell ⟨p, 1, none⟩ (.slice (some ⟨N, 0, none⟩) D.n cN)).heap[j]? = w5.heap[j]? := fun j hj => Below.heap_setCell _ _ _ _ hj
        have q1 : p ≠ N := by omega
        have q2 : S ≠ N := by omega
        have q3 : N ≠ M := by omega
        refine ⟨⟨hne1, q1, hpM, q2, hne2.symm, q3⟩, Dk.crash_ok h.ok stay, head_setCell hh5.head _, ?_, ?_, ?_⟩
        · unfold Sects
          show ∃ cur, (w5.setCell ⟨p, 1, none⟩ (.slice (some ⟨N, 0, none⟩) D.n cN)).heap[S]? = _ ∧ _
          rw [ho S hne1.symm]
          exact hh5.safe
        · unfold Sects
          show ∃ cur, (w5.setCell ⟨p, 1, none⟩ (.slice (some ⟨N, 0, none⟩) D.n cN)).heap[N]? = _ ∧ _
          rw [ho N q1.symm]
          exact hN
        · refine ⟨[], 0, ?_, rfl, fun i hi => by simp [Dk.crash] at hi⟩
          show (w5.setCell ⟨p, 1, none⟩ (.slice (some ⟨N, 0, none⟩) D.n cN)).heap[M]? = _
          rw [ho M hpM.symm]
          exact hh5.map
      have hbf : Below w.heap.size w (w5.setCell ⟨p, 1, none⟩ (.slice (some ⟨N, 0, none⟩) D.n cN)) :=
        (hbr.trans (hb5.mono hbr.size)).setCell (p := ⟨p, 1, none⟩) hx _
      have hnew : Ft.new ⟨p, S, N, M, cS, cN⟩ w := by
        have := hbr.size
        rintro j (e | e | e | e)
        · rw [e]; exact hx
        · rw [e]; exact hSb
        · rw [e]; exact Nat.le_trans this hNb
        · rw [e]; exact hsz
      have HF := Lib.hid (And.intro hfin (And.intro hnew hbf))
      clear hfin hnew hbf hhr hh5 hN x0
      go_wp2_with fail
      go_ret
      exact ⟨⟨p, S, N, M, cS, cN⟩, rfl, HF.out⟩
end Go.Proofs.Ytncoclbmnhbgbaa
