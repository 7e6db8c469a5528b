/- The disk's Write. -/
import Derived.Test.YtncoclbmnhbgbaaDkSmall
import Derived.StillTailTactics
set_option linter.unusedVariables false
set_option linter.unusedSimpArgs false
namespace Go.Proofs.Ytncoclbmnhbgbaa
open Go.RowKit

theorem info_sector : (Try.prog.info? 63).map (fun i => i.size) = some 128 := by kernel_rfl

/-- Write: what it answers, and what is behind it -/
def Dk.write (D : Dk) (at_ : Int) (l : List UInt8) : Int × Dk :=
  if D.gone then (43, { D with off := true })
  else if ¬ (0 ≤ at_ ∧ at_ < D.n) then (41, { D with off := false })
  else if l.length ≠ 128 then (42, { D with off := false })
  else if 1048576 ≤ D.ops then (44, { D with off := false })
  else (0, { D with off := false, now := putS D.now at_.toNat l, hung := D.hung ++ [(at_.toNat, l)], ops := D.ops + 1 })

theorem IsB.row {w : World} {a : Option Addr} {n cap : Nat} {l : List UInt8} (h : IsB w (.slice a n cap) l) (h0 : 0 < l.length) : ∃ B o, a = some ⟨B, o, none⟩ ∧ w.rangeAt B o (bv l) := by
  obtain ⟨a', cap', hv, hl, hm, hn, hc⟩ := h
  simp only [Value.slice.injEq] at hv
  obtain ⟨rfl, rfl, rfl⟩ := hv
  cases a with
  | none => have := hn rfl; omega
  | some x =>
    obtain ⟨hs, hcell⟩ := hc x rfl
    obtain ⟨B, o, sp⟩ := x
    have : sp = none := hs h0
    subst this
    refine ⟨B, o, rfl, fun j v hj => ?_⟩
    have hjl : j < l.length := by
      have := (List.getElem?_eq_some_iff.1 hj).1
      simpa [bv] using this
    rw [bv_get l j hjl] at hj
    rw [hcell j hjl]
    exact hj

theorem run_arrayAt (W : World) (a : Option Addr) (cap : Nat) : (Instr.arrayAt 63 (.slice a 128 cap)).run Try.prog W = .ok (.pointer a) W := by
  unfold Instr.arrayAt
  simp only [Sem.run_bind, run_underlying Try.underlying63, Result.andThen]
  rfl
/-- cells laid into a row of bytes -/
theorem Sects.there {w : World} {g cap n : Nat} {l : List UInt8} (h : Sects w g cap n l) (k : Nat) (hk : k < n) : w.there g (k * 128) 128 := by
  obtain ⟨cur, hg, hn, hm, hs, hl, ht⟩ := h
  intro j hj
  refine ⟨?_, frozen_p hg _⟩
  rw [cell_of_row _ _ _ _ _ _ hg, Array.getElem?_eq_getElem (by omega)]
  rfl
theorem Sects.range {w : World} {g cap n : Nat} {l : List UInt8} (h : Sects w g cap n l) (k : Nat) (hk : k < n) : w.rangeAt g (k * 128) (bv (sec l k)) := by
  obtain ⟨cur, hg, hn, hm, hs, hl, ht⟩ := h
  intro j v hj
  rw [cell_of_row _ _ _ _ _ _ hg]
  have hj2 : j < (sec l k).length := by
    have := (List.getElem?_eq_some_iff.1 hj).1
    simpa [bv] using this
  rw [sec_length hl hk] at hj2
  have e : (bv l)[k * 128 + j]? = some v := by
    rw [← hj]
    simp only [bv, sec, List.getElem?_map, List.getElem?_take, List.getElem?_drop, if_pos hj2]
  rw [← ht, List.getElem?_take, if_pos (by omega)] at e
  simpa using e

/-- bytes do not lie in a disk's own block -/
theorem IsB.turned_p {w w' : World} {F : Ft} {D : Dk} {v : Value} {l : List UInt8} (hv : IsB w v l) (h : DkAt w F D) (ht : Turned (· = F.p) w w') : IsB w' v l := by
  obtain ⟨a, cap, rfl, hl, hm, hn, hc⟩ := hv
  refine ⟨a, cap, rfl, hl, hm, hn, fun x hx => ⟨(hc x hx).1, fun i hi => ?_⟩⟩
  have hcell := (hc x hx).2 i hi
  have hne : x.block ≠ F.p := by
    intro e
    rw [e, cell_of_row _ _ _ _ _ _ h.head] at hcell
    have hlt := (Array.getElem?_eq_some_iff.1 hcell).1
    simp only [List.size_toArray, List.length_cons, List.length_nil] at hlt
    generalize x.off + i = j at hcell hlt
    rcases (show j = 0 ∨ j = 1 ∨ j = 2 ∨ j = 3 ∨ j = 4 ∨ j = 5 by omega) with rfl | rfl | rfl | rfl | rfl | rfl <;> simp at hcell
  have hlt := World.block_lt_of_cell? w _ hcell
  rw [← hcell]
  exact World.cell?_of_block (ht.block x.block hlt hne)

theorem setCells_other (g : Nat) : ∀ (vs : List Value) (o : Nat) (w : World) (k : Nat), k ≠ g → (w.setCells g o vs).heap[k]? = w.heap[k]?
  | [], o, w, k, h => rfl
  | v :: r, o, w, k, h => by
    rw [World.setCells, setCells_other g r (o + 1) _ k h]
    exact Below.heap_setCell _ _ _ _ h
theorem setCells_rest (g : Nat) : ∀ (vs : List Value) (o : Nat) (w : World), (w.setCells g o vs).os = w.os ∧ (w.setCells g o vs).tape = w.tape ∧ (w.setCells g o vs).output = w.output ∧ (w.setCells g o vs).heap.size = w.heap.size
  | [], o, w => ⟨rfl, rfl, rfl, rfl⟩
  | v :: r, o, w => by
    obtain ⟨h1, h2, h3, h4⟩ := setCells_rest g r (o + 1) (w.setCell ⟨g, o, none⟩ v)
    rw [World.setCells]
    exact ⟨h1, h2, h3, h4.trans (by simp [World.setCell])⟩
theorem turned_now (w : World) (F : Ft) (o : Nat) (vs : List Value) : Turned F.has w (w.setCells F.N o vs) := by
  obtain ⟨h1, h2, h3, h4⟩ := setCells_rest F.N vs o w
  exact ⟨h1, h2, h3, Nat.le_of_eq h4.symm, fun k hk hn => setCells_other F.N vs o w k (fun e => hn (.inr (.inr (.inl e))))⟩
theorem get_lay {α : Type} (L vs : List α) (o j : Nat) (h : o ≤ L.length) : (L.take o ++ (vs ++ L.drop (o + vs.length)))[j]? = if j < o then L[j]? else if j < o + vs.length then vs[j - o]? else L[j]? := by
  rw [List.getElem?_append, List.length_take, Nat.min_eq_left h]
  by_cases h1 : j < o
  · rw [if_pos h1, if_pos h1, List.getElem?_take, if_pos h1]
  · rw [if_neg h1, if_neg h1, List.getElem?_append]
    by_cases h2 : j < o + vs.length
    · rw [if_pos (by omega), if_pos h2]
    · rw [if_neg (by omega), if_neg h2, List.getElem?_drop]
      congr 1
      omega
/-- the block behind many stores -/
theorem setCells_heap (g : Nat) (t : TypeId) : ∀ (vs : List Value) (o : Nat) (w : World) (cur : Array Value), w.heap[g]? = some (.cells cur t (0, 0)) → o + vs.length ≤ cur.size →
    ∃ cur' : Array Value, (w.setCells g o vs).heap[g]? = some (.cells cur' t (0, 0)) ∧ cur'.toList = cur.toList.take o ++ (vs ++ cur.toList.drop (o + vs.length))
  | [], o, w, cur, h, _ => ⟨cur, h, by simp⟩
  | v :: r, o, w, cur, h, hl => by
    simp only [List.length_cons] at hl
    obtain ⟨cur', h1, h2⟩ := setCells_heap g t r (o + 1) (w.setCell ⟨g, o, none⟩ v) (cur.setIfInBounds o v) (head_setCell h v) (by simp; omega)
    refine ⟨cur', h1, ?_⟩
    rw [h2, Array.toList_setIfInBounds]
    apply List.ext_getElem?
    intro j
    rw [get_lay _ _ _ _ (by simp; omega), get_lay _ _ _ _ (by simp; omega), List.getElem?_set, Array.length_toList, List.length_cons]
    by_cases hj : j < o
    · rw [if_pos (by omega), if_neg (by omega), if_pos hj]
    · by_cases hjo : j = o
      · subst hjo
        rw [if_pos (by omega), if_pos rfl, if_pos (by omega), if_neg (by omega), if_pos (by omega), Nat.sub_self]
        rfl
      · by_cases hjr : j < o + 1 + r.length
        · rw [if_neg (by omega), if_pos hjr, if_neg hj, if_pos (by omega), show j - o = (j - (o + 1)) + 1 by omega, List.getElem?_cons_succ]
        · rw [if_neg (by omega), if_neg hjr, if_neg (by omega), if_neg hj, if_neg (by omega)]
theorem Sects.put {w : World} {g cap n : Nat} {l b : List UInt8} (h : Sects w g cap n l) (k : Nat) (hk : k < n) (hb : b.length = 128) : Sects (w.setCells g (k * 128) (bv b)) g cap n (putS l k b) := by
  obtain ⟨cur, hg, hn, hm, hs, hl, ht⟩ := h
  have hbl : (bv b).length = 128 := by rw [bv_length, hb]
  obtain ⟨cur', h1, h2⟩ := setCells_heap g 63 (bv b) (k * 128) w cur hg (by omega)
  have hsz : cur'.size = cap * 128 := by
    rw [← Array.length_toList, h2]
    simp only [List.length_append, List.length_take, List.length_drop, hbl, Array.length_toList]
    omega
  refine ⟨cur', h1, hn, hm, hsz, putS_length hl hb hk, ?_⟩
  rw [putS_length hl hb hk, h2]
  apply List.ext_getElem?
  intro j
  have hget : ∀ x : List UInt8, ∀ i : Nat, (bv x)[i]? = (x[i]?).map fun b => Value.int .u8 (b.toNat : Int) := fun x i => by simp [bv]
  have hp : putS l k b = l.take (k * 128) ++ (b ++ l.drop (k * 128 + b.length)) := by rw [putS, hb]
  rw [List.getElem?_take, get_lay _ _ _ _ (by simp; omega), hp, hget (l.take (k * 128) ++ (b ++ l.drop (k * 128 + b.length))), get_lay _ _ _ _ (by omega), hbl, hb]
  by_cases hj : j < n * 128
  · have hlb : cur.toList[j]? = (bv l)[j]? := by rw [← ht, List.getElem?_take, hl, if_pos hj]
    rw [if_pos hj, hlb, hget, hget]
    split
    · rfl
    · split <;> rfl
  · rw [if_neg hj, if_neg (by omega), if_neg (by omega), List.getElem?_eq_none (by omega)]
    rfl
theorem DkAt.put_now {w : World} {F : Ft} {D : Dk} (h : DkAt w F D) (k : Nat) (b : List UInt8) (hk : k < D.n) (hb : b.length = 128) : DkAt (w.setCells F.N (k * 128) (bv b)) F { D with now := putS D.now k b } := by
  have f := h.ft
  have ho : ∀ j, j ≠ F.N → (w.setCells F.N (k * 128) (bv b)).heap[j]? = w.heap[j]? := fun j hj => setCells_other _ _ _ _ _ hj
  exact ⟨f, ⟨h.ok.n1, h.ok.nm, h.ok.safe, putS_length h.ok.now hb hk, h.ok.hung, h.ok.loose, h.ok.ops, h.ok.c1, h.ok.c2⟩, (ho _ f.pN).trans h.head, by unfold Sects; rw [ho _ f.SN]; exact h.safe, h.now.put k hk hb, by unfold Hung; rw [ho _ f.NM.symm]; exact h.hung⟩

/-- n cells as they lie in block b from o on -/
def rowOf (w : World) (b o n : Nat) : List Value := (List.range n).map fun j => (w.cell? ⟨b, o + j, none⟩).getD undef
theorem rowOf_range {w : World} {b o n : Nat} {cs : List Value} (h : w.rangeAt b o cs) (hl : cs.length = n) : rowOf w b o n = cs := by
  apply List.ext_getElem?
  intro j
  simp only [rowOf, List.getElem?_map]
  by_cases hj : j < n
  · have e : cs[j]? = some (cs[j]'(by omega)) := List.getElem?_eq_getElem (by omega)
    rw [List.getElem?_range hj, Option.map_some, h j _ e, e]
    rfl
  · rw [List.getElem?_eq_none (by simpa using hj), List.getElem?_eq_none (by omega)]
    rfl
/-- a number and a sector, built -/
theorem fill_at (P : Nat → Nat → Value) (cs : List Value) : ∀ (base : Array Value) (off k : Nat), off + k + cs.length ≤ base.size →
    ((cs.zipIdx k).foldl (fun a (c, j) => a.setIfInBounds (off + j) c) base).toList = base.toList.take (off + k) ++ (cs ++ base.toList.drop (off + k + cs.length)) := by
  induction cs with
  | nil => intro base off k h; simp
  | cons c r ih =>
    intro base off k h
    simp only [List.length_cons] at h
    rw [List.zipIdx_cons, List.foldl_cons, ih _ off (k + 1) (by simp; omega)]
    apply List.ext_getElem?
    intro j
    rw [Nat.add_assoc off k 1 |>.symm, get_lay _ _ _ _ (by simp; omega), get_lay _ _ _ _ (by simp; omega), Array.toList_setIfInBounds, List.getElem?_set, Array.length_toList, List.length_cons]
    by_cases hj : j < off + k
    · rw [if_pos (by omega), if_neg (by omega), if_pos hj]
    · by_cases hjo : j = off + k
      · subst hjo
        rw [if_pos (by omega), if_pos rfl, if_pos (by omega), if_neg (by omega), if_pos (by omega), Nat.sub_self]
        rfl
      · by_cases hjr : j < off + k + 1 + r.length
        · rw [if_neg (by omega), if_pos hjr, if_neg hj, if_pos (by omega), show j - (off + k) = (j - (off + k + 1)) + 1 by omega, List.getElem?_cons_succ]
        · rw [if_neg (by omega), if_neg hjr, if_neg (by omega), if_neg hj, if_neg (by omega)]
theorem info_write : (Try.prog.info? 66).map (fun i => (i.zero, i.size)) = some (some (.agg ((.int .i64 0) :: List.replicate 128 (.int .u8 0)).toArray), 129) := by kernel_rfl
theorem run_build_write (w : World) (k : Nat) (cs : List Value) (h : cs.length = 128) : (Instr.build 66 #[(0, .int .i64 (k : Int)), (1, .agg cs.toArray)]).run Try.prog w = .ok (looseV k cs) w := by
  obtain ⟨Z, hZ, hz⟩ : ∃ Z : List Value, Z.length = 128 ∧ ∀ w, (zeroValue 66).run Try.prog w = .ok (.agg ((.int .i64 0) :: Z).toArray) w := ⟨List.replicate 128 (.int .u8 0), by simp, fun w => by kernel_rfl⟩
  obtain ⟨fs, hfs, hpl⟩ : ∃ fs, Try.prog.underlying 66 = some (.struct fs) ∧ ∀ w, (Array.mapM (fun f : Field => do pure (f.offset, ← sizeOf f.type)) fs : Sem (Array (Nat × Nat))).run Try.prog w = .ok #[(0, 1), (1, 128)] w :=
    ⟨_, Try.underlying66, fun w => by kernel_rfl⟩
  unfold Instr.build
  simp only [Sem.run_bind, hz, Result.andThen_ok, run_underlying hfs, hpl]
  have hf := fill_at (fun _ _ => undef) cs ((.int .i64 (k : Int)) :: Z).toArray 1 0 (by simp [h, hZ])
  have hs : (Value.agg cs.toArray).cells.size = 128 := by simpa [Value.cells] using h
  have h1 : (((Value.agg cs.toArray).cells.zipIdx).foldl (fun (a : Array Value) (x : Value × Nat) => a.setIfInBounds (1 + x.2) x.1) ((.int .i64 (k : Int)) :: Z).toArray) = ((.int .i64 (k : Int)) :: cs).toArray := by
    apply Array.ext'
    rw [show (Value.agg cs.toArray).cells.zipIdx = (cs.zipIdx 0).toArray by simp [Value.cells], List.foldl_toArray, hf]
    simp [h, hZ]
  have h2 : Instr.fill (#[(0, 1), (1, 128)][·]?) (Value.agg ((.int .i64 0) :: Z).toArray).cells #[(0, Value.int .i64 (k : Int)), (1, Value.agg cs.toArray)].toList = some ((.int .i64 (k : Int)) :: cs).toArray := by
    rw [← h1]
    simp [Instr.fill, Value.cells, h, hZ]
  rw [h2]
  rfl
section
variable {ops : Array Oper} {w : World} {Q : Act → Prop} {a : Act} {o : Oper} {rest : List Oper}
theorem still_value (v : Value) (hw : Region.wanted o (yielded ops a.tmps) = true) (he : (execOp a.eval o).run Try.prog w = .ok (.value v) w) (h : wpStill Try.prog ops w Q rest (a.put o.dst v)) : wpStill Try.prog ops w Q (o :: rest) a := by
  refine wpStill_step fun K hK => ?_
  rw [if_pos hw, Oper.still, he, Oper.stillUpon_value]
  exact hK _ h
/-- a long row loaded -/
theorem still_load (ty : TypeId) (x : Operand) (ho : o.op = .load ty x) (b n : Nat) (hx : a.eval x = .pointer (some ⟨b, n, none⟩)) (cs : List Value) (d : TypeDesc) (hg : o.guard = none) (hc : w.rangeAt b n cs)
    (hu : Try.prog.underlying ty = some d) (hd : d.isRow = true) (hi : (Try.prog.info? ty).map (·.size) = some cs.length) (h : wpStill Try.prog ops w Q rest (a.put o.dst (.agg cs.toArray))) : wpStill Try.prog ops w Q (o :: rest) a := by
  refine still_value (.agg cs.toArray) (by simp [Region.wanted, hg]) ?_ h
  unfold execOp
  simp only [ho, hx, Instr.loadAt, Instr.sureAddr, Sem.run_bind, Sem.run_pure, Result.andThen_ok, run_loadVar_mid w b n ty cs d hc hu hd hi]
theorem still_build_write (x y : Operand) (ho : o.op = .build 66 #[(0, x), (1, y)]) (k : Nat) (cs : List Value) (hx : a.eval x = .int .i64 (k : Int)) (hy : a.eval y = .agg cs.toArray) (hg : o.guard = none) (hl : cs.length = 128)
    (h : wpStill Try.prog ops w Q rest (a.put o.dst (looseV k cs))) : wpStill Try.prog ops w Q (o :: rest) a := by
  refine still_value (looseV k cs) (by simp [Region.wanted, hg]) ?_ h
  unfold execOp
  simp only [ho, hx, hy, List.map_toArray, List.map_cons, List.map_nil, Sem.run_bind, run_build_write w k cs hl, Result.andThen_ok]
  rfl
end
theorem DkAt.put_hung {w w3 : World} {F : Ft} {D : Dk} (h : DkAt w F D) (x : Nat × List UInt8) (hx : x.1 < D.n ∧ x.2.length = 128) (ho : D.ops < 1048576) (hH : Hung w3 F.M (D.hung ++ [x])) (hw : ∀ j, j ≠ F.M → w3.heap[j]? = w.heap[j]?) :
    DkAt (w3.setCell ⟨F.p, 3, none⟩ (.int .i64 ((D.ops : Int) + 1))) F { D with hung := D.hung ++ [x], ops := D.ops + 1 } := by
  have f := h.ft
  have e1 : ((D.ops : Int) + 1) = ((D.ops + 1 : Nat) : Int) := by omega
  rw [e1]
  have hs : ∀ j, j ≠ F.p → (w3.setCell ⟨F.p, 3, none⟩ (.int .i64 ((D.ops + 1 : Nat) : Int))).heap[j]? = w3.heap[j]? := fun j hj => Below.heap_setCell _ _ _ _ hj
  refine ⟨f, ⟨h.ok.n1, h.ok.nm, h.ok.safe, h.ok.now, fun y hy => ?_, ?_, ?_, h.ok.c1, h.ok.c2⟩, ?_, ?_, ?_, ?_⟩
  · rcases List.mem_append.1 hy with hy | hy
    · exact h.ok.hung y hy
    · rw [List.mem_singleton.1 hy]; exact hx
  · have := h.ok.loose
    simp only [List.length_append, List.length_singleton]
    omega
  · show D.ops + 1 ≤ 1048576
    omega
  · exact head_setCell ((hw _ f.pM).trans h.head) _
  · unfold Sects
    rw [hs _ f.pS.symm, hw _ f.SM]
    exact h.safe
  · unfold Sects
    rw [hs _ f.pN.symm, hw _ f.NM]
    exact h.now
  · unfold Hung
    rw [hs _ f.pM.symm]
    exact hH

set_option maxHeartbeats 4000000 in
theorem write_any (w : World) (F : Ft) (D : Dk) (h : DkAt w F D) (at_ : Int) (v : Value) (l : List UInt8) (hv : IsB w v l) (h1 : -9223372036854775808 ≤ at_) (h2 : at_ ≤ 9223372036854775807) :
    Calls Try.prog 16 #[F.ptr, .int .i64 at_, v] w fun e w' => e = .returned (.int .i64 (D.write at_ l).1) ∧ DkAt w' F (D.write at_ l).2 ∧ Turned F.has w w' := by
  have hvv := hv
  obtain ⟨a, cap, rfl, hlc, hmx, hnil, hcc⟩ := hvv
  clear hcc
  unfold maxLen at hmx
  by_cases hg : D.gone = true
  · have e1 : D.write at_ l = (43, { D with off := true }) := by simp [Dk.write, hg]
    rw [e1]
    go_enter Try.func16, Try.ntmps16
    go_wp2_with fail
    refine (power_any w F D h).mono ?_
    rintro e w1 ⟨rfl, hd1, ht1⟩
    rw [if_pos hg]
    go_wp2_with fail
    go_ret
    exact ⟨rfl, hg ▸ hd1, ht1.has_of_p⟩
  · replace hg : D.gone = false := by simpa using hg
    by_cases hin : 0 ≤ at_ ∧ at_ < (D.n : Int)
    · obtain ⟨k, rfl⟩ := Int.eq_ofNat_of_zero_le hin.1
      have hk : k < D.n := by omega
      by_cases h8 : l.length = 128
      · by_cases hfull : 1048576 ≤ D.ops
        · have e1 : D.write k l = (44, { D with off := false }) := by simp only [Dk.write, hg]; simp [hk, h8, hfull]
          rw [e1]
          go_enter Try.func16, Try.ntmps16
          go_wp2_with fail
          refine (power_any w F D h).mono ?_
          rintro e w1 ⟨rfl, hd1, ht1⟩
          rw [hg] at hd1 ⊢
          go_wp2_with fail
          refine (has_any w1 F _ hd1 k h1 h2).mono ?_
          rintro e w2 ⟨rfl, rfl⟩
          rw [decide_eq_true hin]
          obtain ⟨c0, c1, c2, c3, c4, c5⟩ := hd1.cells
          have hd : decide ((1048576 : Int) ≤ (D.ops : Int)) = true := by simp; omega
          go_wp2_with fail
          go_ret
          exact ⟨rfl, hd1, ht1.has_of_p⟩
        · have e1 : D.write k l = (0, { D with off := false, now := putS D.now k l, hung := D.hung ++ [(k, l)], ops := D.ops + 1 }) := by simp only [Dk.write, hg]; simp [hk, h8, hfull]
          rw [e1]
          obtain ⟨B, o, rfl, hrg⟩ := hv.row (by omega)
          go_enter Try.func16, Try.ntmps16
          go_wp2_with fail
          refine (power_any w F D h).mono ?_
          rintro e w1 ⟨rfl, hd1, ht1⟩
          have hv1 := hv.turned_p h ht1
          rw [hg] at hd1 ⊢
          go_wp2_with fail
          refine (has_any w1 F _ hd1 k h1 h2).mono ?_
          rintro e w2 ⟨rfl, rfl⟩
          rw [decide_eq_true hin]
          obtain ⟨B', o', hbo, hrg1⟩ := hv1.row (by omega)
          obtain ⟨rfl, rfl⟩ : B = B' ∧ o = o' := by simpa using hbo
          obtain ⟨c0, c1, c2, c3, c4, c5⟩ := hd1.cells
          have hd : decide ((1048576 : Int) ≤ (D.ops : Int)) = false := by simp; omega
          have harr : ∀ W, (Instr.arrayAt 63 (.slice (some ⟨B, o, none⟩) 128 cap)).run Try.prog W = .ok (.pointer (some ⟨B, o, none⟩)) W := fun W => by
            exact run_arrayAt W _ _
          have hl8 : (bv l).length = 128 := by rw [bv_length, h8]
          have i0 : (0 : Int) ≤ (k : Int) := by omega
          have i1 : (k : Int) < (D.n : Int) := by omega
          go_wp2_with fail
          refine wp_region_still_tail 9 (by kernel_rfl) (by kernel_rfl) ?_
          simp only [List.take_succ_cons, List.take_zero, List.drop_succ_cons, List.drop_zero]
          change wpStill _ _ w1.drew (fun a' => wpList _ _ _ _ a' w1.drew) _ _
          have hd1' := hd1.drew
          have ht1' := ht1.drew
          have hrg1' : w1.drew.rangeAt B o (bv l) := hrg1
          obtain ⟨c0, c1, c2, c3, c4, c5⟩ := hd1'.cells
          dsimp only at c0 c1 c2 c3 c4 c5
          generalize w1.drew = W at *
          clear hd1 ht1 hrg1 hv1
          iterate 7 still_step
          refine still_load 63 (.tmp 34) rfl B o rfl (bv l) _ rfl hrg1' Try.underlying63 rfl (by rw [info_sector, hl8]) ?_
          simp only [Act.put, List.setIfInBounds_toArray, List.set_cons_zero, List.set_cons_succ]
          still_step
          refine wpStill_nil ?_
          refine wpList_store_mid rfl 63 (.tmp 36) (.tmp 35) rfl F.N (k * 128) (bv l).toArray rfl rfl (by rw [List.size_toArray, hl8]; exact hd1'.now.there k hk) (by rw [info_sector, List.size_toArray, hl8]) (all_oneCell_toArray (bv_oneCell l)) ?_
          have hd2 := hd1'.put_now k l hk h8
          have ht2 := (ht1'.has_of_p).trans (turned_now W F (k * 128) (bv l))
          dsimp only at hd2
          rw [List.toList_toArray]
          generalize W.setCells F.N (k * 128) (bv l) = W2 at *
          clear hd1' ht1' hrg1' c0 c1 c2 c3 c4 c5 harr
          obtain ⟨c0, c1, c2, c3, c4, c5⟩ := hd2.cells
          dsimp only at c0 c1 c2 c3 c4 c5
          refine wpList_nil ?_
          go_wp2_with fail
          refine wp_region_still_tail 18 (by kernel_rfl) (by kernel_rfl) ?_
          simp only [List.take_succ_cons, List.take_zero, List.drop_succ_cons, List.drop_zero]
          change wpStill _ _ W2.drew (fun a' => wpList _ _ _ _ a' W2.drew) _ _
          have hd3 := hd2.drew
          have ht3 := ht2.drew
          clear c0 c1 c2 c3 c4 c5 ht2 hd2
          generalize W2.drew = W3 at *
          obtain ⟨c0, c1, c2, c3, c4, c5⟩ := hd3.cells
          dsimp only at c0 c1 c2 c3 c4 c5
          have hlen := run_len_hung hd3.hung 3
          obtain ⟨es, cl, hm, hmu, hH⟩ := run_put_hung hd3.hung (k, l)
          dsimp only at hlen hmu hH
          have hrg3 : W3.rangeAt F.N (k * 128) (bv l) := by
            have := hd3.now.range k hk
            rw [sec_putS_same h.ok.now h8 hk] at this
            exact this
          iterate 16 still_step
          refine still_load 63 (.tmp 52) rfl F.N (k * 128) rfl (bv l) _ rfl hrg3 Try.underlying63 rfl (by rw [info_sector, hl8]) ?_
          simp only [Act.put, List.setIfInBounds_toArray, List.set_cons_zero, List.set_cons_succ]
          refine still_build_write (.tmp 46) (.tmp 53) rfl k (bv l) rfl rfl rfl hl8 ?_
          simp only [Act.put, List.setIfInBounds_toArray, List.set_cons_zero, List.set_cons_succ]
          refine wpStill_nil ?_
          obtain ⟨W4, hmu', hH', hw4, ht4⟩ : ∃ W4, (Instr.mapUpdate 58 (.map (some F.M)) (.int .i64 (D.hung.length : Int)) (looseV k (bv l))).run Try.prog W3 = .ok () W4 ∧ Hung W4 F.M (D.hung ++ [(k, l)]) ∧ (∀ j, j ≠ F.M → W4.heap[j]? = W3.heap[j]?) ∧ Turned F.has W3 W4 :=
            ⟨_, hmu, hH, fun j hj => (MapKept.heap_set hm).2 j hj, rfl, rfl, rfl, by simp, fun j _ hn => (MapKept.heap_set hm).2 j (fun e => hn (.inr (.inr (.inr e))))⟩
          have hfin := hd3.put_hung (k, l) ⟨hk, h8⟩ (Nat.lt_of_not_le hfull) hH' hw4
          have htf := (ht3.trans ht4).trans (turned_p W4 F 3 (.int .i64 ((D.ops : Int) + 1))).has_of_p
          have g3 : W4.cell? ⟨F.p, 3, none⟩ = some (.int .i64 (D.ops : Int)) := (World.cell?_of_block (w := W3) (hw4 F.p h.ft.pM)).trans c3
          have f3 : W4.frozen? ⟨F.p, 3, none⟩ = false := (World.frozen?_of_block (w := W3) (hw4 F.p h.ft.pM)).trans (frozen_p hd3.head 3)
          clear hmu hH hm hw4 ht4 ht3 hd3 hlen hrg3 c0 c1 c2 c3 c4 c5 hrg
          go_wp2_with fail
          go_ret
          exact ⟨rfl, hfin, htf⟩
      · have e1 : D.write k l = (42, { D with off := false }) := by simp only [Dk.write, hg]; simp [hk, h8]
        rw [e1]
        go_enter Try.func16, Try.ntmps16
        go_wp2_with fail
        refine (power_any w F D h).mono ?_
        rintro e w1 ⟨rfl, hd1, ht1⟩
        rw [hg] at hd1 ⊢
        go_wp2_with fail
        refine (has_any w1 F _ hd1 k h1 h2).mono ?_
        rintro e w2 ⟨rfl, rfl⟩
        rw [decide_eq_true hin]
        have hne : ((l.length : Int) != 128) = true := by simp; omega
        go_wp2_with fail
        go_ret
        exact ⟨rfl, hd1, ht1.has_of_p⟩
    · have e1 : D.write at_ l = (41, { D with off := false }) := by simp only [Dk.write, hg]; simp [hin]
      rw [e1]
      go_enter Try.func16, Try.ntmps16
      go_wp2_with fail
      refine (power_any w F D h).mono ?_
      rintro e w1 ⟨rfl, hd1, ht1⟩
      rw [hg] at hd1 ⊢
      go_wp2_with fail
      refine (has_any w1 F _ hd1 at_ h1 h2).mono ?_
      rintro e w2 ⟨rfl, rfl⟩
      rw [decide_eq_false hin]
      go_wp2_with fail
      go_ret
      exact ⟨rfl, hd1, ht1.has_of_p⟩
end Go.Proofs.Ytncoclbmnhbgbaa
