/- slices.Insert of one entry into a row of entries of the call's own. -/
import Derived.Test.YtaohneahlcnahaaDue
import Derived.Test.YtaohneahlcnahaaCells
import Derived.Deep.RegionHeld3
import Derived.Deep.RegionLaw
import Derived.Lib.Overlaps
import Derived.Lib.AppendZerosOnto
import Derived.Laws.Externs
import Derived.Laws.NewBlocks
import Derived.Shelf.Spec.SlicesInsert
set_option linter.unusedVariables false
set_option linter.unusedSimpArgs false
namespace Go.Proofs.Ytaohneahlcnahaa
open Go.RowKit

theorem run_copy_due (w : World) (ty : TypeId) (g o nd dc : Nat) (cur : Array Value) (hg : w.heap[g]? = some (.cells cur 37 (0, 0))) (src : Value) (ns k : Nat) (hlo : ∀ w : World, (Builtin.lenOf src).run Try.prog w = .ok ns w)
    (hk : k = min nd ns) (cs : List Value) (hcl : cs.length = k * 2) (hfc : (Builtin.firstCells 2 k src).run Try.prog w = .ok cs.toArray w) (hone : ∀ u ∈ cs, u.oneCell' = true) (hfit : o + k * 2 ≤ cur.size) :
    (Builtin.copy_ #[27, 27] ty #[.slice (some ⟨g, o, none⟩) nd dc, src]).run Try.prog w = .ok (.int .i64 (k : Int)) (w.setCells g o cs) := by
  have hst := run_storeCells_cells (P := Try.prog) g o cs 0 w (fun j hj => by rw [cell_of_row _ _ _ _ _ _ hg, Array.getElem?_eq_getElem (by omega)]; rfl) (fun j hj => frozen_p hg _) hone
  have hsz : ∀ w, (sizeOf 37).run Try.prog w = .ok 2 w := fun w => by kernel_rfl
  simp only [Nat.add_zero] at hst
  have e : ns.min nd = k := by rw [hk]; exact Nat.min_comm _ _
  unfold Builtin.copy_
  simp [run_underlying Try.underlying27, hsz, hlo, e, hfc, hst, goInt]

theorem lay_list {α : Type} (C X D : List α) (p n q r : Nat) (hX : X.length = 2) (hC : p + 2 ≤ C.length) (hD : p + 2 + D.length = n) (hq : q = p + 2) (hr : r = p + X.length) :
    ((C.take q ++ (D ++ C.drop (q + D.length))).take p ++ (X ++ (C.take q ++ (D ++ C.drop (q + D.length))).drop r)).take n = C.take p ++ (X ++ D) := by
  subst hq
  subst hr
  have hl : (C.take (p + 2)).length = p + 2 := by rw [List.length_take]; omega
  have t1 : (C.take (p + 2) ++ (D ++ C.drop (p + 2 + D.length))).take p = C.take p := by
    rw [List.take_append_of_le_length (by omega), List.take_take, Nat.min_eq_left (by omega)]
  have t2 : (C.take (p + 2) ++ (D ++ C.drop (p + 2 + D.length))).drop (p + X.length) = D ++ C.drop (p + 2 + D.length) := List.drop_left' (by rw [hl, hX])
  rw [t1, t2, ← List.append_assoc, ← List.append_assoc, ← List.append_assoc]
  rw [List.take_left' (by simp only [List.length_append, List.length_take, hX]; omega)]
set_option maxRecDepth 100000 in
set_option maxHeartbeats 4000000 in
theorem insert_shift (B : Nat) (w : World) (g cap i gx : Nat) (L : List Du) (x : Du) (hown : MineD B w (.slice (some ⟨g, 0, none⟩) L.length cap) L) (hx : w.heap[gx]? = some (.cells (dv1 x).toArray 37 (0, 0))) (hne : gx ≠ g)
    (hi : i < L.length) (hroom : L.length + 1 ≤ cap) (hlen : L.length ≤ 1099511627776) :
    Calls Try.prog 38 #[.slice (some ⟨g, 0, none⟩) L.length cap, .int .i64 (i : Int), .slice (some ⟨gx, 0, none⟩) 1 1] w fun e w' => e = .returned (.slice (some ⟨g, 0, none⟩) (L.length + 1) cap) ∧
      MineD B w' (.slice (some ⟨g, 0, none⟩) (L.length + 1) cap) (L.take i ++ x :: L.drop i) ∧ Turned (· = g) w w' := by
  obtain ⟨hl0, hown2⟩ := id hown
  rcases hown2 with ⟨hv, _⟩ | ⟨g', cap', cur, hv, hBg, hg, hnc, hcm, hcs, htake⟩
  · cases hv
  simp only [Value.slice.injEq, Option.some.injEq, Addr.mk.injEq, and_true, true_and] at hv
  obtain ⟨rfl, rfl⟩ := hv
  unfold maxLen at hcm
  have z1 : ¬ ((i : Int) = (L.length : Int)) := by omega
  have z2 : ¬ ((cap : Int) < (L.length : Int) + 1) := by omega
  have z3 : ¬ (cap = i) := by omega
  have z4 : ¬ (cap = i + 1) := by omega
  have hsx : w.shape? gx = some (37, 2) := by simp [World.shape?, hx, dv1]
  have hsg : w.shape? g = some (37, cap * 2) := by simp [World.shape?, hg, hcs]
  have hov : ∀ lb cb, (callFunc 42 #[.slice (some ⟨gx, 0, none⟩) 1 1, .slice (some ⟨g, (i + 1) * 2, none⟩) lb cb]).run Try.prog w = .ok (.value (.bool false)) w := fun lb cb => by
    rw [run_callFunc_extern Try.func42 (by kernel_rfl) (by kernel_rfl) (by kernel_rfl) (e := Extern.SlicesOverlaps.overlaps #[27, 27] #[4]) (by kernel_rfl),
      Lib.run_overlaps_apart w 27 4 37 Try.underlying27 2 (fun w => by kernel_rfl) ⟨gx, 0, none⟩ ⟨g, (i + 1) * 2, none⟩ 1 1 lb cb hne _ _ _ _ hsx hsg (by omega) (frozen_p hx _) (frozen_p hx _)]
    rfl
  have hdd : dv (L.drop i) = (dv L).drop (i * 2) := dv_drop L i
  have hdl : (dv (L.drop i)).length = (L.length - i) * 2 := by rw [dv_length, List.length_drop]
  have hcel : ∀ j u, (dv L)[j]? = some u → w.cell? ⟨g, j, none⟩ = some u := fun j u hj => by
    have hlt : j < (dv L).length := (List.getElem?_eq_some_iff.1 hj).1
    rw [← htake, List.getElem?_take, if_pos (by rwa [dv_length] at hlt)] at hj
    rw [cell_of_row _ _ _ _ _ _ hg]
    simpa using hj
  have hcp1 : ∀ ty dc sc, (Builtin.copy_ #[27, 27] ty #[.slice (some ⟨g, (i + 1) * 2, none⟩) (L.length - i) dc, .slice (some ⟨g, i * 2, none⟩) (L.length + 1 - i) sc]).run Try.prog w.drew = .ok (.int .i64 ((L.length - i : Nat) : Int)) (w.drew.setCells g ((i + 1) * 2) (dv (L.drop i))) := fun ty dc sc =>
    run_copy_due w.drew ty g _ _ dc cur hg _ (L.length + 1 - i) (L.length - i) (fun _ => rfl) (by omega) _ hdl (run_firstCells_some (P := Try.prog) w.drew 2 (L.length - i) ⟨g, i * 2, none⟩ (L.length + 1 - i) sc _ hdl (fun j u hj => by
      rw [Addr.add_lit]
      rw [hdd, List.getElem?_drop] at hj
      exact hcel _ _ hj)) (dv_oneCell _) (by omega)
  obtain ⟨cur1, hg1, hc1⟩ := setCells_heap g 37 (dv (L.drop i)) ((i + 1) * 2) w.drew cur hg (by rw [hdl]; omega)
  have hsz1 : cur1.size = cap * 2 := by
    rw [← Array.length_toList, hc1]
    simp only [List.length_append, List.length_take, List.length_drop, hdl, Array.length_toList]
    omega
  have hcp2 : ∀ (W : World), (W.heap = (w.drew.setCells g ((i + 1) * 2) (dv (L.drop i))).heap) → ∀ ty dc, (Builtin.copy_ #[27, 27] ty #[.slice (some ⟨g, i * 2, none⟩) (L.length + 1 - i) dc, .slice (some ⟨gx, 0, none⟩) 1 1]).run Try.prog W = .ok (.int .i64 ((1 : Nat) : Int)) (W.setCells g (i * 2) (dv1 x)) := fun W hW ty dc =>
    run_copy_due W ty g _ _ dc cur1 (by rw [hW]; exact hg1) _ 1 1 (fun _ => rfl) (by omega) _ rfl (run_firstCells_some (P := Try.prog) W 2 1 ⟨gx, 0, none⟩ 1 1 _ rfl (fun j u hj => by
      rw [Addr.add_lit, Nat.zero_add, cell_of_row W _ _ _ _ _ (by rw [hW, setCells_other _ _ _ _ _ hne]; exact hx)]
      simpa using hj)) (fun u hu => by simp only [dv1, List.mem_cons, List.not_mem_nil, or_false] at hu; rcases hu with rfl | rfl <;> rfl) (by omega)
  generalize hw2 : w.drew.setCells g ((i + 1) * 2) (dv (L.drop i)) = w2 at *
  obtain ⟨cur2, hg2, hc2⟩ := setCells_heap g 37 (dv1 x) (i * 2) w2 cur1 hg1 (by rw [hsz1]; simp [dv1]; omega)
  have hfin : MineD B (w2.setCells g (i * 2) (dv1 x)) (.slice (some ⟨g, 0, none⟩) (L.length + 1) cap) (L.take i ++ x :: L.drop i) := by
    have hll : (L.take i ++ x :: L.drop i).length = L.length + 1 := by simp; omega
    have hx2 : (dv1 x).length = 2 := rfl
    unfold MineD
    rw [hll]
    refine ⟨by rw [dv_length, hll], .inr ⟨g, cap, cur2, rfl, hBg, hg2, hroom, by unfold maxLen; omega, ?_, ?_⟩⟩
    · rw [← Array.length_toList, hc2]
      simp only [List.length_append, List.length_take, List.length_drop, hx2, Array.length_toList, hsz1]
      omega
    · have e : dv (L.take i ++ x :: L.drop i) = (dv L).take (i * 2) ++ (dv1 x ++ dv (L.drop i)) := by rw [dv_append, dv_cons, dv_take]
      have h1 : cur.toList.length = cap * 2 := by rw [Array.length_toList, hcs]
      have e2 : (dv L).take (i * 2) = cur.toList.take (i * 2) := by rw [← htake, List.take_take, Nat.min_eq_left (by omega)]
      rw [hc2, hc1, e, e2]
      exact lay_list cur.toList (dv1 x) (dv (L.drop i)) (i * 2) ((L.length + 1) * 2) _ _ hx2 (by rw [h1]; omega) (by rw [hdl]; omega) (by omega) (by omega)
  have hturn : Turned (· = g) w (w2.setCells g (i * 2) (dv1 x)) := by
    obtain ⟨r1, r2, r3, r4⟩ := setCells_rest g (dv1 x) (i * 2) w2
    obtain ⟨s1, s2, s3, s4⟩ := setCells_rest g (dv (L.drop i)) ((i + 1) * 2) w.drew
    rw [hw2] at s1 s2 s3 s4
    exact ⟨r1.trans s1, r2.trans s2, r3.trans s3, by rw [r4, s4]; exact Nat.le_refl _, fun k hk hn => (setCells_other _ _ _ _ _ hn).trans (by rw [← hw2]; exact setCells_other _ _ _ _ _ hn)⟩
  have HF := Lib.hid (And.intro hfin hturn)
  clear hfin hturn hc1 hc2 hg1 hg2 hdl hdd hcel htake hsz1 hcs hsx hsg hw2 hg hl0
  go_enter Try.func38, Try.ntmps38
  have hw1 : IntKind.i64.wrap ((i : Int) + 1) = (i : Int) + 1 := by rw [IntKind.wrap_i64]; omega
  have hb1 : (0 : Int) ≤ (i : Int) + 1 := by omega
  have hb2 : (i : Int) ≤ (L.length : Int) + 1 := by omega
  have hb3 : (i : Int) + 1 ≤ (L.length : Int) + 1 := by omega
  have htn : ((i : Int) + 1).toNat = i + 1 := by omega
  go_wp2_with (simp only [hov])
  go_region_law (refine step_copy_runI rfl _ _ 27 27 rfl _ _ (by simp [Act.eval, Act.put]) (by simp [Act.eval, Act.put]) (hcp1 _ _ _) ?_)
  go_wp2_with (at_builtin; refine wpList_copy_runI _ rfl _ _ 27 27 rfl _ _ rfl rfl (hcp2 _ rfl _ _) ?_)
  go_ret
  exact ⟨rfl, HF.out.1, HF.out.2⟩
theorem lay_list2 {α : Type} (C X D : List α) (p n q r : Nat) (hX : X.length = 2) (hC : p + 2 ≤ C.length) (hD : p + 2 + D.length = n) (hq : q = p + 2) (hr : r = p + X.length) :
    ((C.take p ++ (X ++ C.drop r)).take q ++ (D ++ (C.take p ++ (X ++ C.drop r)).drop (q + D.length))).take n = C.take p ++ (X ++ D) := by
  subst hq
  subst hr
  have hl : (C.take p).length = p := by rw [List.length_take]; omega
  have t1 : (C.take p ++ (X ++ C.drop (p + X.length))).take (p + 2) = C.take p ++ X := by
    rw [← List.append_assoc, List.take_left' (by rw [List.length_append, hl, hX])]
  rw [t1, ← List.append_assoc, List.append_assoc (C.take p) X D, ← List.append_assoc (C.take p) X D]
  rw [List.take_left' (by simp only [List.length_append, List.length_take, hX]; omega)]
set_option maxRecDepth 100000 in
set_option maxHeartbeats 4000000 in
theorem insert_grow (B : Nat) (w : World) (g cap i gx : Nat) (L : List Du) (x : Du) (hown : MineD B w (.slice (some ⟨g, 0, none⟩) L.length cap) L) (hx : w.heap[gx]? = some (.cells (dv1 x).toArray 37 (0, 0)))
    (hi : i < L.length) (hroom : cap < L.length + 1) (hlen : L.length ≤ 1099511627776) :
    Calls Try.prog 38 #[.slice (some ⟨g, 0, none⟩) L.length cap, .int .i64 (i : Int), .slice (some ⟨gx, 0, none⟩) 1 1] w fun e w' => ∃ v', e = .returned v' ∧
      MineD w.heap.size w' v' (L.take i ++ x :: L.drop i) ∧ Below w.heap.size w w' := by
  obtain ⟨hl0, hown2⟩ := id hown
  rcases hown2 with ⟨hv, _⟩ | ⟨g', cap', cur, hv, hBg, hg, hnc, hcm, hcs, htake⟩
  · cases hv
  simp only [Value.slice.injEq, Option.some.injEq, Addr.mk.injEq, and_true, true_and] at hv
  obtain ⟨rfl, rfl⟩ := hv
  unfold maxLen at hcm
  have z1 : ¬ ((i : Int) = (L.length : Int)) := by omega
  have z2 : (cap : Int) < (L.length : Int) + 1 := by omega
  have z3 : ¬ (cap = i) := by omega
  have hkk : (L.length : Int) + 1 - (i : Int) = ((L.length + 1 - i : Nat) : Int) := by omega
  have hik : i + (L.length + 1 - i) = L.length + 1 := by omega
  have hcel : ∀ j u, (dv L)[j]? = some u → w.cell? ⟨g, j, none⟩ = some u := fun j u hj => by
    have hlt : j < (dv L).length := (List.getElem?_eq_some_iff.1 hj).1
    rw [← htake, List.getElem?_take, if_pos (by rwa [dv_length] at hlt)] at hj
    rw [cell_of_row _ _ _ _ _ _ hg]
    simpa using hj
  obtain ⟨i0, hi0, hz0, hzs, hzb⟩ := info_parts (P := Try.prog) (e := 37) info_due
  have hdt : dv (L.take i) = (dv L).take (i * 2) := dv_take L i
  have hold : (Builtin.firstCells i0.size i (.slice (some ⟨g, 0, none⟩) i cap)).run Try.prog w.drew = .ok (dv (L.take i)).toArray w.drew := by
    rw [hzs]
    exact run_firstCells_some w.drew 2 i ⟨g, 0, none⟩ i cap (dv (L.take i)) (by rw [dv_length, List.length_take]; omega) (fun j v hj => by
      rw [Addr.add_lit, Nat.zero_add]
      rw [hdt, List.getElem?_take] at hj
      split at hj
      · exact hcel j v hj
      · cases hj)
  obtain ⟨G, hG⟩ : ∃ G, G = grownCap w (L.length + 1) cap 37 := ⟨_, rfl⟩
  obtain ⟨ROW, hROW⟩ : ∃ ROW : Array Value, ROW = (dv (L.take i)).toArray ++ Builtin.zeroCells (Value.cells (.agg #[.int .i64 0, .int .i64 0])) (L.length + 1 - i) ++ Builtin.zeroCells (Value.cells (.agg #[.int .i64 0, .int .i64 0])) (G - (L.length + 1)) := ⟨_, rfl⟩
  have hrz : ∀ ty, (Builtin.append_ #[27, 3] ty #[.slice (some ⟨g, 0, none⟩) i cap, .int .i64 ((L.length : Int) + 1 - (i : Int))]).run Try.prog w = .ok (.slice (some ⟨w.heap.size, 0, none⟩) (L.length + 1) G) (w.drew.alloc (.cells ROW 37)) := fun ty => by
    have h := Lib.run_append_grow_zeros w 27 3 ty 37 i0 _ .i64 .i64 Try.underlying27 Try.underlying3 hi0 hz0 (some ⟨g, 0, none⟩) i cap (dv (L.take i)) hold (L.length + 1 - i) (by omega) (by omega) (by omega) (by omega) (by rw [hzb]; omega) (by rw [hzb, hik]; exact growslice_fits hroom (by omega))
    rw [hik] at h
    rw [hkk, hROW, hG]
    exact h
  have hGn : L.length + 1 ≤ G := by rw [hG]; exact grownCap_ge w _ _ _
  have hGm : G ≤ maxLen := by rw [hG]; exact grownCap_le_maxLen w (L.length + 1) cap 37 (by unfold maxLen; omega)
  have hRs : ROW.size = G * 2 := by
    rw [hROW]
    have hz2 : (Value.cells (.agg #[.int .i64 0, .int .i64 0])).size = 2 := rfl
    simp only [Array.size_append, List.size_toArray, size_zeroCells, hz2, dv_length, List.length_take]
    omega
  have hRt : ROW.toList.take (i * 2) = dv (L.take i) := by
    rw [hROW]
    simp only [Array.toList_append, List.append_assoc]
    exact List.take_left' (by rw [dv_length, List.length_take]; omega)
  have hg1 : (w.drew.alloc (.cells ROW 37)).heap[w.heap.size]? = some (.cells ROW 37 (0, 0)) := heap_alloc_new w.drew _
  have hgx1 : (w.drew.alloc (.cells ROW 37)).heap[gx]? = some (.cells (dv1 x).toArray 37 (0, 0)) := (Below.heap_alloc w.drew _ _ (lt_of_heap hx)).trans hx
  have hgg1 : (w.drew.alloc (.cells ROW 37)).heap[g]? = some (.cells cur 37 (0, 0)) := (Below.heap_alloc w.drew _ _ (lt_of_heap hg)).trans hg
  have hsg := lt_of_heap hg
  have b1 : Below w.heap.size w (w.drew.alloc (.cells ROW 37)) := (Below.refl _ _).drew.alloc (Nat.le_refl _) _
  have Hrz := Lib.hid hrz
  clear hold hi0 hz0 hzs hzb hkk hrz hROW hG
  generalize hW1 : w.drew.alloc (.cells ROW 37) = W1 at *
  generalize hsw : w.heap.size = s at *
  have hdd : dv (L.drop i) = (dv L).drop (i * 2) := dv_drop L i
  have hdl : (dv (L.drop i)).length = (L.length - i) * 2 := by rw [dv_length, List.length_drop]
  have hx2 : (dv1 x).length = 2 := rfl
  have hcp1 : ∀ (W : World), W.heap = W1.heap → ∀ ty dc, (Builtin.copy_ #[27, 27] ty #[.slice (some ⟨s, i * 2, none⟩) (L.length + 1 - i) dc, .slice (some ⟨gx, 0, none⟩) 1 1]).run Try.prog W = .ok (.int .i64 ((1 : Nat) : Int)) (W.setCells s (i * 2) (dv1 x)) := fun W hW ty dc =>
    run_copy_due W ty s _ _ dc ROW (by rw [hW]; exact hg1) _ 1 1 (fun _ => rfl) (by omega) _ rfl (run_firstCells_some (P := Try.prog) W 2 1 ⟨gx, 0, none⟩ 1 1 _ rfl (fun j u hj => by
      rw [Addr.add_lit, Nat.zero_add, cell_of_row W _ _ _ _ _ (by rw [hW]; exact hgx1)]
      simpa using hj)) (fun u hu => by simp only [dv1, List.mem_cons, List.not_mem_nil, or_false] at hu; rcases hu with rfl | rfl <;> rfl) (by omega)
  obtain ⟨cur1, hc1, hl1⟩ := setCells_heap s 37 (dv1 x) (i * 2) W1 ROW hg1 (by rw [hx2, hRs]; omega)
  have hsz1 : cur1.size = G * 2 := by
    rw [← Array.length_toList, hl1]
    simp only [List.length_append, List.length_take, List.length_drop, hx2, Array.length_toList]
    omega
  have hcp2 : ∀ (W : World), W.heap = (W1.setCells s (i * 2) (dv1 x)).heap → ∀ ty dc sc, (Builtin.copy_ #[27, 27] ty #[.slice (some ⟨s, (i + 1) * 2, none⟩) (L.length - i) dc, .slice (some ⟨g, i * 2, none⟩) (L.length - i) sc]).run Try.prog W = .ok (.int .i64 ((L.length - i : Nat) : Int)) (W.setCells s ((i + 1) * 2) (dv (L.drop i))) := fun W hW ty dc sc =>
    run_copy_due W ty s _ _ dc cur1 (by rw [hW]; exact hc1) _ (L.length - i) (L.length - i) (fun _ => rfl) (by omega) _ hdl (run_firstCells_some (P := Try.prog) W 2 (L.length - i) ⟨g, i * 2, none⟩ (L.length - i) sc _ hdl (fun j u hj => by
      rw [Addr.add_lit]
      rw [hdd, List.getElem?_drop] at hj
      have := hcel _ _ hj
      rw [cell_of_row _ _ _ _ _ _ hg] at this
      rw [cell_of_row W _ _ _ _ _ (by rw [hW, setCells_other _ _ _ _ _ (by omega)]; exact hgg1)]
      exact this)) (dv_oneCell _) (by omega)
  obtain ⟨cur2, hc2, hl2⟩ := setCells_heap s 37 (dv (L.drop i)) ((i + 1) * 2) (W1.setCells s (i * 2) (dv1 x)).drew cur1 hc1 (by rw [hdl, hsz1]; omega)
  have hfin : ∀ W : World, W.heap = ((W1.setCells s (i * 2) (dv1 x)).drew.setCells s ((i + 1) * 2) (dv (L.drop i))).heap → MineD s W (.slice (some ⟨s, 0, none⟩) (L.length + 1) G) (L.take i ++ x :: L.drop i) := by
    intro W hW
    have hll : (L.take i ++ x :: L.drop i).length = L.length + 1 := by simp; omega
    unfold MineD
    rw [hll]
    refine ⟨by rw [dv_length, hll], .inr ⟨s, G, cur2, rfl, Nat.le_refl _, by rw [hW]; exact hc2, hGn, hGm, ?_, ?_⟩⟩
    · rw [← Array.length_toList, hl2]
      simp only [List.length_append, List.length_take, List.length_drop, hdl, Array.length_toList, hsz1]
      omega
    · have e : dv (L.take i ++ x :: L.drop i) = dv (L.take i) ++ (dv1 x ++ dv (L.drop i)) := by rw [dv_append, dv_cons]
      rw [hl2, hl1, e, ← hRt]
      exact lay_list2 ROW.toList (dv1 x) (dv (L.drop i)) (i * 2) ((L.length + 1) * 2) _ _ hx2 (by rw [Array.length_toList, hRs]; omega) (by rw [hdl]; omega) (by omega) (by omega)
  have hbel : Below s w ((W1.setCells s (i * 2) (dv1 x)).drew.setCells s ((i + 1) * 2) (dv (L.drop i))) := by
    obtain ⟨r1, r2, r3, r4⟩ := setCells_rest s (dv (L.drop i)) ((i + 1) * 2) (W1.setCells s (i * 2) (dv1 x)).drew
    obtain ⟨s1, s2, s3, s4⟩ := setCells_rest s (dv1 x) (i * 2) W1
    refine b1.trans ⟨r1.trans s1, r2.trans s2, r3.trans s3, ?_, fun k hk => (setCells_other _ _ _ _ _ (by omega)).trans (setCells_other _ _ _ _ _ (by omega))⟩
    rw [r4]
    show _ ≤ (W1.setCells s (i * 2) (dv1 x)).heap.size
    rw [s4]
    exact Nat.le_refl _
  have HF := Lib.hid (And.intro (hfin _ rfl) hbel)
  have HS := Lib.hid hsw
  have HW1 := Lib.hid hW1
  clear hfin hbel hl1 hl2 hc1 hc2 hdl hdd hcel htake hsz1 hcs hg hl0 hdt hRs hRt hg1 hgx1 hgg1 b1 hsw hW1 hx hown
  have hw1 : IntKind.i64.wrap ((i : Int) + 1) = (i : Int) + 1 := by rw [IntKind.wrap_i64]; omega
  have hb1 : (0 : Int) ≤ (i : Int) + 1 := by omega
  have hb2 : (i : Int) ≤ (L.length : Int) + 1 := by omega
  have hb3 : (i : Int) + 1 ≤ (L.length : Int) + 1 := by omega
  have hb4 : (i : Int) ≤ (L.length : Int) := by omega
  have hgi : ¬ (G = i) := by omega
  have hgi1 : ¬ (G = i + 1) := by omega
  have htn : ((i : Int) + 1).toNat = i + 1 := by omega
  have hc1' := hcp1 W1 rfl
  have HC2 := Lib.hid hcp2
  clear hcp1 hcp2
  go_enter Try.func38, Try.ntmps38
  go_wp2_with (at_builtin; refine Lib.wpList_append_run _ rfl _ _ _ _ rfl _ _ rfl rfl _ _ (Hrz.out _) ?_)
  go_region_law (refine step_copy_runI rfl _ _ 27 27 rfl (.slice (some ⟨s, (i + 1) * 2, none⟩) (L.length + 1 - (i + 1)) (G - (i + 1))) (.slice (some ⟨g, i * 2, none⟩) (L.length - i) (cap - i)) (by simp [Act.eval, Act.put]) (by simp [Act.eval, Act.put]) (by rw [show L.length + 1 - (i + 1) = L.length - i by omega]; exact HC2.out (W1.setCells s (i * 2) (dv1 x)).drew rfl _ _ _) ?_)
  go_wp2
  go_ret
  exact ⟨_, rfl, HF.out.1, HF.out.2⟩
/-- at the end -/
theorem insert_end (B : Nat) (w : World) (v : Value) (gx : Nat) (L : List Du) (x : Du) (hown : MineD B w v L) (hx : w.heap[gx]? = some (.cells (dv1 x).toArray 37 (0, 0))) (hB : B ≤ w.heap.size)
    (hlen : L.length ≤ 549755813888) :
    Calls Try.prog 38 #[v, .int .i64 (L.length : Int), .slice (some ⟨gx, 0, none⟩) 1 1] w fun e w' => ∃ v', e = .returned v' ∧
      MineD B w' v' (L ++ [x]) ∧ w.grownBy w' v.ownBlock := by
  have hxd : IsD w (.slice (some ⟨gx, 0, none⟩) 1 1) [x] := by
    refine ⟨_, 1, rfl, Nat.le_refl _, by simp [maxLen], fun h => (by cases h), ?_⟩
    rintro y ⟨⟩
    refine ⟨fun _ => rfl, fun i hi => ?_⟩
    obtain rfl : i = 0 := by simpa using hi
    exact ⟨by rw [cell_of_row _ _ _ _ _ _ hx]; rfl, by rw [cell_of_row _ _ _ _ _ _ hx]; rfl⟩
  obtain ⟨v', w1, hr, hm, _, hg, _⟩ := run_dues w B v L hown _ [x] hxd (by simp; omega) hB
  obtain ⟨a, cap, rfl, hlc, hmx, hnil, _⟩ := hown.isD
  unfold maxLen at hmx
  have hbe : ((L.length : Int) == (L.length : Int)) = true := by simp
  clear hown hx hxd
  by_cases hcl : cap = L.length
  · subst hcl
    go_enter Try.func38, Try.ntmps38
    go_wp2_with (at_builtin; refine Lib.wpList_append_run _ rfl _ _ _ _ rfl _ _ rfl rfl _ _ hr ?_; clear hr)
    go_ret
    exact ⟨_, rfl, hm, hg⟩
  · go_enter Try.func38, Try.ntmps38
    go_wp2_with (at_builtin; refine Lib.wpList_append_run _ rfl _ _ _ _ rfl _ _ rfl rfl _ _ hr ?_; clear hr)
    go_ret
    exact ⟨_, rfl, hm, hg⟩
/-- slices.Insert of one entry -/
theorem insert_any (B : Nat) (w : World) (v : Value) (i gx : Nat) (L : List Du) (x : Du) (hown : MineD B w v L) (hx : w.heap[gx]? = some (.cells (dv1 x).toArray 37 (0, 0))) (hne : v.ownBlock ≠ some gx) (hB : B ≤ w.heap.size)
    (hi : i ≤ L.length) (hlen : L.length ≤ 549755813888) :
    Calls Try.prog 38 #[v, .int .i64 (i : Int), .slice (some ⟨gx, 0, none⟩) 1 1] w fun e w' => ∃ v', e = .returned v' ∧
      MineD B w' v' (L.take i ++ x :: L.drop i) ∧ Turned (fun k => some k = v.ownBlock) w w' := by
  by_cases he : i = L.length
  · subst he
    refine (insert_end B w v gx L x hown hx hB hlen).mono ?_
    rintro e w' ⟨v', rfl, hm, hg⟩
    exact ⟨v', rfl, by rw [List.take_length, List.drop_length]; exact hm, hg.os, hg.tape, hg.output, hg.size, fun k hk hn => hg.block k hk hn⟩
  · rcases hown.2 with ⟨_, hn⟩ | ⟨g, cap, cur, rfl, hBg, hg, hnc, hcm, hcs, htake⟩
    · omega
    · have hne' : gx ≠ g := fun e => hne (by rw [e]; rfl)
      by_cases hr : L.length + 1 ≤ cap
      · refine (insert_shift B w g cap i gx L x hown hx hne' (by omega) hr (by omega)).mono ?_
        rintro e w' ⟨rfl, hm, ht⟩
        exact ⟨_, rfl, hm, ht.mono fun k _ hk => by subst hk; rfl⟩
      · refine (insert_grow B w g cap i gx L x hown hx (by omega) (by omega) (by omega)).mono ?_
        rintro e w' ⟨v', rfl, hm, hb⟩
        exact ⟨v', rfl, hm.down hB, Turned.of_below hb⟩
end Go.Proofs.Ytaohneahlcnahaa
