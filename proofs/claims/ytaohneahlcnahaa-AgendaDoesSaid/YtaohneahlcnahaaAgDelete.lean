/- slices.IndexFunc, slices.DeleteFunc over entries, at 'has that number'. -/
import Derived.Test.YtaohneahlcnahaaAgenda
set_option linter.unusedVariables false
set_option linter.unusedSimpArgs false
namespace Go.Proofs.Ytaohneahlcnahaa
open Go.RowKit

/-- 'has that number', as a value: the number lies in block b -/
abbrev isF (b : Nat) : Value := .func (.func 27) #[] #[.pointer (some ⟨b, 0, none⟩)]
theorem isF_any (w : World) (b : Nat) (id : Int) (hb : w.cell? ⟨b, 0, none⟩ = some (.int .i64 id)) (x : Du) :
    Calls Try.prog 27 #[.agg #[.int .i64 x.1, .int .i64 x.2], .pointer (some ⟨b, 0, none⟩)] w fun e w' => e = .returned (.bool (x.2 == id)) ∧ Below w.heap.size w w' := by
  have hb2 := cells_below ((Below.refl _ w).alloc (Nat.le_refl _) (.cells (dv1 x).toArray 37)) _ _ hb
  have b2 : Below w.heap.size w (w.alloc (.cells #[.int .i64 x.1, .int .i64 x.2] 37)) := (Below.refl _ w).alloc (Nat.le_refl _) _
  have hb3 : (w.alloc (.cells #[.int .i64 x.1, .int .i64 x.2] 37)).cell? ⟨b, 0, none⟩ = some (.int .i64 id) := hb2
  have hlt := World.block_lt_of_cell? w _ hb
  dsimp only at hlt
  clear hb2
  go_enter Try.func27, Try.ntmps27
  go_wp2
  go_ret
  exact ⟨rfl, b2⟩
def IxPost (w : World) (L : List Du) (id : Int) (e : Ending) (w' : World) : Prop :=
  ((e = .returned (.int .i64 (-1)) ∧ ∀ x ∈ L, (x.2 == id) = false) ∨ ∃ k : Nat, ∃ h : k < L.length, e = .returned (.int .i64 (k : Int)) ∧ (L[k].2 == id) = true ∧ ∀ x ∈ L.take k, (x.2 == id) = false) ∧ Below w.heap.size w w'
theorem index_none {L : List Du} {id : Int} {k : Nat} (hk : k < L.length) (h : ∀ x ∈ L.take k, (x.2 == id) = false) (hx : (L[k].2 == id) = false) : ∀ x ∈ L.take (k + 1), (x.2 == id) = false := by
  intro x hm
  rw [List.take_add_one, List.getElem?_eq_getElem hk, Option.toList_some, List.mem_append, List.mem_singleton] at hm
  rcases hm with hm | rfl
  · exact h x hm
  · exact hx
set_option maxHeartbeats 4000000 in
theorem indexF_any (w : World) (v : Value) (L : List Du) (hv : IsD w v L) (hlen : L.length ≤ 1000000) (b : Nat) (id : Int) (hb : w.cell? ⟨b, 0, none⟩ = some (.int .i64 id)) :
    Calls Try.prog 40 #[v, isF b] w (IxPost w L id) := by
  obtain ⟨a, cap, rfl, hlc, hmx, hnil, hc⟩ := _root_.id hv
  unfold maxLen at hmx
  clear hc
  have Hv := Lib.hid hv
  have Hb := Lib.hid hb
  clear hv hb
  go_enter Try.func40, Try.ntmps40
  go_wp2_with fail
  go_loopw [5, 8, 9, 10, 11, 12, 13, 14, 15, 16, 18] (fun _ i _ _ _ _ _ _ _ _ _ wr => ∃ k : Nat, k ≤ L.length ∧ i = .int .i64 (k : Int) ∧ (∀ x ∈ L.take k, (x.2 == id) = false) ∧ Below w.heap.size w wr) (fun _ i _ _ _ _ _ _ _ _ _ _ => L.length - (intOf i).toNat)
  case atStart => exact ⟨0, Nat.zero_le _, rfl, by simp, Below.refl _ _⟩
  case round =>
    obtain ⟨k, hk, rfl, hno, hbr⟩ := hrel
    have Hno := Lib.hid hno
    clear hno
    by_cases hlt : k < L.length
    · have hd : decide ((k : Int) < (L.length : Int)) = true := by simpa using hlt
      have i0 : (0 : Int) ≤ (k : Int) := by omega
      have i1 : (k : Int) < (L.length : Int) := by omega
      obtain ⟨_, _, _, had⟩ := (Hv.out.below hbr).addr
      obtain ⟨Ba, o, rfl, hc⟩ := had (by omega)
      obtain ⟨c0, c1⟩ := hc k hlt
      have hcb := cells_below hbr _ _ Hb.out
      have hnx := fun h => index_none hlt Hno.out h
      have HN := Lib.hid hnx
      obtain ⟨y, hy⟩ : ∃ y, y = L[k] := ⟨_, rfl⟩
      rw [← hy] at c0 c1
      have HY := Lib.hid hy
      clear hc had hnx hy
      go_wp2_with fail
      refine (isF_any wr b id hcb y).mono ?_
      rintro e w2 ⟨rfl, b2⟩
      have bb := hbr.trans (b2.mono hbr.size)
      clear hbr b2 c0 c1 hcb
      cases he : (y.2 == id) with
      | true =>
        have h1 : (L[k].2 == id) = true := by rw [← HY.out]; exact he
        have H1 := Lib.hid h1
        clear h1 he
        go_wp2_with fail
        go_ret
        exact ⟨.inr ⟨k, hlt, rfl, H1.out, Hno.out⟩, bb⟩
      | false =>
        have h1 : (L[k].2 == id) = false := by rw [← HY.out]; exact he
        have H1 := Lib.hid h1
        clear h1 he
        go_wp2_with fail
        go_roundw
        case rel => exact ⟨k + 1, by omega, by go_num, HN.out H1.out, bb⟩
        case measure => simp [intOf]; omega
    · obtain rfl : k = L.length := by omega
      have hd : decide ((L.length : Int) < (L.length : Int)) = false := by simp
      have hno := Hno.out
      rw [List.take_length] at hno
      have HN := Lib.hid hno
      clear hno Hno
      go_wp2_with fail
      go_ret
      exact ⟨.inl ⟨rfl, HN.out⟩, hbr⟩

/-- those that have not that number -/
def keepL (L : List Du) (id : Int) : List Du := L.filter fun x => !(x.2 == id)
theorem keep_step {L : List Du} {id : Int} {k : Nat} (hk : k < L.length) : keepL (L.take (k + 1)) id = if (L[k].2 == id) = true then keepL (L.take k) id else keepL (L.take k) id ++ [L[k]] := by
  unfold keepL
  rw [List.take_add_one, List.getElem?_eq_getElem hk, Option.toList_some, List.filter_append]
  cases h : (L[k].2 == id) <;> simp [h]
theorem keep_all {L : List Du} {id : Int} (h : ∀ x ∈ L, (x.2 == id) = false) : keepL L id = L := List.filter_eq_self.2 fun x hx => by simp [h x hx]
theorem dv_set (C : List Du) (i : Nat) (hi : i < C.length) (x : Du) : dv (C.set i x) = ((dv C).set (i * 2) (.int .i64 x.1)).set (i * 2 + 1) (.int .i64 x.2) := by
  induction C generalizing i with
  | nil => simp at hi
  | cons y r ih =>
    cases i with
    | zero => rfl
    | succ i =>
      rw [List.set_cons_succ, dv_cons, dv_cons, ih i (by simpa using hi), show (i + 1) * 2 = i * 2 + 1 + 1 by omega]
      rfl
/-- a store of an entry into a row of the call's own -/
theorem MineD.store {B : Nat} {w : World} {g cap : Nat} {C : List Du} (h : MineD B w (.slice (some ⟨g, 0, none⟩) C.length cap) C) (i : Nat) (hi : i < C.length) (x : Du) :
    (∃ u, w.cell? ⟨g, i * 2, none⟩ = some u) ∧ (∃ u, w.cell? ⟨g, i * 2 + 1, none⟩ = some u) ∧ w.frozen? ⟨g, i * 2, none⟩ = false ∧ w.frozen? ⟨g, i * 2 + 1, none⟩ = false ∧
      MineD B ((w.setCell ⟨g, i * 2, none⟩ (.int .i64 x.1)).setCell ⟨g, i * 2 + 1, none⟩ (.int .i64 x.2)) (.slice (some ⟨g, 0, none⟩) (C.set i x).length cap) (C.set i x) := by
  obtain ⟨h1, h2⟩ := h
  rcases h2 with ⟨e, _⟩ | ⟨g', cap', cur, e, hBg, hg, hnc, hcm, hcs, htake⟩
  · cases e
  simp only [Value.slice.injEq, Option.some.injEq, Addr.mk.injEq, and_true, true_and] at e
  obtain ⟨rfl, rfl⟩ := e
  have hcell : ∀ j, j < cap * 2 → ∃ u, w.cell? ⟨g, j, none⟩ = some u := fun j hj => by
    rw [cell_of_row _ _ _ _ _ _ hg]
    exact ⟨_, Array.getElem?_eq_getElem (by omega)⟩
  have hd := dv_set C i hi x
  refine ⟨hcell _ (by omega), hcell _ (by omega), frozen_p hg _, frozen_p hg _, ?_⟩
  have hs1 := head_setCell (i := i * 2) hg (.int .i64 x.1)
  have hs2 := head_setCell (i := i * 2 + 1) hs1 (.int .i64 x.2)
  unfold MineD
  rw [List.length_set]
  refine ⟨by rw [dv_length, List.length_set], .inr ⟨g, cap, _, rfl, hBg, hs2, hnc, hcm, by simp [hcs], ?_⟩⟩
  rw [hd, ← htake, Array.toList_setIfInBounds, Array.toList_setIfInBounds]
  have hl : (dv (C.set i x)).length = C.length * 2 := by rw [dv_length, List.length_set]
  rw [List.take_set, List.take_set]
theorem MineD.clear {B : Nat} {w : World} {g cap : Nat} {C : List Du} (h : MineD B w (.slice (some ⟨g, 0, none⟩) C.length cap) C) (i : Nat) (hi : i < C.length) :
    ∃ w', (∀ ty c, (Builtin.clear_ #[27] ty #[.slice (some ⟨g, i * 2, none⟩) (C.length - i) c]).run Try.prog w = .ok (.tuple #[]) w') ∧ MineD B w' (.slice (some ⟨g, 0, none⟩) (C.take i).length cap) (C.take i) ∧ Turned (fun k => some k = (Value.slice (some ⟨g, 0, none⟩) C.length cap).ownBlock) w w' := by
  obtain ⟨h1, h2⟩ := h
  rcases h2 with ⟨e, _⟩ | ⟨g', cap', cur, e, hBg, hg, hnc, hcm, hcs, htake⟩
  · cases e
  simp only [Value.slice.injEq, Option.some.injEq, Addr.mk.injEq, and_true, true_and] at e
  obtain ⟨rfl, rfl⟩ := e
  obtain ⟨Z, hZ⟩ : ∃ Z, Z = (Builtin.zeroCells (Value.cells (.agg #[.int .i64 0, .int .i64 0])) (C.length - i)).toList := ⟨_, rfl⟩
  have hz2 : (Value.cells (.agg #[.int .i64 0, .int .i64 0])).size = 2 := rfl
  have hZl : Z.length = (C.length - i) * 2 := by rw [hZ, Array.length_toList, size_zeroCells, hz2]
  have hZo : ∀ u ∈ Z, u.oneCell' = true := by
    intro u hu
    rw [hZ] at hu
    simp only [Builtin.zeroCells, Value.cells] at hu
    simp at hu
    obtain ⟨j, _, hu⟩ := hu
    rcases (show j % 2 = 0 ∨ j % 2 = 1 by omega) with h | h <;> · rw [h] at hu; rw [← hu]; rfl
  have hst := run_storeCells_cells (P := Try.prog) g (i * 2) Z 0 w (fun j hj => by rw [cell_of_row _ _ _ _ _ _ hg, Array.getElem?_eq_getElem (by omega)]; rfl) (fun j hj => frozen_p hg _) hZo
  simp only [Nat.add_zero] at hst
  obtain ⟨cur2, hg2, hl2⟩ := setCells_heap g 37 Z (i * 2) w cur hg (by omega)
  have hzv : ∀ w, (zeroValue 37).run Try.prog w = .ok (.agg #[.int .i64 0, .int .i64 0]) w := fun w => by kernel_rfl
  obtain ⟨r1, r2, r3, r4⟩ := setCells_rest g Z (i * 2) w
  refine ⟨w.setCells g (i * 2) Z, fun ty c => ?_, ?_, r1, r2, r3, by rw [r4]; exact Nat.le_refl _, fun k hk hn => setCells_other _ _ _ _ _ (fun e => hn (by rw [e]; rfl))⟩
  · have hne : C.length - i ≠ 0 := by omega
    unfold Builtin.clear_
    obtain ⟨m, hm⟩ : ∃ m, C.length - i = m + 1 := ⟨C.length - i - 1, by omega⟩
    rw [hm] at hZ ⊢
    rw [hZ] at hst ⊢
    simp [run_underlying Try.underlying27, hzv, hst]
  · have hlt : (C.take i).length = i := by rw [List.length_take]; omega
    unfold MineD
    rw [hlt]
    refine ⟨by rw [dv_length, hlt], .inr ⟨g, cap, cur2, rfl, hBg, hg2, by omega, hcm, ?_, ?_⟩⟩
    · rw [← Array.length_toList, hl2]
      simp only [List.length_append, List.length_take, List.length_drop, Array.length_toList, hZl]
      omega
    · rw [hl2, dv_take, ← htake, List.take_take, Nat.min_eq_left (by omega), List.take_left' (by rw [List.length_take, Array.length_toList]; omega)]
def DelPost (B : Nat) (w : World) (v : Value) (L' : List Du) (e : Ending) (w' : World) : Prop := ∃ v', e = .returned v' ∧ MineD B w' v' L' ∧ Turned (fun k => some k = v.ownBlock) w w'
theorem turned_box {T : Nat → Prop} (w : World) (o : Obj) : Turned T w (w.alloc o) := Turned.of_below ((Below.refl _ _).alloc (Nat.le_refl _) _)
set_option maxHeartbeats 8000000 in
theorem delete_any (B : Nat) (w : World) (v : Value) (L : List Du) (hown : MineD B w v L) (hlen : L.length ≤ 1000000) (b : Nat) (nm : Int) (hb : w.cell? ⟨b, 0, none⟩ = some (.int .i64 nm)) (hnb : v.ownBlock ≠ some b) (hB : B ≤ w.heap.size) :
    Calls Try.prog 33 #[v, isF b] w (DelPost B w v (keepL L nm)) := by
  obtain ⟨a, cap, rfl, hlc, hmx, hnil, _⟩ := hown.isD
  unfold maxLen at hmx
  have Hown := Lib.hid hown
  have Hb := Lib.hid hb
  have hix := indexF_any w _ L hown.isD hlen b nm hb
  clear hown hb
  go_enter Try.func33, Try.ntmps33
  go_wp2_with fail
  refine hix.mono ?_
  rintro e w1 ⟨⟨rfl, hno⟩ | ⟨k, hk, rfl, hyes, hno⟩, hb1⟩
  · have he := keep_all hno
    have h1 := Hown.out.below hb1
    have HE := Lib.hid he
    clear he hno hix
    go_wp2_with fail
    go_ret
    exact ⟨_, rfl, by rw [HE.out]; exact h1, Turned.of_below hb1⟩
  · obtain ⟨g, rfl⟩ : ∃ g, a = some ⟨g, 0, none⟩ := by
      rcases Hown.out.2 with ⟨e, hn⟩ | ⟨g, _, _, e, _⟩
      · exact absurd hn (by omega)
      · simp only [Value.slice.injEq] at e
        exact ⟨g, e.1⟩
    have hgb : b ≠ g := fun e => hnb (by rw [e]; rfl)
    have hk0 : keepL (L.take (k + 1)) nm = keepL (L.take k) nm := by rw [keep_step hk, if_pos hyes]
    have hk1 : keepL (L.take k) nm = L.take k := keep_all hno
    have hneg : ((k : Int) == -1) = false := by simp
    have hst : (L.take k = keepL (L.take (k + 1)) nm) := by rw [hk0, hk1]
    have HST := Lib.hid hst
    have hm1 := Hown.out.below hb1
    have ht1 : Turned (fun k => some k = (Value.slice (some ⟨g, 0, none⟩) L.length cap).ownBlock) w w1 := Turned.of_below hb1
    clear hno hyes hk0 hk1 hst hix hb1
    go_wp2_with fail
    go_loopw [5, 6, 7, 16, 17, 18, 19, 20, 21, 22, 23, 24, 25, 26, 27, 28, 29, 30, 31, 32, 33, 34, 35] (fun i j _ _ _ _ _ _ _ _ _ _ _ _ _ _ _ _ _ _ _ _ _ wr => ∃ (p q : Nat) (C : List Du), p < q ∧ q ≤ L.length ∧ C.length = L.length ∧ i = .int .i64 (p : Int) ∧ j = .int .i64 (q : Int) ∧ C.take p = keepL (L.take q) nm ∧ C.drop q = L.drop q ∧ MineD B wr (.slice (some ⟨g, 0, none⟩) C.length cap) C ∧ Turned (fun k => some k = (Value.slice (some ⟨g, 0, none⟩) L.length cap).ownBlock) w wr) (fun i j _ _ _ _ _ _ _ _ _ _ _ _ _ _ _ _ _ _ _ _ _ _ => L.length - (intOf j).toNat)
    case atStart => exact ⟨k, k + 1, L, by omega, by omega, rfl, rfl, by go_num, HST.out, rfl, hm1, ht1⟩
    case round =>
      obtain ⟨p, q, C, hpq, hq, hCl, rfl, rfl, htk, hdr, mr, tr⟩ := hrel
      have HM := Lib.hid mr
      have HT := Lib.hid tr
      have HTK := Lib.hid htk
      have HDR := Lib.hid hdr
      have HC := Lib.hid hCl
      clear mr tr htk hdr hm1 ht1 hCl
      by_cases hlt : q < L.length
      · have hd : decide ((q : Int) < (L.length : Int)) = true := by simpa using hlt
        have j0 : (0 : Int) ≤ (q : Int) := by omega
        have j1 : (q : Int) < (L.length : Int) := by omega
        have p0 : (0 : Int) ≤ (p : Int) := by omega
        have p1 : (p : Int) < (L.length : Int) := by omega
        have hqC : q < C.length := by rw [HC.out]; exact hlt
        have hx : C[q] = L[q] := by
          have h0 : (C.drop q)[0]? = (L.drop q)[0]? := by rw [HDR.out]
          rw [List.getElem?_drop, List.getElem?_drop, Nat.add_zero, List.getElem?_eq_getElem hqC, List.getElem?_eq_getElem hlt] at h0
          exact Option.some.inj h0
        obtain ⟨_, _, _, had⟩ := HM.out.isD.addr
        obtain ⟨_, _, e, hc⟩ := had (by omega)
        simp only [Option.some.injEq, Addr.mk.injEq, and_true] at e
        obtain ⟨rfl, rfl⟩ := e
        obtain ⟨c0, c1⟩ := hc q hqC
        rw [Nat.zero_add] at c0 c1
        obtain ⟨y, hy⟩ : ∃ y, y = L[q] := ⟨_, rfl⟩
        rw [hx, ← hy] at c0 c1
        have HY := Lib.hid hy
        clear hc had hx hy
        go_wp2_with fail
        have hbx : Below wr.heap.size wr (wr.alloc (.cells #[.int .i64 y.1, .int .i64 y.2] 37)) := (Below.refl _ _).alloc (Nat.le_refl _) _
        have hgx : (wr.alloc (.cells #[.int .i64 y.1, .int .i64 y.2] 37)).heap[wr.heap.size]? = some (.cells #[.int .i64 y.1, .int .i64 y.2] 37 (0, 0)) := heap_alloc_new _ _
        have hcb : wr.cell? ⟨b, 0, none⟩ = some (.int .i64 nm) := (World.cell?_of_block (HT.out.block b (World.block_lt_of_cell? w _ Hb.out) (fun e => hgb (by simpa [Value.ownBlock] using e)))).trans Hb.out
        have hcb2 := cells_below hbx _ _ hcb
        have hgw : g < wr.heap.size := by
          obtain ⟨_, h2⟩ := World.ownsRow.lt HM.out g rfl
          exact h2
        refine (isF_any _ b nm hcb2 y).mono ?_
        rintro e w3 ⟨rfl, b3⟩
        have b4 : Below wr.heap.size wr w3 := hbx.trans (b3.mono (by simp))
        have x3 := (b3.block _ (lt_of_heap hgx)).trans hgx
        have x30 : w3.cell? ⟨wr.heap.size, 0, none⟩ = some (.int .i64 y.1) := (cell_of_row _ _ _ _ _ _ x3).trans rfl
        have x31 : w3.cell? ⟨wr.heap.size, 1, none⟩ = some (.int .i64 y.2) := (cell_of_row _ _ _ _ _ _ x3).trans rfl
        have m3 := HM.out.below b4
        have t3 := HT.out.trans (Turned.of_below (T := fun k => some k = (Value.slice (some ⟨g, 0, none⟩) L.length cap).ownBlock) b4)
        have M3 := Lib.hid m3
        have T3 := Lib.hid t3
        clear m3 t3 b4 b3 hbx hgx hcb hcb2 c0 c1 x3
        cases he : (y.2 == nm) with
        | true =>
          have hs : C.take p = keepL (L.take (q + 1)) nm := by rw [keep_step hlt, ← HY.out, if_pos he]; exact HTK.out
          have hdd : C.drop (q + 1) = L.drop (q + 1) := by rw [← List.drop_drop, ← List.drop_drop, HDR.out]
          have HS := Lib.hid hs
          have HD := Lib.hid hdd
          clear hs hdd he x30 x31
          go_wp2_with fail
          go_roundw
          case rel => exact ⟨p, q + 1, C, by omega, by omega, HC.out, rfl, by go_num, HS.out, HD.out, M3.out, T3.out⟩
          case measure => simp [intOf]; omega
        | false =>
          obtain ⟨⟨u1, s1⟩, ⟨u2, s2⟩, f1, f2, hset⟩ := M3.out.store p (by omega) y
          have hne : wr.heap.size ≠ g := by omega
          have hs : (C.set p y).take (p + 1) = keepL (L.take (q + 1)) nm := by
            rw [keep_step hlt, ← HY.out, if_neg (by rw [he]; simp), ← HTK.out, List.take_add_one, List.take_set_of_le (by omega), List.getElem?_set, if_pos rfl, if_pos (by omega)]
            rfl
          have hdd : (C.set p y).drop (q + 1) = L.drop (q + 1) := by rw [List.drop_set_of_lt (by omega), ← List.drop_drop, ← List.drop_drop, HDR.out]
          have ht : Turned (fun k => some k = (Value.slice (some ⟨g, 0, none⟩) L.length cap).ownBlock) w ((w3.setCell ⟨g, p * 2, none⟩ (.int .i64 y.1)).setCell ⟨g, p * 2 + 1, none⟩ (.int .i64 y.2)) := (T3.out.trans (turned_at w3 g (p * 2) _ rfl)).trans (turned_at _ g (p * 2 + 1) _ rfl)
          have HS := Lib.hid hs
          have HD := Lib.hid hdd
          have HSET := Lib.hid hset
          have HT4 := Lib.hid ht
          clear hs hdd he hset ht
          go_wp2_with fail
          go_roundw
          case rel => exact ⟨p + 1, q + 1, C.set p y, by omega, by omega, by rw [List.length_set]; exact HC.out, by go_num, by go_num, HS.out, HD.out, HSET.out, HT4.out⟩
          case measure => simp [intOf]; omega
      · obtain rfl : q = L.length := by omega
        have hd : decide ((L.length : Int) < (L.length : Int)) = false := by simp
        have hpC : p < C.length := by rw [HC.out]; omega
        obtain ⟨w5, hcl, m5, t5⟩ := HM.out.clear p hpC
        have htk := HTK.out
        rw [List.take_length] at htk
        rw [htk] at m5
        rw [HC.out] at hcl t5
        have hkl : (keepL L nm).length = p := by rw [← htk, List.length_take]; omega
        rw [hkl] at m5
        have T5 := Lib.hid (HT.out.trans t5)
        have M5 := Lib.hid m5
        have p0 : (0 : Int) ≤ (p : Int) := by omega
        have p1 : (p : Int) ≤ (L.length : Int) := by omega
        have p2 : ¬ (cap = p) := by omega
        have p3 : (p : Int) ≤ (cap : Int) := by omega
        clear htk hkl m5 t5
        go_wp2_with fail
        go_ret
        exact ⟨_, rfl, M5.out, T5.out⟩
end Go.Proofs.Ytaohneahlcnahaa
