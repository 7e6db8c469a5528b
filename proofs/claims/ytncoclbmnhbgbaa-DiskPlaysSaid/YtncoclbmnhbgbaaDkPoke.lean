/- The disk's Poke. -/
import Derived.Test.YtncoclbmnhbgbaaDkCrash
import Derived.BigRegion
set_option linter.unusedVariables false
set_option linter.unusedSimpArgs false
namespace Go.Proofs.Ytncoclbmnhbgbaa
open Go.RowKit

/-- one byte of a loose write laid anew, if it is of sector a -/
def pokeL (a j : Nat) (b : UInt8) (x : Nat × List UInt8) : Nat × List UInt8 := if x.1 = a then (x.1, x.2.set j b) else x
/-- Poke: what it answers, and what is behind it -/
def Dk.poke (D : Dk) (at_ place : Int) (b : UInt8) : Int × Dk :=
  if ¬ (0 ≤ at_ ∧ at_ < D.n) then (41, D) else if place < 0 ∨ 128 ≤ place then (2, D)
  else (0, { D with safe := D.safe.set (at_.toNat * 128 + place.toNat) b, now := D.now.set (at_.toNat * 128 + place.toNat) b, hung := D.hung.map (pokeL at_.toNat place.toNat b) })
theorem pokeL_ok {a j : Nat} {b : UInt8} {x : Nat × List UInt8} {n : Nat} (h : x.1 < n ∧ x.2.length = 128) : (pokeL a j b x).1 < n ∧ (pokeL a j b x).2.length = 128 := by
  unfold pokeL
  split
  · exact ⟨h.1, by simp [h.2]⟩
  · exact h
theorem Sects.set {w : World} {g cap n : Nat} {l : List UInt8} (h : Sects w g cap n l) (i : Nat) (hi : i < n * 128) (b : UInt8) : Sects (w.setCell ⟨g, i, none⟩ (.int .u8 (b.toNat : Int))) g cap n (l.set i b) := by
  obtain ⟨cur, hg, hn, hm, hs, hl, ht⟩ := h
  refine ⟨cur.setIfInBounds i (.int .u8 (b.toNat : Int)), head_setCell hg _, hn, hm, by simpa using hs, by simpa using hl, ?_⟩
  rw [List.length_set, Array.toList_setIfInBounds, List.take_set, ht]
  simp [bv, List.map_set]
theorem Sects.byte {w : World} {g cap n : Nat} {l : List UInt8} (h : Sects w g cap n l) (i : Nat) (hi : i < n * 128) : ∃ c : UInt8, w.cell? ⟨g, i, none⟩ = some (.int .u8 (c.toNat : Int)) ∧ w.frozen? ⟨g, i, none⟩ = false := by
  obtain ⟨cur, hg, hn, hm, hs, hl, ht⟩ := h
  have hil : i < l.length := by omega
  refine ⟨l[i], ?_, frozen_p hg _⟩
  rw [cell_of_row _ _ _ _ _ _ hg]
  have e := bv_get l i hil
  rw [← ht, List.getElem?_take, if_pos hil] at e
  simpa using e
theorem DkAt.put_poke {w : World} {F : Ft} {D : Dk} (h : DkAt w F D) (i : Nat) (hi : i < D.n * 128) (b : UInt8) :
    DkAt ((w.setCell ⟨F.S, i, none⟩ (.int .u8 (b.toNat : Int))).setCell ⟨F.N, i, none⟩ (.int .u8 (b.toNat : Int))) F { D with safe := D.safe.set i b, now := D.now.set i b } := by
  have f := h.ft
  have h1 : ∀ j, j ≠ F.S → (w.setCell ⟨F.S, i, none⟩ (.int .u8 (b.toNat : Int))).heap[j]? = w.heap[j]? := fun j hj => Below.heap_setCell _ _ _ _ hj
  have h2 : ∀ j, j ≠ F.N → ((w.setCell ⟨F.S, i, none⟩ (.int .u8 (b.toNat : Int))).setCell ⟨F.N, i, none⟩ (.int .u8 (b.toNat : Int))).heap[j]? = (w.setCell ⟨F.S, i, none⟩ (.int .u8 (b.toNat : Int))).heap[j]? := fun j hj => Below.heap_setCell _ _ _ _ hj
  refine ⟨f, ⟨h.ok.n1, h.ok.nm, by simpa using h.ok.safe, by simpa using h.ok.now, h.ok.hung, h.ok.loose, h.ok.ops, h.ok.c1, h.ok.c2⟩, ?_, ?_, ?_, ?_⟩
  · rw [h2 _ f.pN, h1 _ f.pS]; exact h.head
  · unfold Sects
    rw [h2 _ f.SN]
    exact h.safe.set i hi b
  · have hN : Sects (w.setCell ⟨F.S, i, none⟩ (.int .u8 (b.toNat : Int))) F.N F.cN D.n D.now := by unfold Sects; rw [h1 _ f.SN.symm]; exact h.now
    exact hN.set i hi b
  · unfold Hung
    rw [h2 _ f.NM.symm, h1 _ f.SM.symm]
    exact h.hung
theorem setCell_swap (w : World) (g g' i i' : Nat) (u v : Value) (h : g ≠ g') : (w.setCell ⟨g, i, none⟩ u).setCell ⟨g', i', none⟩ v = (w.setCell ⟨g', i', none⟩ v).setCell ⟨g, i, none⟩ u := by
  simp only [World.setCell]
  congr 1
  apply Array.ext_getElem?
  intro j
  simp only [Array.getElem?_modify]
  by_cases h1 : g = j
  · subst h1
    simp [Ne.symm h]
  · by_cases h2 : g' = j
    · subst h2
      simp [h]
    · simp [h1, h2]

/-- the loose writes, those below m looked at -/
def hungTo (D : Dk) (a j : Nat) (b : UInt8) (m : Nat) : List (Nat × List UInt8) := (D.hung.take m).map (pokeL a j b) ++ D.hung.drop m
theorem hungTo_zero (D : Dk) (a j : Nat) (b : UInt8) : hungTo D a j b 0 = D.hung := by simp [hungTo]
theorem hungTo_all (D : Dk) (a j : Nat) (b : UInt8) : hungTo D a j b D.hung.length = D.hung.map (pokeL a j b) := by simp [hungTo]
theorem hungTo_length (D : Dk) (a j : Nat) (b : UInt8) (m : Nat) : (hungTo D a j b m).length = D.hung.length := by simp [hungTo]; omega
theorem hungTo_get (D : Dk) (a j : Nat) (b : UInt8) (m : Nat) (h : m < D.hung.length) : (hungTo D a j b m)[m]'(by rw [hungTo_length]; exact h) = D.hung[m] := by
  unfold hungTo
  rw [List.getElem_append_right (by simp; omega)]
  simp [Nat.min_eq_left (Nat.le_of_lt h)]
theorem hungTo_set (D : Dk) (a j : Nat) (b : UInt8) (m : Nat) (h : m < D.hung.length) : (hungTo D a j b m).set m (pokeL a j b D.hung[m]) = hungTo D a j b (m + 1) := by
  unfold hungTo
  rw [List.set_append_right _ _ (by simp; omega)]
  simp only [List.length_map, List.length_take, Nat.min_eq_left (Nat.le_of_lt h), Nat.sub_self]
  rw [List.drop_eq_getElem_cons h, List.set_cons_zero, List.take_add_one, List.getElem?_eq_getElem h, Option.toList_some, List.map_append, List.append_assoc]
  rfl
theorem info_writeS : (Try.prog.info? 66).map (fun i => i.size) = some 129 := by kernel_rfl
theorem one_cells (n : Int) (l : List UInt8) : ∀ v ∈ ((.int .i64 n) :: bv l : List Value), v.oneCell' = true := by
  intro v hv
  rcases List.mem_cons.1 hv with rfl | hv
  · rfl
  · exact bv_oneCell l v hv
section
variable {ops : Array Oper} {w : World} {Q : Exit → Act → World → Prop} {a : Act} {o : Oper} {rest : List Oper}
theorem wpList_look (x y : Operand) (ho : o.op = .lookup 58 x y false) (M : Nat) (L : List (Nat × List UInt8)) (hH : Hung w M L) (i : Nat) (hi : i < L.length) (hx : a.eval x = .map (some M)) (hy : a.eval y = .int .i64 (i : Int)) (hg : o.guard = none)
    (h : wpList Try.prog ops Q rest (a.put o.dst (loose L[i])) w) : wpList Try.prog ops Q (o :: rest) a w := by
  refine wpList_value _ w hg ?_ h
  unfold execOp
  simp only [ho, hx, hy, Sem.run_bind, run_look_hung hH i hi, Result.andThen_ok]
  rfl
theorem wpList_alloc_write (hg : o.guard = none) (ho : o.op = .alloc 66)
    (h : ∀ Z : List Value, Z.length = 129 → wpList Try.prog ops Q rest (a.put o.dst (.pointer (some ⟨w.heap.size, 0, none⟩))) (w.alloc (.cells Z.toArray 66))) : wpList Try.prog ops Q (o :: rest) a w := by
  obtain ⟨Z, hZ, hz⟩ : ∃ Z : List Value, Z.length = 129 ∧ ∀ w, (zeroValue 66).run Try.prog w = .ok (.agg Z.toArray) w := ⟨(.int .i64 0) :: List.replicate 128 (.int .u8 0), by simp, fun w => by kernel_rfl⟩
  refine wpList_value _ _ hg ?_ (h Z hZ)
  unfold execOp
  simp only [ho, Instr.alloc, Sem.run_bind, hz, Result.andThen_ok]
  rfl
end

theorem hungTo_ok {D : Dk} (h : D.Ok) (a j : Nat) (b : UInt8) (m : Nat) : ∀ x ∈ hungTo D a j b m, x.1 < D.n ∧ x.2.length = 128 := by
  intro x hx
  rcases List.mem_append.1 hx with hx | hx
  · obtain ⟨y, hy, rfl⟩ := List.mem_map.1 hx
    exact pokeL_ok (h.hung y (List.mem_of_mem_take hy))
  · exact h.hung x (List.mem_of_mem_drop hx)
theorem DkAt.lay_hung {w w' : World} {F : Ft} {D : Dk} {L : List (Nat × List UInt8)} (h : DkAt w F D) (hH : Hung w' F.M L) (hw : ∀ j, j ≠ F.M → w'.heap[j]? = w.heap[j]?) (hl : L.length = D.hung.length) (hok : ∀ x ∈ L, x.1 < D.n ∧ x.2.length = 128) : DkAt w' F { D with hung := L } := by
  have f := h.ft
  exact ⟨f, ⟨h.ok.n1, h.ok.nm, h.ok.safe, h.ok.now, hok, by rw [hl]; exact h.ok.loose, h.ok.ops, h.ok.c1, h.ok.c2⟩, (hw _ f.pM).trans h.head, by unfold Sects; rw [hw _ f.SM]; exact h.safe, by unfold Sects; rw [hw _ f.NM]; exact h.now, hH⟩
theorem wpList_lay {ops : Array Oper} {w w' : World} {Q : Exit → Act → World → Prop} {a : Act} {o : Oper} {rest : List Oper} (x y z : Operand) (ho : o.op = .mapUpdate 58 x y z) (M i : Nat) (v : Nat × List UInt8) (hx : a.eval x = .map (some M)) (hy : a.eval y = .int .i64 (i : Int)) (hz : a.eval z = loose v) (hg : o.guard = none)
    (hr : (Instr.mapUpdate 58 (.map (some M)) (.int .i64 (i : Int)) (loose v)).run Try.prog w = .ok () w') (h : wpList Try.prog ops Q rest (a.put o.dst undef) w') : wpList Try.prog ops Q (o :: rest) a w := by
  refine wpList_skip w' hg ?_ h
  unfold execOp
  simp only [ho, hx, hy, hz, Sem.run_bind, hr, Result.andThen_ok]
  rfl

set_option maxHeartbeats 8000000 in
theorem poke_any (w : World) (F : Ft) (D : Dk) (h : DkAt w F D) (at_ place : Int) (b : UInt8) (h1 : -9223372036854775808 ≤ at_) (h2 : at_ ≤ 9223372036854775807) (h3 : -9223372036854775808 ≤ place) (h4 : place ≤ 9223372036854775807) :
    Calls Try.prog 20 #[F.ptr, .int .i64 at_, .int .i64 place, .int .u8 (b.toNat : Int)] w fun e w' => e = .returned (.int .i64 (D.poke at_ place b).1) ∧ DkAt w' F (D.poke at_ place b).2 ∧ Turned F.has w w' := by
  obtain ⟨c0, c1, c2, c3, c4, c5⟩ := h.cells
  by_cases hin : 0 ≤ at_ ∧ at_ < (D.n : Int)
  · obtain ⟨k, rfl⟩ := Int.eq_ofNat_of_zero_le hin.1
    have hk : k < D.n := by omega
    by_cases hp0 : place < 0
    · have e1 : D.poke k place b = (2, D) := by simp only [Dk.poke]; simp [hk, hp0]
      rw [e1]
      have d0 : decide (place < 0) = true := by simpa using hp0
      go_enter Try.func20, Try.ntmps20
      go_wp2_with fail
      refine (has_any w F D h k h1 h2).mono ?_
      rintro e w1 ⟨rfl, rfl⟩
      rw [decide_eq_true hin]
      go_wp2_with fail
      go_ret
      exact ⟨rfl, h, Turned.refl _ _⟩
    · have d0 : decide (place < 0) = false := by simpa using hp0
      by_cases hp1 : 128 ≤ place
      · have e1 : D.poke k place b = (2, D) := by simp only [Dk.poke]; simp [hk, hp1]
        rw [e1]
        have d1 : decide ((128 : Int) ≤ place) = true := by simpa using hp1
        go_enter Try.func20, Try.ntmps20
        go_wp2_with fail
        refine (has_any w F D h k h1 h2).mono ?_
        rintro e w1 ⟨rfl, rfl⟩
        rw [decide_eq_true hin]
        go_wp2_with fail
        go_ret
        exact ⟨rfl, h, Turned.refl _ _⟩
      · have d1 : decide ((128 : Int) ≤ place) = false := by simpa using hp1
        obtain ⟨q, rfl⟩ := Int.eq_ofNat_of_zero_le (show 0 ≤ place by omega)
        have hq : q < 128 := by omega
        have e1 : D.poke k q b = (0, { D with safe := D.safe.set (k * 128 + q) b, now := D.now.set (k * 128 + q) b, hung := D.hung.map (pokeL k q b) }) := by
          simp only [Dk.poke]
          rw [if_neg (fun hn => hn hin), if_neg (by omega)]
          simp
        rw [e1]
        have hkq : k * 128 + q < D.n * 128 := by omega
        obtain ⟨cS, s1, s2⟩ := h.safe.byte (k * 128 + q) hkq
        obtain ⟨cN, n1, n2⟩ := h.now.byte (k * 128 + q) hkq
        have hd2 := h.put_poke (k * 128 + q) hkq b
        have hsw := setCell_swap w.drew F.S F.N (k * 128 + q) (k * 128 + q) (.int .u8 (b.toNat : Int)) (.int .u8 (b.toNat : Int)) h.ft.SN
        have hSN := h.ft.SN
        have hNS := h.ft.SN.symm
        have i0 : (0 : Int) ≤ (k : Int) := by omega
        have i1 : (k : Int) < (D.n : Int) := by omega
        have j0 : (0 : Int) ≤ (q : Int) := by omega
        have j1 : (q : Int) < 128 := by omega
        have Hsw := Lib.hid hsw
        have Hd2 := Lib.hid hd2
        clear hsw hd2
        go_enter Try.func20, Try.ntmps20
        go_wp2_with fail
        refine (has_any w F D h k h1 h2).mono ?_
        rintro e w1 ⟨rfl, rfl⟩
        rw [decide_eq_true hin]
        go_wp2_with fail
        go_region
        have ht2 : Turned F.has w ((w.setCell ⟨F.S, k * 128 + q, none⟩ (.int .u8 (b.toNat : Int))).setCell ⟨F.N, k * 128 + q, none⟩ (.int .u8 (b.toNat : Int))).drew :=
          ⟨rfl, rfl, rfl, by simp [World.setCell], fun j hj hn => (Below.heap_setCell _ _ _ _ (fun e => hn (.inr (.inr (.inl e))))).trans (Below.heap_setCell _ _ _ _ (fun e => hn (.inr (.inl e))))⟩
        have hd3 := Hd2.out.drew
        generalize ((w.setCell ⟨F.S, k * 128 + q, none⟩ (.int .u8 (b.toNat : Int))).setCell ⟨F.N, k * 128 + q, none⟩ (.int .u8 (b.toNat : Int))).drew = W at *
        have hloose := h.ok.loose
        have hopsb := h.ok.ops
        have hft := h.ft
        have hhu := h.ok.hung
        clear Hsw Hd2 s1 s2 n1 n2 c0 c1 c2 c3 c4 c5 e1
        obtain ⟨c0, c1, c2, c3, c4, c5⟩ := hd3.cells
        have hlen := run_len_hung hd3.hung 3
        dsimp only at c0 c1 c2 c3 c4 c5 hlen
        go_wp2_with fail
        clear c0 c1 c2 c3 c4 c5 hlen
        go_loopw [9, 10, 49, 50, 51, 52, 53, 54, 55, 56, 57, 58, 59, 60, 61, 62, 63, 64, 65, 66, 67, 68, 69, 70, 71, 72] (fun _ _ i _ _ _ _ _ _ _ _ _ _ _ _ _ _ _ _ _ _ _ _ _ _ _ wr => ∃ m : Nat, m ≤ D.hung.length ∧ i = .int .i64 (m : Int) ∧ DkAt wr F { D with safe := D.safe.set (k * 128 + q) b, now := D.now.set (k * 128 + q) b, hung := hungTo D k q b m } ∧ Turned F.has w wr) (fun _ _ i _ _ _ _ _ _ _ _ _ _ _ _ _ _ _ _ _ _ _ _ _ _ _ _ => D.hung.length - (intOf i).toNat)
        case atStart => exact ⟨0, Nat.zero_le _, rfl, by rw [hungTo_zero]; exact hd3, ht2⟩
        case round =>
          obtain ⟨m, hm, rfl, dr, tr⟩ := hrel
          clear hd3 ht2
          by_cases hml : m < D.hung.length
          · have hdm : decide ((m : Int) < (D.hung.length : Int)) = true := by simpa using hml
            have hml2 : m < (hungTo D k q b m).length := by rw [hungTo_length]; exact hml
            have hget : (hungTo D k q b m)[m] = D.hung[m] := hungTo_get D k q b m hml
            obtain ⟨hx1, hx2⟩ := hhu D.hung[m] (List.getElem_mem hml)
            have hset := hungTo_set D k q b m hml
            have hH := dr.hung
            obtain ⟨c0, c1, c2, c3, c4, c5⟩ := dr.cells
            dsimp only at c0 c1 c2 c3 c4 c5 hH
            go_upto_region 12 with (first | (refine wpList_look (.tmp 55) (.tmp 56) rfl F.M (hungTo D k q b m) hH m hml2 rfl rfl rfl ?_; rw [hget]) | (refine wpList_alloc_write rfl rfl ?_; intro Z hZ) | (refine wpList_store_last 66 (.tmp 10) (.tmp 57) rfl _ ((.int .i64 (D.hung[m].1 : Int)) :: bv D.hung[m].2).toArray rfl rfl rfl (by rw [info_writeS]; simp [bv_length, hx2]) (by simp [bv_length, hx2, hZ]) (all_oneCell_toArray (one_cells _ _)) ?_; clear hZ))
            generalize D.hung[m] = x at *
            obtain ⟨xa, xb⟩ := x
            dsimp only at hx1 hx2 hset hget
            have q5 := heap_alloc_new wr (.cells ((.int .i64 (xa : Int)) :: bv xb).toArray 66)
            have hb5 : Below wr.heap.size wr (wr.alloc (.cells ((.int .i64 (xa : Int)) :: bv xb).toArray 66)) := (Below.refl _ _).alloc (Nat.le_refl _) _
            have hFs : ∀ j, F.has j → j ≠ wr.heap.size := fun j hj e => by have := dr.lt hj; omega
            generalize wr.alloc (.cells ((.int .i64 (xa : Int)) :: bv xb).toArray 66) = W5 at *
            have d5 := dr.below hb5
            have t5 : Turned F.has w W5 := tr.trans (Turned.of_below hb5)
            have hsw : w.heap.size ≤ wr.heap.size := tr.size
            clear dr tr hb5 hH c0 c1 c2 c3 c4 c5
            generalize wr.heap.size = sz at *
            have g0 : W5.cell? ⟨sz, 0, none⟩ = some (.int .i64 (xa : Int)) := by rw [cell_of_row _ _ _ _ _ _ q5]; rfl
            by_cases he : xa = k
            · subst he
              have hbe : ((xa : Int) == (xa : Int)) = true := by simp
              have hpk : pokeL xa q b (xa, xb) = (xa, xb.set q b) := by simp [pokeL]
              rw [hpk] at hset
              have g1 : W5.cell? ⟨sz, 1 + q, none⟩ = some (.int .u8 ((xb[q]'(by omega)).toNat : Int)) := by
                rw [cell_of_row _ _ _ _ _ _ q5, Nat.add_comm 1 q]
                simp only [List.getElem?_toArray, List.getElem?_cons_succ]
                exact bv_get xb q (by omega)
              have f1 := frozen_p q5 (1 + q)
              have q6 := head_setCell (i := 1 + q) q5 (.int .u8 (b.toNat : Int))
              have e6 : ((.int .i64 (xa : Int)) :: bv xb : List Value).toArray.setIfInBounds (1 + q) (.int .u8 (b.toNat : Int)) = ((.int .i64 (xa : Int)) :: bv (xb.set q b)).toArray := by
                rw [Nat.add_comm 1 q]
                simp [bv, List.map_set]
              rw [e6] at q6
              have d6 : DkAt (W5.setCell ⟨sz, 1 + q, none⟩ (.int .u8 (b.toNat : Int))) F _ := d5.keep fun j hj => Below.heap_setCell _ _ _ _ (hFs j hj)
              have t6 : Turned F.has w (W5.setCell ⟨sz, 1 + q, none⟩ (.int .u8 (b.toNat : Int))) :=
                ⟨t5.os, t5.tape, t5.output, Nat.le_trans t5.size (by simp [World.setCell]), fun j hj hn => (Below.heap_setCell _ _ _ _ (show j ≠ sz by omega)).trans (t5.block j hj hn)⟩
              have hbl : (bv (xb.set q b)).length = 128 := by rw [bv_length, List.length_set, hx2]
              have hx2' : (xb.set q b).length = 128 := by rw [List.length_set, hx2]
              go_upto_region 14 with fail
              generalize W5.setCell ⟨sz, 1 + q, none⟩ (.int .u8 (b.toNat : Int)) = W6 at *
              generalize xb.set q b = xc at *
              clear d5 t5 q5 g0 g1 f1 e6
              refine wp_region_still_tail 6 (by kernel_rfl) (by kernel_rfl) ?_
              simp only [List.take_succ_cons, List.take_zero, List.drop_succ_cons, List.drop_zero]
              change wpStill _ _ W6.drew (fun a' => wpList _ _ _ _ a' W6.drew) _ _
              have d7 := d6.drew
              have t7 := t6.drew
              have q7 : W6.drew.heap[sz]? = some (.cells ((.int .i64 (xa : Int)) :: bv xc).toArray 66 (0, 0)) := q6
              clear d6 t6 q6
              generalize W6.drew = W7 at *
              obtain ⟨c0, c1, c2, c3, c4, c5⟩ := d7.cells
              dsimp only at c0 c1 c2 c3 c4 c5
              have hrg : W7.rangeAt sz 0 ((.int .i64 (xa : Int)) :: bv xc) := by
                have := World.rangeAt_of_block q7 0 129
                intro j v hj
                rw [cell_of_row _ _ _ _ _ _ q7, Nat.zero_add]
                simpa using hj
              obtain ⟨es, cl, hme, hmu, hHs⟩ := run_lay_hung d7.hung m hml2 (xa, xc)
              dsimp only at hmu hHs
              rw [hset] at hHs
              obtain ⟨W8, hmu', hH', hw8, t8⟩ : ∃ W8, (Instr.mapUpdate 58 (.map (some F.M)) (.int .i64 (m : Int)) (loose (xa, xc))).run Try.prog W7 = .ok () W8 ∧ Hung W8 F.M (hungTo D xa q b (m + 1)) ∧ (∀ j, j ≠ F.M → W8.heap[j]? = W7.heap[j]?) ∧ Turned F.has W7 W8 :=
                ⟨_, hmu, hHs, fun j hj => (MapKept.heap_set hme).2 j hj, rfl, rfl, rfl, by simp, fun j _ hn => (MapKept.heap_set hme).2 j (fun e => hn (.inr (.inr (.inr e))))⟩
              iterate 5 still_step
              refine still_load 66 (.tmp 10) rfl sz 0 rfl ((.int .i64 (xa : Int)) :: bv xc) _ rfl hrg Try.underlying66 rfl (by rw [info_writeS, List.length_cons, hbl]) ?_
              simp only [Act.put, List.setIfInBounds_toArray, List.set_cons_zero, List.set_cons_succ]
              refine wpStill_nil ?_
              refine wpList_lay (.tmp 69) (.tmp 70) (.tmp 71) rfl F.M m (xa, xc) rfl rfl rfl rfl hmu' ?_
              refine wpList_nil ?_
              have d8 := d7.lay_hung hH' hw8 (by rw [hungTo_length, hungTo_length]) (hungTo_ok h.ok xa q b (m + 1))
              have t9 := t7.trans t8
              clear d7 t7 t8 q7 c0 c1 c2 c3 c4 c5 hrg hmu hmu' hHs hme hH' hw8
              dsimp only at d8
              go_wp2_with fail
              go_roundw
              case rel => exact ⟨m + 1, by omega, by go_num, d8, t9⟩
              case measure => simp [intOf]; omega
            · have hbe : ((xa : Int) == (k : Int)) = false := by simp; omega
              have hpk : pokeL k q b (xa, xb) = (xa, xb) := by simp [pokeL, he]
              rw [hpk, ← hget, List.set_getElem_self] at hset
              rw [hset] at d5
              clear hset hget q5
              go_wp2_with fail
              go_roundw
              case rel => exact ⟨m + 1, by omega, by go_num, d5, t5⟩
              case measure => simp [intOf]; omega
          · obtain rfl : m = D.hung.length := by omega
            have hdm : decide ((D.hung.length : Int) < (D.hung.length : Int)) = false := by simp
            rw [hungTo_all] at dr
            go_wp2_with fail
            go_ret
            exact ⟨rfl, dr, tr⟩
  · have e1 : D.poke at_ place b = (41, D) := by simp only [Dk.poke]; simp [hin]
    rw [e1]
    go_enter Try.func20, Try.ntmps20
    go_wp2_with fail
    refine (has_any w F D h at_ h1 h2).mono ?_
    rintro e w1 ⟨rfl, rfl⟩
    rw [decide_eq_false hin]
    go_wp2_with fail
    go_ret
    exact ⟨rfl, h, Turned.refl _ _⟩
end Go.Proofs.Ytncoclbmnhbgbaa
