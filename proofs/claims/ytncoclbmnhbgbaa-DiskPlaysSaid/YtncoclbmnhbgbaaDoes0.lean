/- does: one operation on both disks (Write). -/
import Derived.Test.YtncoclbmnhbgbaaBoth
set_option linter.unusedVariables false
set_option linter.unusedSimpArgs false
namespace Go.Proofs.Ytncoclbmnhbgbaa
open Go.RowKit

set_option maxRecDepth 100000 in
set_option maxHeartbeats 8000000 in
theorem does_0 (B : Nat) (w : World) (x : Nat) (F : Ft) (p : Nat) (D : Dk) (h : BothAt B w x F p D) (lo : Low B x F) (yk ya yn : Int) (ab sa : Option Addr) (cb sc : Nat) (bl : List UInt8) (st : List Int)
    (k1 : -9223372036854775808 ≤ yk) (k2 : yk ≤ 9223372036854775807) (a1 : -9223372036854775808 ≤ ya) (a2 : ya ≤ 9223372036854775807) (n1 : -9223372036854775808 ≤ yn) (n2 : yn ≤ 9223372036854775807)
    (hib : ∀ w', Below B w w' → IsB w' (.slice ab bl.length cb) bl) (hii : ∀ w', Below B w w' → IsI w' (.slice sa st.length sc) st) (hbl : bl.length ≤ 140737488351232) (hst : st.length ≤ 17592186043904) (hq : pickN yk 6 = 0) :
    Calls Try.prog 24 #[.pointer (some ⟨x, 0, none⟩), .agg #[.int .i64 yk, .int .i64 ya, .int .i64 yn, .slice ab bl.length cb, .slice sa st.length sc]] w (DoesPost B w x) := by
  have hB := h.size lo
  have hbo : Below w.heap.size w (w.alloc (.cells #[.int .i64 yk, .int .i64 ya, .int .i64 yn, .slice ab bl.length cb, .slice sa st.length sc] 35)) := (Below.refl _ _).alloc (Nat.le_refl _) _
  have h0 := h.below hbo
  have hob := heap_alloc_new w (.cells #[.int .i64 yk, .int .i64 ya, .int .i64 yn, .slice ab bl.length cb, .slice sa st.length sc] 35)
  have hx0 : w.heap.size < (w.alloc (.cells #[.int .i64 yk, .int .i64 ya, .int .i64 yn, .slice ab bl.length cb, .slice sa st.length sc] 35)).heap.size := by simp
  have bo := hbo.mono hB
  have HIB := Lib.hid hib
  have HII := Lib.hid hii
  clear hib hii hbo
  go_enter Try.func24, Try.ntmps24
  go_wp2_with fail
  generalize w.alloc (.cells #[.int .i64 yk, .int .i64 ya, .int .i64 yn, .slice ab bl.length cb, .slice sa st.length sc] 35) = W at *
  have hls := lt_of_heap h.head
  generalize hox : w.heap.size = ox at *
  have o0 : W.cell? ⟨ox, 0, none⟩ = some (.int .i64 yk) := by rw [cell_of_row _ _ _ _ _ _ hob]; rfl
  have o1 : W.cell? ⟨ox, 1, none⟩ = some (.int .i64 ya) := by rw [cell_of_row _ _ _ _ _ _ hob]; rfl
  have o2 : W.cell? ⟨ox, 2, none⟩ = some (.int .i64 yn) := by rw [cell_of_row _ _ _ _ _ _ hob]; rfl
  have o3 : W.cell? ⟨ox, 3, none⟩ = some (.slice ab bl.length cb) := by rw [cell_of_row _ _ _ _ _ _ hob]; rfl
  have o4 : W.cell? ⟨ox, 4, none⟩ = some (.slice sa st.length sc) := by rw [cell_of_row _ _ _ _ _ _ hob]; rfl
  clear h
  have HX := Lib.hid hox
  clear hox
  refine (pick_any W yk 6 k1 k2 (by omega) (by omega)).mono ?_
  rintro e w' ⟨rfl, rfl⟩
  rw [hq]
  clear hq
  have i0 := HIB.out W bo
  have m0 : Mine 5 W.heap.size (W.alloc (.cells #[] 5)) (.slice (some ⟨W.heap.size, 0, none⟩) 0 0) [] := Mine.lit [] (Nat.le_refl _) (by simp [maxLen])
  obtain ⟨vb, w1, hr1, mb0, bb1, gb⟩ := run_bytes (W.alloc (.cells #[] 5)) W.heap.size (.slice (some ⟨W.heap.size, 0, none⟩) 0 0) [] m0 _ bl (i0.alloc _) (by simp; omega) (by simp)
  rw [List.nil_append] at mb0
  have bb : Below W.heap.size W w1.drew := (((Below.refl _ _).alloc (Nat.le_refl _) _).trans bb1).drew
  have mb : Mine 5 W.heap.size w1.drew vb bl := mb0
  clear i0 m0 gb bb1
  have h1 := h0.below bb
  have b1 := bo.trans (bb.mono (by omega))
  have ob1 := (bb.block ox hx0).trans hob
  have x1 : w1.drew.cell? ⟨x, 0, none⟩ = some F.ptr := by rw [cell_of_row _ _ _ _ _ _ h1.head]; rfl
  have o1' : w1.drew.cell? ⟨ox, 1, none⟩ = some (.int .i64 ya) := by rw [cell_of_row _ _ _ _ _ _ ob1]; rfl
  have HBB := Lib.hid bb
  have H0 := Lib.hid h0
  have HOB := Lib.hid hob
  have HW := Lib.hid hx0
  have HF := Lib.hid (show ∀ k, F.has k → k < W.heap.size from fun k hk => h0.d.lt hk)
  have HBO := Lib.hid bo
  clear bb h0 bo hob o0 o1 o2 o4
  go_wp2_with (at_builtin; refine wpList_append_run rfl (.tmp 21) (.tmp 23) 30 30 rfl _ _ _ rfl rfl hr1 ?_; clear hr1 o3)
  refine wp_region_still_tail 7 (by kernel_rfl) (by kernel_rfl) ?_
  simp only [List.take_succ_cons, List.take_zero, List.drop_succ_cons, List.drop_zero]
  change wpStill _ _ w1.drew (fun a' => wpList _ _ _ _ a' w1.drew) _ _
  clear mb0
  generalize w1.drew = W1 at *
  obtain ⟨avb, cvb, rfl, hcv, hmv, hnv, hcl⟩ := id mb.isB
  clear hcl
  iterate 7 still_step
  refine wpStill_nil ?_
  go_wp2_with fail
  refine (write_any W1 F D h1.d ya _ bl mb.isB a1 a2).mono ?_
  rintro e w2 ⟨rfl, d2, t2⟩
  have t3 := (Turned.of_below (T := F.has) HBB.out).then t2 (fun _ _ h => h)
  have m3 : Mine 5 W.heap.size w2 (.slice avb bl.length cvb) bl := ownsRow_keep mb (fun k hk hB => t2.block k hk (fun hF => by have := HF.out k hF; omega))
  clear t2 mb h1 x1 o1' b1 ob1
  go_wp2_with fail
  go_loopw [7, 33, 34, 35, 36, 37, 38, 39, 40, 41] (fun i _ _ _ _ _ _ _ _ _ wr => ∃ (k : Nat) (l : List UInt8), k ≤ bl.length ∧ l.length = bl.length ∧ i = .int .i64 (k : Int) ∧ DkAt wr F (D.write ya bl).2 ∧ Turned F.has W wr ∧ Mine 5 W.heap.size wr (.slice avb l.length cvb) l) (fun i _ _ _ _ _ _ _ _ _ _ => bl.length - (intOf i).toNat)
  case atStart => exact ⟨0, bl, Nat.zero_le _, rfl, rfl, d2, t3, m3⟩
  case round =>
    obtain ⟨k, l, hk, hll, rfl, dr, tr, mr⟩ := hrel
    clear d2 t3 m3
    by_cases hlt : k < bl.length
    · have hd : decide ((k : Int) < (bl.length : Int)) = true := by simpa using hlt
      obtain ⟨g, rfl⟩ : ∃ g, avb = some ⟨g, 0, none⟩ := by
        rcases mr.2 with ⟨hv, hn⟩ | ⟨g, cap, cur, hv, _⟩
        · have := hn; omega
        · simp only [Value.slice.injEq] at hv
          exact ⟨g, hv.1⟩
      have hcell := World.ownsRow.cellAt mr k (by omega)
      rw [bv_get l k (by omega)] at hcell
      replace hcell : ∃ z : Value, wr.cell? ⟨g, k, none⟩ = some z := ⟨_, hcell⟩
      obtain ⟨z, hcell⟩ := hcell
      have hfro := World.ownsRow.frozenAt mr k
      have HS := Lib.hid (over_step (D0 := D) dr tr HF.out mr k 77)
      have i0 : (0 : Int) ≤ (k : Int) := by omega
      have i1 : (k : Int) < (bl.length : Int) := by omega
      rw [hll] at mr
      clear dr tr mr
      have Hll := Lib.hid hll
      clear hll
      go_wp2_with fail
      go_roundw
      case rel => exact ⟨k + 1, l.set k 77, by omega, by rw [List.length_set]; exact Hll.out, by go_num, HS.out.1, HS.out.2.1, HS.out.2.2⟩
      case measure => simp [intOf]; omega
    · have hd : decide ((k : Int) < (bl.length : Int)) = false := by simpa using hlt
      have x4 := keepF H0.out.d tr H0.out.head (by decide)
      have ob4 := keepF H0.out.d tr HOB.out (by decide)
      have r4 := (H0.out.r.turned H0.out.d tr).below (Below.refl _ _).drew
      have dr := dr.drew
      have b4 := tr.below (B := B) (by have := HW.out; omega) (fun k hk => lo.F k hk)
      go_wp2_with fail
      have hh : Held2 x ox #[F.ptr, rptr p] #[.int .i64 yk, .int .i64 ya, .int .i64 yn, .slice ab bl.length cb, .slice sa st.length sc] wr.drew := ⟨x4, ob4⟩
      have ly : Dk.Lay (D.write ya bl).2 := Dk.Lay.write H0.out.now ya bl
      have b5 := (HBO.out.trans b4).drew
      clear x4 ob4 hd hk hlt mr b4
      refine wp_region_noPanic ?_
      refine wp_region_held_drew (S := (Held2 x ox #[F.ptr, rptr p] #[.int .i64 yk, .int .i64 ya, .int .i64 yn, .slice ab bl.length cb, .slice sa st.length sc])) (by kernel_rfl) hh (fun hH => ?_)
      refine wpAnyH_take (i := 0) (oi := { dst := some 42, op := Op.move (Operand.tmp 6), type := 31, pos := "disk.go:86", after := #[], guard := none }) (v := ?_) rfl (by kernel_rfl) (by kernel_rfl) (by kernel_rfl) (fun _ _ _ h => h) (Or.inl ⟨by rfl, ?_⟩) hH ?_
      rotate_left
      · (intro w hSw; have y1 : w.cell? ⟨x, 1, none⟩ = some (rptr p) := (hSw.cells.1 1).trans rfl; have q1 : w.cell? ⟨ox, 1, none⟩ = some (.int .i64 ya) := (hSw.cells.2 1).trans rfl; have q3 : w.cell? ⟨ox, 3, none⟩ = some (.slice ab bl.length cb) := (hSw.cells.2 3).trans rfl; go_simp; try with_reducible rfl)
      try simp only [Act.put, List.setIfInBounds_toArray, List.set_cons_zero, List.set_cons_succ]
      refine wpAnyH_take (i := 1) (oi := { dst := some 43, op := Op.move (Operand.tmp 0), type := 52, pos := "disk.go:86", after := #[], guard := none }) (v := ?_) rfl (by kernel_rfl) (by kernel_rfl) (by kernel_rfl) (fun _ _ _ h => h) (Or.inl ⟨by rfl, ?_⟩) hH ?_
      rotate_left
      · (intro w hSw; have y1 : w.cell? ⟨x, 1, none⟩ = some (rptr p) := (hSw.cells.1 1).trans rfl; have q1 : w.cell? ⟨ox, 1, none⟩ = some (.int .i64 ya) := (hSw.cells.2 1).trans rfl; have q3 : w.cell? ⟨ox, 3, none⟩ = some (.slice ab bl.length cb) := (hSw.cells.2 3).trans rfl; go_simp; try with_reducible rfl)
      try simp only [Act.put, List.setIfInBounds_toArray, List.set_cons_zero, List.set_cons_succ]
      refine wpAnyH_take (i := 2) (oi := { dst := some 44, op := Op.nilCheck (Operand.tmp 43), type := 0, pos := "disk.go:86", after := #[{ on := 1, ground := Ground.data }], guard := none }) (v := ?_) rfl (by kernel_rfl) (by kernel_rfl) (by kernel_rfl) (fun _ _ _ h => h) (Or.inl ⟨by rfl, ?_⟩) hH ?_
      rotate_left
      · (intro w hSw; have y1 : w.cell? ⟨x, 1, none⟩ = some (rptr p) := (hSw.cells.1 1).trans rfl; have q1 : w.cell? ⟨ox, 1, none⟩ = some (.int .i64 ya) := (hSw.cells.2 1).trans rfl; have q3 : w.cell? ⟨ox, 3, none⟩ = some (.slice ab bl.length cb) := (hSw.cells.2 3).trans rfl; go_simp; try with_reducible rfl)
      try simp only [Act.put, List.setIfInBounds_toArray, List.set_cons_zero, List.set_cons_succ]
      refine wpAnyH_take (i := 3) (oi := { dst := some 45, op := Op.fieldAddr 54 (Operand.tmp 44) 1, type := 0, pos := "disk.go:86", after := #[{ on := 2, ground := Ground.data }], guard := none }) (v := ?_) rfl (by kernel_rfl) (by kernel_rfl) (by kernel_rfl) (fun _ _ _ h => h) (Or.inl ⟨by rfl, ?_⟩) hH ?_
      rotate_left
      · (intro w hSw; have y1 : w.cell? ⟨x, 1, none⟩ = some (rptr p) := (hSw.cells.1 1).trans rfl; have q1 : w.cell? ⟨ox, 1, none⟩ = some (.int .i64 ya) := (hSw.cells.2 1).trans rfl; have q3 : w.cell? ⟨ox, 3, none⟩ = some (.slice ab bl.length cb) := (hSw.cells.2 3).trans rfl; go_simp; try with_reducible rfl)
      try simp only [Act.put, List.setIfInBounds_toArray, List.set_cons_zero, List.set_cons_succ]
      refine wpAnyH_take (i := 4) (oi := { dst := some 46, op := Op.load 49 (Operand.tmp 45), type := 49, pos := "disk.go:86", after := #[{ on := 3, ground := Ground.data }], guard := none }) (v := ?_) rfl (by kernel_rfl) (by kernel_rfl) (by kernel_rfl) (fun _ _ _ h => h) (Or.inl ⟨by rfl, ?_⟩) hH ?_
      rotate_left
      · (intro w hSw; have y1 : w.cell? ⟨x, 1, none⟩ = some (rptr p) := (hSw.cells.1 1).trans rfl; have q1 : w.cell? ⟨ox, 1, none⟩ = some (.int .i64 ya) := (hSw.cells.2 1).trans rfl; have q3 : w.cell? ⟨ox, 3, none⟩ = some (.slice ab bl.length cb) := (hSw.cells.2 3).trans rfl; go_simp; try with_reducible rfl)
      try simp only [Act.put, List.setIfInBounds_toArray, List.set_cons_zero, List.set_cons_succ]
      refine wpAnyH_take (i := 5) (oi := { dst := some 47, op := Op.fieldAddr 35 (Operand.tmp 3) 1, type := 0, pos := "disk.go:86", after := #[], guard := none }) (v := ?_) rfl (by kernel_rfl) (by kernel_rfl) (by kernel_rfl) (fun _ _ _ h => h) (Or.inl ⟨by rfl, ?_⟩) hH ?_
      rotate_left
      · (intro w hSw; have y1 : w.cell? ⟨x, 1, none⟩ = some (rptr p) := (hSw.cells.1 1).trans rfl; have q1 : w.cell? ⟨ox, 1, none⟩ = some (.int .i64 ya) := (hSw.cells.2 1).trans rfl; have q3 : w.cell? ⟨ox, 3, none⟩ = some (.slice ab bl.length cb) := (hSw.cells.2 3).trans rfl; go_simp; try with_reducible rfl)
      try simp only [Act.put, List.setIfInBounds_toArray, List.set_cons_zero, List.set_cons_succ]
      refine wpAnyH_take (i := 6) (oi := { dst := some 48, op := Op.load 3 (Operand.tmp 47), type := 3, pos := "disk.go:86", after := #[{ on := 5, ground := Ground.data }], guard := none }) (v := ?_) rfl (by kernel_rfl) (by kernel_rfl) (by kernel_rfl) (fun _ _ _ h => h) (Or.inl ⟨by rfl, ?_⟩) hH ?_
      rotate_left
      · (intro w hSw; have y1 : w.cell? ⟨x, 1, none⟩ = some (rptr p) := (hSw.cells.1 1).trans rfl; have q1 : w.cell? ⟨ox, 1, none⟩ = some (.int .i64 ya) := (hSw.cells.2 1).trans rfl; have q3 : w.cell? ⟨ox, 3, none⟩ = some (.slice ab bl.length cb) := (hSw.cells.2 3).trans rfl; go_simp; try with_reducible rfl)
      try simp only [Act.put, List.setIfInBounds_toArray, List.set_cons_zero, List.set_cons_succ]
      refine wpAnyH_take (i := 7) (oi := { dst := some 49, op := Op.fieldAddr 35 (Operand.tmp 3) 3, type := 0, pos := "disk.go:86", after := #[], guard := none }) (v := ?_) rfl (by kernel_rfl) (by kernel_rfl) (by kernel_rfl) (fun _ _ _ h => h) (Or.inl ⟨by rfl, ?_⟩) hH ?_
      rotate_left
      · (intro w hSw; have y1 : w.cell? ⟨x, 1, none⟩ = some (rptr p) := (hSw.cells.1 1).trans rfl; have q1 : w.cell? ⟨ox, 1, none⟩ = some (.int .i64 ya) := (hSw.cells.2 1).trans rfl; have q3 : w.cell? ⟨ox, 3, none⟩ = some (.slice ab bl.length cb) := (hSw.cells.2 3).trans rfl; go_simp; try with_reducible rfl)
      try simp only [Act.put, List.setIfInBounds_toArray, List.set_cons_zero, List.set_cons_succ]
      refine wpAnyH_take (i := 8) (oi := { dst := some 50, op := Op.load 30 (Operand.tmp 49), type := 30, pos := "disk.go:86", after := #[{ on := 7, ground := Ground.data }], guard := none }) (v := ?_) rfl (by kernel_rfl) (by kernel_rfl) (by kernel_rfl) (fun _ _ _ h => h) (Or.inl ⟨by rfl, ?_⟩) hH ?_
      rotate_left
      · (intro w hSw; have y1 : w.cell? ⟨x, 1, none⟩ = some (rptr p) := (hSw.cells.1 1).trans rfl; have q1 : w.cell? ⟨ox, 1, none⟩ = some (.int .i64 ya) := (hSw.cells.2 1).trans rfl; have q3 : w.cell? ⟨ox, 3, none⟩ = some (.slice ab bl.length cb) := (hSw.cells.2 3).trans rfl; go_simp; try with_reducible rfl)
      try simp only [Act.put, List.setIfInBounds_toArray, List.set_cons_zero, List.set_cons_succ]
      refine wpAnyH_ready (rs := [9]) (by kernel_rfl) (by simp) ?_
      refine AllReadyH.cons (o := { dst := some 51, op := Op.call { callee := Callee.value (Operand.func 30), args := #[Operand.tmp 46, Operand.tmp 48, Operand.tmp 50], argTypes := #[49, 3, 30] }, type := 31, pos := "disk.go:86", after := #[{ on := 4, ground := Ground.data }, { on := 6, ground := Ground.data }, { on := 8, ground := Ground.data }], guard := none }) rfl (fun K hK => ?_) AllReadyH.nil
      go_simp
      refine (refWrite_any B wr.drew p D r4 H0.out.d.ok ya _ bl (fun w' hw' => HIB.out w' (b5.trans hw')) a1 a2).mono ?_
      rintro e w9 ⟨rfl, r9, t9⟩
      have hH9 : Held2 x ox #[F.ptr, rptr p] #[.int .i64 yk, .int .i64 ya, .int .i64 yn, .slice ab bl.length cb, .slice sa st.length sc] w9 := hH.r t9
      clear hH
      go_wp2_with fail
      refine hK.out _ _ hH9 (fun hH => ?_)
      clear hK K
      try simp only [Act.put, List.setIfInBounds_toArray, List.set_cons_zero, List.set_cons_succ]
      refine wpAnyH_take (i := 10) (oi := { dst := some 52, op := Op.binOp BinOp.eql 31 (Operand.tmp 42) (Operand.tmp 51) 31, type := 4, pos := "disk.go:86", after := #[{ on := 0, ground := Ground.data }, { on := 9, ground := Ground.data }], guard := none }) (v := ?_) rfl (by kernel_rfl) (by kernel_rfl) (by kernel_rfl) (fun _ _ _ h => h) (Or.inl ⟨by rfl, ?_⟩) hH ?_
      rotate_left
      · (intro w hSw; have y1 : w.cell? ⟨x, 1, none⟩ = some (rptr p) := (hSw.cells.1 1).trans rfl; have q1 : w.cell? ⟨ox, 1, none⟩ = some (.int .i64 ya) := (hSw.cells.2 1).trans rfl; have q3 : w.cell? ⟨ox, 3, none⟩ = some (.slice ab bl.length cb) := (hSw.cells.2 3).trans rfl; go_simp; try with_reducible rfl)
      try simp only [Act.put, List.setIfInBounds_toArray, List.set_cons_zero, List.set_cons_succ]
      refine wpAnyH_take (i := 11) (oi := { dst := some 4, op := Op.assign (Operand.tmp 52), type := 4, pos := "disk.go:86", after := #[{ on := 10, ground := Ground.data }, { on := 9, ground := Ground.chain }, { on := 0, ground := Ground.phase }, { on := 1, ground := Ground.phase }, { on := 2, ground := Ground.phase }, { on := 3, ground := Ground.phase }, { on := 4, ground := Ground.phase }, { on := 5, ground := Ground.phase }, { on := 6, ground := Ground.phase }, { on := 7, ground := Ground.phase }, { on := 8, ground := Ground.phase }, { on := 9, ground := Ground.phase }, { on := 10, ground := Ground.phase }], guard := none }) (v := ?_) rfl (by kernel_rfl) (by kernel_rfl) (by kernel_rfl) (fun _ _ _ h => h) (Or.inl ⟨by rfl, ?_⟩) hH ?_
      rotate_left
      · (intro w hSw; have y1 : w.cell? ⟨x, 1, none⟩ = some (rptr p) := (hSw.cells.1 1).trans rfl; have q1 : w.cell? ⟨ox, 1, none⟩ = some (.int .i64 ya) := (hSw.cells.2 1).trans rfl; have q3 : w.cell? ⟨ox, 3, none⟩ = some (.slice ab bl.length cb) := (hSw.cells.2 3).trans rfl; go_simp; try with_reducible rfl)
      try simp only [Act.put, List.setIfInBounds_toArray, List.set_cons_zero, List.set_cons_succ]
      refine wpAnyH_done (by kernel_rfl) ?_ _
      refine NoPanic.normal ?_
      go_wp2_with fail
      go_ret
      exact ⟨F, p, _, rfl, ⟨hH9.1, dr.rt t9, r9, ly⟩, lo, b5.trans (t9.rtBelow (r4.size))⟩
end Go.Proofs.Ytncoclbmnhbgbaa
