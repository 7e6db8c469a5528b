/- does: one operation on both disks (Flush). -/
import Derived.Test.YtncoclbmnhbgbaaBoth
set_option linter.unusedVariables false
set_option linter.unusedSimpArgs false
namespace Go.Proofs.Ytncoclbmnhbgbaa
open Go.RowKit

set_option maxRecDepth 100000 in
set_option maxHeartbeats 8000000 in
theorem does_1 (B : Nat) (w : World) (x : Nat) (F : Ft) (p : Nat) (D : Dk) (h : BothAt B w x F p D) (lo : Low B x F) (yk ya yn : Int) (ab sa : Option Addr) (cb sc : Nat) (bl : List UInt8) (st : List Int)
    (k1 : -9223372036854775808 ≤ yk) (k2 : yk ≤ 9223372036854775807) (a1 : -9223372036854775808 ≤ ya) (a2 : ya ≤ 9223372036854775807) (n1 : -9223372036854775808 ≤ yn) (n2 : yn ≤ 9223372036854775807)
    (hib : ∀ w', Below B w w' → IsB w' (.slice ab bl.length cb) bl) (hii : ∀ w', Below B w w' → IsI w' (.slice sa st.length sc) st) (hbl : bl.length ≤ 140737488351232) (hst : st.length ≤ 17592186043904) (hq : pickN yk 6 = 1) :
    Calls Try.prog 24 #[.pointer (some ⟨x, 0, none⟩), .agg #[.int .i64 yk, .int .i64 ya, .int .i64 yn, .slice ab bl.length cb, .slice sa st.length sc]] w (DoesPost B w x) := by
  have hB := h.size lo
  have hbo : Below w.heap.size w (w.alloc (.cells #[.int .i64 yk, .int .i64 ya, .int .i64 yn, .slice ab bl.length cb, .slice sa st.length sc] 35)) := (Below.refl _ _).alloc (Nat.le_refl _) _
  have h0 := h.below hbo
  have hob := heap_alloc_new w (.cells #[.int .i64 yk, .int .i64 ya, .int .i64 yn, .slice ab bl.length cb, .slice sa st.length sc] 35)
  have hx0 : w.heap.size < (w.alloc (.cells #[.int .i64 yk, .int .i64 ya, .int .i64 yn, .slice ab bl.length cb, .slice sa st.length sc] 35)).heap.size := by simp
  have bo := hbo.mono hB
  have HIB := Lib.hid hib
  have HII := Lib.hid hii
  clear hib hii hbo
  go_enter Try.func24, Try.ntmps24
  go_wp2_with fail
  generalize w.alloc (.cells #[.int .i64 yk, .int .i64 ya, .int .i64 yn, .slice ab bl.length cb, .slice sa st.length sc] 35) = W at *
  have hls := lt_of_heap h.head
  generalize hox : w.heap.size = ox at *
  have o0 : W.cell? ⟨ox, 0, none⟩ = some (.int .i64 yk) := by rw [cell_of_row _ _ _ _ _ _ hob]; rfl
  have o1 : W.cell? ⟨ox, 1, none⟩ = some (.int .i64 ya) := by rw [cell_of_row _ _ _ _ _ _ hob]; rfl
  have o2 : W.cell? ⟨ox, 2, none⟩ = some (.int .i64 yn) := by rw [cell_of_row _ _ _ _ _ _ hob]; rfl
  have o3 : W.cell? ⟨ox, 3, none⟩ = some (.slice ab bl.length cb) := by rw [cell_of_row _ _ _ _ _ _ hob]; rfl
  have o4 : W.cell? ⟨ox, 4, none⟩ = some (.slice sa st.length sc) := by rw [cell_of_row _ _ _ _ _ _ hob]; rfl
  clear h
  have HX := Lib.hid hox
  clear hox
  refine (pick_any W yk 6 k1 k2 (by omega) (by omega)).mono ?_
  rintro e w' ⟨rfl, rfl⟩
  rw [hq]
  clear hq
  have h1 := h0.below ((Below.refl _ _).drew)
  have b1 := bo.drew
  have hh : Held2 x ox #[F.ptr, rptr p] #[.int .i64 yk, .int .i64 ya, .int .i64 yn, .slice ab bl.length cb, .slice sa st.length sc] W.drew := ⟨h1.head, hob⟩
  have ly : Dk.Lay D.flush.2 := Dk.Lay.flush h1.now
  have HW := Lib.hid hx0
  clear o0 o1 o2 o3 o4 h0 bo hob
  go_wp2_with fail
  refine wp_region_noPanic ?_
  refine wp_region_held_drew (S := (Held2 x ox #[F.ptr, rptr p] #[.int .i64 yk, .int .i64 ya, .int .i64 yn, .slice ab bl.length cb, .slice sa st.length sc])) (by kernel_rfl) hh (fun hH => ?_)
  refine wpAnyH_take (i := 0) (oi := { dst := some 55, op := Op.move (Operand.tmp 0), type := 52, pos := "disk.go:88", after := #[], guard := none }) (v := ?_) rfl (by kernel_rfl) (by kernel_rfl) (by kernel_rfl) (fun _ _ _ h => h) (Or.inl ⟨by rfl, ?_⟩) hH ?_
  rotate_left
  · (intro w hSw; have y0 : w.cell? ⟨x, 0, none⟩ = some (F.ptr) := (hSw.cells.1 0).trans rfl; have y1 : w.cell? ⟨x, 1, none⟩ = some (rptr p) := (hSw.cells.1 1).trans rfl; go_simp; try with_reducible rfl)
  try simp only [Act.put, List.setIfInBounds_toArray, List.set_cons_zero, List.set_cons_succ]
  refine wpAnyH_take (i := 1) (oi := { dst := some 56, op := Op.nilCheck (Operand.tmp 55), type := 0, pos := "disk.go:88", after := #[{ on := 0, ground := Ground.data }], guard := none }) (v := ?_) rfl (by kernel_rfl) (by kernel_rfl) (by kernel_rfl) (fun _ _ _ h => h) (Or.inl ⟨by rfl, ?_⟩) hH ?_
  rotate_left
  · (intro w hSw; have y0 : w.cell? ⟨x, 0, none⟩ = some (F.ptr) := (hSw.cells.1 0).trans rfl; have y1 : w.cell? ⟨x, 1, none⟩ = some (rptr p) := (hSw.cells.1 1).trans rfl; go_simp; try with_reducible rfl)
  try simp only [Act.put, List.setIfInBounds_toArray, List.set_cons_zero, List.set_cons_succ]
  refine wpAnyH_take (i := 2) (oi := { dst := some 57, op := Op.fieldAddr 54 (Operand.tmp 56) 0, type := 0, pos := "disk.go:88", after := #[{ on := 1, ground := Ground.data }], guard := none }) (v := ?_) rfl (by kernel_rfl) (by kernel_rfl) (by kernel_rfl) (fun _ _ _ h => h) (Or.inl ⟨by rfl, ?_⟩) hH ?_
  rotate_left
  · (intro w hSw; have y0 : w.cell? ⟨x, 0, none⟩ = some (F.ptr) := (hSw.cells.1 0).trans rfl; have y1 : w.cell? ⟨x, 1, none⟩ = some (rptr p) := (hSw.cells.1 1).trans rfl; go_simp; try with_reducible rfl)
  try simp only [Act.put, List.setIfInBounds_toArray, List.set_cons_zero, List.set_cons_succ]
  refine wpAnyH_take (i := 3) (oi := { dst := some 58, op := Op.load 25 (Operand.tmp 57), type := 25, pos := "disk.go:88", after := #[{ on := 2, ground := Ground.data }], guard := none }) (v := ?_) rfl (by kernel_rfl) (by kernel_rfl) (by kernel_rfl) (fun _ _ _ h => h) (Or.inl ⟨by rfl, ?_⟩) hH ?_
  rotate_left
  · (intro w hSw; have y0 : w.cell? ⟨x, 0, none⟩ = some (F.ptr) := (hSw.cells.1 0).trans rfl; have y1 : w.cell? ⟨x, 1, none⟩ = some (rptr p) := (hSw.cells.1 1).trans rfl; go_simp; try with_reducible rfl)
  try simp only [Act.put, List.setIfInBounds_toArray, List.set_cons_zero, List.set_cons_succ]
  refine wpAnyH_take (i := 5) (oi := { dst := some 60, op := Op.move (Operand.tmp 0), type := 52, pos := "disk.go:88", after := #[], guard := none }) (v := ?_) rfl (by kernel_rfl) (by kernel_rfl) (by kernel_rfl) (fun _ _ _ h => h) (Or.inl ⟨by rfl, ?_⟩) hH ?_
  rotate_left
  · (intro w hSw; have y0 : w.cell? ⟨x, 0, none⟩ = some (F.ptr) := (hSw.cells.1 0).trans rfl; have y1 : w.cell? ⟨x, 1, none⟩ = some (rptr p) := (hSw.cells.1 1).trans rfl; go_simp; try with_reducible rfl)
  try simp only [Act.put, List.setIfInBounds_toArray, List.set_cons_zero, List.set_cons_succ]
  refine wpAnyH_take (i := 6) (oi := { dst := some 61, op := Op.nilCheck (Operand.tmp 60), type := 0, pos := "disk.go:88", after := #[{ on := 5, ground := Ground.data }], guard := none }) (v := ?_) rfl (by kernel_rfl) (by kernel_rfl) (by kernel_rfl) (fun _ _ _ h => h) (Or.inl ⟨by rfl, ?_⟩) hH ?_
  rotate_left
  · (intro w hSw; have y0 : w.cell? ⟨x, 0, none⟩ = some (F.ptr) := (hSw.cells.1 0).trans rfl; have y1 : w.cell? ⟨x, 1, none⟩ = some (rptr p) := (hSw.cells.1 1).trans rfl; go_simp; try with_reducible rfl)
  try simp only [Act.put, List.setIfInBounds_toArray, List.set_cons_zero, List.set_cons_succ]
  refine wpAnyH_take (i := 7) (oi := { dst := some 62, op := Op.fieldAddr 54 (Operand.tmp 61) 1, type := 0, pos := "disk.go:88", after := #[{ on := 6, ground := Ground.data }], guard := none }) (v := ?_) rfl (by kernel_rfl) (by kernel_rfl) (by kernel_rfl) (fun _ _ _ h => h) (Or.inl ⟨by rfl, ?_⟩) hH ?_
  rotate_left
  · (intro w hSw; have y0 : w.cell? ⟨x, 0, none⟩ = some (F.ptr) := (hSw.cells.1 0).trans rfl; have y1 : w.cell? ⟨x, 1, none⟩ = some (rptr p) := (hSw.cells.1 1).trans rfl; go_simp; try with_reducible rfl)
  try simp only [Act.put, List.setIfInBounds_toArray, List.set_cons_zero, List.set_cons_succ]
  refine wpAnyH_take (i := 8) (oi := { dst := some 63, op := Op.load 49 (Operand.tmp 62), type := 49, pos := "disk.go:88", after := #[{ on := 7, ground := Ground.data }], guard := none }) (v := ?_) rfl (by kernel_rfl) (by kernel_rfl) (by kernel_rfl) (fun _ _ _ h => h) (Or.inl ⟨by rfl, ?_⟩) hH ?_
  rotate_left
  · (intro w hSw; have y0 : w.cell? ⟨x, 0, none⟩ = some (F.ptr) := (hSw.cells.1 0).trans rfl; have y1 : w.cell? ⟨x, 1, none⟩ = some (rptr p) := (hSw.cells.1 1).trans rfl; go_simp; try with_reducible rfl)
  try simp only [Act.put, List.setIfInBounds_toArray, List.set_cons_zero, List.set_cons_succ]
  refine wpAnyH_ready (rs := [4]) (by kernel_rfl) (by simp) ?_
  refine AllReadyH.cons (o := { dst := some 59, op := Op.call { callee := Callee.value (Operand.func 17), args := #[Operand.tmp 58], argTypes := #[25] }, type := 31, pos := "disk.go:88", after := #[{ on := 3, ground := Ground.data }], guard := none }) rfl (fun K hK => ?_) AllReadyH.nil
  go_simp
  refine (flush_any W.drew F D h1.d).mono ?_
  rintro e w2 ⟨rfl, d2, t2⟩
  have hH2 : Held2 x ox #[F.ptr, rptr p] #[.int .i64 yk, .int .i64 ya, .int .i64 yn, .slice ab bl.length cb, .slice sa st.length sc] w2 := hH.f h1.d t2
  have r2 := h1.r.turned h1.d t2; have b2 := b1.trans (t2.below (B := B) (by have := HW.out; simp; omega) (fun k hk => lo.F k hk))
  clear hH
  go_wp2_with fail
  refine hK.out _ _ hH2 (fun hH => ?_)
  clear hK K
  try simp only [Act.put, List.setIfInBounds_toArray, List.set_cons_zero, List.set_cons_succ]
  refine wpAnyH_ready (rs := [9]) (by kernel_rfl) (by simp) ?_
  refine AllReadyH.cons (o := { dst := some 64, op := Op.call { callee := Callee.value (Operand.func 31), args := #[Operand.tmp 63], argTypes := #[49] }, type := 31, pos := "disk.go:88", after := #[{ on := 8, ground := Ground.data }, { on := 4, ground := Ground.chain }], guard := none }) rfl (fun K hK => ?_) AllReadyH.nil
  go_simp
  refine (refFlush_any B w2 p D r2 h1.d.ok h1.now).mono ?_
  rintro e w9 ⟨rfl, r9, t9⟩
  have hH9 : Held2 x ox #[F.ptr, rptr p] #[.int .i64 yk, .int .i64 ya, .int .i64 yn, .slice ab bl.length cb, .slice sa st.length sc] w9 := hH.r t9
  clear hH
  go_wp2_with fail
  refine hK.out _ _ hH9 (fun hH => ?_)
  clear hK K
  try simp only [Act.put, List.setIfInBounds_toArray, List.set_cons_zero, List.set_cons_succ]
  refine wpAnyH_take (i := 10) (oi := { dst := some 65, op := Op.binOp BinOp.eql 31 (Operand.tmp 59) (Operand.tmp 64) 31, type := 4, pos := "disk.go:88", after := #[{ on := 4, ground := Ground.data }, { on := 9, ground := Ground.data }], guard := none }) (v := ?_) rfl (by kernel_rfl) (by kernel_rfl) (by kernel_rfl) (fun _ _ _ h => h) (Or.inl ⟨by rfl, ?_⟩) hH ?_
  rotate_left
  · (intro w hSw; have y0 : w.cell? ⟨x, 0, none⟩ = some (F.ptr) := (hSw.cells.1 0).trans rfl; have y1 : w.cell? ⟨x, 1, none⟩ = some (rptr p) := (hSw.cells.1 1).trans rfl; go_simp; try with_reducible rfl)
  try simp only [Act.put, List.setIfInBounds_toArray, List.set_cons_zero, List.set_cons_succ]
  refine wpAnyH_take (i := 11) (oi := { dst := some 4, op := Op.assign (Operand.tmp 65), type := 4, pos := "disk.go:88", after := #[{ on := 10, ground := Ground.data }, { on := 9, ground := Ground.chain }, { on := 0, ground := Ground.phase }, { on := 1, ground := Ground.phase }, { on := 2, ground := Ground.phase }, { on := 3, ground := Ground.phase }, { on := 4, ground := Ground.phase }, { on := 5, ground := Ground.phase }, { on := 6, ground := Ground.phase }, { on := 7, ground := Ground.phase }, { on := 8, ground := Ground.phase }, { on := 9, ground := Ground.phase }, { on := 10, ground := Ground.phase }], guard := none }) (v := ?_) rfl (by kernel_rfl) (by kernel_rfl) (by kernel_rfl) (fun _ _ _ h => h) (Or.inl ⟨by rfl, ?_⟩) hH ?_
  rotate_left
  · (intro w hSw; have y0 : w.cell? ⟨x, 0, none⟩ = some (F.ptr) := (hSw.cells.1 0).trans rfl; have y1 : w.cell? ⟨x, 1, none⟩ = some (rptr p) := (hSw.cells.1 1).trans rfl; go_simp; try with_reducible rfl)
  try simp only [Act.put, List.setIfInBounds_toArray, List.set_cons_zero, List.set_cons_succ]
  refine wpAnyH_done (by kernel_rfl) ?_ _
  refine NoPanic.normal ?_
  go_wp2_with fail
  go_ret
  exact ⟨F, p, _, rfl, ⟨hH9.1, d2.rt t9, r9, ly⟩, lo, b2.trans (t9.rtBelow r2.size)⟩
end Go.Proofs.Ytncoclbmnhbgbaa
