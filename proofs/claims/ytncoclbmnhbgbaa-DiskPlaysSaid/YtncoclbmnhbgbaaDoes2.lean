/- does: one operation on both disks (Read). -/
import Derived.Test.YtncoclbmnhbgbaaBoth
set_option linter.unusedVariables false
set_option linter.unusedSimpArgs false
namespace Go.Proofs.Ytncoclbmnhbgbaa
open Go.RowKit

set_option maxRecDepth 100000 in
set_option maxHeartbeats 8000000 in
theorem does_2 (B : Nat) (w : World) (x : Nat) (F : Ft) (p : Nat) (D : Dk) (h : BothAt B w x F p D) (lo : Low B x F) (yk ya yn : Int) (ab sa : Option Addr) (cb sc : Nat) (bl : List UInt8) (st : List Int)
    (k1 : -9223372036854775808 ≤ yk) (k2 : yk ≤ 9223372036854775807) (a1 : -9223372036854775808 ≤ ya) (a2 : ya ≤ 9223372036854775807) (n1 : -9223372036854775808 ≤ yn) (n2 : yn ≤ 9223372036854775807)
    (hib : ∀ w', Below B w w' → IsB w' (.slice ab bl.length cb) bl) (hii : ∀ w', Below B w w' → IsI w' (.slice sa st.length sc) st) (hbl : bl.length ≤ 140737488351232) (hst : st.length ≤ 17592186043904) (hq : pickN yk 6 = 2) :
    Calls Try.prog 24 #[.pointer (some ⟨x, 0, none⟩), .agg #[.int .i64 yk, .int .i64 ya, .int .i64 yn, .slice ab bl.length cb, .slice sa st.length sc]] w (DoesPost B w x) := by
  have hB := h.size lo
  have hbo : Below w.heap.size w (w.alloc (.cells #[.int .i64 yk, .int .i64 ya, .int .i64 yn, .slice ab bl.length cb, .slice sa st.length sc] 35)) := (Below.refl _ _).alloc (Nat.le_refl _) _
  have h0 := h.below hbo
  have hob := heap_alloc_new w (.cells #[.int .i64 yk, .int .i64 ya, .int .i64 yn, .slice ab bl.length cb, .slice sa st.length sc] 35)
  have hx0 : w.heap.size < (w.alloc (.cells #[.int .i64 yk, .int .i64 ya, .int .i64 yn, .slice ab bl.length cb, .slice sa st.length sc] 35)).heap.size := by simp
  have bo := hbo.mono hB
  have HIB := Lib.hid hib
  have HII := Lib.hid hii
  clear hib hii hbo
  go_enter Try.func24, Try.ntmps24
  go_wp2_with fail
  generalize w.alloc (.cells #[.int .i64 yk, .int .i64 ya, .int .i64 yn, .slice ab bl.length cb, .slice sa st.length sc] 35) = W at *
  have hls := lt_of_heap h.head
  generalize hox : w.heap.size = ox at *
  have o0 : W.cell? ⟨ox, 0, none⟩ = some (.int .i64 yk) := by rw [cell_of_row _ _ _ _ _ _ hob]; rfl
  have o1 : W.cell? ⟨ox, 1, none⟩ = some (.int .i64 ya) := by rw [cell_of_row _ _ _ _ _ _ hob]; rfl
  have o2 : W.cell? ⟨ox, 2, none⟩ = some (.int .i64 yn) := by rw [cell_of_row _ _ _ _ _ _ hob]; rfl
  have o3 : W.cell? ⟨ox, 3, none⟩ = some (.slice ab bl.length cb) := by rw [cell_of_row _ _ _ _ _ _ hob]; rfl
  have o4 : W.cell? ⟨ox, 4, none⟩ = some (.slice sa st.length sc) := by rw [cell_of_row _ _ _ _ _ _ hob]; rfl
  clear h
  have HX := Lib.hid hox
  clear hox
  refine (pick_any W yk 6 k1 k2 (by omega) (by omega)).mono ?_
  rintro e w' ⟨rfl, rfl⟩
  rw [hq]
  clear hq
  have h1 := h0.below ((Below.refl _ _).drew)
  have b1 := bo.drew
  have hob1 : W.drew.heap[ox]? = _ := hob
  have hh : Held2 x ox #[F.ptr, rptr p] #[.int .i64 yk, .int .i64 ya, .int .i64 yn, .slice ab bl.length cb, .slice sa st.length sc] W.drew := ⟨h1.head, hob1⟩
  obtain ⟨Z, hZ⟩ : ∃ Z, Z = (D.read ya).1 := ⟨_, rfl⟩
  obtain ⟨z, hz⟩ : ∃ z, z = (D.read ya).2 := ⟨_, rfl⟩
  have HZ := Lib.hid hZ
  have Hz := Lib.hid hz
  have hsz : ox < W.drew.heap.size := hx0
  clear o0 o1 o2 o3 o4 h0 bo hob hZ hz hx0
  go_wp2_with fail
  refine wp_region_noPanic ?_
  refine wp_region_held_drew (S := (Held2 x ox #[F.ptr, rptr p] #[.int .i64 yk, .int .i64 ya, .int .i64 yn, .slice ab bl.length cb, .slice sa st.length sc])) (by kernel_rfl) hh (fun hH => ?_)
  refine wpAnyH_take (i := 0) (oi := { dst := some 69, op := Op.move (Operand.tmp 0), type := 52, pos := "disk.go:90", after := #[], guard := none }) (v := ?_) rfl (by kernel_rfl) (by kernel_rfl) (by kernel_rfl) (fun _ _ _ h => h) (Or.inl ⟨by rfl, ?_⟩) hH ?_
  rotate_left
  · (intro w hSw; have y0 : w.cell? ⟨x, 0, none⟩ = some (F.ptr) := (hSw.cells.1 0).trans rfl; have q1 : w.cell? ⟨ox, 1, none⟩ = some (.int .i64 ya) := (hSw.cells.2 1).trans rfl; go_simp; try with_reducible rfl)
  try simp only [Act.put, List.setIfInBounds_toArray, List.set_cons_zero, List.set_cons_succ]
  refine wpAnyH_take (i := 1) (oi := { dst := some 70, op := Op.nilCheck (Operand.tmp 69), type := 0, pos := "disk.go:90", after := #[{ on := 0, ground := Ground.data }], guard := none }) (v := ?_) rfl (by kernel_rfl) (by kernel_rfl) (by kernel_rfl) (fun _ _ _ h => h) (Or.inl ⟨by rfl, ?_⟩) hH ?_
  rotate_left
  · (intro w hSw; have y0 : w.cell? ⟨x, 0, none⟩ = some (F.ptr) := (hSw.cells.1 0).trans rfl; have q1 : w.cell? ⟨ox, 1, none⟩ = some (.int .i64 ya) := (hSw.cells.2 1).trans rfl; go_simp; try with_reducible rfl)
  try simp only [Act.put, List.setIfInBounds_toArray, List.set_cons_zero, List.set_cons_succ]
  refine wpAnyH_take (i := 2) (oi := { dst := some 71, op := Op.fieldAddr 54 (Operand.tmp 70) 0, type := 0, pos := "disk.go:90", after := #[{ on := 1, ground := Ground.data }], guard := none }) (v := ?_) rfl (by kernel_rfl) (by kernel_rfl) (by kernel_rfl) (fun _ _ _ h => h) (Or.inl ⟨by rfl, ?_⟩) hH ?_
  rotate_left
  · (intro w hSw; have y0 : w.cell? ⟨x, 0, none⟩ = some (F.ptr) := (hSw.cells.1 0).trans rfl; have q1 : w.cell? ⟨ox, 1, none⟩ = some (.int .i64 ya) := (hSw.cells.2 1).trans rfl; go_simp; try with_reducible rfl)
  try simp only [Act.put, List.setIfInBounds_toArray, List.set_cons_zero, List.set_cons_succ]
  refine wpAnyH_take (i := 3) (oi := { dst := some 72, op := Op.load 25 (Operand.tmp 71), type := 25, pos := "disk.go:90", after := #[{ on := 2, ground := Ground.data }], guard := none }) (v := ?_) rfl (by kernel_rfl) (by kernel_rfl) (by kernel_rfl) (fun _ _ _ h => h) (Or.inl ⟨by rfl, ?_⟩) hH ?_
  rotate_left
  · (intro w hSw; have y0 : w.cell? ⟨x, 0, none⟩ = some (F.ptr) := (hSw.cells.1 0).trans rfl; have q1 : w.cell? ⟨ox, 1, none⟩ = some (.int .i64 ya) := (hSw.cells.2 1).trans rfl; go_simp; try with_reducible rfl)
  try simp only [Act.put, List.setIfInBounds_toArray, List.set_cons_zero, List.set_cons_succ]
  refine wpAnyH_take (i := 4) (oi := { dst := some 73, op := Op.fieldAddr 35 (Operand.tmp 3) 1, type := 0, pos := "disk.go:90", after := #[], guard := none }) (v := ?_) rfl (by kernel_rfl) (by kernel_rfl) (by kernel_rfl) (fun _ _ _ h => h) (Or.inl ⟨by rfl, ?_⟩) hH ?_
  rotate_left
  · (intro w hSw; have y0 : w.cell? ⟨x, 0, none⟩ = some (F.ptr) := (hSw.cells.1 0).trans rfl; have q1 : w.cell? ⟨ox, 1, none⟩ = some (.int .i64 ya) := (hSw.cells.2 1).trans rfl; go_simp; try with_reducible rfl)
  try simp only [Act.put, List.setIfInBounds_toArray, List.set_cons_zero, List.set_cons_succ]
  refine wpAnyH_take (i := 5) (oi := { dst := some 74, op := Op.load 3 (Operand.tmp 73), type := 3, pos := "disk.go:90", after := #[{ on := 4, ground := Ground.data }], guard := none }) (v := ?_) rfl (by kernel_rfl) (by kernel_rfl) (by kernel_rfl) (fun _ _ _ h => h) (Or.inl ⟨by rfl, ?_⟩) hH ?_
  rotate_left
  · (intro w hSw; have y0 : w.cell? ⟨x, 0, none⟩ = some (F.ptr) := (hSw.cells.1 0).trans rfl; have q1 : w.cell? ⟨ox, 1, none⟩ = some (.int .i64 ya) := (hSw.cells.2 1).trans rfl; go_simp; try with_reducible rfl)
  try simp only [Act.put, List.setIfInBounds_toArray, List.set_cons_zero, List.set_cons_succ]
  refine wpAnyH_ready (rs := [6]) (by kernel_rfl) (by simp) ?_
  refine AllReadyH.cons (o := { dst := some 75, op := Op.call { callee := Callee.value (Operand.func 12), args := #[Operand.tmp 72, Operand.tmp 74], argTypes := #[25, 3] }, type := 32, pos := "disk.go:90", after := #[{ on := 3, ground := Ground.data }, { on := 5, ground := Ground.data }], guard := none }) rfl (fun K hK => ?_) AllReadyH.nil
  go_simp
  refine (read_any W.drew F D h1.d ya a1 a2).mono ?_
  rintro e w2 ⟨v2, rfl, g2⟩
  rw [← HZ.out] at g2
  rw [← Hz.out]
  have hH2 : Held2 x ox #[F.ptr, rptr p] #[.int .i64 yk, .int .i64 ya, .int .i64 yn, .slice ab bl.length cb, .slice sa st.length sc] w2 := hH.below g2.below
  clear hH
  go_wp2_with fail
  refine hK.out _ _ hH2 (fun hH => ?_)
  clear hK K
  try simp only [Act.put, List.setIfInBounds_toArray, List.set_cons_zero, List.set_cons_succ]
  refine wpAnyH_take (i := 7) (oi := { dst := some 68, op := Op.move (Operand.tmp 75), type := 32, pos := "disk.go:90", after := #[{ on := 6, ground := Ground.data }], guard := none }) (v := ?_) rfl (by kernel_rfl) (by kernel_rfl) (by kernel_rfl) (fun _ _ _ h => h) (Or.inl ⟨by rfl, ?_⟩) hH ?_
  rotate_left
  · (intro w hSw; have y0 : w.cell? ⟨x, 0, none⟩ = some (F.ptr) := (hSw.cells.1 0).trans rfl; have q1 : w.cell? ⟨ox, 1, none⟩ = some (.int .i64 ya) := (hSw.cells.2 1).trans rfl; go_simp; try with_reducible rfl)
  try simp only [Act.put, List.setIfInBounds_toArray, List.set_cons_zero, List.set_cons_succ]
  refine wpAnyH_take (i := 8) (oi := { dst := some 76, op := Op.extract (Operand.tmp 68) 0, type := 30, pos := "disk.go:90", after := #[{ on := 7, ground := Ground.data }], guard := none }) (v := ?_) rfl (by kernel_rfl) (by kernel_rfl) (by kernel_rfl) (fun _ _ _ h => h) (Or.inl ⟨by rfl, ?_⟩) hH ?_
  rotate_left
  · (intro w hSw; have y0 : w.cell? ⟨x, 0, none⟩ = some (F.ptr) := (hSw.cells.1 0).trans rfl; have q1 : w.cell? ⟨ox, 1, none⟩ = some (.int .i64 ya) := (hSw.cells.2 1).trans rfl; go_simp; try with_reducible rfl)
  try simp only [Act.put, List.setIfInBounds_toArray, List.set_cons_zero, List.set_cons_succ]
  refine wpAnyH_take (i := 9) (oi := { dst := some 77, op := Op.extract (Operand.tmp 68) 1, type := 31, pos := "disk.go:90", after := #[{ on := 7, ground := Ground.data }, { on := 10, ground := Ground.gcOnly Departure.lateStores }], guard := none }) (v := ?_) rfl (by kernel_rfl) (by kernel_rfl) (by kernel_rfl) (fun _ _ _ h => h) (Or.inl ⟨by rfl, ?_⟩) hH ?_
  rotate_left
  · (intro w hSw; have y0 : w.cell? ⟨x, 0, none⟩ = some (F.ptr) := (hSw.cells.1 0).trans rfl; have q1 : w.cell? ⟨ox, 1, none⟩ = some (.int .i64 ya) := (hSw.cells.2 1).trans rfl; go_simp; try with_reducible rfl)
  try simp only [Act.put, List.setIfInBounds_toArray, List.set_cons_zero, List.set_cons_succ]
  refine wpAnyH_take (i := 10) (oi := { dst := some 8, op := Op.assign (Operand.tmp 76), type := 30, pos := "disk.go:90", after := #[{ on := 8, ground := Ground.data }, { on := 6, ground := Ground.chain }, { on := 0, ground := Ground.phase }, { on := 1, ground := Ground.phase }, { on := 2, ground := Ground.phase }, { on := 3, ground := Ground.phase }, { on := 4, ground := Ground.phase }, { on := 5, ground := Ground.phase }, { on := 6, ground := Ground.phase }, { on := 7, ground := Ground.phase }, { on := 8, ground := Ground.phase }, { on := 9, ground := Ground.textOnly Departure.lateStores }], guard := none }) (v := ?_) rfl (by kernel_rfl) (by kernel_rfl) (by kernel_rfl) (fun _ _ _ h => h) (Or.inl ⟨by rfl, ?_⟩) hH ?_
  rotate_left
  · (intro w hSw; have y0 : w.cell? ⟨x, 0, none⟩ = some (F.ptr) := (hSw.cells.1 0).trans rfl; have q1 : w.cell? ⟨ox, 1, none⟩ = some (.int .i64 ya) := (hSw.cells.2 1).trans rfl; go_simp; try with_reducible rfl)
  try simp only [Act.put, List.setIfInBounds_toArray, List.set_cons_zero, List.set_cons_succ]
  refine wpAnyH_take (i := 11) (oi := { dst := some 9, op := Op.assign (Operand.tmp 77), type := 31, pos := "disk.go:90", after := #[{ on := 9, ground := Ground.data }, { on := 10, ground := Ground.chain }, { on := 0, ground := Ground.phase }, { on := 1, ground := Ground.phase }, { on := 2, ground := Ground.phase }, { on := 3, ground := Ground.phase }, { on := 4, ground := Ground.phase }, { on := 5, ground := Ground.phase }, { on := 6, ground := Ground.phase }, { on := 7, ground := Ground.phase }, { on := 8, ground := Ground.phase }, { on := 9, ground := Ground.phase }, { on := 10, ground := Ground.phase }], guard := none }) (v := ?_) rfl (by kernel_rfl) (by kernel_rfl) (by kernel_rfl) (fun _ _ _ h => h) (Or.inl ⟨by rfl, ?_⟩) hH ?_
  rotate_left
  · (intro w hSw; have y0 : w.cell? ⟨x, 0, none⟩ = some (F.ptr) := (hSw.cells.1 0).trans rfl; have q1 : w.cell? ⟨ox, 1, none⟩ = some (.int .i64 ya) := (hSw.cells.2 1).trans rfl; go_simp; try with_reducible rfl)
  try simp only [Act.put, List.setIfInBounds_toArray, List.set_cons_zero, List.set_cons_succ]
  refine wpAnyH_done (by kernel_rfl) ?_ _
  refine NoPanic.normal ?_
  have bg := g2.below
  have i2 := g2.isB
  have hg : v2 = .slice none 0 0 ∨ ∃ g cur, v2 = .slice (some ⟨g, 0, none⟩) 128 128 ∧ W.drew.heap.size ≤ g ∧ w2.heap[g]? = some (.cells cur 63 (0, 0)) ∧ cur.size = 128 := by
    rcases g2 with ⟨_, rfl, _⟩ | ⟨hl, rfl, rfl⟩
    · exact .inl rfl
    · exact .inr ⟨_, _, rfl, Nat.le_refl _, heap_alloc_new W.drew _, by simp [bv_length, hl]⟩
  have h2 := h1.below bg
  have b2 := b1.trans (bg.mono (by have := HX.out; omega))
  have ob2 := (bg.block ox hsz).trans hob1
  have bt2 := bg.drew
  have h2 := h2.below (Below.refl _ _).drew
  have b2 := b2.drew
  have i2 : IsB w2.drew v2 Z := i2
  have hh2 : Held2 x ox #[F.ptr, rptr p] #[.int .i64 yk, .int .i64 ya, .int .i64 yn, .slice ab bl.length cb, .slice sa st.length sc] w2.drew := hH2
  have HG : Hid _ := Lib.hid (show v2 = .slice none 0 0 ∨ ∃ g cur, v2 = .slice (some ⟨g, 0, none⟩) 128 128 ∧ W.drew.heap.size ≤ g ∧ w2.drew.heap[g]? = some (.cells cur 63 (0, 0)) ∧ cur.size = 128 from hg)
  have H1 := Lib.hid h1
  have B1 := Lib.hid b1
  have HS := Lib.hid hsz
  clear g2 bg ob2 hob1 hg h1 b1 hsz hH2 hH hh
  go_wp2_with fail
  refine wp_region_noPanic ?_
  refine wp_region_held_drew (S := (Held2 x ox #[F.ptr, rptr p] #[.int .i64 yk, .int .i64 ya, .int .i64 yn, .slice ab bl.length cb, .slice sa st.length sc])) (by kernel_rfl) hh2 (fun hH => ?_)
  refine wpAnyH_take (i := 0) (oi := { dst := some 79, op := Op.move (Operand.tmp 0), type := 52, pos := "disk.go:91", after := #[], guard := none }) (v := ?_) rfl (by kernel_rfl) (by kernel_rfl) (by kernel_rfl) (fun _ _ _ h => h) (Or.inl ⟨by rfl, ?_⟩) hH ?_
  rotate_left
  · (intro w hSw; have y1 : w.cell? ⟨x, 1, none⟩ = some (rptr p) := (hSw.cells.1 1).trans rfl; have q1 : w.cell? ⟨ox, 1, none⟩ = some (.int .i64 ya) := (hSw.cells.2 1).trans rfl; go_simp; try with_reducible rfl)
  try simp only [Act.put, List.setIfInBounds_toArray, List.set_cons_zero, List.set_cons_succ]
  refine wpAnyH_take (i := 1) (oi := { dst := some 80, op := Op.nilCheck (Operand.tmp 79), type := 0, pos := "disk.go:91", after := #[{ on := 0, ground := Ground.data }], guard := none }) (v := ?_) rfl (by kernel_rfl) (by kernel_rfl) (by kernel_rfl) (fun _ _ _ h => h) (Or.inl ⟨by rfl, ?_⟩) hH ?_
  rotate_left
  · (intro w hSw; have y1 : w.cell? ⟨x, 1, none⟩ = some (rptr p) := (hSw.cells.1 1).trans rfl; have q1 : w.cell? ⟨ox, 1, none⟩ = some (.int .i64 ya) := (hSw.cells.2 1).trans rfl; go_simp; try with_reducible rfl)
  try simp only [Act.put, List.setIfInBounds_toArray, List.set_cons_zero, List.set_cons_succ]
  refine wpAnyH_take (i := 2) (oi := { dst := some 81, op := Op.fieldAddr 54 (Operand.tmp 80) 1, type := 0, pos := "disk.go:91", after := #[{ on := 1, ground := Ground.data }], guard := none }) (v := ?_) rfl (by kernel_rfl) (by kernel_rfl) (by kernel_rfl) (fun _ _ _ h => h) (Or.inl ⟨by rfl, ?_⟩) hH ?_
  rotate_left
  · (intro w hSw; have y1 : w.cell? ⟨x, 1, none⟩ = some (rptr p) := (hSw.cells.1 1).trans rfl; have q1 : w.cell? ⟨ox, 1, none⟩ = some (.int .i64 ya) := (hSw.cells.2 1).trans rfl; go_simp; try with_reducible rfl)
  try simp only [Act.put, List.setIfInBounds_toArray, List.set_cons_zero, List.set_cons_succ]
  refine wpAnyH_take (i := 3) (oi := { dst := some 82, op := Op.load 49 (Operand.tmp 81), type := 49, pos := "disk.go:91", after := #[{ on := 2, ground := Ground.data }], guard := none }) (v := ?_) rfl (by kernel_rfl) (by kernel_rfl) (by kernel_rfl) (fun _ _ _ h => h) (Or.inl ⟨by rfl, ?_⟩) hH ?_
  rotate_left
  · (intro w hSw; have y1 : w.cell? ⟨x, 1, none⟩ = some (rptr p) := (hSw.cells.1 1).trans rfl; have q1 : w.cell? ⟨ox, 1, none⟩ = some (.int .i64 ya) := (hSw.cells.2 1).trans rfl; go_simp; try with_reducible rfl)
  try simp only [Act.put, List.setIfInBounds_toArray, List.set_cons_zero, List.set_cons_succ]
  refine wpAnyH_take (i := 4) (oi := { dst := some 83, op := Op.fieldAddr 35 (Operand.tmp 3) 1, type := 0, pos := "disk.go:91", after := #[], guard := none }) (v := ?_) rfl (by kernel_rfl) (by kernel_rfl) (by kernel_rfl) (fun _ _ _ h => h) (Or.inl ⟨by rfl, ?_⟩) hH ?_
  rotate_left
  · (intro w hSw; have y1 : w.cell? ⟨x, 1, none⟩ = some (rptr p) := (hSw.cells.1 1).trans rfl; have q1 : w.cell? ⟨ox, 1, none⟩ = some (.int .i64 ya) := (hSw.cells.2 1).trans rfl; go_simp; try with_reducible rfl)
  try simp only [Act.put, List.setIfInBounds_toArray, List.set_cons_zero, List.set_cons_succ]
  refine wpAnyH_take (i := 5) (oi := { dst := some 84, op := Op.load 3 (Operand.tmp 83), type := 3, pos := "disk.go:91", after := #[{ on := 4, ground := Ground.data }], guard := none }) (v := ?_) rfl (by kernel_rfl) (by kernel_rfl) (by kernel_rfl) (fun _ _ _ h => h) (Or.inl ⟨by rfl, ?_⟩) hH ?_
  rotate_left
  · (intro w hSw; have y1 : w.cell? ⟨x, 1, none⟩ = some (rptr p) := (hSw.cells.1 1).trans rfl; have q1 : w.cell? ⟨ox, 1, none⟩ = some (.int .i64 ya) := (hSw.cells.2 1).trans rfl; go_simp; try with_reducible rfl)
  try simp only [Act.put, List.setIfInBounds_toArray, List.set_cons_zero, List.set_cons_succ]
  refine wpAnyH_ready (rs := [6]) (by kernel_rfl) (by simp) ?_
  refine AllReadyH.cons (o := { dst := some 85, op := Op.call { callee := Callee.value (Operand.func 32), args := #[Operand.tmp 82, Operand.tmp 84], argTypes := #[49, 3] }, type := 32, pos := "disk.go:91", after := #[{ on := 3, ground := Ground.data }, { on := 5, ground := Ground.data }], guard := none }) rfl (fun K hK => ?_) AllReadyH.nil
  go_simp
  refine (refRead_any B w2.drew p D h2.r h2.d.ok h2.now ya a1 a2).mono ?_
  rintro e w3 ⟨v3, rfl, m3, b3⟩
  rw [← HZ.out] at m3
  rw [← Hz.out]
  have hH3 : Held2 x ox #[F.ptr, rptr p] #[.int .i64 yk, .int .i64 ya, .int .i64 yn, .slice ab bl.length cb, .slice sa st.length sc] w3 := hH.below b3
  clear hH
  go_wp2_with fail
  refine hK.out _ _ hH3 (fun hH => ?_)
  clear hK K
  try simp only [Act.put, List.setIfInBounds_toArray, List.set_cons_zero, List.set_cons_succ]
  refine wpAnyH_take (i := 7) (oi := { dst := some 78, op := Op.move (Operand.tmp 85), type := 32, pos := "disk.go:91", after := #[{ on := 6, ground := Ground.data }], guard := none }) (v := ?_) rfl (by kernel_rfl) (by kernel_rfl) (by kernel_rfl) (fun _ _ _ h => h) (Or.inl ⟨by rfl, ?_⟩) hH ?_
  rotate_left
  · (intro w hSw; have y1 : w.cell? ⟨x, 1, none⟩ = some (rptr p) := (hSw.cells.1 1).trans rfl; have q1 : w.cell? ⟨ox, 1, none⟩ = some (.int .i64 ya) := (hSw.cells.2 1).trans rfl; go_simp; try with_reducible rfl)
  try simp only [Act.put, List.setIfInBounds_toArray, List.set_cons_zero, List.set_cons_succ]
  refine wpAnyH_take (i := 8) (oi := { dst := some 86, op := Op.extract (Operand.tmp 78) 0, type := 30, pos := "disk.go:91", after := #[{ on := 7, ground := Ground.data }], guard := none }) (v := ?_) rfl (by kernel_rfl) (by kernel_rfl) (by kernel_rfl) (fun _ _ _ h => h) (Or.inl ⟨by rfl, ?_⟩) hH ?_
  rotate_left
  · (intro w hSw; have y1 : w.cell? ⟨x, 1, none⟩ = some (rptr p) := (hSw.cells.1 1).trans rfl; have q1 : w.cell? ⟨ox, 1, none⟩ = some (.int .i64 ya) := (hSw.cells.2 1).trans rfl; go_simp; try with_reducible rfl)
  try simp only [Act.put, List.setIfInBounds_toArray, List.set_cons_zero, List.set_cons_succ]
  refine wpAnyH_take (i := 9) (oi := { dst := some 87, op := Op.extract (Operand.tmp 78) 1, type := 31, pos := "disk.go:91", after := #[{ on := 7, ground := Ground.data }, { on := 10, ground := Ground.gcOnly Departure.lateStores }], guard := none }) (v := ?_) rfl (by kernel_rfl) (by kernel_rfl) (by kernel_rfl) (fun _ _ _ h => h) (Or.inl ⟨by rfl, ?_⟩) hH ?_
  rotate_left
  · (intro w hSw; have y1 : w.cell? ⟨x, 1, none⟩ = some (rptr p) := (hSw.cells.1 1).trans rfl; have q1 : w.cell? ⟨ox, 1, none⟩ = some (.int .i64 ya) := (hSw.cells.2 1).trans rfl; go_simp; try with_reducible rfl)
  try simp only [Act.put, List.setIfInBounds_toArray, List.set_cons_zero, List.set_cons_succ]
  refine wpAnyH_take (i := 10) (oi := { dst := some 10, op := Op.assign (Operand.tmp 86), type := 30, pos := "disk.go:91", after := #[{ on := 8, ground := Ground.data }, { on := 6, ground := Ground.chain }, { on := 0, ground := Ground.phase }, { on := 1, ground := Ground.phase }, { on := 2, ground := Ground.phase }, { on := 3, ground := Ground.phase }, { on := 4, ground := Ground.phase }, { on := 5, ground := Ground.phase }, { on := 6, ground := Ground.phase }, { on := 7, ground := Ground.phase }, { on := 8, ground := Ground.phase }, { on := 9, ground := Ground.textOnly Departure.lateStores }], guard := none }) (v := ?_) rfl (by kernel_rfl) (by kernel_rfl) (by kernel_rfl) (fun _ _ _ h => h) (Or.inl ⟨by rfl, ?_⟩) hH ?_
  rotate_left
  · (intro w hSw; have y1 : w.cell? ⟨x, 1, none⟩ = some (rptr p) := (hSw.cells.1 1).trans rfl; have q1 : w.cell? ⟨ox, 1, none⟩ = some (.int .i64 ya) := (hSw.cells.2 1).trans rfl; go_simp; try with_reducible rfl)
  try simp only [Act.put, List.setIfInBounds_toArray, List.set_cons_zero, List.set_cons_succ]
  refine wpAnyH_take (i := 11) (oi := { dst := some 11, op := Op.assign (Operand.tmp 87), type := 31, pos := "disk.go:91", after := #[{ on := 9, ground := Ground.data }, { on := 10, ground := Ground.chain }, { on := 0, ground := Ground.phase }, { on := 1, ground := Ground.phase }, { on := 2, ground := Ground.phase }, { on := 3, ground := Ground.phase }, { on := 4, ground := Ground.phase }, { on := 5, ground := Ground.phase }, { on := 6, ground := Ground.phase }, { on := 7, ground := Ground.phase }, { on := 8, ground := Ground.phase }, { on := 9, ground := Ground.phase }, { on := 10, ground := Ground.phase }], guard := none }) (v := ?_) rfl (by kernel_rfl) (by kernel_rfl) (by kernel_rfl) (fun _ _ _ h => h) (Or.inl ⟨by rfl, ?_⟩) hH ?_
  rotate_left
  · (intro w hSw; have y1 : w.cell? ⟨x, 1, none⟩ = some (rptr p) := (hSw.cells.1 1).trans rfl; have q1 : w.cell? ⟨ox, 1, none⟩ = some (.int .i64 ya) := (hSw.cells.2 1).trans rfl; go_simp; try with_reducible rfl)
  try simp only [Act.put, List.setIfInBounds_toArray, List.set_cons_zero, List.set_cons_succ]
  refine wpAnyH_done (by kernel_rfl) ?_ _
  refine NoPanic.normal ?_
  have i2' := i2.below b3
  have i3 := m3.isB
  have bt3 : Below W.drew.heap.size W.drew w3 := bt2.trans (b3.mono bt2.size)
  have HG3 : Hid _ := Lib.hid (show v2 = .slice none 0 0 ∨ ∃ g cur, v2 = .slice (some ⟨g, 0, none⟩) 128 128 ∧ W.drew.heap.size ≤ g ∧ w3.heap[g]? = some (.cells cur 63 (0, 0)) ∧ cur.size = 128 by
    rcases HG.out with h | ⟨g, cur, h1, h2, h3, h4⟩
    · exact .inl h
    · exact .inr ⟨g, cur, h1, h2, (b3.block g (lt_of_heap h3)).trans h3, h4⟩)
  have s1 := run_str (P := Try.prog) i2' 30 9 5 Try.underlying30 Try.underlying5 Try.underlying9
  have s2 := run_str (P := Try.prog) i3 30 9 5 Try.underlying30 Try.underlying5 Try.underlying9
  clear i2 i2' i3 m3 b3 h2 b2 HG bt2 hh2 hH hH3
  have BT := Lib.hid bt3
  clear bt3
  go_wp2_with fail
  rcases HG3.out with rfl | ⟨g, cur, rfl, hg1, hg2, hg3⟩
  · refine wp_loop_rounds 1 ?_
    rw [rounds_succ]
    go_wp2_with fail
    go_ret
    exact ⟨F, p, D, rfl, H1.out.below BT.out, lo, B1.out.trans (BT.out.mono (by have := HX.out; have := HS.out; omega))⟩
  · have HI2 := Lib.hid i2
    clear s1 s2 i2
    have Hg1 := Lib.hid hg1
    clear hg1
    go_loopw [13, 98, 99, 100, 101, 102, 103, 104, 105, 106] (fun i _ _ _ _ _ _ _ _ _ wr => ∃ (k : Nat) (cur : Array Value), k ≤ 128 ∧ cur.size = 128 ∧ i = .int .i64 (k : Int) ∧ wr.heap[g]? = some (.cells cur 63 (0, 0)) ∧ Below W.drew.heap.size W.drew wr) (fun i _ _ _ _ _ _ _ _ _ _ => 128 - (intOf i).toNat)
    case atStart => exact ⟨0, cur, Nat.zero_le _, hg3, rfl, hg2, BT.out⟩
    case round =>
      obtain ⟨k, cu, hk, hcu, rfl, hgr, br⟩ := hrel
      clear hg2 hg3
      by_cases hlt : k < 128
      · have hd : decide ((k : Int) < 128) = true := by simp; omega
        have hcell : ∃ z : Value, wr.cell? ⟨g, k, none⟩ = some z := by
          rw [cell_of_row _ _ _ _ _ _ hgr]
          exact ⟨_, Array.getElem?_eq_getElem (by omega)⟩
        obtain ⟨zz, hcell⟩ := hcell
        have hfro := frozen_p hgr k
        have hS := head_setCell (i := k) hgr (.int .u8 78)
        have bS := br.setCell (p := ⟨g, k, none⟩) Hg1.out (.int .u8 78)
        have HS1 := Lib.hid hS
        have BS := Lib.hid bS
        have Hcu := Lib.hid hcu
        have i0 : (0 : Int) ≤ (k : Int) := by omega
        have i1 : (k : Int) < 128 := by omega
        clear hS bS hgr br hcu
        go_wp2_with fail
        go_roundw
        case rel => exact ⟨k + 1, _, by omega, by simpa using Hcu.out, by go_num, HS1.out, BS.out⟩
        case measure => simp [intOf]; omega
      · have hd : decide ((k : Int) < 128) = false := by simp; omega
        have BR := Lib.hid br
        clear br hgr
        go_wp2_with fail
        go_ret
        exact ⟨F, p, D, rfl, H1.out.below BR.out, lo, B1.out.trans (BR.out.mono (by have := HX.out; have := HS.out; omega))⟩
end Go.Proofs.Ytncoclbmnhbgbaa
