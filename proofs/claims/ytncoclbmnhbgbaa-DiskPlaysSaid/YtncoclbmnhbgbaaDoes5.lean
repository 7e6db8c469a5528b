/- does: one operation on both disks (Crash). -/
import Derived.Test.YtncoclbmnhbgbaaBoth
import Derived.Test.YtncoclbmnhbgbaaIntsApp
set_option linter.unusedVariables false
set_option linter.unusedSimpArgs false
namespace Go.Proofs.Ytncoclbmnhbgbaa
open Go.RowKit

set_option maxRecDepth 100000 in
set_option maxHeartbeats 8000000 in
theorem does_5 (B : Nat) (w : World) (x : Nat) (F : Ft) (p : Nat) (D : Dk) (h : BothAt B w x F p D) (lo : Low B x F) (yk ya yn : Int) (ab sa : Option Addr) (cb sc : Nat) (bl : List UInt8) (st : List Int)
    (k1 : -9223372036854775808 ≤ yk) (k2 : yk ≤ 9223372036854775807) (a1 : -9223372036854775808 ≤ ya) (a2 : ya ≤ 9223372036854775807) (n1 : -9223372036854775808 ≤ yn) (n2 : yn ≤ 9223372036854775807)
    (hib : ∀ w', Below B w w' → IsB w' (.slice ab bl.length cb) bl) (hii : ∀ w', Below B w w' → IsI w' (.slice sa st.length sc) st) (hbl : bl.length ≤ 140737488351232) (hst : st.length ≤ 17592186043904) (hq : pickN yk 6 = 5) :
    Calls Try.prog 24 #[.pointer (some ⟨x, 0, none⟩), .agg #[.int .i64 yk, .int .i64 ya, .int .i64 yn, .slice ab bl.length cb, .slice sa st.length sc]] w (DoesPost B w x) := by
  have hB := h.size lo
  have hbo : Below w.heap.size w (w.alloc (.cells #[.int .i64 yk, .int .i64 ya, .int .i64 yn, .slice ab bl.length cb, .slice sa st.length sc] 35)) := (Below.refl _ _).alloc (Nat.le_refl _) _
  have h0 := h.below hbo
  have hob := heap_alloc_new w (.cells #[.int .i64 yk, .int .i64 ya, .int .i64 yn, .slice ab bl.length cb, .slice sa st.length sc] 35)
  have hx0 : w.heap.size < (w.alloc (.cells #[.int .i64 yk, .int .i64 ya, .int .i64 yn, .slice ab bl.length cb, .slice sa st.length sc] 35)).heap.size := by simp
  have bo := hbo.mono hB
  have HIB := Lib.hid hib
  have HII := Lib.hid hii
  clear hib hii hbo
  go_enter Try.func24, Try.ntmps24
  go_wp2_with fail
  generalize w.alloc (.cells #[.int .i64 yk, .int .i64 ya, .int .i64 yn, .slice ab bl.length cb, .slice sa st.length sc] 35) = W at *
  have hls := lt_of_heap h.head
  generalize hox : w.heap.size = ox at *
  have o0 : W.cell? ⟨ox, 0, none⟩ = some (.int .i64 yk) := by rw [cell_of_row _ _ _ _ _ _ hob]; rfl
  have o1 : W.cell? ⟨ox, 1, none⟩ = some (.int .i64 ya) := by rw [cell_of_row _ _ _ _ _ _ hob]; rfl
  have o2 : W.cell? ⟨ox, 2, none⟩ = some (.int .i64 yn) := by rw [cell_of_row _ _ _ _ _ _ hob]; rfl
  have o3 : W.cell? ⟨ox, 3, none⟩ = some (.slice ab bl.length cb) := by rw [cell_of_row _ _ _ _ _ _ hob]; rfl
  have o4 : W.cell? ⟨ox, 4, none⟩ = some (.slice sa st.length sc) := by rw [cell_of_row _ _ _ _ _ _ hob]; rfl
  clear h
  have HX := Lib.hid hox
  clear hox
  refine (pick_any W yk 6 k1 k2 (by omega) (by omega)).mono ?_
  rintro e w' ⟨rfl, rfl⟩
  rw [hq]
  clear hq
  have i0 := HII.out W bo
  have m0 : MineI W.heap.size (W.alloc (.cells #[] 3)) (.slice (some ⟨W.heap.size, 0, none⟩) 0 0) [] := MineI.lit [] (Nat.le_refl _) (by simp [maxLen])
  obtain ⟨vs, w1, hr1, ms, bs1, _⟩ := run_ints (W.alloc (.cells #[] 3)) W.heap.size (.slice (some ⟨W.heap.size, 0, none⟩) 0 0) [] m0 _ st (i0.below ((Below.refl _ _).alloc (Nat.le_refl _) _)) (by simp; omega) (by simp)
  rw [List.nil_append] at ms
  have bb : Below W.heap.size W w1 := ((Below.refl _ _).alloc (Nat.le_refl _) _).trans bs1
  have h1 := h0.below bb
  have b1 := bo.trans (bb.mono (by omega))
  have ob1 := (bb.block ox hx0).trans hob
  have x10 : w1.cell? ⟨x, 0, none⟩ = some F.ptr := by rw [cell_of_row _ _ _ _ _ _ h1.head]; rfl
  have hs1 : ox < w1.heap.size := Nat.lt_of_lt_of_le hx0 bb.size
  obtain ⟨avs, cvs, rfl, _, _, _, hcl⟩ := id ms.isI
  have HMS := Lib.hid ms
  clear i0 m0 bs1 bb h0 bo hob o0 o1 o2 o3 hcl ms
  go_wp2_with (at_builtin; refine wpList_append_run rfl (.tmp 165) (.tmp 167) 23 23 rfl _ _ _ rfl rfl hr1 ?_; clear hr1 o4 hx0)
  refine (crash_any w1 F D h1.d _ st HMS.out.isI).mono ?_
  rintro e w2 ⟨F2, rfl, d2, n2, b2⟩
  have h2 := h1.below b2
  have bb2 := b1.trans (b2.mono (by have := HX.out; omega))
  have ob2 := (b2.block ox hs1).trans ob1
  have c20 : w2.cell? ⟨x, 0, none⟩ = some F.ptr := by rw [cell_of_row _ _ _ _ _ _ h2.head]; rfl
  have f20 := frozen_p h2.head 0
  have hxl := lt_of_heap h1.head
  have hx2 : ∀ k, F2.has k → k ≠ x := fun k hk => by have := n2 k hk; omega
  have d2s := d2.setNew hx2 0 F2.ptr
  have x2 : (w2.setCell ⟨x, 0, none⟩ F2.ptr).drew.heap[x]? = some (.cells #[F2.ptr, rptr p] 54 (0, 0)) := head_setCell (i := 0) h2.head F2.ptr
  have bb2s := (bb2.setCell (p := ⟨x, 0, none⟩) lo.x F2.ptr).drew
  have hh : Held1 ox #[.int .i64 yk, .int .i64 ya, .int .i64 yn, .slice ab bl.length cb, .slice sa st.length sc] (w2.setCell ⟨x, 0, none⟩ F2.ptr).drew := (Below.heap_setCell _ _ _ _ (show ox ≠ x by omega)).trans ob2
  have r2 : RefAt B (w2.setCell ⟨x, 0, none⟩ F2.ptr).drew p D := h2.r.keep (fun k c e fr hk hc he => Below.heap_setCell _ _ _ _ (fun (e' : k = x) => by subst e'; rw [h2.head] at hc; injection hc with hc; injection hc with _ hc; subst hc; revert he; decide))
  have lo2 : Low B x F2 := ⟨fun k hk => Nat.le_trans (Nat.le_trans (by have := HX.out; omega) hs1) (n2 k hk), lo.x⟩
  have H0 := Lib.hid h1
  have D2 := Lib.hid d2s.drew
  have BB := Lib.hid bb2s
  clear ob1 x10 h1 b1 h2 bb2 ob2 d2 b2 d2s bb2s
  go_wp2_with fail
  have y1 : (w2.setCell ⟨x, 0, none⟩ F2.ptr).drew.cell? ⟨x, 1, none⟩ = some (rptr p) := by rw [cell_of_row _ _ _ _ _ _ x2]; rfl
  have b2 := BB.out
  have e2s : (w2.setCell ⟨x, 0, none⟩ F2.ptr).drew = (w2.setCell ⟨x, 0, none⟩ F2.ptr).drew := rfl
  clear c20 f20
  generalize w2.setCell ⟨x, 0, none⟩ F2.ptr = w2s at *
  refine wp_region_noPanic ?_
  refine wp_region_held_drew (S := (Held1 ox #[.int .i64 yk, .int .i64 ya, .int .i64 yn, .slice ab bl.length cb, .slice sa st.length sc])) (by kernel_rfl) hh (fun hH => ?_)
  refine wpAnyH_take (i := 0) (oi := { dst := some 178, op := Op.move (Operand.tmp 0), type := 52, pos := "disk.go:109", after := #[], guard := none }) (v := ?_) rfl (by kernel_rfl) (by kernel_rfl) (by kernel_rfl) (fun _ _ _ h => h) (Or.inl ⟨by rfl, ?_⟩) hH ?_
  rotate_left
  · (intro w hSw; have q4 : w.cell? ⟨ox, 4, none⟩ = some (.slice sa st.length sc) := (Held1.cells hSw 4).trans rfl; go_simp; try with_reducible rfl)
  try simp only [Act.put, List.setIfInBounds_toArray, List.set_cons_zero, List.set_cons_succ]
  refine wpAnyH_take (i := 1) (oi := { dst := some 179, op := Op.move (Operand.tmp 0), type := 52, pos := "disk.go:109", after := #[], guard := none }) (v := ?_) rfl (by kernel_rfl) (by kernel_rfl) (by kernel_rfl) (fun _ _ _ h => h) (Or.inl ⟨by rfl, ?_⟩) hH ?_
  rotate_left
  · (intro w hSw; have q4 : w.cell? ⟨ox, 4, none⟩ = some (.slice sa st.length sc) := (Held1.cells hSw 4).trans rfl; go_simp; try with_reducible rfl)
  try simp only [Act.put, List.setIfInBounds_toArray, List.set_cons_zero, List.set_cons_succ]
  refine wpAnyH_take (i := 2) (oi := { dst := some 180, op := Op.nilCheck (Operand.tmp 179), type := 0, pos := "disk.go:109", after := #[{ on := 1, ground := Ground.data }], guard := none }) (v := ?_) rfl (by kernel_rfl) (by kernel_rfl) (by kernel_rfl) (fun _ _ _ h => h) (Or.inl ⟨by rfl, ?_⟩) hH ?_
  rotate_left
  · (intro w hSw; have q4 : w.cell? ⟨ox, 4, none⟩ = some (.slice sa st.length sc) := (Held1.cells hSw 4).trans rfl; go_simp; try with_reducible rfl)
  try simp only [Act.put, List.setIfInBounds_toArray, List.set_cons_zero, List.set_cons_succ]
  refine wpAnyH_take (i := 3) (oi := { dst := some 181, op := Op.fieldAddr 54 (Operand.tmp 180) 1, type := 0, pos := "disk.go:109", after := #[{ on := 2, ground := Ground.data }], guard := none }) (v := ?_) rfl (by kernel_rfl) (by kernel_rfl) (by kernel_rfl) (fun _ _ _ h => h) (Or.inl ⟨by rfl, ?_⟩) hH ?_
  rotate_left
  · (intro w hSw; have q4 : w.cell? ⟨ox, 4, none⟩ = some (.slice sa st.length sc) := (Held1.cells hSw 4).trans rfl; go_simp; try with_reducible rfl)
  try simp only [Act.put, List.setIfInBounds_toArray, List.set_cons_zero, List.set_cons_succ]
  refine wpAnyH_take (i := 5) (oi := { dst := some 183, op := Op.fieldAddr 35 (Operand.tmp 3) 4, type := 0, pos := "disk.go:109", after := #[], guard := none }) (v := ?_) rfl (by kernel_rfl) (by kernel_rfl) (by kernel_rfl) (fun _ _ _ h => h) (Or.inl ⟨by rfl, ?_⟩) hH ?_
  rotate_left
  · (intro w hSw; have q4 : w.cell? ⟨ox, 4, none⟩ = some (.slice sa st.length sc) := (Held1.cells hSw 4).trans rfl; go_simp; try with_reducible rfl)
  try simp only [Act.put, List.setIfInBounds_toArray, List.set_cons_zero, List.set_cons_succ]
  refine wpAnyH_take (i := 6) (oi := { dst := some 184, op := Op.load 23 (Operand.tmp 183), type := 23, pos := "disk.go:109", after := #[{ on := 5, ground := Ground.data }], guard := none }) (v := ?_) rfl (by kernel_rfl) (by kernel_rfl) (by kernel_rfl) (fun _ _ _ h => h) (Or.inl ⟨by rfl, ?_⟩) hH ?_
  rotate_left
  · (intro w hSw; have q4 : w.cell? ⟨ox, 4, none⟩ = some (.slice sa st.length sc) := (Held1.cells hSw 4).trans rfl; go_simp; try with_reducible rfl)
  try simp only [Act.put, List.setIfInBounds_toArray, List.set_cons_zero, List.set_cons_succ]
  refine wpAnyH_ready (rs := [4]) (by kernel_rfl) (by simp) ?_
  refine AllReadyH.cons (o := { dst := some 182, op := Op.load 49 (Operand.tmp 181), type := 49, pos := "disk.go:109", after := #[{ on := 3, ground := Ground.data }], guard := none }) rfl (fun K hK => ?_) AllReadyH.nil
  go_simp
  refine hK.out _ _ hH (fun _ => ?_)
  clear hK K
  try simp only [Act.put, List.setIfInBounds_toArray, List.set_cons_zero, List.set_cons_succ]
  refine wpAnyH_ready (rs := [7]) (by kernel_rfl) (by simp) ?_
  refine AllReadyH.cons (o := { dst := some 185, op := Op.call { callee := Callee.value (Operand.func 36), args := #[Operand.tmp 182, Operand.tmp 184], argTypes := #[49, 23] }, type := 49, pos := "disk.go:109", after := #[{ on := 4, ground := Ground.data }, { on := 6, ground := Ground.data }], guard := none }) rfl (fun K hK => ?_) AllReadyH.nil
  go_simp
  refine (refCrash_any B w2s.drew p D r2 H0.out.d.ok _ st (HII.out _ b2)).mono ?_
  rintro e w3 ⟨q, rfl, r3, b3⟩
  have hH3 : Held1 ox #[.int .i64 yk, .int .i64 ya, .int .i64 yn, .slice ab bl.length cb, .slice sa st.length sc] w3 := (b3.block ox (lt_of_heap hH)).trans hH
  have x3 := (b3.block x (lt_of_heap x2)).trans x2
  have c31 : w3.cell? ⟨x, 1, none⟩ = some (rptr p) := by rw [cell_of_row _ _ _ _ _ _ x3]; rfl
  have f31 := frozen_p x3 1
  go_wp2_with fail
  refine hK.out _ _ hH3 (fun hH => ?_)
  clear hK K
  try simp only [Act.put, List.setIfInBounds_toArray, List.set_cons_zero, List.set_cons_succ]
  refine wpAnyH_take (i := 8) (oi := { dst := some 186, op := Op.nilCheck (Operand.tmp 178), type := 0, pos := "disk.go:109", after := #[{ on := 0, ground := Ground.data }, { on := 0, ground := Ground.phase }, { on := 1, ground := Ground.phase }, { on := 2, ground := Ground.phase }, { on := 3, ground := Ground.phase }, { on := 4, ground := Ground.phase }, { on := 5, ground := Ground.phase }, { on := 6, ground := Ground.phase }, { on := 7, ground := Ground.phase }], guard := none }) (v := ?_) rfl (by kernel_rfl) (by kernel_rfl) (by kernel_rfl) (fun _ _ _ h => h) (Or.inl ⟨by rfl, ?_⟩) hH ?_
  rotate_left
  · (intro w hSw; have q4 : w.cell? ⟨ox, 4, none⟩ = some (.slice sa st.length sc) := (Held1.cells hSw 4).trans rfl; go_simp; try with_reducible rfl)
  try simp only [Act.put, List.setIfInBounds_toArray, List.set_cons_zero, List.set_cons_succ]
  refine wpAnyH_take (i := 9) (oi := { dst := some 187, op := Op.fieldAddr 54 (Operand.tmp 186) 1, type := 0, pos := "disk.go:109", after := #[{ on := 8, ground := Ground.data }, { on := 0, ground := Ground.phase }, { on := 1, ground := Ground.phase }, { on := 2, ground := Ground.phase }, { on := 3, ground := Ground.phase }, { on := 4, ground := Ground.phase }, { on := 5, ground := Ground.phase }, { on := 6, ground := Ground.phase }, { on := 7, ground := Ground.phase }], guard := none }) (v := ?_) rfl (by kernel_rfl) (by kernel_rfl) (by kernel_rfl) (fun _ _ _ h => h) (Or.inl ⟨by rfl, ?_⟩) hH ?_
  rotate_left
  · (intro w hSw; have q4 : w.cell? ⟨ox, 4, none⟩ = some (.slice sa st.length sc) := (Held1.cells hSw 4).trans rfl; go_simp; try with_reducible rfl)
  try simp only [Act.put, List.setIfInBounds_toArray, List.set_cons_zero, List.set_cons_succ]
  refine wpAnyH_ready (rs := [10]) (by kernel_rfl) (by simp) ?_
  refine AllReadyH.cons (o := { dst := none, op := Op.store 49 (Operand.tmp 187) (Operand.tmp 185), type := 0, pos := "disk.go:109", after := #[{ on := 9, ground := Ground.data }, { on := 7, ground := Ground.data }, { on := 7, ground := Ground.chain }, { on := 0, ground := Ground.phase }, { on := 1, ground := Ground.phase }, { on := 2, ground := Ground.phase }, { on := 3, ground := Ground.phase }, { on := 4, ground := Ground.phase }, { on := 5, ground := Ground.phase }, { on := 6, ground := Ground.phase }, { on := 7, ground := Ground.phase }], guard := none }) rfl (fun K hK => ?_) AllReadyH.nil
  go_simp
  have hH4 : Held1 ox #[.int .i64 yk, .int .i64 ya, .int .i64 yn, .slice ab bl.length cb, .slice sa st.length sc] (w3.setCell ⟨x, 1, none⟩ (rptr q)) := (Below.heap_setCell _ _ _ _ (show ox ≠ x by omega)).trans hH3
  refine hK.out _ _ hH4 (fun hH => ?_)
  clear hK K
  try simp only [Act.put, List.setIfInBounds_toArray, List.set_cons_zero, List.set_cons_succ]
  refine wpAnyH_done (by kernel_rfl) ?_ _
  refine NoPanic.normal ?_
  have x4 := head_setCell (i := 1) x3 (rptr q)
  have c40 : (w3.setCell ⟨x, 1, none⟩ (rptr q)).cell? ⟨x, 0, none⟩ = some F2.ptr := by rw [cell_of_row _ _ _ _ _ _ x4]; rfl
  have d4 := (D2.out.below b3).setNew hx2 1 (rptr q)
  have r4 : RefAt B (w3.setCell ⟨x, 1, none⟩ (rptr q)) q (D.crash st) := (r3.down (by have := lo.x; have := lt_of_heap x2; omega)).keep (fun k c e fr hk hc he => Below.heap_setCell _ _ _ _ (fun (e' : k = x) => by subst e'; rw [x3] at hc; injection hc with hc; injection hc with _ hc; subst hc; revert he; decide))
  have b4 := (BB.out.trans (b3.mono (by have := lo.x; have := lt_of_heap x2; omega))).setCell (p := ⟨x, 1, none⟩) lo.x (rptr q)
  clear c31 f31 hH hH3 y1
  go_wp2_with fail
  go_ret
  exact ⟨F2, q, _, rfl, ⟨x4, d4, r4, rfl⟩, lo2, b4⟩
end Go.Proofs.Ytncoclbmnhbgbaa
