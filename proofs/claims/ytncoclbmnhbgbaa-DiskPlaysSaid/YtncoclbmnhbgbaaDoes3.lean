/- does: one operation on both disks (CutAt). -/
import Derived.Test.YtncoclbmnhbgbaaBoth
import Derived.Deep.QuietTactic
import Derived.BigQuiet
set_option linter.unusedVariables false
set_option linter.unusedSimpArgs false
namespace Go.Proofs.Ytncoclbmnhbgbaa
open Go.RowKit

set_option maxRecDepth 100000 in
set_option maxHeartbeats 8000000 in
theorem does_3 (B : Nat) (w : World) (x : Nat) (F : Ft) (p : Nat) (D : Dk) (h : BothAt B w x F p D) (lo : Low B x F) (yk ya yn : Int) (ab sa : Option Addr) (cb sc : Nat) (bl : List UInt8) (st : List Int)
    (k1 : -9223372036854775808 ≤ yk) (k2 : yk ≤ 9223372036854775807) (a1 : -9223372036854775808 ≤ ya) (a2 : ya ≤ 9223372036854775807) (n1 : -9223372036854775808 ≤ yn) (n2 : yn ≤ 9223372036854775807)
    (hib : ∀ w', Below B w w' → IsB w' (.slice ab bl.length cb) bl) (hii : ∀ w', Below B w w' → IsI w' (.slice sa st.length sc) st) (hbl : bl.length ≤ 140737488351232) (hst : st.length ≤ 17592186043904) (hq : pickN yk 6 = 3) :
    Calls Try.prog 24 #[.pointer (some ⟨x, 0, none⟩), .agg #[.int .i64 yk, .int .i64 ya, .int .i64 yn, .slice ab bl.length cb, .slice sa st.length sc]] w (DoesPost B w x) := by
  have hB := h.size lo
  have hbo : Below w.heap.size w (w.alloc (.cells #[.int .i64 yk, .int .i64 ya, .int .i64 yn, .slice ab bl.length cb, .slice sa st.length sc] 35)) := (Below.refl _ _).alloc (Nat.le_refl _) _
  have h0 := h.below hbo
  have hob := heap_alloc_new w (.cells #[.int .i64 yk, .int .i64 ya, .int .i64 yn, .slice ab bl.length cb, .slice sa st.length sc] 35)
  have hx0 : w.heap.size < (w.alloc (.cells #[.int .i64 yk, .int .i64 ya, .int .i64 yn, .slice ab bl.length cb, .slice sa st.length sc] 35)).heap.size := by simp
  have bo := hbo.mono hB
  have HIB := Lib.hid hib
  have HII := Lib.hid hii
  clear hib hii hbo
  go_enter Try.func24, Try.ntmps24
  go_wp2_with fail
  generalize w.alloc (.cells #[.int .i64 yk, .int .i64 ya, .int .i64 yn, .slice ab bl.length cb, .slice sa st.length sc] 35) = W at *
  have hls := lt_of_heap h.head
  generalize hox : w.heap.size = ox at *
  have o0 : W.cell? ⟨ox, 0, none⟩ = some (.int .i64 yk) := by rw [cell_of_row _ _ _ _ _ _ hob]; rfl
  have o1 : W.cell? ⟨ox, 1, none⟩ = some (.int .i64 ya) := by rw [cell_of_row _ _ _ _ _ _ hob]; rfl
  have o2 : W.cell? ⟨ox, 2, none⟩ = some (.int .i64 yn) := by rw [cell_of_row _ _ _ _ _ _ hob]; rfl
  have o3 : W.cell? ⟨ox, 3, none⟩ = some (.slice ab bl.length cb) := by rw [cell_of_row _ _ _ _ _ _ hob]; rfl
  have o4 : W.cell? ⟨ox, 4, none⟩ = some (.slice sa st.length sc) := by rw [cell_of_row _ _ _ _ _ _ hob]; rfl
  clear h
  have HX := Lib.hid hox
  clear hox
  refine (pick_any W yk 6 k1 k2 (by omega) (by omega)).mono ?_
  rintro e w' ⟨rfl, rfl⟩
  rw [hq]
  clear hq
  have HW := Lib.hid hx0
  have x0 : W.cell? ⟨x, 0, none⟩ = some F.ptr := by rw [cell_of_row _ _ _ _ _ _ h0.head]; rfl
  have x1 : W.cell? ⟨x, 1, none⟩ = some (rptr p) := by rw [cell_of_row _ _ _ _ _ _ h0.head]; rfl
  obtain ⟨aS, cS, aL, cL, hp, hS, hL⟩ := h0.r.cells
  have p2 : W.cell? ⟨p, 2, none⟩ = some (.int .i64 (D.ops : Int)) := by rw [cell_of_row _ _ _ _ _ _ hp]; rfl
  have hpk := pickN_lt yn (show 0 < 20 by omega)
  have hops := h0.d.ok.ops
  clear hp hS hL hob o0 o1 o3 o4 hx0
  by_cases hn : 0 ≤ yn
  · have hd : decide (0 ≤ yn) = true := by simpa using hn
    have hX : BothAt B W.drew x F p D := h0.below (Below.refl _ _).drew
    have bX : Below B w W.drew := bo.drew
    clear h0 bo
    go_wp2_with fail
    refine wp_region_noPanic ?_
    refine wp_region_held_drew (S := (AtW W.drew)) (by kernel_rfl) (show AtW W.drew W.drew from rfl) (fun hH => ?_)
    refine wpAnyH_take (i := 0) (oi := { dst := some 113, op := Op.move (Operand.tmp 0), type := 52, pos := "disk.go:100", after := #[], guard := none }) (v := ?_) rfl (by kernel_rfl) (by kernel_rfl) (by kernel_rfl) (fun _ _ _ h => h) (Or.inl ⟨by rfl, ?_⟩) hH ?_
    rotate_left
    · (intro w hSw; have hSe := hSw; unfold AtW at hSe; subst hSe; go_simp; try with_reducible rfl)
    try simp only [Act.put, List.setIfInBounds_toArray, List.set_cons_zero, List.set_cons_succ]
    refine wpAnyH_take (i := 1) (oi := { dst := some 114, op := Op.nilCheck (Operand.tmp 113), type := 0, pos := "disk.go:100", after := #[{ on := 0, ground := Ground.data }], guard := none }) (v := ?_) rfl (by kernel_rfl) (by kernel_rfl) (by kernel_rfl) (fun _ _ _ h => h) (Or.inl ⟨by rfl, ?_⟩) hH ?_
    rotate_left
    · (intro w hSw; have hSe := hSw; unfold AtW at hSe; subst hSe; go_simp; try with_reducible rfl)
    try simp only [Act.put, List.setIfInBounds_toArray, List.set_cons_zero, List.set_cons_succ]
    refine wpAnyH_take (i := 2) (oi := { dst := some 115, op := Op.fieldAddr 54 (Operand.tmp 114) 1, type := 0, pos := "disk.go:100", after := #[{ on := 1, ground := Ground.data }], guard := none }) (v := ?_) rfl (by kernel_rfl) (by kernel_rfl) (by kernel_rfl) (fun _ _ _ h => h) (Or.inl ⟨by rfl, ?_⟩) hH ?_
    rotate_left
    · (intro w hSw; have hSe := hSw; unfold AtW at hSe; subst hSe; go_simp; try with_reducible rfl)
    try simp only [Act.put, List.setIfInBounds_toArray, List.set_cons_zero, List.set_cons_succ]
    refine wpAnyH_take (i := 3) (oi := { dst := some 116, op := Op.load 49 (Operand.tmp 115), type := 49, pos := "disk.go:100", after := #[{ on := 2, ground := Ground.data }], guard := none }) (v := ?_) rfl (by kernel_rfl) (by kernel_rfl) (by kernel_rfl) (fun _ _ _ h => h) (Or.inl ⟨by rfl, ?_⟩) hH ?_
    rotate_left
    · (intro w hSw; have hSe := hSw; unfold AtW at hSe; subst hSe; go_simp; try with_reducible rfl)
    try simp only [Act.put, List.setIfInBounds_toArray, List.set_cons_zero, List.set_cons_succ]
    refine wpAnyH_take (i := 4) (oi := { dst := some 117, op := Op.nilCheck (Operand.tmp 116), type := 0, pos := "disk.go:100", after := #[{ on := 3, ground := Ground.data }], guard := none }) (v := ?_) rfl (by kernel_rfl) (by kernel_rfl) (by kernel_rfl) (fun _ _ _ h => h) (Or.inl ⟨by rfl, ?_⟩) hH ?_
    rotate_left
    · (intro w hSw; have hSe := hSw; unfold AtW at hSe; subst hSe; go_simp; try with_reducible rfl)
    try simp only [Act.put, List.setIfInBounds_toArray, List.set_cons_zero, List.set_cons_succ]
    refine wpAnyH_take (i := 5) (oi := { dst := some 118, op := Op.fieldAddr 71 (Operand.tmp 117) 2, type := 0, pos := "disk.go:100", after := #[{ on := 4, ground := Ground.data }], guard := none }) (v := ?_) rfl (by kernel_rfl) (by kernel_rfl) (by kernel_rfl) (fun _ _ _ h => h) (Or.inl ⟨by rfl, ?_⟩) hH ?_
    rotate_left
    · (intro w hSw; have hSe := hSw; unfold AtW at hSe; subst hSe; go_simp; try with_reducible rfl)
    try simp only [Act.put, List.setIfInBounds_toArray, List.set_cons_zero, List.set_cons_succ]
    refine wpAnyH_take (i := 6) (oi := { dst := some 119, op := Op.load 3 (Operand.tmp 118), type := 3, pos := "disk.go:100", after := #[{ on := 5, ground := Ground.data }], guard := none }) (v := ?_) rfl (by kernel_rfl) (by kernel_rfl) (by kernel_rfl) (fun _ _ _ h => h) (Or.inl ⟨by rfl, ?_⟩) hH ?_
    rotate_left
    · (intro w hSw; have hSe := hSw; unfold AtW at hSe; subst hSe; go_simp; try with_reducible rfl)
    try simp only [Act.put, List.setIfInBounds_toArray, List.set_cons_zero, List.set_cons_succ]
    refine wpAnyH_take (i := 7) (oi := { dst := some 120, op := Op.fieldAddr 35 (Operand.tmp 3) 2, type := 0, pos := "disk.go:100", after := #[], guard := none }) (v := ?_) rfl (by kernel_rfl) (by kernel_rfl) (by kernel_rfl) (fun _ _ _ h => h) (Or.inl ⟨by rfl, ?_⟩) hH ?_
    rotate_left
    · (intro w hSw; have hSe := hSw; unfold AtW at hSe; subst hSe; go_simp; try with_reducible rfl)
    try simp only [Act.put, List.setIfInBounds_toArray, List.set_cons_zero, List.set_cons_succ]
    refine wpAnyH_take (i := 8) (oi := { dst := some 121, op := Op.load 3 (Operand.tmp 120), type := 3, pos := "disk.go:100", after := #[{ on := 7, ground := Ground.data }], guard := none }) (v := ?_) rfl (by kernel_rfl) (by kernel_rfl) (by kernel_rfl) (fun _ _ _ h => h) (Or.inl ⟨by rfl, ?_⟩) hH ?_
    rotate_left
    · (intro w hSw; have hSe := hSw; unfold AtW at hSe; subst hSe; go_simp; try with_reducible rfl)
    try simp only [Act.put, List.setIfInBounds_toArray, List.set_cons_zero, List.set_cons_succ]
    refine wpAnyH_ready (rs := [9]) (by kernel_rfl) (by simp) ?_
    refine AllReadyH.cons (o := { dst := some 122, op := Op.call { callee := Callee.value (Operand.func 15), args := #[Operand.tmp 121, Operand.const (Value.int IntKind.i64 20)], argTypes := #[3, 3] }, type := 3, pos := "disk.go:100", after := #[{ on := 8, ground := Ground.data }], guard := none }) rfl (fun K hK => ?_) AllReadyH.nil
    go_simp
    refine (pick_any W.drew yn 20 n1 n2 (by omega) (by omega)).mono ?_
    rintro e w' ⟨rfl, rfl⟩
    go_wp2_with fail
    refine hK.out _ _ hH (fun _ => ?_)
    clear hK K
    try simp only [Act.put, List.setIfInBounds_toArray, List.set_cons_zero, List.set_cons_succ]
    refine wpAnyH_take (i := 10) (oi := { dst := some 123, op := Op.binOp BinOp.add 3 (Operand.tmp 119) (Operand.tmp 122) 3, type := 3, pos := "disk.go:100", after := #[{ on := 6, ground := Ground.data }, { on := 9, ground := Ground.data }], guard := none }) (v := ?_) rfl (by kernel_rfl) (by kernel_rfl) (by kernel_rfl) (fun _ _ _ h => h) (Or.inl ⟨by rfl, ?_⟩) hH ?_
    rotate_left
    · (intro w hSw; have hSe := hSw; unfold AtW at hSe; subst hSe; go_simp; try with_reducible rfl)
    try simp only [Act.put, List.setIfInBounds_toArray, List.set_cons_zero, List.set_cons_succ]
    refine wpAnyH_take (i := 11) (oi := { dst := some 14, op := Op.assign (Operand.tmp 123), type := 3, pos := "disk.go:100", after := #[{ on := 10, ground := Ground.data }, { on := 9, ground := Ground.chain }, { on := 0, ground := Ground.phase }, { on := 1, ground := Ground.phase }, { on := 2, ground := Ground.phase }, { on := 3, ground := Ground.phase }, { on := 4, ground := Ground.phase }, { on := 5, ground := Ground.phase }, { on := 6, ground := Ground.phase }, { on := 7, ground := Ground.phase }, { on := 8, ground := Ground.phase }, { on := 9, ground := Ground.phase }, { on := 10, ground := Ground.phase }], guard := none }) (v := ?_) rfl (by kernel_rfl) (by kernel_rfl) (by kernel_rfl) (fun _ _ _ h => h) (Or.inl ⟨by rfl, ?_⟩) hH ?_
    rotate_left
    · (intro w hSw; have hSe := hSw; unfold AtW at hSe; subst hSe; go_simp; try with_reducible rfl)
    try simp only [Act.put, List.setIfInBounds_toArray, List.set_cons_zero, List.set_cons_succ]
    refine wpAnyH_done (by kernel_rfl) ?_ _
    refine NoPanic.normal ?_
    generalize pickN yn 20 = pn at *
    clear hH
    go_wp2_with fail
    refine (cutAt_any W.drew F D hX.d ((D.ops : Int) + (pn : Int)) (by omega) (by omega)).mono ?_
    rintro e w2 ⟨rfl, d2, t2⟩
    have t2 := t2.has_of_p
    have r2 := hX.r.turned hX.d t2
    have x2 := keepF hX.d t2 hX.head (by decide)
    have b2 := bX.trans (t2.below (B := B) (by have := HX.out; have := HW.out; simp; omega) (fun k hk => lo.F k hk))
    have ly : Dk.Lay { D with cut := ((D.ops : Int) + (pn : Int)), off := false } := hX.now
    have y2 : w2.cell? ⟨x, 1, none⟩ = some (rptr p) := by rw [cell_of_row _ _ _ _ _ _ x2]; rfl
    clear t2 hX bX
    go_wp2_with fail
    refine (refCut_any B w2 p _ r2 ((D.ops : Int) + (pn : Int)) (by omega) (by omega)).mono ?_
    rintro e w3 ⟨rfl, r3, t3⟩
    go_wp2_with fail
    go_ret
    exact ⟨F, p, _, rfl, ⟨keepR t3 x2 (by decide), d2.rt t3, r3, ly⟩, lo, b2.trans (t3.rtBelow r2.size)⟩
  · have hd : decide (0 ≤ yn) = false := by simpa using hn
    go_wp2_with fail
    refine (cutAt_any W F D h0.d (-1) (by omega) (by omega)).mono ?_
    rintro e w2 ⟨rfl, d2, t2⟩
    have t2 := t2.has_of_p
    have r2 := h0.r.turned h0.d t2
    have x2 := keepF h0.d t2 h0.head (by decide)
    have b2 := bo.trans (t2.below (B := B) (by have := HX.out; have := HW.out; simp; omega) (fun k hk => lo.F k hk))
    have ly : Dk.Lay { D with cut := (-1), off := false } := h0.now
    have y2 : w2.cell? ⟨x, 1, none⟩ = some (rptr p) := by rw [cell_of_row _ _ _ _ _ _ x2]; rfl
    clear t2 h0 bo
    go_wp2_with fail
    refine (refCut_any B w2 p _ r2 (-1) (by omega) (by omega)).mono ?_
    rintro e w3 ⟨rfl, r3, t3⟩
    go_wp2_with fail
    go_ret
    exact ⟨F, p, _, rfl, ⟨keepR t3 x2 (by decide), d2.rt t3, r3, ly⟩, lo, b2.trans (t3.rtBelow r2.size)⟩
end Go.Proofs.Ytncoclbmnhbgbaa
