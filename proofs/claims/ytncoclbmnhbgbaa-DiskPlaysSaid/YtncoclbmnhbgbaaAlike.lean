/- alike: both disks read alike. -/
import Derived.Test.YtncoclbmnhbgbaaNone
import Derived.Test.YtncoclbmnhbgbaaRefPoke
import Derived.Test.YtncoclbmnhbgbaaDkRead
set_option linter.unusedVariables false
set_option linter.unusedSimpArgs false
namespace Go.Proofs.Ytncoclbmnhbgbaa
open Go.RowKit

/-- both disks read as D -/
structure BothAt (B : Nat) (w : World) (x : Nat) (F : Ft) (p : Nat) (D : Dk) : Prop where
  head : w.heap[x]? = some (.cells #[F.ptr, rptr p] 54 (0, 0))
  d : DkAt w F D
  r : RefAt B w p D
  now : D.now = layAll D.safe D.hung
theorem BothAt.below {B : Nat} {w w' : World} {x : Nat} {F : Ft} {p : Nat} {D : Dk} (h : BothAt B w x F p D) (hb : Below w.heap.size w w') : BothAt B w' x F p D :=
  ⟨(hb.block x (lt_of_heap h.head)).trans h.head, h.d.below hb, h.r.below hb, h.now⟩

/-- the world as it stands -/
def AtW (W0 W : World) : Prop := W = W0
set_option maxHeartbeats 4000000 in
theorem alike_any (B : Nat) (w : World) (x : Nat) (F : Ft) (p : Nat) (D : Dk) (h : BothAt B w x F p D) :
    Calls Try.prog 25 #[.pointer (some ⟨x, 0, none⟩)] w fun e w' => e = .returned (.bool true) ∧ Below w.heap.size w w' := by
  have hd := h.d.drew
  have h1 := h.below ((Below.refl w.heap.size w).drew)
  obtain ⟨aS, cS, aL, cL, hp, hS, hL⟩ := h1.r.cells
  have x0 : w.drew.cell? ⟨x, 0, none⟩ = some F.ptr := by rw [cell_of_row w.drew _ _ _ _ _ h.head]; rfl
  have x1 : w.drew.cell? ⟨x, 1, none⟩ = some (rptr p) := by rw [cell_of_row w.drew _ _ _ _ _ h.head]; rfl
  have r0 : w.drew.cell? ⟨p, 0, none⟩ = some (.slice aS D.n cS) := by rw [cell_of_row _ _ _ _ _ _ hp]; rfl
  have r1 : w.drew.cell? ⟨p, 1, none⟩ = some (.slice aL D.hung.length cL) := by rw [cell_of_row _ _ _ _ _ _ hp]; rfl
  have r2 : w.drew.cell? ⟨p, 2, none⟩ = some (.int .i64 (D.ops : Int)) := by rw [cell_of_row _ _ _ _ _ _ hp]; rfl
  have r4 : w.drew.cell? ⟨p, 4, none⟩ = some (.bool D.off) := by rw [cell_of_row _ _ _ _ _ _ hp]; rfl
  have hb1 : Below w.heap.size w w.drew := (Below.refl w.heap.size w).drew
  clear hS hL hp
  go_enter Try.func25, Try.ntmps25
  go_wp2_with fail
  refine wp_region_noPanic ?_
  refine wp_region_held_drew (S := (AtW w.drew)) (by kernel_rfl) (show AtW w.drew w.drew from rfl) (fun hH => ?_)
  refine wpAnyH_take (i := 0) (oi := { dst := some 9, op := Op.move (Operand.tmp 0), type := 52, pos := "disk.go:117", after := #[], guard := none }) (v := ?_) rfl (by kernel_rfl) (by kernel_rfl) (by kernel_rfl) (fun _ _ _ h => h) (Or.inl ⟨by rfl, ?_⟩) hH ?_
  rotate_left
  · (intro w hSw; have hSe := hSw; unfold AtW at hSe; subst hSe; go_simp; try with_reducible rfl)
  try simp only [Act.put, List.setIfInBounds_toArray, List.set_cons_zero, List.set_cons_succ]
  refine wpAnyH_take (i := 1) (oi := { dst := some 10, op := Op.nilCheck (Operand.tmp 9), type := 0, pos := "disk.go:117", after := #[{ on := 0, ground := Ground.data }], guard := none }) (v := ?_) rfl (by kernel_rfl) (by kernel_rfl) (by kernel_rfl) (fun _ _ _ h => h) (Or.inl ⟨by rfl, ?_⟩) hH ?_
  rotate_left
  · (intro w hSw; have hSe := hSw; unfold AtW at hSe; subst hSe; go_simp; try with_reducible rfl)
  try simp only [Act.put, List.setIfInBounds_toArray, List.set_cons_zero, List.set_cons_succ]
  refine wpAnyH_take (i := 2) (oi := { dst := some 11, op := Op.fieldAddr 54 (Operand.tmp 10) 0, type := 0, pos := "disk.go:117", after := #[{ on := 1, ground := Ground.data }], guard := none }) (v := ?_) rfl (by kernel_rfl) (by kernel_rfl) (by kernel_rfl) (fun _ _ _ h => h) (Or.inl ⟨by rfl, ?_⟩) hH ?_
  rotate_left
  · (intro w hSw; have hSe := hSw; unfold AtW at hSe; subst hSe; go_simp; try with_reducible rfl)
  try simp only [Act.put, List.setIfInBounds_toArray, List.set_cons_zero, List.set_cons_succ]
  refine wpAnyH_take (i := 3) (oi := { dst := some 12, op := Op.load 25 (Operand.tmp 11), type := 25, pos := "disk.go:117", after := #[{ on := 2, ground := Ground.data }], guard := none }) (v := ?_) rfl (by kernel_rfl) (by kernel_rfl) (by kernel_rfl) (fun _ _ _ h => h) (Or.inl ⟨by rfl, ?_⟩) hH ?_
  rotate_left
  · (intro w hSw; have hSe := hSw; unfold AtW at hSe; subst hSe; go_simp; try with_reducible rfl)
  try simp only [Act.put, List.setIfInBounds_toArray, List.set_cons_zero, List.set_cons_succ]
  refine wpAnyH_take (i := 5) (oi := { dst := some 14, op := Op.move (Operand.tmp 0), type := 52, pos := "disk.go:117", after := #[], guard := none }) (v := ?_) rfl (by kernel_rfl) (by kernel_rfl) (by kernel_rfl) (fun _ _ _ h => h) (Or.inl ⟨by rfl, ?_⟩) hH ?_
  rotate_left
  · (intro w hSw; have hSe := hSw; unfold AtW at hSe; subst hSe; go_simp; try with_reducible rfl)
  try simp only [Act.put, List.setIfInBounds_toArray, List.set_cons_zero, List.set_cons_succ]
  refine wpAnyH_take (i := 6) (oi := { dst := some 15, op := Op.nilCheck (Operand.tmp 14), type := 0, pos := "disk.go:117", after := #[{ on := 5, ground := Ground.data }], guard := none }) (v := ?_) rfl (by kernel_rfl) (by kernel_rfl) (by kernel_rfl) (fun _ _ _ h => h) (Or.inl ⟨by rfl, ?_⟩) hH ?_
  rotate_left
  · (intro w hSw; have hSe := hSw; unfold AtW at hSe; subst hSe; go_simp; try with_reducible rfl)
  try simp only [Act.put, List.setIfInBounds_toArray, List.set_cons_zero, List.set_cons_succ]
  refine wpAnyH_take (i := 7) (oi := { dst := some 16, op := Op.fieldAddr 54 (Operand.tmp 15) 1, type := 0, pos := "disk.go:117", after := #[{ on := 6, ground := Ground.data }], guard := none }) (v := ?_) rfl (by kernel_rfl) (by kernel_rfl) (by kernel_rfl) (fun _ _ _ h => h) (Or.inl ⟨by rfl, ?_⟩) hH ?_
  rotate_left
  · (intro w hSw; have hSe := hSw; unfold AtW at hSe; subst hSe; go_simp; try with_reducible rfl)
  try simp only [Act.put, List.setIfInBounds_toArray, List.set_cons_zero, List.set_cons_succ]
  refine wpAnyH_take (i := 8) (oi := { dst := some 17, op := Op.load 49 (Operand.tmp 16), type := 49, pos := "disk.go:117", after := #[{ on := 7, ground := Ground.data }], guard := none }) (v := ?_) rfl (by kernel_rfl) (by kernel_rfl) (by kernel_rfl) (fun _ _ _ h => h) (Or.inl ⟨by rfl, ?_⟩) hH ?_
  rotate_left
  · (intro w hSw; have hSe := hSw; unfold AtW at hSe; subst hSe; go_simp; try with_reducible rfl)
  try simp only [Act.put, List.setIfInBounds_toArray, List.set_cons_zero, List.set_cons_succ]
  refine wpAnyH_take (i := 9) (oi := { dst := some 18, op := Op.nilCheck (Operand.tmp 17), type := 0, pos := "disk.go:117", after := #[{ on := 8, ground := Ground.data }], guard := none }) (v := ?_) rfl (by kernel_rfl) (by kernel_rfl) (by kernel_rfl) (fun _ _ _ h => h) (Or.inl ⟨by rfl, ?_⟩) hH ?_
  rotate_left
  · (intro w hSw; have hSe := hSw; unfold AtW at hSe; subst hSe; go_simp; try with_reducible rfl)
  try simp only [Act.put, List.setIfInBounds_toArray, List.set_cons_zero, List.set_cons_succ]
  refine wpAnyH_take (i := 10) (oi := { dst := some 19, op := Op.fieldAddr 71 (Operand.tmp 18) 0, type := 0, pos := "disk.go:117", after := #[{ on := 9, ground := Ground.data }], guard := none }) (v := ?_) rfl (by kernel_rfl) (by kernel_rfl) (by kernel_rfl) (fun _ _ _ h => h) (Or.inl ⟨by rfl, ?_⟩) hH ?_
  rotate_left
  · (intro w hSw; have hSe := hSw; unfold AtW at hSe; subst hSe; go_simp; try with_reducible rfl)
  try simp only [Act.put, List.setIfInBounds_toArray, List.set_cons_zero, List.set_cons_succ]
  refine wpAnyH_take (i := 11) (oi := { dst := some 20, op := Op.load 68 (Operand.tmp 19), type := 68, pos := "disk.go:117", after := #[{ on := 10, ground := Ground.data }], guard := none }) (v := ?_) rfl (by kernel_rfl) (by kernel_rfl) (by kernel_rfl) (fun _ _ _ h => h) (Or.inl ⟨by rfl, ?_⟩) hH ?_
  rotate_left
  · (intro w hSw; have hSe := hSw; unfold AtW at hSe; subst hSe; go_simp; try with_reducible rfl)
  try simp only [Act.put, List.setIfInBounds_toArray, List.set_cons_zero, List.set_cons_succ]
  refine wpAnyH_take (i := 12) (oi := { dst := some 21, op := Op.call { callee := Callee.builtin Builtin.len, args := #[Operand.tmp 20], argTypes := #[68] }, type := 3, pos := "disk.go:117", after := #[{ on := 11, ground := Ground.data }], guard := none }) (v := ?_) rfl (by kernel_rfl) (by kernel_rfl) (by kernel_rfl) (fun _ _ _ h => h) (Or.inl ⟨by rfl, ?_⟩) hH ?_
  rotate_left
  · (intro w hSw; have hSe := hSw; unfold AtW at hSe; subst hSe; go_simp; try with_reducible rfl)
  try simp only [Act.put, List.setIfInBounds_toArray, List.set_cons_zero, List.set_cons_succ]
  refine wpAnyH_ready (rs := [4]) (by kernel_rfl) (by simp) ?_
  refine AllReadyH.cons (o := { dst := some 13, op := Op.call { callee := Callee.value (Operand.func 19), args := #[Operand.tmp 12], argTypes := #[25] }, type := 3, pos := "disk.go:117", after := #[{ on := 3, ground := Ground.data }], guard := none }) rfl (fun K hK => ?_) AllReadyH.nil
  go_simp
  refine (sectors_any w.drew F D hd).mono ?_
  rintro e w' ⟨rfl, rfl⟩
  go_wp2_with fail
  refine hK.out _ _ hH (fun _ => ?_)
  clear hK K
  try simp only [Act.put, List.setIfInBounds_toArray, List.set_cons_zero, List.set_cons_succ]
  refine wpAnyH_take (i := 13) (oi := { dst := some 22, op := Op.binOp BinOp.neq 3 (Operand.tmp 13) (Operand.tmp 21) 3, type := 4, pos := "disk.go:117", after := #[{ on := 4, ground := Ground.data }, { on := 12, ground := Ground.data }], guard := none }) (v := ?_) rfl (by kernel_rfl) (by kernel_rfl) (by kernel_rfl) (fun _ _ _ h => h) (Or.inl ⟨by rfl, ?_⟩) hH ?_
  rotate_left
  · (intro w hSw; have hSe := hSw; unfold AtW at hSe; subst hSe; go_simp; try with_reducible rfl)
  try simp only [Act.put, List.setIfInBounds_toArray, List.set_cons_zero, List.set_cons_succ]
  refine wpAnyH_take (i := 14) (oi := { dst := some 23, op := Op.move (Operand.tmp 22), type := 4, pos := "disk.go:117", after := #[{ on := 13, ground := Ground.data }, { on := 4, ground := Ground.chain }], guard := none }) (v := ?_) rfl (by kernel_rfl) (by kernel_rfl) (by kernel_rfl) (fun _ _ _ h => h) (Or.inl ⟨by rfl, ?_⟩) hH ?_
  rotate_left
  · (intro w hSw; have hSe := hSw; unfold AtW at hSe; subst hSe; go_simp; try with_reducible rfl)
  try simp only [Act.put, List.setIfInBounds_toArray, List.set_cons_zero, List.set_cons_succ]
  refine wpAnyH_take (i := 15) (oi := { dst := some 24, op := Op.move (Operand.tmp 0), type := 52, pos := "disk.go:117", after := #[{ on := 14, ground := Ground.guard }], guard := some (14, false) }) (v := ?_) rfl (by kernel_rfl) (by kernel_rfl) (by kernel_rfl) (fun _ _ _ h => h) (Or.inl ⟨by rfl, ?_⟩) hH ?_
  rotate_left
  · (intro w hSw; have hSe := hSw; unfold AtW at hSe; subst hSe; go_simp; try with_reducible rfl)
  try simp only [Act.put, List.setIfInBounds_toArray, List.set_cons_zero, List.set_cons_succ]
  refine wpAnyH_take (i := 16) (oi := { dst := some 25, op := Op.nilCheck (Operand.tmp 24), type := 0, pos := "disk.go:117", after := #[{ on := 15, ground := Ground.data }, { on := 14, ground := Ground.guard }], guard := some (14, false) }) (v := ?_) rfl (by kernel_rfl) (by kernel_rfl) (by kernel_rfl) (fun _ _ _ h => h) (Or.inl ⟨by rfl, ?_⟩) hH ?_
  rotate_left
  · (intro w hSw; have hSe := hSw; unfold AtW at hSe; subst hSe; go_simp; try with_reducible rfl)
  try simp only [Act.put, List.setIfInBounds_toArray, List.set_cons_zero, List.set_cons_succ]
  refine wpAnyH_take (i := 17) (oi := { dst := some 26, op := Op.fieldAddr 54 (Operand.tmp 25) 0, type := 0, pos := "disk.go:117", after := #[{ on := 16, ground := Ground.data }, { on := 14, ground := Ground.guard }], guard := some (14, false) }) (v := ?_) rfl (by kernel_rfl) (by kernel_rfl) (by kernel_rfl) (fun _ _ _ h => h) (Or.inl ⟨by rfl, ?_⟩) hH ?_
  rotate_left
  · (intro w hSw; have hSe := hSw; unfold AtW at hSe; subst hSe; go_simp; try with_reducible rfl)
  try simp only [Act.put, List.setIfInBounds_toArray, List.set_cons_zero, List.set_cons_succ]
  refine wpAnyH_take (i := 18) (oi := { dst := some 27, op := Op.load 25 (Operand.tmp 26), type := 25, pos := "disk.go:117", after := #[{ on := 17, ground := Ground.data }, { on := 14, ground := Ground.guard }], guard := some (14, false) }) (v := ?_) rfl (by kernel_rfl) (by kernel_rfl) (by kernel_rfl) (fun _ _ _ h => h) (Or.inl ⟨by rfl, ?_⟩) hH ?_
  rotate_left
  · (intro w hSw; have hSe := hSw; unfold AtW at hSe; subst hSe; go_simp; try with_reducible rfl)
  try simp only [Act.put, List.setIfInBounds_toArray, List.set_cons_zero, List.set_cons_succ]
  refine wpAnyH_take (i := 20) (oi := { dst := some 29, op := Op.move (Operand.tmp 0), type := 52, pos := "disk.go:117", after := #[{ on := 14, ground := Ground.guard }], guard := some (14, false) }) (v := ?_) rfl (by kernel_rfl) (by kernel_rfl) (by kernel_rfl) (fun _ _ _ h => h) (Or.inl ⟨by rfl, ?_⟩) hH ?_
  rotate_left
  · (intro w hSw; have hSe := hSw; unfold AtW at hSe; subst hSe; go_simp; try with_reducible rfl)
  try simp only [Act.put, List.setIfInBounds_toArray, List.set_cons_zero, List.set_cons_succ]
  refine wpAnyH_take (i := 21) (oi := { dst := some 30, op := Op.nilCheck (Operand.tmp 29), type := 0, pos := "disk.go:117", after := #[{ on := 20, ground := Ground.data }, { on := 14, ground := Ground.guard }], guard := some (14, false) }) (v := ?_) rfl (by kernel_rfl) (by kernel_rfl) (by kernel_rfl) (fun _ _ _ h => h) (Or.inl ⟨by rfl, ?_⟩) hH ?_
  rotate_left
  · (intro w hSw; have hSe := hSw; unfold AtW at hSe; subst hSe; go_simp; try with_reducible rfl)
  try simp only [Act.put, List.setIfInBounds_toArray, List.set_cons_zero, List.set_cons_succ]
  refine wpAnyH_take (i := 22) (oi := { dst := some 31, op := Op.fieldAddr 54 (Operand.tmp 30) 1, type := 0, pos := "disk.go:117", after := #[{ on := 21, ground := Ground.data }, { on := 14, ground := Ground.guard }], guard := some (14, false) }) (v := ?_) rfl (by kernel_rfl) (by kernel_rfl) (by kernel_rfl) (fun _ _ _ h => h) (Or.inl ⟨by rfl, ?_⟩) hH ?_
  rotate_left
  · (intro w hSw; have hSe := hSw; unfold AtW at hSe; subst hSe; go_simp; try with_reducible rfl)
  try simp only [Act.put, List.setIfInBounds_toArray, List.set_cons_zero, List.set_cons_succ]
  refine wpAnyH_take (i := 23) (oi := { dst := some 32, op := Op.load 49 (Operand.tmp 31), type := 49, pos := "disk.go:117", after := #[{ on := 22, ground := Ground.data }, { on := 14, ground := Ground.guard }], guard := some (14, false) }) (v := ?_) rfl (by kernel_rfl) (by kernel_rfl) (by kernel_rfl) (fun _ _ _ h => h) (Or.inl ⟨by rfl, ?_⟩) hH ?_
  rotate_left
  · (intro w hSw; have hSe := hSw; unfold AtW at hSe; subst hSe; go_simp; try with_reducible rfl)
  try simp only [Act.put, List.setIfInBounds_toArray, List.set_cons_zero, List.set_cons_succ]
  refine wpAnyH_take (i := 24) (oi := { dst := some 33, op := Op.nilCheck (Operand.tmp 32), type := 0, pos := "disk.go:117", after := #[{ on := 23, ground := Ground.data }, { on := 14, ground := Ground.guard }], guard := some (14, false) }) (v := ?_) rfl (by kernel_rfl) (by kernel_rfl) (by kernel_rfl) (fun _ _ _ h => h) (Or.inl ⟨by rfl, ?_⟩) hH ?_
  rotate_left
  · (intro w hSw; have hSe := hSw; unfold AtW at hSe; subst hSe; go_simp; try with_reducible rfl)
  try simp only [Act.put, List.setIfInBounds_toArray, List.set_cons_zero, List.set_cons_succ]
  refine wpAnyH_take (i := 25) (oi := { dst := some 34, op := Op.fieldAddr 71 (Operand.tmp 33) 2, type := 0, pos := "disk.go:117", after := #[{ on := 24, ground := Ground.data }, { on := 14, ground := Ground.guard }], guard := some (14, false) }) (v := ?_) rfl (by kernel_rfl) (by kernel_rfl) (by kernel_rfl) (fun _ _ _ h => h) (Or.inl ⟨by rfl, ?_⟩) hH ?_
  rotate_left
  · (intro w hSw; have hSe := hSw; unfold AtW at hSe; subst hSe; go_simp; try with_reducible rfl)
  try simp only [Act.put, List.setIfInBounds_toArray, List.set_cons_zero, List.set_cons_succ]
  refine wpAnyH_take (i := 26) (oi := { dst := some 35, op := Op.load 3 (Operand.tmp 34), type := 3, pos := "disk.go:117", after := #[{ on := 25, ground := Ground.data }, { on := 14, ground := Ground.guard }], guard := some (14, false) }) (v := ?_) rfl (by kernel_rfl) (by kernel_rfl) (by kernel_rfl) (fun _ _ _ h => h) (Or.inl ⟨by rfl, ?_⟩) hH ?_
  rotate_left
  · (intro w hSw; have hSe := hSw; unfold AtW at hSe; subst hSe; go_simp; try with_reducible rfl)
  try simp only [Act.put, List.setIfInBounds_toArray, List.set_cons_zero, List.set_cons_succ]
  refine wpAnyH_ready (rs := [19]) (by kernel_rfl) (by simp) ?_
  refine AllReadyH.cons (o := { dst := some 28, op := Op.call { callee := Callee.value (Operand.func 13), args := #[Operand.tmp 27], argTypes := #[25] }, type := 3, pos := "disk.go:117", after := #[{ on := 18, ground := Ground.data }, { on := 14, ground := Ground.chain }, { on := 14, ground := Ground.guard }], guard := some (14, false) }) rfl (fun K hK => ?_) AllReadyH.nil
  go_simp
  refine (ops_any w.drew F D hd).mono ?_
  rintro e w' ⟨rfl, rfl⟩
  go_wp2_with fail
  refine hK.out _ _ hH (fun _ => ?_)
  clear hK K
  try simp only [Act.put, List.setIfInBounds_toArray, List.set_cons_zero, List.set_cons_succ]
  refine wpAnyH_take (i := 27) (oi := { dst := some 36, op := Op.binOp BinOp.neq 3 (Operand.tmp 28) (Operand.tmp 35) 3, type := 4, pos := "disk.go:117", after := #[{ on := 19, ground := Ground.data }, { on := 26, ground := Ground.data }, { on := 14, ground := Ground.guard }], guard := some (14, false) }) (v := ?_) rfl (by kernel_rfl) (by kernel_rfl) (by kernel_rfl) (fun _ _ _ h => h) (Or.inl ⟨by rfl, ?_⟩) hH ?_
  rotate_left
  · (intro w hSw; have hSe := hSw; unfold AtW at hSe; subst hSe; go_simp; try with_reducible rfl)
  try simp only [Act.put, List.setIfInBounds_toArray, List.set_cons_zero, List.set_cons_succ]
  refine wpAnyH_take (i := 28) (oi := { dst := some 37, op := Op.pick (Operand.tmp 23) (Operand.const (Value.bool true)) (Operand.tmp 36), type := 4, pos := "disk.go:117", after := #[{ on := 14, ground := Ground.data }, { on := 27, ground := Ground.data }], guard := none }) (v := ?_) rfl (by kernel_rfl) (by kernel_rfl) (by kernel_rfl) (fun _ _ _ h => h) (Or.inl ⟨by rfl, ?_⟩) hH ?_
  rotate_left
  · (intro w hSw; have hSe := hSw; unfold AtW at hSe; subst hSe; go_simp; try with_reducible rfl)
  try simp only [Act.put, List.setIfInBounds_toArray, List.set_cons_zero, List.set_cons_succ]
  refine wpAnyH_take (i := 29) (oi := { dst := some 38, op := Op.move (Operand.tmp 37), type := 4, pos := "disk.go:117", after := #[{ on := 28, ground := Ground.data }, { on := 19, ground := Ground.chain }], guard := none }) (v := ?_) rfl (by kernel_rfl) (by kernel_rfl) (by kernel_rfl) (fun _ _ _ h => h) (Or.inl ⟨by rfl, ?_⟩) hH ?_
  rotate_left
  · (intro w hSw; have hSe := hSw; unfold AtW at hSe; subst hSe; go_simp; try with_reducible rfl)
  try simp only [Act.put, List.setIfInBounds_toArray, List.set_cons_zero, List.set_cons_succ]
  refine wpAnyH_take (i := 30) (oi := { dst := some 39, op := Op.move (Operand.tmp 0), type := 52, pos := "disk.go:117", after := #[{ on := 29, ground := Ground.guard }], guard := some (29, false) }) (v := ?_) rfl (by kernel_rfl) (by kernel_rfl) (by kernel_rfl) (fun _ _ _ h => h) (Or.inl ⟨by rfl, ?_⟩) hH ?_
  rotate_left
  · (intro w hSw; have hSe := hSw; unfold AtW at hSe; subst hSe; go_simp; try with_reducible rfl)
  try simp only [Act.put, List.setIfInBounds_toArray, List.set_cons_zero, List.set_cons_succ]
  refine wpAnyH_take (i := 31) (oi := { dst := some 40, op := Op.nilCheck (Operand.tmp 39), type := 0, pos := "disk.go:117", after := #[{ on := 30, ground := Ground.data }, { on := 29, ground := Ground.guard }], guard := some (29, false) }) (v := ?_) rfl (by kernel_rfl) (by kernel_rfl) (by kernel_rfl) (fun _ _ _ h => h) (Or.inl ⟨by rfl, ?_⟩) hH ?_
  rotate_left
  · (intro w hSw; have hSe := hSw; unfold AtW at hSe; subst hSe; go_simp; try with_reducible rfl)
  try simp only [Act.put, List.setIfInBounds_toArray, List.set_cons_zero, List.set_cons_succ]
  refine wpAnyH_take (i := 32) (oi := { dst := some 41, op := Op.fieldAddr 54 (Operand.tmp 40) 0, type := 0, pos := "disk.go:117", after := #[{ on := 31, ground := Ground.data }, { on := 29, ground := Ground.guard }], guard := some (29, false) }) (v := ?_) rfl (by kernel_rfl) (by kernel_rfl) (by kernel_rfl) (fun _ _ _ h => h) (Or.inl ⟨by rfl, ?_⟩) hH ?_
  rotate_left
  · (intro w hSw; have hSe := hSw; unfold AtW at hSe; subst hSe; go_simp; try with_reducible rfl)
  try simp only [Act.put, List.setIfInBounds_toArray, List.set_cons_zero, List.set_cons_succ]
  refine wpAnyH_take (i := 33) (oi := { dst := some 42, op := Op.load 25 (Operand.tmp 41), type := 25, pos := "disk.go:117", after := #[{ on := 32, ground := Ground.data }, { on := 29, ground := Ground.guard }], guard := some (29, false) }) (v := ?_) rfl (by kernel_rfl) (by kernel_rfl) (by kernel_rfl) (fun _ _ _ h => h) (Or.inl ⟨by rfl, ?_⟩) hH ?_
  rotate_left
  · (intro w hSw; have hSe := hSw; unfold AtW at hSe; subst hSe; go_simp; try with_reducible rfl)
  try simp only [Act.put, List.setIfInBounds_toArray, List.set_cons_zero, List.set_cons_succ]
  refine wpAnyH_take (i := 35) (oi := { dst := some 44, op := Op.move (Operand.tmp 0), type := 52, pos := "disk.go:117", after := #[{ on := 29, ground := Ground.guard }], guard := some (29, false) }) (v := ?_) rfl (by kernel_rfl) (by kernel_rfl) (by kernel_rfl) (fun _ _ _ h => h) (Or.inl ⟨by rfl, ?_⟩) hH ?_
  rotate_left
  · (intro w hSw; have hSe := hSw; unfold AtW at hSe; subst hSe; go_simp; try with_reducible rfl)
  try simp only [Act.put, List.setIfInBounds_toArray, List.set_cons_zero, List.set_cons_succ]
  refine wpAnyH_take (i := 36) (oi := { dst := some 45, op := Op.nilCheck (Operand.tmp 44), type := 0, pos := "disk.go:117", after := #[{ on := 35, ground := Ground.data }, { on := 29, ground := Ground.guard }], guard := some (29, false) }) (v := ?_) rfl (by kernel_rfl) (by kernel_rfl) (by kernel_rfl) (fun _ _ _ h => h) (Or.inl ⟨by rfl, ?_⟩) hH ?_
  rotate_left
  · (intro w hSw; have hSe := hSw; unfold AtW at hSe; subst hSe; go_simp; try with_reducible rfl)
  try simp only [Act.put, List.setIfInBounds_toArray, List.set_cons_zero, List.set_cons_succ]
  refine wpAnyH_take (i := 37) (oi := { dst := some 46, op := Op.fieldAddr 54 (Operand.tmp 45) 1, type := 0, pos := "disk.go:117", after := #[{ on := 36, ground := Ground.data }, { on := 29, ground := Ground.guard }], guard := some (29, false) }) (v := ?_) rfl (by kernel_rfl) (by kernel_rfl) (by kernel_rfl) (fun _ _ _ h => h) (Or.inl ⟨by rfl, ?_⟩) hH ?_
  rotate_left
  · (intro w hSw; have hSe := hSw; unfold AtW at hSe; subst hSe; go_simp; try with_reducible rfl)
  try simp only [Act.put, List.setIfInBounds_toArray, List.set_cons_zero, List.set_cons_succ]
  refine wpAnyH_take (i := 38) (oi := { dst := some 47, op := Op.load 49 (Operand.tmp 46), type := 49, pos := "disk.go:117", after := #[{ on := 37, ground := Ground.data }, { on := 29, ground := Ground.guard }], guard := some (29, false) }) (v := ?_) rfl (by kernel_rfl) (by kernel_rfl) (by kernel_rfl) (fun _ _ _ h => h) (Or.inl ⟨by rfl, ?_⟩) hH ?_
  rotate_left
  · (intro w hSw; have hSe := hSw; unfold AtW at hSe; subst hSe; go_simp; try with_reducible rfl)
  try simp only [Act.put, List.setIfInBounds_toArray, List.set_cons_zero, List.set_cons_succ]
  refine wpAnyH_take (i := 39) (oi := { dst := some 48, op := Op.nilCheck (Operand.tmp 47), type := 0, pos := "disk.go:117", after := #[{ on := 38, ground := Ground.data }, { on := 29, ground := Ground.guard }], guard := some (29, false) }) (v := ?_) rfl (by kernel_rfl) (by kernel_rfl) (by kernel_rfl) (fun _ _ _ h => h) (Or.inl ⟨by rfl, ?_⟩) hH ?_
  rotate_left
  · (intro w hSw; have hSe := hSw; unfold AtW at hSe; subst hSe; go_simp; try with_reducible rfl)
  try simp only [Act.put, List.setIfInBounds_toArray, List.set_cons_zero, List.set_cons_succ]
  refine wpAnyH_take (i := 40) (oi := { dst := some 49, op := Op.fieldAddr 71 (Operand.tmp 48) 1, type := 0, pos := "disk.go:117", after := #[{ on := 39, ground := Ground.data }, { on := 29, ground := Ground.guard }], guard := some (29, false) }) (v := ?_) rfl (by kernel_rfl) (by kernel_rfl) (by kernel_rfl) (fun _ _ _ h => h) (Or.inl ⟨by rfl, ?_⟩) hH ?_
  rotate_left
  · (intro w hSw; have hSe := hSw; unfold AtW at hSe; subst hSe; go_simp; try with_reducible rfl)
  try simp only [Act.put, List.setIfInBounds_toArray, List.set_cons_zero, List.set_cons_succ]
  refine wpAnyH_take (i := 41) (oi := { dst := some 50, op := Op.load 69 (Operand.tmp 49), type := 69, pos := "disk.go:117", after := #[{ on := 40, ground := Ground.data }, { on := 29, ground := Ground.guard }], guard := some (29, false) }) (v := ?_) rfl (by kernel_rfl) (by kernel_rfl) (by kernel_rfl) (fun _ _ _ h => h) (Or.inl ⟨by rfl, ?_⟩) hH ?_
  rotate_left
  · (intro w hSw; have hSe := hSw; unfold AtW at hSe; subst hSe; go_simp; try with_reducible rfl)
  try simp only [Act.put, List.setIfInBounds_toArray, List.set_cons_zero, List.set_cons_succ]
  refine wpAnyH_take (i := 42) (oi := { dst := some 51, op := Op.call { callee := Callee.builtin Builtin.len, args := #[Operand.tmp 50], argTypes := #[69] }, type := 3, pos := "disk.go:117", after := #[{ on := 41, ground := Ground.data }, { on := 29, ground := Ground.guard }], guard := some (29, false) }) (v := ?_) rfl (by kernel_rfl) (by kernel_rfl) (by kernel_rfl) (fun _ _ _ h => h) (Or.inl ⟨by rfl, ?_⟩) hH ?_
  rotate_left
  · (intro w hSw; have hSe := hSw; unfold AtW at hSe; subst hSe; go_simp; try with_reducible rfl)
  try simp only [Act.put, List.setIfInBounds_toArray, List.set_cons_zero, List.set_cons_succ]
  refine wpAnyH_ready (rs := [34]) (by kernel_rfl) (by simp) ?_
  refine AllReadyH.cons (o := { dst := some 43, op := Op.call { callee := Callee.value (Operand.func 10), args := #[Operand.tmp 42], argTypes := #[25] }, type := 3, pos := "disk.go:117", after := #[{ on := 33, ground := Ground.data }, { on := 29, ground := Ground.chain }, { on := 29, ground := Ground.guard }], guard := some (29, false) }) rfl (fun K hK => ?_) AllReadyH.nil
  go_simp
  refine (loose_any w.drew F D hd).mono ?_
  rintro e w' ⟨rfl, rfl⟩
  go_wp2_with fail
  refine hK.out _ _ hH (fun _ => ?_)
  clear hK K
  try simp only [Act.put, List.setIfInBounds_toArray, List.set_cons_zero, List.set_cons_succ]
  refine wpAnyH_take (i := 43) (oi := { dst := some 52, op := Op.binOp BinOp.neq 3 (Operand.tmp 43) (Operand.tmp 51) 3, type := 4, pos := "disk.go:117", after := #[{ on := 34, ground := Ground.data }, { on := 42, ground := Ground.data }, { on := 29, ground := Ground.guard }], guard := some (29, false) }) (v := ?_) rfl (by kernel_rfl) (by kernel_rfl) (by kernel_rfl) (fun _ _ _ h => h) (Or.inl ⟨by rfl, ?_⟩) hH ?_
  rotate_left
  · (intro w hSw; have hSe := hSw; unfold AtW at hSe; subst hSe; go_simp; try with_reducible rfl)
  try simp only [Act.put, List.setIfInBounds_toArray, List.set_cons_zero, List.set_cons_succ]
  refine wpAnyH_take (i := 44) (oi := { dst := some 53, op := Op.pick (Operand.tmp 38) (Operand.const (Value.bool true)) (Operand.tmp 52), type := 4, pos := "disk.go:117", after := #[{ on := 29, ground := Ground.data }, { on := 43, ground := Ground.data }], guard := none }) (v := ?_) rfl (by kernel_rfl) (by kernel_rfl) (by kernel_rfl) (fun _ _ _ h => h) (Or.inl ⟨by rfl, ?_⟩) hH ?_
  rotate_left
  · (intro w hSw; have hSe := hSw; unfold AtW at hSe; subst hSe; go_simp; try with_reducible rfl)
  try simp only [Act.put, List.setIfInBounds_toArray, List.set_cons_zero, List.set_cons_succ]
  refine wpAnyH_done (by kernel_rfl) ?_ _
  refine NoPanic.normal ?_
  go_wp2_with fail
  have hnm := hd.ok.nm
  clear x0 x1 r0 r1 r2 r4 hd hH
  cases ho : D.off with
  | true =>
    go_loopw [4, 5, 6, 7, 8, 61, 62, 63, 64, 65, 66, 67, 68, 69, 70, 71, 72, 73, 74, 75, 76, 77, 78, 79, 80, 81, 82, 83, 84, 85, 86, 87, 88, 89, 90, 91, 92, 93, 94, 95, 96, 97, 98, 99, 100, 101, 102, 103, 104, 105, 106, 107] (fun i _ _ _ _ _ _ _ _ _ _ _ _ _ _ _ _ _ _ _ _ _ _ _ _ _ _ _ _ _ _ _ _ _ _ _ _ _ _ _ _ _ _ _ _ _ _ _ _ _ _ _ wr => ∃ k : Nat, k ≤ D.n ∧ i = .int .i64 (k : Int) ∧ BothAt B wr x F p D ∧ Below w.heap.size w wr) (fun i _ _ _ _ _ _ _ _ _ _ _ _ _ _ _ _ _ _ _ _ _ _ _ _ _ _ _ _ _ _ _ _ _ _ _ _ _ _ _ _ _ _ _ _ _ _ _ _ _ _ _ _ => D.n - (intOf i).toNat)
    case atStart => exact ⟨0, Nat.zero_le _, rfl, h1, hb1⟩
    case round =>
      obtain ⟨k, hk, rfl, hr, hbr⟩ := hrel
      clear h1 hb1
      have y1 : wr.cell? ⟨x, 1, none⟩ = some (rptr p) := by rw [cell_of_row _ _ _ _ _ _ hr.head]; rfl
      have y0 : wr.cell? ⟨x, 0, none⟩ = some F.ptr := by rw [cell_of_row _ _ _ _ _ _ hr.head]; rfl
      obtain ⟨aS, cS, aL, cL, hp, hS, hL⟩ := hr.r.cells
      have r0 : wr.cell? ⟨p, 0, none⟩ = some (.slice aS D.n cS) := by rw [cell_of_row _ _ _ _ _ _ hp]; rfl
      clear hp hS hL
      by_cases hlt : k < D.n
      · have hdk : decide ((k : Int) < (D.n : Int)) = true := by simpa using hlt
        obtain ⟨Z, hZ⟩ : ∃ Z, Z = (D.read k).1 := ⟨_, rfl⟩
        obtain ⟨z, hz⟩ : ∃ z, z = (D.read k).2 := ⟨_, rfl⟩
        have hoz : D.off = true → z = 43 := fun h => by rw [hz]; simp [Dk.read, h]
        have HZ := Lib.hid hZ
        have Hz := Lib.hid hz
        have HOZ := Lib.hid hoz
        clear hZ hz hoz
        go_wp2_with fail
        refine (read_any wr F D hr.d k (by omega) (by omega)).mono ?_
        rintro e w20 ⟨u20, rfl, hg20⟩
        rw [← HZ.out] at hg20
        rw [← Hz.out]
        have hb20 := hg20.below
        have i20 := hg20.isB
        have hr20 := hr.below hb20
        have b20 := hbr.trans (hb20.mono hbr.size)
        have y1b : w20.cell? ⟨x, 1, none⟩ = some (rptr p) := by rw [cell_of_row _ _ _ _ _ _ hr20.head]; rfl
        clear hg20 hb20 hbr y0 y1 r0 hr
        go_wp2_with fail
        refine (refRead_any B w20 p D hr20.r hr20.d.ok hr20.now k (by omega) (by omega)).mono ?_
        rintro e w21 ⟨u21, rfl, hm21, hb21⟩
        rw [← HZ.out] at hm21
        rw [← Hz.out]
        have i20b := i20.below hb21
        have i21 := hm21.isB
        have hr21 := hr20.below hb21
        have b21 := b20.trans (hb21.mono b20.size)
        have s1 := run_str (P := Try.prog) i20b 30 9 5 Try.underlying30 Try.underlying5 Try.underlying9
        have s2 := run_str (P := Try.prog) i21 30 9 5 Try.underlying30 Try.underlying5 Try.underlying9
        clear i20 i20b i21 hm21 hb21 hr20 b20 y1b
        have hz43 := HOZ.out ho
        subst hz43
        clear HOZ
        go_wp2_with fail
        go_roundw
        case rel => exact ⟨k + 1, by omega, by go_num, hr21, b21⟩
        case measure => simp [intOf]; omega
      · obtain rfl : k = D.n := by omega
        have hdk : decide ((D.n : Int) < (D.n : Int)) = false := by simp
        go_wp2_with fail
        go_ret
        exact ⟨rfl, hbr⟩
  | false =>
    go_loopw [4, 5, 6, 7, 8, 61, 62, 63, 64, 65, 66, 67, 68, 69, 70, 71, 72, 73, 74, 75, 76, 77, 78, 79, 80, 81, 82, 83, 84, 85, 86, 87, 88, 89, 90, 91, 92, 93, 94, 95, 96, 97, 98, 99, 100, 101, 102, 103, 104, 105, 106, 107] (fun i _ _ _ _ _ _ _ _ _ _ _ _ _ _ _ _ _ _ _ _ _ _ _ _ _ _ _ _ _ _ _ _ _ _ _ _ _ _ _ _ _ _ _ _ _ _ _ _ _ _ _ wr => ∃ k : Nat, k ≤ D.n ∧ i = .int .i64 (k : Int) ∧ BothAt B wr x F p D ∧ Below w.heap.size w wr) (fun i _ _ _ _ _ _ _ _ _ _ _ _ _ _ _ _ _ _ _ _ _ _ _ _ _ _ _ _ _ _ _ _ _ _ _ _ _ _ _ _ _ _ _ _ _ _ _ _ _ _ _ _ => D.n - (intOf i).toNat)
    case atStart => exact ⟨0, Nat.zero_le _, rfl, h1, hb1⟩
    case round =>
      obtain ⟨k, hk, rfl, hr, hbr⟩ := hrel
      clear h1 hb1
      have y1 : wr.cell? ⟨x, 1, none⟩ = some (rptr p) := by rw [cell_of_row _ _ _ _ _ _ hr.head]; rfl
      have y0 : wr.cell? ⟨x, 0, none⟩ = some F.ptr := by rw [cell_of_row _ _ _ _ _ _ hr.head]; rfl
      obtain ⟨aS, cS, aL, cL, hp, hS, hL⟩ := hr.r.cells
      have r0 : wr.cell? ⟨p, 0, none⟩ = some (.slice aS D.n cS) := by rw [cell_of_row _ _ _ _ _ _ hp]; rfl
      clear hp hS hL
      by_cases hlt : k < D.n
      · have hdk : decide ((k : Int) < (D.n : Int)) = true := by simpa using hlt
        obtain ⟨Z, hZ⟩ : ∃ Z, Z = (D.read k).1 := ⟨_, rfl⟩
        obtain ⟨z, hz⟩ : ∃ z, z = (D.read k).2 := ⟨_, rfl⟩
        have hoz : D.off = true → z = 43 := fun h => by rw [hz]; simp [Dk.read, h]
        have HZ := Lib.hid hZ
        have Hz := Lib.hid hz
        have HOZ := Lib.hid hoz
        clear hZ hz hoz
        go_wp2_with fail
        refine (read_any wr F D hr.d k (by omega) (by omega)).mono ?_
        rintro e w20 ⟨u20, rfl, hg20⟩
        rw [← HZ.out] at hg20
        rw [← Hz.out]
        have hb20 := hg20.below
        have i20 := hg20.isB
        have hr20 := hr.below hb20
        have b20 := hbr.trans (hb20.mono hbr.size)
        have y1b : w20.cell? ⟨x, 1, none⟩ = some (rptr p) := by rw [cell_of_row _ _ _ _ _ _ hr20.head]; rfl
        clear hg20 hb20 hbr y0 y1 r0 hr
        go_wp2_with fail
        refine (refRead_any B w20 p D hr20.r hr20.d.ok hr20.now k (by omega) (by omega)).mono ?_
        rintro e w21 ⟨u21, rfl, hm21, hb21⟩
        rw [← HZ.out] at hm21
        rw [← Hz.out]
        have i20b := i20.below hb21
        have i21 := hm21.isB
        have hr21 := hr20.below hb21
        have b21 := b20.trans (hb21.mono b20.size)
        have s1 := run_str (P := Try.prog) i20b 30 9 5 Try.underlying30 Try.underlying5 Try.underlying9
        have s2 := run_str (P := Try.prog) i21 30 9 5 Try.underlying30 Try.underlying5 Try.underlying9
        clear i20 i20b i21 hm21 hb21 hr20 b20 y1b
        clear HOZ
        go_wp2_with fail
        go_roundw
        case rel => exact ⟨k + 1, by omega, by go_num, hr21, b21⟩
        case measure => simp [intOf]; omega
      · obtain rfl : k = D.n := by omega
        have hdk : decide ((D.n : Int) < (D.n : Int)) = false := by simp
        go_wp2_with fail
        go_ret
        exact ⟨rfl, hbr⟩
end Go.Proofs.Ytncoclbmnhbgbaa
