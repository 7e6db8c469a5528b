/- shown: the document's examples hold. -/
import Derived.Test.YtncoclbmnhbgbaaDkLaw
import Derived.Test.YtncoclbmnhbgbaaOf
import Derived.Deep.RegionHeld3
set_option linter.unusedVariables false
set_option linter.unusedSimpArgs false
namespace Go.Proofs.Ytncoclbmnhbgbaa
open Go.RowKit

theorem isI_one (w : World) (e : TypeId) (n : Int) : IsI (w.alloc (.cells #[.int .i64 n] e)) (.slice (some ⟨w.heap.size, 0, none⟩) 1 1) [n] := by
  refine ⟨some ⟨w.heap.size, 0, none⟩, 1, rfl, Nat.le_refl _, by simp [maxLen], fun e => (by cases e), ?_⟩
  rintro x ⟨⟩
  refine ⟨fun _ => rfl, fun i hi => ?_⟩
  obtain rfl : i = 0 := by simpa using hi
  rw [cell_of_row _ _ _ _ _ _ (heap_alloc_new w _)]
  rfl
/-- a disk of one's own from block B on turns: what lies below B is as it was -/
theorem Turned.own {w0 w w' : World} {F : Ft} {B : Nat} (h : Turned F.has w w') (hb : Below B w0 w) (hF : ∀ k, F.has k → B ≤ k) (hB : B ≤ w.heap.size) : Below B w0 w' :=
  hb.trans (h.below hB hF)

/-- what is held through the last statement -/
abbrev ShHeld (P : Program) (ts ss : TypeId) (F : Ft) (D : Dk) (Fx : Ft) (Dx : Dk) (s : Value) (Y : List UInt8) (t : Value) (X : List UInt8) (B : Nat) (w0 w : World) : Prop :=
  DkAt w F D ∧ DkAt w Fx Dx ∧ (convert ts ss s).run P w = .ok (.string ⟨Y.toArray⟩) w ∧ (convert ts ss t).run P w = .ok (.string ⟨X.toArray⟩) w ∧ IsB w s Y ∧ IsB w t X ∧ Below B w0 w
theorem sh_held {F : Ft} {D : Dk} {Fx : Ft} {Dx : Dk} {s : Value} {Y : List UInt8} {t : Value} {X : List UInt8} {w0 w : World} (h1 : DkAt w F D) (h2 : DkAt w Fx Dx) (h3 : IsB w s Y) (h4 : IsB w t X) (h5 : Below w0.heap.size w0 w) :
    ShHeld Try.prog 30 9 F D Fx Dx s Y t X w0.heap.size w0 w :=
  ⟨h1, h2, run_str (P := Try.prog) h3 30 9 5 Try.underlying30 Try.underlying5 Try.underlying9, run_str (P := Try.prog) h4 30 9 5 Try.underlying30 Try.underlying5 Try.underlying9, h3, h4, h5⟩
theorem sh_keep {F : Ft} {D : Dk} {Fx : Ft} {Dx : Dk} {s : Value} {Y : List UInt8} {t : Value} {X : List UInt8} {w0 w w' : World} (h : ShHeld Try.prog 30 9 F D Fx Dx s Y t X w0.heap.size w0 w) (hb : Below w.heap.size w w') :
    ShHeld Try.prog 30 9 F D Fx Dx s Y t X w0.heap.size w0 w' := by
  obtain ⟨h1, h2, _, _, h3, h4, h5⟩ := h
  exact sh_held (h1.below hb) (h2.below hb) (h3.below hb) (h4.below hb) (h5.trans (hb.mono h5.size))
theorem sh_drew {F : Ft} {D : Dk} {Fx : Ft} {Dx : Dk} {s : Value} {Y : List UInt8} {t : Value} {X : List UInt8} {w0 w : World} (h : ShHeld Try.prog 30 9 F D Fx Dx s Y t X w0.heap.size w0 w) :
    ShHeld Try.prog 30 9 F D Fx Dx s Y t X w0.heap.size w0 w.drew := sh_keep h (Below.refl _ w).drew

set_option maxRecDepth 100000 in
set_option maxHeartbeats 8000000 in
theorem shown_any (w : World) : Calls Try.prog 8 #[] w fun e w' => e = .returned (.bool true) ∧ Below w.heap.size w w' := by
  obtain ⟨X, hX⟩ : ∃ X, X = List.replicate 128 (120 : UInt8) := ⟨_, rfl⟩
  obtain ⟨Y, hY⟩ : ∃ Y, Y = List.replicate 128 (121 : UInt8) := ⟨_, rfl⟩
  have hXl : X.length = 128 := by rw [hX, List.length_replicate]
  have hYl : Y.length = 128 := by rw [hY, List.length_replicate]
  obtain ⟨D1, D2, D3, D4, e1, e2, e3, e4, e5, e6, e7, e8, e9⟩ := shown_plain X Y hXl hYl
  have hofX : ∀ w : World, Calls Try.prog 18 #[.int .u8 120] w fun e w' => ∃ v, e = .returned v ∧ Mine 5 w.heap.size w' v X ∧ Below w.heap.size w w' := fun w => by rw [hX]; exact of_any w 120
  have hofY : ∀ w : World, Calls Try.prog 18 #[.int .u8 121] w fun e w' => ∃ v, e = .returned v ∧ Mine 5 w.heap.size w' v Y ∧ Below w.heap.size w w' := fun w => by rw [hY]; exact of_any w 121
  have HX := Lib.hid hofX
  have HY := Lib.hid hofY
  have E1 := Lib.hid e1
  have E2 := Lib.hid e2
  have E3 := Lib.hid e3
  have E4 := Lib.hid e4
  have E5 := Lib.hid e5
  have E6 := Lib.hid e6
  have E7 := Lib.hid e7
  have E8 := Lib.hid e8
  have E9 := Lib.hid e9
  clear e1 e2 e3 e4 e5 e6 e7 e8 e9 hofX hofY hX hY
  go_enter Try.func8, Try.ntmps8
  go_wp2_with fail
  refine (new_some w 4 ⟨by omega, by omega⟩).mono ?_
  rintro e w1 ⟨F, rfl, d1, hF, hb1⟩
  have hs1 := hb1.size
  go_wp2_with fail
  refine (HX.out w1).mono ?_
  rintro e w2 ⟨u2, rfl, hm2, hb2⟩
  have d2 := d1.below hb2
  have hb2' := hb1.trans (hb2.mono hs1)
  have hs2 := hb2'.size
  clear hb1 hb2 d1 hs1
  go_wp2_with fail
  refine (write_any w2 F _ d2 1 u2 X hm2.isB (by omega) (by omega)).mono ?_
  rintro e w3 ⟨rfl, d3, t3⟩
  rw [E1.out] at d3 ⊢
  have hb3' := t3.own hb2' hF hs2
  have hs3 := hb3'.size
  clear hb2' d2 hs2 hm2 t3
  go_wp2_with fail
  refine (flush_any w3 F _ d3).mono ?_
  rintro e w4 ⟨rfl, d4, t4⟩
  rw [E2.out] at d4 ⊢
  have hb4' := t4.own hb3' hF hs3
  have hs4 := hb4'.size
  clear hb3' d3 hs3 t4
  go_wp2_with fail
  refine (HY.out w4).mono ?_
  rintro e w5 ⟨u5, rfl, hm5, hb5⟩
  have d5 := d4.below hb5
  have hb5' := hb4'.trans (hb5.mono hs4)
  have hs5 := hb5'.size
  clear hb4' hb5 d4 hs4
  go_wp2_with fail
  refine (write_any w5 F _ d5 1 u5 Y hm5.isB (by omega) (by omega)).mono ?_
  rintro e w6 ⟨rfl, d6, t6⟩
  rw [E3.out] at d6 ⊢
  have hb6' := t6.own hb5' hF hs5
  have hs6 := hb6'.size
  clear hb5' d5 hs5 hm5 t6
  go_wp2_with fail
  refine (HY.out w6).mono ?_
  rintro e w7 ⟨u7, rfl, hm7, hb7⟩
  have d7 := d6.below hb7
  have hb7' := hb6'.trans (hb7.mono hs6)
  have hs7 := hb7'.size
  clear hb6' hb7 d6 hs6
  go_wp2_with fail
  refine (write_any w7 F _ d7 2 u7 Y hm7.isB (by omega) (by omega)).mono ?_
  rintro e w8 ⟨rfl, d8, t8⟩
  rw [E4.out] at d8 ⊢
  have hb8' := t8.own hb7' hF hs7
  have hs8 := hb8'.size
  clear hb7' d7 hs7 hm7 t8
  go_wp2_with fail
  refine (crash_any _ F _ (d8.below ((Below.refl _ _).alloc (Nat.le_refl _) _)) _ [0] (isI_one w8 3 0)).mono ?_
  rintro e w9 ⟨Fx, rfl, dx9, hFx, hb9⟩
  have hb9' := (hb8'.alloc hs8 (.cells #[.int .i64 0] 3)).trans (hb9.mono (Nat.le_trans hs8 (by simp)))
  have d9 := (d8.below ((Below.refl _ _).alloc (Nat.le_refl _) (.cells #[.int .i64 0] 3))).below hb9
  have hs9 := hb9'.size
  clear hb8' hb9 d8 hs8 hFx
  go_wp2_with fail
  refine (read_any w9 Fx _ dx9 1 (by omega) (by omega)).mono ?_
  rintro e w10 ⟨v10, rfl, hg10⟩
  rw [E7.out] at hg10 ⊢
  have hb10 := hg10.below
  have d10 := d9.below hb10
  have dx10 := dx9.below hb10
  have hb10' := hb9'.trans (hb10.mono hs9)
  have hs10 := hb10'.size
  have hi10 := hg10.isB
  clear hb9' d9 dx9 hs9 hb10 hg10
  go_wp2_with fail
  refine (crash_any _ F _ d10 _ [] (IsI.nil _)).mono ?_
  rintro e w11 ⟨Fy, rfl, dy11, hFy, hb11⟩
  have d11 := d10.below hb11
  have dx11 := dx10.below hb11
  have hi11 := hi10.below hb11
  have hb11' := hb10'.trans (hb11.mono hs10)
  have hs11 := hb11'.size
  clear hb10' hb11 d10 dx10 hs10 hi10 hFy
  go_wp2_with fail
  refine (read_any w11 Fy _ dy11 1 (by omega) (by omega)).mono ?_
  rintro e w12 ⟨v12, rfl, hg12⟩
  rw [E8.out] at hg12 ⊢
  have hb12 := hg12.below
  have d12 := d11.below hb12
  have dx12 := dx11.below hb12
  have hi12 := hi11.below hb12
  have hb12' := hb11'.trans (hb12.mono hs11)
  have hj12 := hg12.isB
  clear hb11' d11 dx11 dy11 hs11 hb12 hg12 hi11
  go_wp2_with fail
  refine wp_region_noPanic ?_
  refine wp_region_held_drew (S := (fun w' => ShHeld Try.prog 30 9 F D4 Fx (D4.crash [0]) v10 Y v12 X w.heap.size w w')) (by kernel_rfl) (sh_drew (sh_held d12 dx12 hi12 hj12 hb12')) (fun hH => ?_)
  refine wpAnyH_take (i := 0) (oi := { dst := some 47, op := Op.move (Operand.tmp 3), type := 31, pos := "disk.go:49", after := #[], guard := none }) (v := ?_) rfl (by kernel_rfl) (by kernel_rfl) (by kernel_rfl) (fun _ _ _ h => h) (Or.inl ⟨by rfl, ?_⟩) hH ?_
  rotate_left
  · (intro w hSw; obtain ⟨_, _, q1, q2, _⟩ := hSw; go_simp; try with_reducible rfl)
  try simp only [Act.put, List.setIfInBounds_toArray, List.set_cons_zero, List.set_cons_succ]
  refine wpAnyH_take (i := 1) (oi := { dst := some 48, op := Op.binOp BinOp.eql 31 (Operand.tmp 47) (Operand.const (Value.int IntKind.i64 0)) 31, type := 4, pos := "disk.go:49", after := #[{ on := 0, ground := Ground.data }], guard := none }) (v := ?_) rfl (by kernel_rfl) (by kernel_rfl) (by kernel_rfl) (fun _ _ _ h => h) (Or.inl ⟨by rfl, ?_⟩) hH ?_
  rotate_left
  · (intro w hSw; obtain ⟨_, _, q1, q2, _⟩ := hSw; go_simp; try with_reducible rfl)
  try simp only [Act.put, List.setIfInBounds_toArray, List.set_cons_zero, List.set_cons_succ]
  refine wpAnyH_take (i := 2) (oi := { dst := some 49, op := Op.move (Operand.tmp 48), type := 4, pos := "disk.go:49", after := #[{ on := 1, ground := Ground.data }], guard := none }) (v := ?_) rfl (by kernel_rfl) (by kernel_rfl) (by kernel_rfl) (fun _ _ _ h => h) (Or.inl ⟨by rfl, ?_⟩) hH ?_
  rotate_left
  · (intro w hSw; obtain ⟨_, _, q1, q2, _⟩ := hSw; go_simp; try with_reducible rfl)
  try simp only [Act.put, List.setIfInBounds_toArray, List.set_cons_zero, List.set_cons_succ]
  refine wpAnyH_take (i := 3) (oi := { dst := some 50, op := Op.move (Operand.tmp 4), type := 31, pos := "disk.go:49", after := #[{ on := 2, ground := Ground.guard }], guard := some (2, true) }) (v := ?_) rfl (by kernel_rfl) (by kernel_rfl) (by kernel_rfl) (fun _ _ _ h => h) (Or.inl ⟨by rfl, ?_⟩) hH ?_
  rotate_left
  · (intro w hSw; obtain ⟨_, _, q1, q2, _⟩ := hSw; go_simp; try with_reducible rfl)
  try simp only [Act.put, List.setIfInBounds_toArray, List.set_cons_zero, List.set_cons_succ]
  refine wpAnyH_take (i := 4) (oi := { dst := some 51, op := Op.binOp BinOp.eql 31 (Operand.tmp 50) (Operand.const (Value.int IntKind.i64 0)) 31, type := 4, pos := "disk.go:49", after := #[{ on := 3, ground := Ground.data }, { on := 2, ground := Ground.guard }], guard := some (2, true) }) (v := ?_) rfl (by kernel_rfl) (by kernel_rfl) (by kernel_rfl) (fun _ _ _ h => h) (Or.inl ⟨by rfl, ?_⟩) hH ?_
  rotate_left
  · (intro w hSw; obtain ⟨_, _, q1, q2, _⟩ := hSw; go_simp; try with_reducible rfl)
  try simp only [Act.put, List.setIfInBounds_toArray, List.set_cons_zero, List.set_cons_succ]
  refine wpAnyH_take (i := 5) (oi := { dst := some 52, op := Op.pick (Operand.tmp 49) (Operand.tmp 51) (Operand.const (Value.bool false)), type := 4, pos := "disk.go:49", after := #[{ on := 2, ground := Ground.data }, { on := 4, ground := Ground.data }], guard := none }) (v := ?_) rfl (by kernel_rfl) (by kernel_rfl) (by kernel_rfl) (fun _ _ _ h => h) (Or.inl ⟨by rfl, ?_⟩) hH ?_
  rotate_left
  · (intro w hSw; obtain ⟨_, _, q1, q2, _⟩ := hSw; go_simp; try with_reducible rfl)
  try simp only [Act.put, List.setIfInBounds_toArray, List.set_cons_zero, List.set_cons_succ]
  refine wpAnyH_take (i := 6) (oi := { dst := some 53, op := Op.move (Operand.tmp 52), type := 4, pos := "disk.go:49", after := #[{ on := 5, ground := Ground.data }, { on := 2, ground := Ground.chain }], guard := none }) (v := ?_) rfl (by kernel_rfl) (by kernel_rfl) (by kernel_rfl) (fun _ _ _ h => h) (Or.inl ⟨by rfl, ?_⟩) hH ?_
  rotate_left
  · (intro w hSw; obtain ⟨_, _, q1, q2, _⟩ := hSw; go_simp; try with_reducible rfl)
  try simp only [Act.put, List.setIfInBounds_toArray, List.set_cons_zero, List.set_cons_succ]
  refine wpAnyH_take (i := 7) (oi := { dst := some 54, op := Op.move (Operand.tmp 5), type := 31, pos := "disk.go:49", after := #[{ on := 6, ground := Ground.guard }], guard := some (6, true) }) (v := ?_) rfl (by kernel_rfl) (by kernel_rfl) (by kernel_rfl) (fun _ _ _ h => h) (Or.inl ⟨by rfl, ?_⟩) hH ?_
  rotate_left
  · (intro w hSw; obtain ⟨_, _, q1, q2, _⟩ := hSw; go_simp; try with_reducible rfl)
  try simp only [Act.put, List.setIfInBounds_toArray, List.set_cons_zero, List.set_cons_succ]
  refine wpAnyH_take (i := 8) (oi := { dst := some 55, op := Op.binOp BinOp.eql 31 (Operand.tmp 54) (Operand.const (Value.int IntKind.i64 0)) 31, type := 4, pos := "disk.go:49", after := #[{ on := 7, ground := Ground.data }, { on := 6, ground := Ground.guard }], guard := some (6, true) }) (v := ?_) rfl (by kernel_rfl) (by kernel_rfl) (by kernel_rfl) (fun _ _ _ h => h) (Or.inl ⟨by rfl, ?_⟩) hH ?_
  rotate_left
  · (intro w hSw; obtain ⟨_, _, q1, q2, _⟩ := hSw; go_simp; try with_reducible rfl)
  try simp only [Act.put, List.setIfInBounds_toArray, List.set_cons_zero, List.set_cons_succ]
  refine wpAnyH_take (i := 9) (oi := { dst := some 56, op := Op.pick (Operand.tmp 53) (Operand.tmp 55) (Operand.const (Value.bool false)), type := 4, pos := "disk.go:49", after := #[{ on := 6, ground := Ground.data }, { on := 8, ground := Ground.data }], guard := none }) (v := ?_) rfl (by kernel_rfl) (by kernel_rfl) (by kernel_rfl) (fun _ _ _ h => h) (Or.inl ⟨by rfl, ?_⟩) hH ?_
  rotate_left
  · (intro w hSw; obtain ⟨_, _, q1, q2, _⟩ := hSw; go_simp; try with_reducible rfl)
  try simp only [Act.put, List.setIfInBounds_toArray, List.set_cons_zero, List.set_cons_succ]
  refine wpAnyH_take (i := 10) (oi := { dst := some 57, op := Op.move (Operand.tmp 56), type := 4, pos := "disk.go:49", after := #[{ on := 9, ground := Ground.data }, { on := 6, ground := Ground.chain }], guard := none }) (v := ?_) rfl (by kernel_rfl) (by kernel_rfl) (by kernel_rfl) (fun _ _ _ h => h) (Or.inl ⟨by rfl, ?_⟩) hH ?_
  rotate_left
  · (intro w hSw; obtain ⟨_, _, q1, q2, _⟩ := hSw; go_simp; try with_reducible rfl)
  try simp only [Act.put, List.setIfInBounds_toArray, List.set_cons_zero, List.set_cons_succ]
  refine wpAnyH_take (i := 11) (oi := { dst := some 58, op := Op.move (Operand.tmp 6), type := 31, pos := "disk.go:49", after := #[{ on := 10, ground := Ground.guard }], guard := some (10, true) }) (v := ?_) rfl (by kernel_rfl) (by kernel_rfl) (by kernel_rfl) (fun _ _ _ h => h) (Or.inl ⟨by rfl, ?_⟩) hH ?_
  rotate_left
  · (intro w hSw; obtain ⟨_, _, q1, q2, _⟩ := hSw; go_simp; try with_reducible rfl)
  try simp only [Act.put, List.setIfInBounds_toArray, List.set_cons_zero, List.set_cons_succ]
  refine wpAnyH_take (i := 12) (oi := { dst := some 59, op := Op.binOp BinOp.eql 31 (Operand.tmp 58) (Operand.const (Value.int IntKind.i64 0)) 31, type := 4, pos := "disk.go:49", after := #[{ on := 11, ground := Ground.data }, { on := 10, ground := Ground.guard }], guard := some (10, true) }) (v := ?_) rfl (by kernel_rfl) (by kernel_rfl) (by kernel_rfl) (fun _ _ _ h => h) (Or.inl ⟨by rfl, ?_⟩) hH ?_
  rotate_left
  · (intro w hSw; obtain ⟨_, _, q1, q2, _⟩ := hSw; go_simp; try with_reducible rfl)
  try simp only [Act.put, List.setIfInBounds_toArray, List.set_cons_zero, List.set_cons_succ]
  refine wpAnyH_take (i := 13) (oi := { dst := some 60, op := Op.pick (Operand.tmp 57) (Operand.tmp 59) (Operand.const (Value.bool false)), type := 4, pos := "disk.go:49", after := #[{ on := 10, ground := Ground.data }, { on := 12, ground := Ground.data }], guard := none }) (v := ?_) rfl (by kernel_rfl) (by kernel_rfl) (by kernel_rfl) (fun _ _ _ h => h) (Or.inl ⟨by rfl, ?_⟩) hH ?_
  rotate_left
  · (intro w hSw; obtain ⟨_, _, q1, q2, _⟩ := hSw; go_simp; try with_reducible rfl)
  try simp only [Act.put, List.setIfInBounds_toArray, List.set_cons_zero, List.set_cons_succ]
  refine wpAnyH_take (i := 14) (oi := { dst := some 61, op := Op.move (Operand.tmp 60), type := 4, pos := "disk.go:49", after := #[{ on := 13, ground := Ground.data }, { on := 10, ground := Ground.chain }], guard := none }) (v := ?_) rfl (by kernel_rfl) (by kernel_rfl) (by kernel_rfl) (fun _ _ _ h => h) (Or.inl ⟨by rfl, ?_⟩) hH ?_
  rotate_left
  · (intro w hSw; obtain ⟨_, _, q1, q2, _⟩ := hSw; go_simp; try with_reducible rfl)
  try simp only [Act.put, List.setIfInBounds_toArray, List.set_cons_zero, List.set_cons_succ]
  refine wpAnyH_take (i := 15) (oi := { dst := some 62, op := Op.move (Operand.tmp 1), type := 25, pos := "disk.go:49", after := #[{ on := 14, ground := Ground.guard }], guard := some (14, true) }) (v := ?_) rfl (by kernel_rfl) (by kernel_rfl) (by kernel_rfl) (fun _ _ _ h => h) (Or.inl ⟨by rfl, ?_⟩) hH ?_
  rotate_left
  · (intro w hSw; obtain ⟨_, _, q1, q2, _⟩ := hSw; go_simp; try with_reducible rfl)
  try simp only [Act.put, List.setIfInBounds_toArray, List.set_cons_zero, List.set_cons_succ]
  refine wpAnyH_ready (rs := [16]) (by kernel_rfl) (by simp) ?_
  refine AllReadyH.cons (o := { dst := some 63, op := Op.call { callee := Callee.value (Operand.func 10), args := #[Operand.tmp 62], argTypes := #[25] }, type := 3, pos := "disk.go:49", after := #[{ on := 15, ground := Ground.data }, { on := 14, ground := Ground.chain }, { on := 14, ground := Ground.guard }], guard := some (14, true) }) rfl (fun K hK => ?_) AllReadyH.nil
  go_simp
  refine (loose_any _ F D4 hH.1).mono ?_
  rintro e w' ⟨rfl, rfl⟩
  rw [E5.out]
  go_wp2_with fail
  refine hK.out _ _ hH (fun _ => ?_)
  clear hK K
  try simp only [Act.put, List.setIfInBounds_toArray, List.set_cons_zero, List.set_cons_succ]
  refine wpAnyH_take (i := 17) (oi := { dst := some 64, op := Op.binOp BinOp.eql 3 (Operand.tmp 63) (Operand.const (Value.int IntKind.i64 2)) 3, type := 4, pos := "disk.go:49", after := #[{ on := 16, ground := Ground.data }, { on := 14, ground := Ground.guard }], guard := some (14, true) }) (v := ?_) rfl (by kernel_rfl) (by kernel_rfl) (by kernel_rfl) (fun _ _ _ h => h) (Or.inl ⟨by rfl, ?_⟩) hH ?_
  rotate_left
  · (intro w hSw; obtain ⟨_, _, q1, q2, _⟩ := hSw; go_simp; try with_reducible rfl)
  try simp only [Act.put, List.setIfInBounds_toArray, List.set_cons_zero, List.set_cons_succ]
  refine wpAnyH_take (i := 18) (oi := { dst := some 65, op := Op.pick (Operand.tmp 61) (Operand.tmp 64) (Operand.const (Value.bool false)), type := 4, pos := "disk.go:49", after := #[{ on := 14, ground := Ground.data }, { on := 17, ground := Ground.data }], guard := none }) (v := ?_) rfl (by kernel_rfl) (by kernel_rfl) (by kernel_rfl) (fun _ _ _ h => h) (Or.inl ⟨by rfl, ?_⟩) hH ?_
  rotate_left
  · (intro w hSw; obtain ⟨_, _, q1, q2, _⟩ := hSw; go_simp; try with_reducible rfl)
  try simp only [Act.put, List.setIfInBounds_toArray, List.set_cons_zero, List.set_cons_succ]
  refine wpAnyH_take (i := 19) (oi := { dst := some 66, op := Op.move (Operand.tmp 65), type := 4, pos := "disk.go:49", after := #[{ on := 18, ground := Ground.data }, { on := 16, ground := Ground.chain }], guard := none }) (v := ?_) rfl (by kernel_rfl) (by kernel_rfl) (by kernel_rfl) (fun _ _ _ h => h) (Or.inl ⟨by rfl, ?_⟩) hH ?_
  rotate_left
  · (intro w hSw; obtain ⟨_, _, q1, q2, _⟩ := hSw; go_simp; try with_reducible rfl)
  try simp only [Act.put, List.setIfInBounds_toArray, List.set_cons_zero, List.set_cons_succ]
  refine wpAnyH_take (i := 20) (oi := { dst := some 67, op := Op.move (Operand.tmp 1), type := 25, pos := "disk.go:49", after := #[{ on := 19, ground := Ground.guard }], guard := some (19, true) }) (v := ?_) rfl (by kernel_rfl) (by kernel_rfl) (by kernel_rfl) (fun _ _ _ h => h) (Or.inl ⟨by rfl, ?_⟩) hH ?_
  rotate_left
  · (intro w hSw; obtain ⟨_, _, q1, q2, _⟩ := hSw; go_simp; try with_reducible rfl)
  try simp only [Act.put, List.setIfInBounds_toArray, List.set_cons_zero, List.set_cons_succ]
  refine wpAnyH_ready (rs := [21]) (by kernel_rfl) (by simp) ?_
  refine AllReadyH.cons (o := { dst := some 68, op := Op.call { callee := Callee.value (Operand.func 13), args := #[Operand.tmp 67], argTypes := #[25] }, type := 3, pos := "disk.go:49", after := #[{ on := 20, ground := Ground.data }, { on := 19, ground := Ground.chain }, { on := 19, ground := Ground.guard }], guard := some (19, true) }) rfl (fun K hK => ?_) AllReadyH.nil
  go_simp
  refine (ops_any _ F D4 hH.1).mono ?_
  rintro e w' ⟨rfl, rfl⟩
  rw [E6.out]
  go_wp2_with fail
  refine hK.out _ _ hH (fun _ => ?_)
  clear hK K
  try simp only [Act.put, List.setIfInBounds_toArray, List.set_cons_zero, List.set_cons_succ]
  refine wpAnyH_take (i := 22) (oi := { dst := some 69, op := Op.binOp BinOp.eql 3 (Operand.tmp 68) (Operand.const (Value.int IntKind.i64 4)) 3, type := 4, pos := "disk.go:49", after := #[{ on := 21, ground := Ground.data }, { on := 19, ground := Ground.guard }], guard := some (19, true) }) (v := ?_) rfl (by kernel_rfl) (by kernel_rfl) (by kernel_rfl) (fun _ _ _ h => h) (Or.inl ⟨by rfl, ?_⟩) hH ?_
  rotate_left
  · (intro w hSw; obtain ⟨_, _, q1, q2, _⟩ := hSw; go_simp; try with_reducible rfl)
  try simp only [Act.put, List.setIfInBounds_toArray, List.set_cons_zero, List.set_cons_succ]
  refine wpAnyH_take (i := 23) (oi := { dst := some 70, op := Op.pick (Operand.tmp 66) (Operand.tmp 69) (Operand.const (Value.bool false)), type := 4, pos := "disk.go:49", after := #[{ on := 19, ground := Ground.data }, { on := 22, ground := Ground.data }], guard := none }) (v := ?_) rfl (by kernel_rfl) (by kernel_rfl) (by kernel_rfl) (fun _ _ _ h => h) (Or.inl ⟨by rfl, ?_⟩) hH ?_
  rotate_left
  · (intro w hSw; obtain ⟨_, _, q1, q2, _⟩ := hSw; go_simp; try with_reducible rfl)
  try simp only [Act.put, List.setIfInBounds_toArray, List.set_cons_zero, List.set_cons_succ]
  refine wpAnyH_take (i := 24) (oi := { dst := some 71, op := Op.move (Operand.tmp 70), type := 4, pos := "disk.go:49", after := #[{ on := 23, ground := Ground.data }, { on := 21, ground := Ground.chain }], guard := none }) (v := ?_) rfl (by kernel_rfl) (by kernel_rfl) (by kernel_rfl) (fun _ _ _ h => h) (Or.inl ⟨by rfl, ?_⟩) hH ?_
  rotate_left
  · (intro w hSw; obtain ⟨_, _, q1, q2, _⟩ := hSw; go_simp; try with_reducible rfl)
  try simp only [Act.put, List.setIfInBounds_toArray, List.set_cons_zero, List.set_cons_succ]
  refine wpAnyH_take (i := 25) (oi := { dst := some 72, op := Op.move (Operand.tmp 8), type := 30, pos := "disk.go:49", after := #[{ on := 24, ground := Ground.guard }], guard := some (24, true) }) (v := ?_) rfl (by kernel_rfl) (by kernel_rfl) (by kernel_rfl) (fun _ _ _ h => h) (Or.inl ⟨by rfl, ?_⟩) hH ?_
  rotate_left
  · (intro w hSw; obtain ⟨_, _, q1, q2, _⟩ := hSw; go_simp; try with_reducible rfl)
  try simp only [Act.put, List.setIfInBounds_toArray, List.set_cons_zero, List.set_cons_succ]
  refine wpAnyH_take (i := 26) (oi := { dst := some 73, op := Op.convert 30 9 (Operand.tmp 72), type := 9, pos := "disk.go:49", after := #[{ on := 25, ground := Ground.data }, { on := 24, ground := Ground.guard }], guard := some (24, true) }) (v := ?_) rfl (by kernel_rfl) (by kernel_rfl) (by kernel_rfl) (fun _ _ _ h => h) (Or.inl ⟨by rfl, ?_⟩) hH ?_
  rotate_left
  · (intro w hSw; obtain ⟨_, _, q1, q2, _⟩ := hSw; go_simp; try with_reducible rfl)
  try simp only [Act.put, List.setIfInBounds_toArray, List.set_cons_zero, List.set_cons_succ]
  refine wpAnyH_ready (rs := [27]) (by kernel_rfl) (by simp) ?_
  refine AllReadyH.cons (o := { dst := some 74, op := Op.call { callee := Callee.value (Operand.func 18), args := #[Operand.const (Value.int IntKind.u8 121)], argTypes := #[5] }, type := 30, pos := "disk.go:49", after := #[{ on := 24, ground := Ground.chain }, { on := 24, ground := Ground.guard }], guard := some (24, true) }) rfl (fun K hK => ?_) AllReadyH.nil
  go_simp
  refine (HY.out _).mono ?_
  rintro e w20 ⟨u20, rfl, hm20, hb20⟩
  have hs20 := run_str (P := Try.prog) hm20.isB 30 9 5 Try.underlying30 Try.underlying5 Try.underlying9
  have hH20 := sh_keep hH hb20
  clear hm20 hb20 hH
  go_wp2_with fail
  refine hK.out _ _ hH20 (fun hH => ?_)
  clear hH20
  clear hK K
  try simp only [Act.put, List.setIfInBounds_toArray, List.set_cons_zero, List.set_cons_succ]
  refine wpAnyH_ready (rs := [28]) (by kernel_rfl) (by simp) ?_
  refine AllReadyH.cons (o := { dst := some 75, op := Op.convert 30 9 (Operand.tmp 74), type := 9, pos := "disk.go:49", after := #[{ on := 27, ground := Ground.data }, { on := 24, ground := Ground.guard }], guard := some (24, true) }) rfl (fun K hK => ?_) AllReadyH.nil
  go_simp
  refine hK.out _ _ hH (fun _ => ?_)
  clear hK K
  try simp only [Act.put, List.setIfInBounds_toArray, List.set_cons_zero, List.set_cons_succ]
  refine wpAnyH_take (i := 29) (oi := { dst := some 76, op := Op.binOp BinOp.eql 9 (Operand.tmp 73) (Operand.tmp 75) 9, type := 4, pos := "disk.go:49", after := #[{ on := 26, ground := Ground.data }, { on := 28, ground := Ground.data }, { on := 24, ground := Ground.guard }], guard := some (24, true) }) (v := ?_) rfl (by kernel_rfl) (by kernel_rfl) (by kernel_rfl) (fun _ _ _ h => h) (Or.inl ⟨by rfl, ?_⟩) hH ?_
  rotate_left
  · (intro w hSw; obtain ⟨_, _, q1, q2, _⟩ := hSw; go_simp; try with_reducible rfl)
  try simp only [Act.put, List.setIfInBounds_toArray, List.set_cons_zero, List.set_cons_succ]
  refine wpAnyH_take (i := 30) (oi := { dst := some 77, op := Op.pick (Operand.tmp 71) (Operand.tmp 76) (Operand.const (Value.bool false)), type := 4, pos := "disk.go:49", after := #[{ on := 24, ground := Ground.data }, { on := 29, ground := Ground.data }], guard := none }) (v := ?_) rfl (by kernel_rfl) (by kernel_rfl) (by kernel_rfl) (fun _ _ _ h => h) (Or.inl ⟨by rfl, ?_⟩) hH ?_
  rotate_left
  · (intro w hSw; obtain ⟨_, _, q1, q2, _⟩ := hSw; go_simp; try with_reducible rfl)
  try simp only [Act.put, List.setIfInBounds_toArray, List.set_cons_zero, List.set_cons_succ]
  refine wpAnyH_take (i := 31) (oi := { dst := some 78, op := Op.move (Operand.tmp 77), type := 4, pos := "disk.go:49", after := #[{ on := 30, ground := Ground.data }, { on := 27, ground := Ground.chain }], guard := none }) (v := ?_) rfl (by kernel_rfl) (by kernel_rfl) (by kernel_rfl) (fun _ _ _ h => h) (Or.inl ⟨by rfl, ?_⟩) hH ?_
  rotate_left
  · (intro w hSw; obtain ⟨_, _, q1, q2, _⟩ := hSw; go_simp; try with_reducible rfl)
  try simp only [Act.put, List.setIfInBounds_toArray, List.set_cons_zero, List.set_cons_succ]
  refine wpAnyH_take (i := 32) (oi := { dst := some 79, op := Op.move (Operand.tmp 9), type := 31, pos := "disk.go:49", after := #[{ on := 31, ground := Ground.guard }], guard := some (31, true) }) (v := ?_) rfl (by kernel_rfl) (by kernel_rfl) (by kernel_rfl) (fun _ _ _ h => h) (Or.inl ⟨by rfl, ?_⟩) hH ?_
  rotate_left
  · (intro w hSw; obtain ⟨_, _, q1, q2, _⟩ := hSw; go_simp; try with_reducible rfl)
  try simp only [Act.put, List.setIfInBounds_toArray, List.set_cons_zero, List.set_cons_succ]
  refine wpAnyH_take (i := 33) (oi := { dst := some 80, op := Op.binOp BinOp.eql 31 (Operand.tmp 79) (Operand.const (Value.int IntKind.i64 0)) 31, type := 4, pos := "disk.go:49", after := #[{ on := 32, ground := Ground.data }, { on := 31, ground := Ground.guard }], guard := some (31, true) }) (v := ?_) rfl (by kernel_rfl) (by kernel_rfl) (by kernel_rfl) (fun _ _ _ h => h) (Or.inl ⟨by rfl, ?_⟩) hH ?_
  rotate_left
  · (intro w hSw; obtain ⟨_, _, q1, q2, _⟩ := hSw; go_simp; try with_reducible rfl)
  try simp only [Act.put, List.setIfInBounds_toArray, List.set_cons_zero, List.set_cons_succ]
  refine wpAnyH_take (i := 34) (oi := { dst := some 81, op := Op.pick (Operand.tmp 78) (Operand.tmp 80) (Operand.const (Value.bool false)), type := 4, pos := "disk.go:49", after := #[{ on := 31, ground := Ground.data }, { on := 33, ground := Ground.data }], guard := none }) (v := ?_) rfl (by kernel_rfl) (by kernel_rfl) (by kernel_rfl) (fun _ _ _ h => h) (Or.inl ⟨by rfl, ?_⟩) hH ?_
  rotate_left
  · (intro w hSw; obtain ⟨_, _, q1, q2, _⟩ := hSw; go_simp; try with_reducible rfl)
  try simp only [Act.put, List.setIfInBounds_toArray, List.set_cons_zero, List.set_cons_succ]
  refine wpAnyH_take (i := 35) (oi := { dst := some 82, op := Op.move (Operand.tmp 81), type := 4, pos := "disk.go:49", after := #[{ on := 34, ground := Ground.data }, { on := 31, ground := Ground.chain }], guard := none }) (v := ?_) rfl (by kernel_rfl) (by kernel_rfl) (by kernel_rfl) (fun _ _ _ h => h) (Or.inl ⟨by rfl, ?_⟩) hH ?_
  rotate_left
  · (intro w hSw; obtain ⟨_, _, q1, q2, _⟩ := hSw; go_simp; try with_reducible rfl)
  try simp only [Act.put, List.setIfInBounds_toArray, List.set_cons_zero, List.set_cons_succ]
  refine wpAnyH_take (i := 36) (oi := { dst := some 83, op := Op.move (Operand.tmp 10), type := 30, pos := "disk.go:49", after := #[{ on := 35, ground := Ground.guard }], guard := some (35, true) }) (v := ?_) rfl (by kernel_rfl) (by kernel_rfl) (by kernel_rfl) (fun _ _ _ h => h) (Or.inl ⟨by rfl, ?_⟩) hH ?_
  rotate_left
  · (intro w hSw; obtain ⟨_, _, q1, q2, _⟩ := hSw; go_simp; try with_reducible rfl)
  try simp only [Act.put, List.setIfInBounds_toArray, List.set_cons_zero, List.set_cons_succ]
  refine wpAnyH_take (i := 37) (oi := { dst := some 84, op := Op.convert 30 9 (Operand.tmp 83), type := 9, pos := "disk.go:49", after := #[{ on := 36, ground := Ground.data }, { on := 35, ground := Ground.guard }], guard := some (35, true) }) (v := ?_) rfl (by kernel_rfl) (by kernel_rfl) (by kernel_rfl) (fun _ _ _ h => h) (Or.inl ⟨by rfl, ?_⟩) hH ?_
  rotate_left
  · (intro w hSw; obtain ⟨_, _, q1, q2, _⟩ := hSw; go_simp; try with_reducible rfl)
  try simp only [Act.put, List.setIfInBounds_toArray, List.set_cons_zero, List.set_cons_succ]
  refine wpAnyH_ready (rs := [38]) (by kernel_rfl) (by simp) ?_
  refine AllReadyH.cons (o := { dst := some 85, op := Op.call { callee := Callee.value (Operand.func 18), args := #[Operand.const (Value.int IntKind.u8 120)], argTypes := #[5] }, type := 30, pos := "disk.go:49", after := #[{ on := 35, ground := Ground.chain }, { on := 35, ground := Ground.guard }], guard := some (35, true) }) rfl (fun K hK => ?_) AllReadyH.nil
  go_simp
  refine (HX.out _).mono ?_
  rintro e w21 ⟨u21, rfl, hm21, hb21⟩
  have hs21 := run_str (P := Try.prog) hm21.isB 30 9 5 Try.underlying30 Try.underlying5 Try.underlying9
  have hH21 := sh_keep hH hb21
  clear hm21 hb21 hH
  go_wp2_with fail
  refine hK.out _ _ hH21 (fun hH => ?_)
  clear hH21
  clear hK K
  try simp only [Act.put, List.setIfInBounds_toArray, List.set_cons_zero, List.set_cons_succ]
  refine wpAnyH_ready (rs := [39]) (by kernel_rfl) (by simp) ?_
  refine AllReadyH.cons (o := { dst := some 86, op := Op.convert 30 9 (Operand.tmp 85), type := 9, pos := "disk.go:49", after := #[{ on := 38, ground := Ground.data }, { on := 35, ground := Ground.guard }], guard := some (35, true) }) rfl (fun K hK => ?_) AllReadyH.nil
  go_simp
  refine hK.out _ _ hH (fun _ => ?_)
  clear hK K
  try simp only [Act.put, List.setIfInBounds_toArray, List.set_cons_zero, List.set_cons_succ]
  refine wpAnyH_take (i := 40) (oi := { dst := some 87, op := Op.binOp BinOp.eql 9 (Operand.tmp 84) (Operand.tmp 86) 9, type := 4, pos := "disk.go:49", after := #[{ on := 37, ground := Ground.data }, { on := 39, ground := Ground.data }, { on := 35, ground := Ground.guard }], guard := some (35, true) }) (v := ?_) rfl (by kernel_rfl) (by kernel_rfl) (by kernel_rfl) (fun _ _ _ h => h) (Or.inl ⟨by rfl, ?_⟩) hH ?_
  rotate_left
  · (intro w hSw; obtain ⟨_, _, q1, q2, _⟩ := hSw; go_simp; try with_reducible rfl)
  try simp only [Act.put, List.setIfInBounds_toArray, List.set_cons_zero, List.set_cons_succ]
  refine wpAnyH_take (i := 41) (oi := { dst := some 88, op := Op.pick (Operand.tmp 82) (Operand.tmp 87) (Operand.const (Value.bool false)), type := 4, pos := "disk.go:49", after := #[{ on := 35, ground := Ground.data }, { on := 40, ground := Ground.data }], guard := none }) (v := ?_) rfl (by kernel_rfl) (by kernel_rfl) (by kernel_rfl) (fun _ _ _ h => h) (Or.inl ⟨by rfl, ?_⟩) hH ?_
  rotate_left
  · (intro w hSw; obtain ⟨_, _, q1, q2, _⟩ := hSw; go_simp; try with_reducible rfl)
  try simp only [Act.put, List.setIfInBounds_toArray, List.set_cons_zero, List.set_cons_succ]
  refine wpAnyH_take (i := 42) (oi := { dst := some 89, op := Op.move (Operand.tmp 88), type := 4, pos := "disk.go:49", after := #[{ on := 41, ground := Ground.data }, { on := 38, ground := Ground.chain }], guard := none }) (v := ?_) rfl (by kernel_rfl) (by kernel_rfl) (by kernel_rfl) (fun _ _ _ h => h) (Or.inl ⟨by rfl, ?_⟩) hH ?_
  rotate_left
  · (intro w hSw; obtain ⟨_, _, q1, q2, _⟩ := hSw; go_simp; try with_reducible rfl)
  try simp only [Act.put, List.setIfInBounds_toArray, List.set_cons_zero, List.set_cons_succ]
  refine wpAnyH_take (i := 43) (oi := { dst := some 90, op := Op.move (Operand.tmp 11), type := 31, pos := "disk.go:49", after := #[{ on := 42, ground := Ground.guard }], guard := some (42, true) }) (v := ?_) rfl (by kernel_rfl) (by kernel_rfl) (by kernel_rfl) (fun _ _ _ h => h) (Or.inl ⟨by rfl, ?_⟩) hH ?_
  rotate_left
  · (intro w hSw; obtain ⟨_, _, q1, q2, _⟩ := hSw; go_simp; try with_reducible rfl)
  try simp only [Act.put, List.setIfInBounds_toArray, List.set_cons_zero, List.set_cons_succ]
  refine wpAnyH_take (i := 44) (oi := { dst := some 91, op := Op.binOp BinOp.eql 31 (Operand.tmp 90) (Operand.const (Value.int IntKind.i64 0)) 31, type := 4, pos := "disk.go:49", after := #[{ on := 43, ground := Ground.data }, { on := 42, ground := Ground.guard }], guard := some (42, true) }) (v := ?_) rfl (by kernel_rfl) (by kernel_rfl) (by kernel_rfl) (fun _ _ _ h => h) (Or.inl ⟨by rfl, ?_⟩) hH ?_
  rotate_left
  · (intro w hSw; obtain ⟨_, _, q1, q2, _⟩ := hSw; go_simp; try with_reducible rfl)
  try simp only [Act.put, List.setIfInBounds_toArray, List.set_cons_zero, List.set_cons_succ]
  refine wpAnyH_take (i := 45) (oi := { dst := some 92, op := Op.pick (Operand.tmp 89) (Operand.tmp 91) (Operand.const (Value.bool false)), type := 4, pos := "disk.go:49", after := #[{ on := 42, ground := Ground.data }, { on := 44, ground := Ground.data }], guard := none }) (v := ?_) rfl (by kernel_rfl) (by kernel_rfl) (by kernel_rfl) (fun _ _ _ h => h) (Or.inl ⟨by rfl, ?_⟩) hH ?_
  rotate_left
  · (intro w hSw; obtain ⟨_, _, q1, q2, _⟩ := hSw; go_simp; try with_reducible rfl)
  try simp only [Act.put, List.setIfInBounds_toArray, List.set_cons_zero, List.set_cons_succ]
  refine wpAnyH_take (i := 46) (oi := { dst := some 93, op := Op.move (Operand.tmp 92), type := 4, pos := "disk.go:49", after := #[{ on := 45, ground := Ground.data }, { on := 42, ground := Ground.chain }], guard := none }) (v := ?_) rfl (by kernel_rfl) (by kernel_rfl) (by kernel_rfl) (fun _ _ _ h => h) (Or.inl ⟨by rfl, ?_⟩) hH ?_
  rotate_left
  · (intro w hSw; obtain ⟨_, _, q1, q2, _⟩ := hSw; go_simp; try with_reducible rfl)
  try simp only [Act.put, List.setIfInBounds_toArray, List.set_cons_zero, List.set_cons_succ]
  refine wpAnyH_take (i := 47) (oi := { dst := some 94, op := Op.move (Operand.tmp 7), type := 25, pos := "disk.go:49", after := #[{ on := 46, ground := Ground.guard }], guard := some (46, true) }) (v := ?_) rfl (by kernel_rfl) (by kernel_rfl) (by kernel_rfl) (fun _ _ _ h => h) (Or.inl ⟨by rfl, ?_⟩) hH ?_
  rotate_left
  · (intro w hSw; obtain ⟨_, _, q1, q2, _⟩ := hSw; go_simp; try with_reducible rfl)
  try simp only [Act.put, List.setIfInBounds_toArray, List.set_cons_zero, List.set_cons_succ]
  refine wpAnyH_ready (rs := [48]) (by kernel_rfl) (by simp) ?_
  refine AllReadyH.cons (o := { dst := some 95, op := Op.call { callee := Callee.value (Operand.func 10), args := #[Operand.tmp 94], argTypes := #[25] }, type := 3, pos := "disk.go:49", after := #[{ on := 47, ground := Ground.data }, { on := 46, ground := Ground.chain }, { on := 46, ground := Ground.guard }], guard := some (46, true) }) rfl (fun K hK => ?_) AllReadyH.nil
  go_simp
  refine (loose_any _ Fx (D4.crash [0]) hH.2.1).mono ?_
  rintro e w' ⟨rfl, rfl⟩
  rw [E9.out]
  go_wp2_with fail
  refine hK.out _ _ hH (fun _ => ?_)
  clear hK K
  try simp only [Act.put, List.setIfInBounds_toArray, List.set_cons_zero, List.set_cons_succ]
  refine wpAnyH_take (i := 49) (oi := { dst := some 96, op := Op.binOp BinOp.eql 3 (Operand.tmp 95) (Operand.const (Value.int IntKind.i64 0)) 3, type := 4, pos := "disk.go:49", after := #[{ on := 48, ground := Ground.data }, { on := 46, ground := Ground.guard }], guard := some (46, true) }) (v := ?_) rfl (by kernel_rfl) (by kernel_rfl) (by kernel_rfl) (fun _ _ _ h => h) (Or.inl ⟨by rfl, ?_⟩) hH ?_
  rotate_left
  · (intro w hSw; obtain ⟨_, _, q1, q2, _⟩ := hSw; go_simp; try with_reducible rfl)
  try simp only [Act.put, List.setIfInBounds_toArray, List.set_cons_zero, List.set_cons_succ]
  refine wpAnyH_take (i := 50) (oi := { dst := some 97, op := Op.pick (Operand.tmp 93) (Operand.tmp 96) (Operand.const (Value.bool false)), type := 4, pos := "disk.go:49", after := #[{ on := 46, ground := Ground.data }, { on := 49, ground := Ground.data }], guard := none }) (v := ?_) rfl (by kernel_rfl) (by kernel_rfl) (by kernel_rfl) (fun _ _ _ h => h) (Or.inl ⟨by rfl, ?_⟩) hH ?_
  rotate_left
  · (intro w hSw; obtain ⟨_, _, q1, q2, _⟩ := hSw; go_simp; try with_reducible rfl)
  try simp only [Act.put, List.setIfInBounds_toArray, List.set_cons_zero, List.set_cons_succ]
  refine wpAnyH_take (i := 51) (oi := { dst := some 0, op := Op.assign (Operand.tmp 97), type := 4, pos := "disk.go:49", after := #[{ on := 50, ground := Ground.data }, { on := 48, ground := Ground.chain }, { on := 0, ground := Ground.phase }, { on := 1, ground := Ground.phase }, { on := 2, ground := Ground.phase }, { on := 3, ground := Ground.phase }, { on := 4, ground := Ground.phase }, { on := 5, ground := Ground.phase }, { on := 6, ground := Ground.phase }, { on := 7, ground := Ground.phase }, { on := 8, ground := Ground.phase }, { on := 9, ground := Ground.phase }, { on := 10, ground := Ground.phase }, { on := 11, ground := Ground.phase }, { on := 12, ground := Ground.phase }, { on := 13, ground := Ground.phase }, { on := 14, ground := Ground.phase }, { on := 15, ground := Ground.phase }, { on := 16, ground := Ground.phase }, { on := 17, ground := Ground.phase }, { on := 18, ground := Ground.phase }, { on := 19, ground := Ground.phase }, { on := 20, ground := Ground.phase }, { on := 21, ground := Ground.phase }, { on := 22, ground := Ground.phase }, { on := 23, ground := Ground.phase }, { on := 24, ground := Ground.phase }, { on := 25, ground := Ground.phase }, { on := 26, ground := Ground.phase }, { on := 27, ground := Ground.phase }, { on := 28, ground := Ground.phase }, { on := 29, ground := Ground.phase }, { on := 30, ground := Ground.phase }, { on := 31, ground := Ground.phase }, { on := 32, ground := Ground.phase }, { on := 33, ground := Ground.phase }, { on := 34, ground := Ground.phase }, { on := 35, ground := Ground.phase }, { on := 36, ground := Ground.phase }, { on := 37, ground := Ground.phase }, { on := 38, ground := Ground.phase }, { on := 39, ground := Ground.phase }, { on := 40, ground := Ground.phase }, { on := 41, ground := Ground.phase }, { on := 42, ground := Ground.phase }, { on := 43, ground := Ground.phase }, { on := 44, ground := Ground.phase }, { on := 45, ground := Ground.phase }, { on := 46, ground := Ground.phase }, { on := 47, ground := Ground.phase }, { on := 48, ground := Ground.phase }, { on := 49, ground := Ground.phase }, { on := 50, ground := Ground.phase }], guard := none }) (v := ?_) rfl (by kernel_rfl) (by kernel_rfl) (by kernel_rfl) (fun _ _ _ h => h) (Or.inl ⟨by rfl, ?_⟩) hH ?_
  rotate_left
  · (intro w hSw; obtain ⟨_, _, q1, q2, _⟩ := hSw; go_simp; try with_reducible rfl)
  try simp only [Act.put, List.setIfInBounds_toArray, List.set_cons_zero, List.set_cons_succ]
  refine wpAnyH_done (by kernel_rfl) ?_ _
  refine NoPanic.normal ?_
  go_wp2_with fail
  go_ret
  exact ⟨rfl, hH.2.2.2.2.2.2⟩
end Go.Proofs.Ytncoclbmnhbgbaa
