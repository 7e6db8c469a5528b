/- The walk of WirePuts: it answers true. -/
import Derived.Test.YteeenihhehmmoaaDoorAhead
import Derived.Test.YteeenihhehmmoaaDoorPutText
import Derived.Test.YteeenihhehmmoaaDoorKeyTextRef
import Derived.Deep.RegionHeld3
set_option linter.unusedVariables false
set_option linter.unusedSimpArgs false
namespace Go.Proofs.YteeenihhehmmoaaDoor
open Go.RowKit

/-- what is held through the last statement: what the four rows bear -/
abbrev PutsHeld (P : Program) (ts ss : TypeId) (u3 u4 u5 u6 : Value) (l3 l4 l5 l6 : List UInt8) (B : Nat) (w0 w : World) : Prop :=
  (convert ts ss u3).run P w = .ok (.string ⟨l3.toArray⟩) w ∧ (convert ts ss u4).run P w = .ok (.string ⟨l4.toArray⟩) w ∧
  (convert ts ss u5).run P w = .ok (.string ⟨l5.toArray⟩) w ∧ (convert ts ss u6).run P w = .ok (.string ⟨l6.toArray⟩) w ∧
  IsB w u3 l3 ∧ IsB w u4 l4 ∧ IsB w u5 l5 ∧ IsB w u6 l6 ∧ Below B w0 w
theorem puts_keep {u3 u4 u5 u6 : Value} {l3 l4 l5 l6 : List UInt8} {w0 w w' : World} (h : PutsHeld Tryd.prog 24 9 u3 u4 u5 u6 l3 l4 l5 l6 w0.heap.size w0 w) (hb : Below w.heap.size w w') :
    PutsHeld Tryd.prog 24 9 u3 u4 u5 u6 l3 l4 l5 l6 w0.heap.size w0 w' := by
  obtain ⟨_, _, _, _, h3, h4, h5, h6, hB⟩ := h
  have hc : ∀ (w : World) (v : Value) (l : List UInt8), IsB w v l → (convert 24 9 v).run Tryd.prog w = .ok (.string ⟨l.toArray⟩) w := fun w v l h =>
    run_str (P := Tryd.prog) h 24 9 5 Tryd.underlying24 Tryd.underlying5 Tryd.underlying9
  have k3 := h3.below hb
  have k4 := h4.below hb
  have k5 := h5.below hb
  have k6 := h6.below hb
  exact ⟨hc _ _ _ k3, hc _ _ _ k4, hc _ _ _ k5, hc _ _ _ k6, k3, k4, k5, k6, hB.trans (hb.mono hB.size)⟩
theorem puts_end {u3 u4 u5 u6 : Value} {l3 l4 l5 l6 : List UInt8} {w0 w : World} (h : PutsHeld Tryd.prog 24 9 u3 u4 u5 u6 l3 l4 l5 l6 w0.heap.size w0 w) : Below w0.heap.size w0 w := h.2.2.2.2.2.2.2.2

set_option maxRecDepth 100000 in
set_option maxHeartbeats 20000000 in
theorem lawPuts_walk (v : Value) (l : List UInt8) (n : Int) (s : ByteArray) (w : World) (hv : IsB w v l) (hl : l.length ≤ 4194304) (hs : s.size ≤ 4194304)
    (h1 : -9223372036854775808 ≤ n) (h2 : n ≤ 9223372036854775807) (hn : Nib w) :
    Calls Tryd.prog 6 #[v, .int .i64 n, .string s] w (Ends (.bool true) w.heap.size w) := by
  have hc : ∀ (w : World) (v : Value) (l : List UInt8), IsB w v l → (convert 24 9 v).run Tryd.prog w = .ok (.string ⟨l.toArray⟩) w := fun w v l h =>
    run_str (P := Tryd.prog) h 24 9 5 Tryd.underlying24 Tryd.underlying5 Tryd.underlying9
  have Hc := Lib.hid hc
  clear hc
  have HR1 := Lib.hid (fun W => refInt_any n W h1 h2)
  have HR2 := Lib.hid (fun W => refText_any s W (by omega))
  have HR3 := Lib.hid (fun W => refKeyInt_any n W h1 h2)
  have HR4 := Lib.hid (fun W => refKeyText_any s W (by omega))
  go_enter Tryd.func6, Tryd.ntmps6
  go_wp2_with fail
  refine (shown_any w hn).mono ?_
  rintro e w1 ⟨rfl, hb1⟩
  have hsz1 := hb1.size
  have hv1 := hv.below hb1
  go_wp2_with fail
  refine (ahead_any v l w1 hv1 hl).mono ?_
  rintro e w2 ⟨g, rfl, hb2, hf2⟩
  have hb2' := hb1.trans (hb2.mono hsz1)
  have hsz2 := hb2'.size
  have hx2 := hf2.pre l.length (by simp)
  rw [List.take_left] at hx2
  clear hb1 hb2 hsz1 hv1
  go_wp2_with fail
  refine (putInt_any _ l n w2 hx2 (by omega) h1 h2).mono ?_
  rintro e w3 ⟨u3, rfl, hm3, hb3⟩
  have hb3' := hb2'.trans (hb3.mono hsz2)
  have hsz3 := hb3'.size
  have hx3 := hx2.below hb3
  have hf3 := hf2.below hb3
  have hi3 := hm3.isB
  clear hb2' hb3 hsz2 hx2 hf2 hm3
  go_wp2_with fail
  refine (putText_any _ l s w3 hx3 (by omega)).mono ?_
  rintro e w4 ⟨u4, rfl, hm4, hb4⟩
  have hb4' := hb3'.trans (hb4.mono hsz3)
  have hsz4 := hb4'.size
  have hx4 := hx3.below hb4
  have hf4 := hf3.below hb4
  have hj3 := hi3.below hb4
  have hi4 := hm4.isB
  clear hb3' hb4 hsz3 hx3 hf3 hm4 hi3
  go_wp2_with fail
  refine (keyInt_any _ l n w4 hx4 (by omega) h1 h2).mono ?_
  rintro e w5 ⟨u5, rfl, hm5, hb5⟩
  have hb5' := hb4'.trans (hb5.mono hsz4)
  have hsz5 := hb5'.size
  have hx5 := hx4.below hb5
  have hf5 := hf4.below hb5
  have hk3 := hj3.below hb5
  have hk4 := hi4.below hb5
  have hi5 := hm5.isB
  clear hb4' hb5 hsz4 hx4 hf4 hm5 hj3 hi4
  go_wp2_with fail
  refine (keyText_any _ l s w5 hx5 (by omega)).mono ?_
  rintro e w6 ⟨u6, rfl, hm6, hb6⟩
  have hb6' := hb5'.trans (hb6.mono hsz5)
  have hsz6 := hb6'.size
  have hf6 := hf5.below hb6
  have hl3 := hk3.below hb6
  have hl4 := hk4.below hb6
  have hl5 := hi5.below hb6
  have hl6 := hm6.isB
  have hv6 := hv.below hb6'
  clear hb5' hb6 hsz5 hx5 hf5 hm6 hk3 hk4 hi5
  go_wp2_with fail
  refine (stays_any g v l w6 hv6 hl hf6).mono ?_
  rintro e w7 ⟨rfl, rfl⟩
  have hs6 := Hc.out _ _ _ hv6
  clear hf6
  have hia := intB_len n h1 h2
  have hti := intB_len (s.size : Int) (by omega) (by omega)
  have hls : s.data.toList.length = s.size := by rw [Array.length_toList]; rfl
  have hAm : (intB n).length ≤ 10 := by omega
  have hBm : (textB s.data.toList).length ≤ 4194314 := by rw [textB, hls, List.length_append]; omega
  have hCm : (keyI n).length ≤ 8 := by rw [keyI, beN_len]; omega
  have hDm : (keyT s.data.toList).length ≤ 8388612 := by
    have := (esc_len s.data.toList).2
    rw [keyT, List.length_append]; simp; omega
  clear hia hti hls
  generalize intB n = A at *
  generalize textB s.data.toList = B at *
  generalize keyI n = C at *
  generalize keyT s.data.toList = D at *
  have hS0 : PutsHeld Tryd.prog 24 9 u3 u4 u5 u6 (l ++ A) (l ++ B) (l ++ C) (l ++ D) w.heap.size w w7.drew :=
    ⟨Hc.out _ _ _ hl3.drew, Hc.out _ _ _ hl4.drew, Hc.out _ _ _ hl5.drew, Hc.out _ _ _ hl6.drew, hl3.drew, hl4.drew, hl5.drew, hl6.drew, hb6'.drew⟩
  have HS0 := Lib.hid hS0
  clear hS0 hl3 hl4 hl5 hl6 hv hv6 hb6' hsz6
  have hnA : ¬ (9223372036854775807 < l.length + A.length) := by omega
  have hnB : ¬ (9223372036854775807 < l.length + B.length) := by omega
  have hnC : ¬ (9223372036854775807 < l.length + C.length) := by omega
  have hnD : ¬ (9223372036854775807 < l.length + D.length) := by omega
  have hcat : ∀ X Y : List UInt8, (ByteArray.mk X.toArray ++ ByteArray.mk Y.toArray) = ByteArray.mk (X ++ Y).toArray := fun X Y => by
    apply ByteArray.ext
    simp
  have hcA := hcat l A
  have hcB := hcat l B
  have hcC := hcat l C
  have hcD := hcat l D
  have hbe : ∀ X Y : List UInt8, (X ++ Y == (ByteArray.mk X.toArray ++ ByteArray.mk Y.toArray).toList) = true := fun X Y => by
    rw [hcat, ByteArray.toList_eq]
    simp
  have heA := hbe l A
  have heB := hbe l B
  have heC := hbe l C
  have heD := hbe l D
  clear hcat hbe
  go_upto_region 9 with fail
  clear hs6
  refine wp_region_noPanic ?_
  refine wp_region_held_drew (S := fun w' => PutsHeld Tryd.prog 24 9 u3 u4 u5 u6 (l ++ A) (l ++ B) (l ++ C) (l ++ D) w.heap.size w w') (by kernel_rfl) HS0.out (fun hH => ?_)
  refine wpAnyH_take (i := 0) (oi := { dst := some 35, op := Op.move (Operand.tmp 7), type := 4, pos := "wire.go:49", after := #[], guard := none }) (v := ?_) rfl (by kernel_rfl) (by kernel_rfl) (by kernel_rfl) (fun _ _ _ h => h) (Or.inl ⟨by rfl, ?_⟩) hH ?_
  rotate_left
  · (intro w hSw; obtain ⟨q3, q4, q5, q6, _⟩ := hSw; go_simp; try with_reducible rfl)
  try simp only [Act.put, List.setIfInBounds_toArray, List.set_cons_zero, List.set_cons_succ]
  refine wpAnyH_take (i := 1) (oi := { dst := some 36, op := Op.move (Operand.tmp 35), type := 4, pos := "wire.go:49", after := #[{ on := 0, ground := Ground.data }], guard := none }) (v := ?_) rfl (by kernel_rfl) (by kernel_rfl) (by kernel_rfl) (fun _ _ _ h => h) (Or.inl ⟨by rfl, ?_⟩) hH ?_
  rotate_left
  · (intro w hSw; obtain ⟨q3, q4, q5, q6, _⟩ := hSw; go_simp; try with_reducible rfl)
  try simp only [Act.put, List.setIfInBounds_toArray, List.set_cons_zero, List.set_cons_succ]
  refine wpAnyH_take (i := 2) (oi := { dst := some 37, op := Op.move (Operand.tmp 13), type := 4, pos := "wire.go:49", after := #[{ on := 1, ground := Ground.guard }], guard := some (1, true) }) (v := ?_) rfl (by kernel_rfl) (by kernel_rfl) (by kernel_rfl) (fun _ _ _ h => h) (Or.inl ⟨by rfl, ?_⟩) hH ?_
  rotate_left
  · (intro w hSw; obtain ⟨q3, q4, q5, q6, _⟩ := hSw; go_simp; try with_reducible rfl)
  try simp only [Act.put, List.setIfInBounds_toArray, List.set_cons_zero, List.set_cons_succ]
  refine wpAnyH_take (i := 3) (oi := { dst := some 38, op := Op.pick (Operand.tmp 36) (Operand.tmp 37) (Operand.const (Value.bool false)), type := 4, pos := "wire.go:49", after := #[{ on := 1, ground := Ground.data }, { on := 2, ground := Ground.data }], guard := none }) (v := ?_) rfl (by kernel_rfl) (by kernel_rfl) (by kernel_rfl) (fun _ _ _ h => h) (Or.inl ⟨by rfl, ?_⟩) hH ?_
  rotate_left
  · (intro w hSw; obtain ⟨q3, q4, q5, q6, _⟩ := hSw; go_simp; try with_reducible rfl)
  try simp only [Act.put, List.setIfInBounds_toArray, List.set_cons_zero, List.set_cons_succ]
  refine wpAnyH_take (i := 4) (oi := { dst := some 39, op := Op.move (Operand.tmp 38), type := 4, pos := "wire.go:49", after := #[{ on := 3, ground := Ground.data }, { on := 1, ground := Ground.chain }], guard := none }) (v := ?_) rfl (by kernel_rfl) (by kernel_rfl) (by kernel_rfl) (fun _ _ _ h => h) (Or.inl ⟨by rfl, ?_⟩) hH ?_
  rotate_left
  · (intro w hSw; obtain ⟨q3, q4, q5, q6, _⟩ := hSw; go_simp; try with_reducible rfl)
  try simp only [Act.put, List.setIfInBounds_toArray, List.set_cons_zero, List.set_cons_succ]
  refine wpAnyH_take (i := 5) (oi := { dst := some 40, op := Op.move (Operand.tmp 9), type := 24, pos := "wire.go:49", after := #[{ on := 4, ground := Ground.guard }], guard := some (4, true) }) (v := ?_) rfl (by kernel_rfl) (by kernel_rfl) (by kernel_rfl) (fun _ _ _ h => h) (Or.inl ⟨by rfl, ?_⟩) hH ?_
  rotate_left
  · (intro w hSw; obtain ⟨q3, q4, q5, q6, _⟩ := hSw; go_simp; try with_reducible rfl)
  try simp only [Act.put, List.setIfInBounds_toArray, List.set_cons_zero, List.set_cons_succ]
  refine wpAnyH_take (i := 6) (oi := { dst := some 41, op := Op.convert 24 9 (Operand.tmp 40), type := 9, pos := "wire.go:49", after := #[{ on := 5, ground := Ground.data }, { on := 4, ground := Ground.guard }], guard := some (4, true) }) (v := ?_) rfl (by kernel_rfl) (by kernel_rfl) (by kernel_rfl) (fun _ _ _ h => h) (Or.inl ⟨by rfl, ?_⟩) hH ?_
  rotate_left
  · (intro w hSw; obtain ⟨q3, q4, q5, q6, _⟩ := hSw; go_simp; try with_reducible rfl)
  try simp only [Act.put, List.setIfInBounds_toArray, List.set_cons_zero, List.set_cons_succ]
  refine wpAnyH_take (i := 7) (oi := { dst := some 42, op := Op.move (Operand.tmp 14), type := 9, pos := "wire.go:49", after := #[{ on := 4, ground := Ground.guard }], guard := some (4, true) }) (v := ?_) rfl (by kernel_rfl) (by kernel_rfl) (by kernel_rfl) (fun _ _ _ h => h) (Or.inl ⟨by rfl, ?_⟩) hH ?_
  rotate_left
  · (intro w hSw; obtain ⟨q3, q4, q5, q6, _⟩ := hSw; go_simp; try with_reducible rfl)
  try simp only [Act.put, List.setIfInBounds_toArray, List.set_cons_zero, List.set_cons_succ]
  refine wpAnyH_take (i := 8) (oi := { dst := some 43, op := Op.move (Operand.tmp 1), type := 2, pos := "wire.go:49", after := #[{ on := 4, ground := Ground.guard }], guard := some (4, true) }) (v := ?_) rfl (by kernel_rfl) (by kernel_rfl) (by kernel_rfl) (fun _ _ _ h => h) (Or.inl ⟨by rfl, ?_⟩) hH ?_
  rotate_left
  · (intro w hSw; obtain ⟨q3, q4, q5, q6, _⟩ := hSw; go_simp; try with_reducible rfl)
  try simp only [Act.put, List.setIfInBounds_toArray, List.set_cons_zero, List.set_cons_succ]
  refine wpAnyH_ready (rs := [9]) (by kernel_rfl) (by simp) ?_
  refine AllReadyH.cons (o := { dst := some 44, op := Op.call { callee := Callee.value (Operand.func 28), args := #[Operand.tmp 43], argTypes := #[2] }, type := 24, pos := "wire.go:49", after := #[{ on := 8, ground := Ground.data }, { on := 4, ground := Ground.chain }, { on := 4, ground := Ground.guard }], guard := some (4, true) }) rfl (fun K hK => ?_) AllReadyH.nil
  go_simp
  refine (HR1.out _).mono ?_
  rintro e w8 ⟨u8, rfl, hm8, hb8⟩
  have hs8 := Hc.out _ _ _ hm8.isB
  have hH8 := puts_keep (by assumption) hb8
  clear hm8 hb8 hH
  go_wp2_with fail
  refine hK.out _ _ hH8 (fun hH => ?_)
  clear hH8
  clear hK K
  try simp only [Act.put, List.setIfInBounds_toArray, List.set_cons_zero, List.set_cons_succ]
  refine wpAnyH_ready (rs := [10]) (by kernel_rfl) (by simp) ?_
  refine AllReadyH.cons (o := { dst := some 45, op := Op.convert 24 9 (Operand.tmp 44), type := 9, pos := "wire.go:49", after := #[{ on := 9, ground := Ground.data }, { on := 4, ground := Ground.guard }], guard := some (4, true) }) rfl (fun K hK => ?_) AllReadyH.nil
  go_simp
  refine hK.out _ _ hH (fun _ => ?_)
  clear hK K
  try simp only [Act.put, List.setIfInBounds_toArray, List.set_cons_zero, List.set_cons_succ]
  refine wpAnyH_take (i := 11) (oi := { dst := some 46, op := Op.binOp BinOp.add 9 (Operand.tmp 42) (Operand.tmp 45) 9, type := 9, pos := "wire.go:49", after := #[{ on := 7, ground := Ground.data }, { on := 10, ground := Ground.data }, { on := 4, ground := Ground.guard }], guard := some (4, true) }) (v := ?_) rfl (by kernel_rfl) (by kernel_rfl) (by kernel_rfl) (fun _ _ _ h => h) (Or.inl ⟨by rfl, ?_⟩) hH ?_
  rotate_left
  · (intro w hSw; obtain ⟨q3, q4, q5, q6, _⟩ := hSw; go_simp; try with_reducible rfl)
  try simp only [Act.put, List.setIfInBounds_toArray, List.set_cons_zero, List.set_cons_succ]
  refine wpAnyH_take (i := 12) (oi := { dst := some 47, op := Op.binOp BinOp.eql 9 (Operand.tmp 41) (Operand.tmp 46) 9, type := 4, pos := "wire.go:49", after := #[{ on := 6, ground := Ground.data }, { on := 11, ground := Ground.data }, { on := 4, ground := Ground.guard }], guard := some (4, true) }) (v := ?_) rfl (by kernel_rfl) (by kernel_rfl) (by kernel_rfl) (fun _ _ _ h => h) (Or.inl ⟨by rfl, ?_⟩) hH ?_
  rotate_left
  · (intro w hSw; obtain ⟨q3, q4, q5, q6, _⟩ := hSw; go_simp; try with_reducible rfl)
  try simp only [Act.put, List.setIfInBounds_toArray, List.set_cons_zero, List.set_cons_succ]
  refine wpAnyH_take (i := 13) (oi := { dst := some 48, op := Op.pick (Operand.tmp 39) (Operand.tmp 47) (Operand.const (Value.bool false)), type := 4, pos := "wire.go:49", after := #[{ on := 4, ground := Ground.data }, { on := 12, ground := Ground.data }], guard := none }) (v := ?_) rfl (by kernel_rfl) (by kernel_rfl) (by kernel_rfl) (fun _ _ _ h => h) (Or.inl ⟨by rfl, ?_⟩) hH ?_
  rotate_left
  · (intro w hSw; obtain ⟨q3, q4, q5, q6, _⟩ := hSw; go_simp; try with_reducible rfl)
  try simp only [Act.put, List.setIfInBounds_toArray, List.set_cons_zero, List.set_cons_succ]
  refine wpAnyH_take (i := 14) (oi := { dst := some 49, op := Op.move (Operand.tmp 48), type := 4, pos := "wire.go:49", after := #[{ on := 13, ground := Ground.data }, { on := 9, ground := Ground.chain }], guard := none }) (v := ?_) rfl (by kernel_rfl) (by kernel_rfl) (by kernel_rfl) (fun _ _ _ h => h) (Or.inl ⟨by rfl, ?_⟩) hH ?_
  rotate_left
  · (intro w hSw; obtain ⟨q3, q4, q5, q6, _⟩ := hSw; go_simp; try with_reducible rfl)
  try simp only [Act.put, List.setIfInBounds_toArray, List.set_cons_zero, List.set_cons_succ]
  refine wpAnyH_take (i := 15) (oi := { dst := some 50, op := Op.move (Operand.tmp 10), type := 24, pos := "wire.go:49", after := #[{ on := 14, ground := Ground.guard }], guard := some (14, true) }) (v := ?_) rfl (by kernel_rfl) (by kernel_rfl) (by kernel_rfl) (fun _ _ _ h => h) (Or.inl ⟨by rfl, ?_⟩) hH ?_
  rotate_left
  · (intro w hSw; obtain ⟨q3, q4, q5, q6, _⟩ := hSw; go_simp; try with_reducible rfl)
  try simp only [Act.put, List.setIfInBounds_toArray, List.set_cons_zero, List.set_cons_succ]
  refine wpAnyH_take (i := 16) (oi := { dst := some 51, op := Op.convert 24 9 (Operand.tmp 50), type := 9, pos := "wire.go:49", after := #[{ on := 15, ground := Ground.data }, { on := 14, ground := Ground.guard }], guard := some (14, true) }) (v := ?_) rfl (by kernel_rfl) (by kernel_rfl) (by kernel_rfl) (fun _ _ _ h => h) (Or.inl ⟨by rfl, ?_⟩) hH ?_
  rotate_left
  · (intro w hSw; obtain ⟨q3, q4, q5, q6, _⟩ := hSw; go_simp; try with_reducible rfl)
  try simp only [Act.put, List.setIfInBounds_toArray, List.set_cons_zero, List.set_cons_succ]
  refine wpAnyH_take (i := 17) (oi := { dst := some 52, op := Op.move (Operand.tmp 14), type := 9, pos := "wire.go:49", after := #[{ on := 14, ground := Ground.guard }], guard := some (14, true) }) (v := ?_) rfl (by kernel_rfl) (by kernel_rfl) (by kernel_rfl) (fun _ _ _ h => h) (Or.inl ⟨by rfl, ?_⟩) hH ?_
  rotate_left
  · (intro w hSw; obtain ⟨q3, q4, q5, q6, _⟩ := hSw; go_simp; try with_reducible rfl)
  try simp only [Act.put, List.setIfInBounds_toArray, List.set_cons_zero, List.set_cons_succ]
  refine wpAnyH_take (i := 18) (oi := { dst := some 53, op := Op.move (Operand.tmp 2), type := 9, pos := "wire.go:49", after := #[{ on := 14, ground := Ground.guard }], guard := some (14, true) }) (v := ?_) rfl (by kernel_rfl) (by kernel_rfl) (by kernel_rfl) (fun _ _ _ h => h) (Or.inl ⟨by rfl, ?_⟩) hH ?_
  rotate_left
  · (intro w hSw; obtain ⟨q3, q4, q5, q6, _⟩ := hSw; go_simp; try with_reducible rfl)
  try simp only [Act.put, List.setIfInBounds_toArray, List.set_cons_zero, List.set_cons_succ]
  refine wpAnyH_ready (rs := [19]) (by kernel_rfl) (by simp) ?_
  refine AllReadyH.cons (o := { dst := some 54, op := Op.call { callee := Callee.value (Operand.func 29), args := #[Operand.tmp 53], argTypes := #[9] }, type := 24, pos := "wire.go:49", after := #[{ on := 18, ground := Ground.data }, { on := 14, ground := Ground.chain }, { on := 14, ground := Ground.guard }], guard := some (14, true) }) rfl (fun K hK => ?_) AllReadyH.nil
  go_simp
  refine (HR2.out _).mono ?_
  rintro e w9 ⟨u9, rfl, hm9, hb9⟩
  have hs9 := Hc.out _ _ _ hm9.isB
  have hH9 := puts_keep (by assumption) hb9
  clear hm9 hb9 hH
  go_wp2_with fail
  refine hK.out _ _ hH9 (fun hH => ?_)
  clear hH9
  clear hK K
  try simp only [Act.put, List.setIfInBounds_toArray, List.set_cons_zero, List.set_cons_succ]
  refine wpAnyH_ready (rs := [20]) (by kernel_rfl) (by simp) ?_
  refine AllReadyH.cons (o := { dst := some 55, op := Op.convert 24 9 (Operand.tmp 54), type := 9, pos := "wire.go:49", after := #[{ on := 19, ground := Ground.data }, { on := 14, ground := Ground.guard }], guard := some (14, true) }) rfl (fun K hK => ?_) AllReadyH.nil
  go_simp
  refine hK.out _ _ hH (fun _ => ?_)
  clear hK K
  try simp only [Act.put, List.setIfInBounds_toArray, List.set_cons_zero, List.set_cons_succ]
  refine wpAnyH_take (i := 21) (oi := { dst := some 56, op := Op.binOp BinOp.add 9 (Operand.tmp 52) (Operand.tmp 55) 9, type := 9, pos := "wire.go:49", after := #[{ on := 17, ground := Ground.data }, { on := 20, ground := Ground.data }, { on := 14, ground := Ground.guard }], guard := some (14, true) }) (v := ?_) rfl (by kernel_rfl) (by kernel_rfl) (by kernel_rfl) (fun _ _ _ h => h) (Or.inl ⟨by rfl, ?_⟩) hH ?_
  rotate_left
  · (intro w hSw; obtain ⟨q3, q4, q5, q6, _⟩ := hSw; go_simp; try with_reducible rfl)
  try simp only [Act.put, List.setIfInBounds_toArray, List.set_cons_zero, List.set_cons_succ]
  refine wpAnyH_take (i := 22) (oi := { dst := some 57, op := Op.binOp BinOp.eql 9 (Operand.tmp 51) (Operand.tmp 56) 9, type := 4, pos := "wire.go:49", after := #[{ on := 16, ground := Ground.data }, { on := 21, ground := Ground.data }, { on := 14, ground := Ground.guard }], guard := some (14, true) }) (v := ?_) rfl (by kernel_rfl) (by kernel_rfl) (by kernel_rfl) (fun _ _ _ h => h) (Or.inl ⟨by rfl, ?_⟩) hH ?_
  rotate_left
  · (intro w hSw; obtain ⟨q3, q4, q5, q6, _⟩ := hSw; go_simp; try with_reducible rfl)
  try simp only [Act.put, List.setIfInBounds_toArray, List.set_cons_zero, List.set_cons_succ]
  refine wpAnyH_take (i := 23) (oi := { dst := some 58, op := Op.pick (Operand.tmp 49) (Operand.tmp 57) (Operand.const (Value.bool false)), type := 4, pos := "wire.go:49", after := #[{ on := 14, ground := Ground.data }, { on := 22, ground := Ground.data }], guard := none }) (v := ?_) rfl (by kernel_rfl) (by kernel_rfl) (by kernel_rfl) (fun _ _ _ h => h) (Or.inl ⟨by rfl, ?_⟩) hH ?_
  rotate_left
  · (intro w hSw; obtain ⟨q3, q4, q5, q6, _⟩ := hSw; go_simp; try with_reducible rfl)
  try simp only [Act.put, List.setIfInBounds_toArray, List.set_cons_zero, List.set_cons_succ]
  refine wpAnyH_take (i := 24) (oi := { dst := some 59, op := Op.move (Operand.tmp 58), type := 4, pos := "wire.go:49", after := #[{ on := 23, ground := Ground.data }, { on := 19, ground := Ground.chain }], guard := none }) (v := ?_) rfl (by kernel_rfl) (by kernel_rfl) (by kernel_rfl) (fun _ _ _ h => h) (Or.inl ⟨by rfl, ?_⟩) hH ?_
  rotate_left
  · (intro w hSw; obtain ⟨q3, q4, q5, q6, _⟩ := hSw; go_simp; try with_reducible rfl)
  try simp only [Act.put, List.setIfInBounds_toArray, List.set_cons_zero, List.set_cons_succ]
  refine wpAnyH_take (i := 25) (oi := { dst := some 60, op := Op.move (Operand.tmp 11), type := 24, pos := "wire.go:49", after := #[{ on := 24, ground := Ground.guard }], guard := some (24, true) }) (v := ?_) rfl (by kernel_rfl) (by kernel_rfl) (by kernel_rfl) (fun _ _ _ h => h) (Or.inl ⟨by rfl, ?_⟩) hH ?_
  rotate_left
  · (intro w hSw; obtain ⟨q3, q4, q5, q6, _⟩ := hSw; go_simp; try with_reducible rfl)
  try simp only [Act.put, List.setIfInBounds_toArray, List.set_cons_zero, List.set_cons_succ]
  refine wpAnyH_take (i := 26) (oi := { dst := some 61, op := Op.convert 24 9 (Operand.tmp 60), type := 9, pos := "wire.go:49", after := #[{ on := 25, ground := Ground.data }, { on := 24, ground := Ground.guard }], guard := some (24, true) }) (v := ?_) rfl (by kernel_rfl) (by kernel_rfl) (by kernel_rfl) (fun _ _ _ h => h) (Or.inl ⟨by rfl, ?_⟩) hH ?_
  rotate_left
  · (intro w hSw; obtain ⟨q3, q4, q5, q6, _⟩ := hSw; go_simp; try with_reducible rfl)
  try simp only [Act.put, List.setIfInBounds_toArray, List.set_cons_zero, List.set_cons_succ]
  refine wpAnyH_take (i := 27) (oi := { dst := some 62, op := Op.move (Operand.tmp 14), type := 9, pos := "wire.go:49", after := #[{ on := 24, ground := Ground.guard }], guard := some (24, true) }) (v := ?_) rfl (by kernel_rfl) (by kernel_rfl) (by kernel_rfl) (fun _ _ _ h => h) (Or.inl ⟨by rfl, ?_⟩) hH ?_
  rotate_left
  · (intro w hSw; obtain ⟨q3, q4, q5, q6, _⟩ := hSw; go_simp; try with_reducible rfl)
  try simp only [Act.put, List.setIfInBounds_toArray, List.set_cons_zero, List.set_cons_succ]
  refine wpAnyH_take (i := 28) (oi := { dst := some 63, op := Op.move (Operand.tmp 1), type := 2, pos := "wire.go:49", after := #[{ on := 24, ground := Ground.guard }], guard := some (24, true) }) (v := ?_) rfl (by kernel_rfl) (by kernel_rfl) (by kernel_rfl) (fun _ _ _ h => h) (Or.inl ⟨by rfl, ?_⟩) hH ?_
  rotate_left
  · (intro w hSw; obtain ⟨q3, q4, q5, q6, _⟩ := hSw; go_simp; try with_reducible rfl)
  try simp only [Act.put, List.setIfInBounds_toArray, List.set_cons_zero, List.set_cons_succ]
  refine wpAnyH_ready (rs := [29]) (by kernel_rfl) (by simp) ?_
  refine AllReadyH.cons (o := { dst := some 64, op := Op.call { callee := Callee.value (Operand.func 30), args := #[Operand.tmp 63], argTypes := #[2] }, type := 24, pos := "wire.go:49", after := #[{ on := 28, ground := Ground.data }, { on := 24, ground := Ground.chain }, { on := 24, ground := Ground.guard }], guard := some (24, true) }) rfl (fun K hK => ?_) AllReadyH.nil
  go_simp
  refine (HR3.out _).mono ?_
  rintro e w10 ⟨u10, rfl, hm10, hb10⟩
  have hs10 := Hc.out _ _ _ hm10.isB
  have hH10 := puts_keep (by assumption) hb10
  clear hm10 hb10 hH
  go_wp2_with fail
  refine hK.out _ _ hH10 (fun hH => ?_)
  clear hH10
  clear hK K
  try simp only [Act.put, List.setIfInBounds_toArray, List.set_cons_zero, List.set_cons_succ]
  refine wpAnyH_ready (rs := [30]) (by kernel_rfl) (by simp) ?_
  refine AllReadyH.cons (o := { dst := some 65, op := Op.convert 24 9 (Operand.tmp 64), type := 9, pos := "wire.go:49", after := #[{ on := 29, ground := Ground.data }, { on := 24, ground := Ground.guard }], guard := some (24, true) }) rfl (fun K hK => ?_) AllReadyH.nil
  go_simp
  refine hK.out _ _ hH (fun _ => ?_)
  clear hK K
  try simp only [Act.put, List.setIfInBounds_toArray, List.set_cons_zero, List.set_cons_succ]
  refine wpAnyH_take (i := 31) (oi := { dst := some 66, op := Op.binOp BinOp.add 9 (Operand.tmp 62) (Operand.tmp 65) 9, type := 9, pos := "wire.go:49", after := #[{ on := 27, ground := Ground.data }, { on := 30, ground := Ground.data }, { on := 24, ground := Ground.guard }], guard := some (24, true) }) (v := ?_) rfl (by kernel_rfl) (by kernel_rfl) (by kernel_rfl) (fun _ _ _ h => h) (Or.inl ⟨by rfl, ?_⟩) hH ?_
  rotate_left
  · (intro w hSw; obtain ⟨q3, q4, q5, q6, _⟩ := hSw; go_simp; try with_reducible rfl)
  try simp only [Act.put, List.setIfInBounds_toArray, List.set_cons_zero, List.set_cons_succ]
  refine wpAnyH_take (i := 32) (oi := { dst := some 67, op := Op.binOp BinOp.eql 9 (Operand.tmp 61) (Operand.tmp 66) 9, type := 4, pos := "wire.go:49", after := #[{ on := 26, ground := Ground.data }, { on := 31, ground := Ground.data }, { on := 24, ground := Ground.guard }], guard := some (24, true) }) (v := ?_) rfl (by kernel_rfl) (by kernel_rfl) (by kernel_rfl) (fun _ _ _ h => h) (Or.inl ⟨by rfl, ?_⟩) hH ?_
  rotate_left
  · (intro w hSw; obtain ⟨q3, q4, q5, q6, _⟩ := hSw; go_simp; try with_reducible rfl)
  try simp only [Act.put, List.setIfInBounds_toArray, List.set_cons_zero, List.set_cons_succ]
  refine wpAnyH_take (i := 33) (oi := { dst := some 68, op := Op.pick (Operand.tmp 59) (Operand.tmp 67) (Operand.const (Value.bool false)), type := 4, pos := "wire.go:49", after := #[{ on := 24, ground := Ground.data }, { on := 32, ground := Ground.data }], guard := none }) (v := ?_) rfl (by kernel_rfl) (by kernel_rfl) (by kernel_rfl) (fun _ _ _ h => h) (Or.inl ⟨by rfl, ?_⟩) hH ?_
  rotate_left
  · (intro w hSw; obtain ⟨q3, q4, q5, q6, _⟩ := hSw; go_simp; try with_reducible rfl)
  try simp only [Act.put, List.setIfInBounds_toArray, List.set_cons_zero, List.set_cons_succ]
  refine wpAnyH_take (i := 34) (oi := { dst := some 69, op := Op.move (Operand.tmp 68), type := 4, pos := "wire.go:49", after := #[{ on := 33, ground := Ground.data }, { on := 29, ground := Ground.chain }], guard := none }) (v := ?_) rfl (by kernel_rfl) (by kernel_rfl) (by kernel_rfl) (fun _ _ _ h => h) (Or.inl ⟨by rfl, ?_⟩) hH ?_
  rotate_left
  · (intro w hSw; obtain ⟨q3, q4, q5, q6, _⟩ := hSw; go_simp; try with_reducible rfl)
  try simp only [Act.put, List.setIfInBounds_toArray, List.set_cons_zero, List.set_cons_succ]
  refine wpAnyH_take (i := 35) (oi := { dst := some 70, op := Op.move (Operand.tmp 12), type := 24, pos := "wire.go:49", after := #[{ on := 34, ground := Ground.guard }], guard := some (34, true) }) (v := ?_) rfl (by kernel_rfl) (by kernel_rfl) (by kernel_rfl) (fun _ _ _ h => h) (Or.inl ⟨by rfl, ?_⟩) hH ?_
  rotate_left
  · (intro w hSw; obtain ⟨q3, q4, q5, q6, _⟩ := hSw; go_simp; try with_reducible rfl)
  try simp only [Act.put, List.setIfInBounds_toArray, List.set_cons_zero, List.set_cons_succ]
  refine wpAnyH_take (i := 36) (oi := { dst := some 71, op := Op.convert 24 9 (Operand.tmp 70), type := 9, pos := "wire.go:49", after := #[{ on := 35, ground := Ground.data }, { on := 34, ground := Ground.guard }], guard := some (34, true) }) (v := ?_) rfl (by kernel_rfl) (by kernel_rfl) (by kernel_rfl) (fun _ _ _ h => h) (Or.inl ⟨by rfl, ?_⟩) hH ?_
  rotate_left
  · (intro w hSw; obtain ⟨q3, q4, q5, q6, _⟩ := hSw; go_simp; try with_reducible rfl)
  try simp only [Act.put, List.setIfInBounds_toArray, List.set_cons_zero, List.set_cons_succ]
  refine wpAnyH_take (i := 37) (oi := { dst := some 72, op := Op.move (Operand.tmp 14), type := 9, pos := "wire.go:49", after := #[{ on := 34, ground := Ground.guard }], guard := some (34, true) }) (v := ?_) rfl (by kernel_rfl) (by kernel_rfl) (by kernel_rfl) (fun _ _ _ h => h) (Or.inl ⟨by rfl, ?_⟩) hH ?_
  rotate_left
  · (intro w hSw; obtain ⟨q3, q4, q5, q6, _⟩ := hSw; go_simp; try with_reducible rfl)
  try simp only [Act.put, List.setIfInBounds_toArray, List.set_cons_zero, List.set_cons_succ]
  refine wpAnyH_take (i := 38) (oi := { dst := some 73, op := Op.move (Operand.tmp 2), type := 9, pos := "wire.go:49", after := #[{ on := 34, ground := Ground.guard }], guard := some (34, true) }) (v := ?_) rfl (by kernel_rfl) (by kernel_rfl) (by kernel_rfl) (fun _ _ _ h => h) (Or.inl ⟨by rfl, ?_⟩) hH ?_
  rotate_left
  · (intro w hSw; obtain ⟨q3, q4, q5, q6, _⟩ := hSw; go_simp; try with_reducible rfl)
  try simp only [Act.put, List.setIfInBounds_toArray, List.set_cons_zero, List.set_cons_succ]
  refine wpAnyH_ready (rs := [39]) (by kernel_rfl) (by simp) ?_
  refine AllReadyH.cons (o := { dst := some 74, op := Op.call { callee := Callee.value (Operand.func 31), args := #[Operand.tmp 73], argTypes := #[9] }, type := 24, pos := "wire.go:49", after := #[{ on := 38, ground := Ground.data }, { on := 34, ground := Ground.chain }, { on := 34, ground := Ground.guard }], guard := some (34, true) }) rfl (fun K hK => ?_) AllReadyH.nil
  go_simp
  refine (HR4.out _).mono ?_
  rintro e w11 ⟨u11, rfl, hm11, hb11⟩
  have hs11 := Hc.out _ _ _ hm11.isB
  have hH11 := puts_keep (by assumption) hb11
  clear hm11 hb11 hH
  go_wp2_with fail
  refine hK.out _ _ hH11 (fun hH => ?_)
  clear hH11
  clear hK K
  try simp only [Act.put, List.setIfInBounds_toArray, List.set_cons_zero, List.set_cons_succ]
  refine wpAnyH_ready (rs := [40]) (by kernel_rfl) (by simp) ?_
  refine AllReadyH.cons (o := { dst := some 75, op := Op.convert 24 9 (Operand.tmp 74), type := 9, pos := "wire.go:49", after := #[{ on := 39, ground := Ground.data }, { on := 34, ground := Ground.guard }], guard := some (34, true) }) rfl (fun K hK => ?_) AllReadyH.nil
  go_simp
  refine hK.out _ _ hH (fun _ => ?_)
  clear hK K
  try simp only [Act.put, List.setIfInBounds_toArray, List.set_cons_zero, List.set_cons_succ]
  refine wpAnyH_take (i := 41) (oi := { dst := some 76, op := Op.binOp BinOp.add 9 (Operand.tmp 72) (Operand.tmp 75) 9, type := 9, pos := "wire.go:49", after := #[{ on := 37, ground := Ground.data }, { on := 40, ground := Ground.data }, { on := 34, ground := Ground.guard }], guard := some (34, true) }) (v := ?_) rfl (by kernel_rfl) (by kernel_rfl) (by kernel_rfl) (fun _ _ _ h => h) (Or.inl ⟨by rfl, ?_⟩) hH ?_
  rotate_left
  · (intro w hSw; obtain ⟨q3, q4, q5, q6, _⟩ := hSw; go_simp; try with_reducible rfl)
  try simp only [Act.put, List.setIfInBounds_toArray, List.set_cons_zero, List.set_cons_succ]
  refine wpAnyH_take (i := 42) (oi := { dst := some 77, op := Op.binOp BinOp.eql 9 (Operand.tmp 71) (Operand.tmp 76) 9, type := 4, pos := "wire.go:49", after := #[{ on := 36, ground := Ground.data }, { on := 41, ground := Ground.data }, { on := 34, ground := Ground.guard }], guard := some (34, true) }) (v := ?_) rfl (by kernel_rfl) (by kernel_rfl) (by kernel_rfl) (fun _ _ _ h => h) (Or.inl ⟨by rfl, ?_⟩) hH ?_
  rotate_left
  · (intro w hSw; obtain ⟨q3, q4, q5, q6, _⟩ := hSw; go_simp; try with_reducible rfl)
  try simp only [Act.put, List.setIfInBounds_toArray, List.set_cons_zero, List.set_cons_succ]
  refine wpAnyH_take (i := 43) (oi := { dst := some 78, op := Op.pick (Operand.tmp 69) (Operand.tmp 77) (Operand.const (Value.bool false)), type := 4, pos := "wire.go:49", after := #[{ on := 34, ground := Ground.data }, { on := 42, ground := Ground.data }], guard := none }) (v := ?_) rfl (by kernel_rfl) (by kernel_rfl) (by kernel_rfl) (fun _ _ _ h => h) (Or.inl ⟨by rfl, ?_⟩) hH ?_
  rotate_left
  · (intro w hSw; obtain ⟨q3, q4, q5, q6, _⟩ := hSw; go_simp; try with_reducible rfl)
  try simp only [Act.put, List.setIfInBounds_toArray, List.set_cons_zero, List.set_cons_succ]
  refine wpAnyH_take (i := 44) (oi := { dst := some 6, op := Op.assign (Operand.tmp 78), type := 4, pos := "wire.go:49", after := #[{ on := 43, ground := Ground.data }, { on := 39, ground := Ground.chain }, { on := 0, ground := Ground.phase }, { on := 1, ground := Ground.phase }, { on := 2, ground := Ground.phase }, { on := 3, ground := Ground.phase }, { on := 4, ground := Ground.phase }, { on := 5, ground := Ground.phase }, { on := 6, ground := Ground.phase }, { on := 7, ground := Ground.phase }, { on := 8, ground := Ground.phase }, { on := 9, ground := Ground.phase }, { on := 10, ground := Ground.phase }, { on := 11, ground := Ground.phase }, { on := 12, ground := Ground.phase }, { on := 13, ground := Ground.phase }, { on := 14, ground := Ground.phase }, { on := 15, ground := Ground.phase }, { on := 16, ground := Ground.phase }, { on := 17, ground := Ground.phase }, { on := 18, ground := Ground.phase }, { on := 19, ground := Ground.phase }, { on := 20, ground := Ground.phase }, { on := 21, ground := Ground.phase }, { on := 22, ground := Ground.phase }, { on := 23, ground := Ground.phase }, { on := 24, ground := Ground.phase }, { on := 25, ground := Ground.phase }, { on := 26, ground := Ground.phase }, { on := 27, ground := Ground.phase }, { on := 28, ground := Ground.phase }, { on := 29, ground := Ground.phase }, { on := 30, ground := Ground.phase }, { on := 31, ground := Ground.phase }, { on := 32, ground := Ground.phase }, { on := 33, ground := Ground.phase }, { on := 34, ground := Ground.phase }, { on := 35, ground := Ground.phase }, { on := 36, ground := Ground.phase }, { on := 37, ground := Ground.phase }, { on := 38, ground := Ground.phase }, { on := 39, ground := Ground.phase }, { on := 40, ground := Ground.phase }, { on := 41, ground := Ground.phase }, { on := 42, ground := Ground.phase }, { on := 43, ground := Ground.phase }], guard := none }) (v := ?_) rfl (by kernel_rfl) (by kernel_rfl) (by kernel_rfl) (fun _ _ _ h => h) (Or.inl ⟨by rfl, ?_⟩) hH ?_
  rotate_left
  · (intro w hSw; obtain ⟨q3, q4, q5, q6, _⟩ := hSw; go_simp; try with_reducible rfl)
  try simp only [Act.put, List.setIfInBounds_toArray, List.set_cons_zero, List.set_cons_succ]
  refine wpAnyH_done (by kernel_rfl) ?_ _
  refine NoPanic.normal ?_
  go_wp2_with fail
  go_ret
  exact ⟨rfl, puts_end hH⟩
end Go.Proofs.YteeenihhehmmoaaDoor
