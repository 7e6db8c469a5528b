/- The walk of WireBack: it answers true. -/
import Derived.Test.YteeenihhehmmoaaDoorBackLaw
import Derived.Test.YteeenihhehmmoaaDoorLawKeys
import Derived.Deep.RegionHeld3
set_option linter.unusedVariables false
set_option linter.unusedSimpArgs false
namespace Go.Proofs.YteeenihhehmmoaaDoor
open Go.RowKit

theorem back1 (n m : Int) (s t : List UInt8) (hs : s.length ≤ 4194304) (ht : t.length ≤ 4194304) (h1 : -9223372036854775808 ≤ n) (h2 : n ≤ 9223372036854775807) (h3 : -9223372036854775808 ≤ m) (h4 : m ≤ 9223372036854775807) :
    ∃ p1 p2 p3 : Nat, p1 ≤ 9000000 ∧ p2 ≤ 9000000 ∧ p3 ≤ 9000000 ∧ (intB n ++ textB s ++ intB m ++ textB t).length ≤ 9000000 ∧
      takeI (intB n ++ textB s ++ intB m ++ textB t) 0 = (n, (p1 : Int), true) ∧ takeT (intB n ++ textB s ++ intB m ++ textB t) p1 s.length = (s, (p2 : Int), true) ∧
      takeI (intB n ++ textB s ++ intB m ++ textB t) p2 = (m, (p3 : Int), true) ∧ takeT (intB n ++ textB s ++ intB m ++ textB t) p3 t.length = (t, ((intB n ++ textB s ++ intB m ++ textB t).length : Int), true) := by
  have hA := intB_len n h1 h2
  have hM := intB_len m h3 h4
  have hS : (textB s).length ≤ 4194314 := by
    have := intB_len (s.length : Int) (by omega) (by omega)
    rw [textB, List.length_append]; omega
  have hT : (textB t).length ≤ 4194314 := by
    have := intB_len (t.length : Int) (by omega) (by omega)
    rw [textB, List.length_append]; omega
  have e1 := takeI_at [] (textB s ++ (intB m ++ textB t)) n h1 h2
  have e2 := takeT_at (intB n) (intB m ++ textB t) s hs
  have e3 := takeI_at (intB n ++ textB s) (textB t) m h3 h4
  have e4 := takeT_at (intB n ++ textB s ++ intB m) [] t ht
  simp only [List.nil_append, List.append_nil, List.length_nil, ← List.append_assoc] at e1 e2 e3 e4
  generalize hX : intB n ++ textB s ++ intB m ++ textB t = X at *
  have hXl : X.length = (intB n).length + (textB s).length + (intB m).length + (textB t).length := by rw [← hX]; simp only [List.length_append]
  refine ⟨(intB n).length, (intB n ++ textB s).length, (intB n ++ textB s ++ intB m).length, by omega, by rw [List.length_append]; omega, by rw [List.length_append, List.length_append]; omega, by omega, ?_, ?_, ?_, ?_⟩
  · rw [show ((0 : Nat) : Int) = 0 from rfl] at e1
    rw [e1]; simp
  · rw [e2, List.length_append]; simp
  · rw [e3, List.length_append (bs := intB m)]; simp
  · rw [e4, hXl]
    simp only [Prod.mk.injEq, and_true, true_and, List.length_append]
    omega
theorem back2 (n : Int) (s t : List UInt8) (hs : s.length ≤ 4194304) (ht : t.length ≤ 4194304) (h1 : -9223372036854775808 ≤ n) (h2 : n ≤ 9223372036854775807) :
    ∃ p1 p2 : Nat, p1 ≤ 20000000 ∧ p2 ≤ 20000000 ∧ (keyT s ++ keyI n ++ keyT t).length ≤ 20000000 ∧
      takeKT (keyT s ++ keyI n ++ keyT t) 0 = (s, (p1 : Int), true) ∧ takeKI (keyT s ++ keyI n ++ keyT t) p1 = (n, (p2 : Int), true) ∧
      takeKT (keyT s ++ keyI n ++ keyT t) p2 = (t, ((keyT s ++ keyI n ++ keyT t).length : Int), true) := by
  have hI : (keyI n).length = 8 := by rw [keyI, beN_len]
  have hS : (keyT s).length ≤ 8388612 := by
    have := (esc_len s).2
    rw [keyT, List.length_append]; simp; omega
  have hT : (keyT t).length ≤ 8388612 := by
    have := (esc_len t).2
    rw [keyT, List.length_append]; simp; omega
  have e1 := takeKT_at [] (keyI n ++ keyT t) s
  have e2 := takeKI_at (keyT s) (keyT t) n h1 h2
  have e3 := takeKT_at (keyT s ++ keyI n) [] t
  simp only [List.nil_append, List.append_nil, List.length_nil, ← List.append_assoc] at e1 e2 e3
  generalize hX : keyT s ++ keyI n ++ keyT t = X at *
  have hXl : X.length = (keyT s).length + (keyI n).length + (keyT t).length := by rw [← hX]; simp only [List.length_append]
  refine ⟨(keyT s).length, (keyT s ++ keyI n).length, by omega, by rw [List.length_append]; omega, by omega, ?_, ?_, ?_⟩
  · rw [show ((0 : Nat) : Int) = 0 from rfl] at e1
    rw [e1]; simp
  · rw [e2, List.length_append]; simp
  · rw [e3, hXl]
    simp only [Prod.mk.injEq, and_true, true_and, List.length_append]
    omega

/-- what is held through a drawn statement: what the part of the row bears -/
abbrev BackHeld (P : Program) (ts ss : TypeId) (c : Value) (Z : List UInt8) (B : Nat) (w0 w : World) : Prop :=
  (convert ts ss c).run P w = .ok (.string ⟨Z.toArray⟩) w ∧ IsB w c Z ∧ Below B w0 w
theorem back_held {c : Value} {Z : List UInt8} {w0 w : World} (h : IsB w c Z) (hb : Below w0.heap.size w0 w) : BackHeld Tryd.prog 24 9 c Z w0.heap.size w0 w :=
  ⟨run_str (P := Tryd.prog) h 24 9 5 Tryd.underlying24 Tryd.underlying5 Tryd.underlying9, h, hb⟩
theorem back_keep {c : Value} {Z : List UInt8} {w0 w w' : World} (h : BackHeld Tryd.prog 24 9 c Z w0.heap.size w0 w) (hb : Below w.heap.size w w') : BackHeld Tryd.prog 24 9 c Z w0.heap.size w0 w' :=
  back_held (h.2.1.below hb) (h.2.2.trans (hb.mono h.2.2.size))

set_option maxRecDepth 100000 in
set_option maxHeartbeats 8000000 in
theorem lawBack_walk (n : Int) (s : ByteArray) (m : Int) (t : ByteArray) (v : Value) (l : List UInt8) (at_ : Int) (w : World) (hv : IsB w v l) (hl : l.length ≤ 4194304) (hs : s.size ≤ 4194304) (ht : t.size ≤ 4194304)
    (h1 : -9223372036854775808 ≤ n) (h2 : n ≤ 9223372036854775807) (h3 : -9223372036854775808 ≤ m) (h4 : m ≤ 9223372036854775807) (h5 : -9223372036854775808 ≤ at_) (h6 : at_ ≤ 9223372036854775807) (hn : Nib w) :
    Calls Tryd.prog 8 #[.int .i64 n, .string s, .int .i64 m, .string t, v, .int .i64 at_] w (Ends (.bool true) w.heap.size w) := by
  have hls : s.data.toList.length = s.size := by rw [Array.length_toList]; rfl
  have hlt : t.data.toList.length = t.size := by rw [Array.length_toList]; rfl
  obtain ⟨p1, p2, p3, hp1, hp2, hp3, hX, e1, e2, e3, e4⟩ := back1 n m s.data.toList t.data.toList (by omega) (by omega) h1 h2 h3 h4
  obtain ⟨q1, q2, hq1, hq2, hY, f1, f2, f3⟩ := back2 n s.data.toList t.data.toList (by omega) (by omega) h1 h2
  rw [hls] at e2
  rw [hlt] at e4
  have E1 := Lib.hid e1
  have E2 := Lib.hid e2
  have E3 := Lib.hid e3
  have E4 := Lib.hid e4
  have F1 := Lib.hid f1
  have F2 := Lib.hid f2
  have F3 := Lib.hid f3
  clear e1 e2 e3 e4 f1 f2 f3
  have hA := (intB_len n h1 h2).2
  have hM := (intB_len m h3 h4).2
  have hK8 : (keyI n).length = 8 := by rw [keyI, beN_len]
  have hXA : (intB n ++ textB s.data.toList).length ≤ 9000000 := by simp only [List.length_append] at hX ⊢; omega
  have hXB : (intB n ++ textB s.data.toList ++ intB m).length ≤ 9000000 := by simp only [List.length_append] at hX ⊢; omega
  have hYA : (keyT s.data.toList).length ≤ 20000000 := by simp only [List.length_append] at hY ⊢; omega
  have hYB : (keyT s.data.toList ++ keyI n).length ≤ 20000000 := by simp only [List.length_append] at hY ⊢; omega
  have hpi := fun W => putInt_any (.slice none 0 0) [] n W (IsB.nil W) (by simp) h1 h2
  have hkt := fun W => keyText_any (.slice none 0 0) [] s W (IsB.nil W) (by simp; omega)
  have hpt := fun W u hu => putText_any u (intB n) s W hu (by omega)
  have hpm := fun W u hu => putInt_any u (intB n ++ textB s.data.toList) m W hu (by omega) h3 h4
  have hpu := fun W u hu => putText_any u (intB n ++ textB s.data.toList ++ intB m) t W hu (by omega)
  have hki := fun W u hu => keyInt_any u (keyT s.data.toList) n W hu (by omega) h1 h2
  have hku := fun W u hu => keyText_any u (keyT s.data.toList ++ keyI n) t W hu (by omega)
  simp only [List.nil_append] at hpi hkt
  have HPI := Lib.hid hpi
  have HPT := Lib.hid hpt
  have HPM := Lib.hid hpm
  have HPU := Lib.hid hpu
  have HKT := Lib.hid hkt
  have HKI := Lib.hid hki
  have HKU := Lib.hid hku
  clear hpi hpt hpm hpu hkt hki hku hls hlt hXA hXB hYA hYB hA hM hK8
  generalize intB n ++ textB s.data.toList ++ intB m ++ textB t.data.toList = X at *
  generalize keyT s.data.toList ++ keyI n ++ keyT t.data.toList = Y at *
  go_enter Tryd.func8, Tryd.ntmps8
  go_wp2_with fail
  refine (shown_any w hn).mono ?_
  rintro e w1 ⟨rfl, hb1⟩
  have hsz1 := hb1.size
  go_wp2_with fail
  refine (HPI.out w1).mono ?_
  rintro e w2 ⟨u2, rfl, hm2, hb2⟩
  have hb2' := hb1.trans (hb2.mono hsz1)
  have hsz2 := hb2'.size
  clear hb1 hsz1 hb2
  go_wp2_with fail
  refine (HPT.out w2 _ hm2.isB).mono ?_
  rintro e w3 ⟨u3, rfl, hm3, hb3⟩
  have hb3' := hb2'.trans (hb3.mono hsz2)
  have hsz3 := hb3'.size
  clear hb2' hsz2 hb3 hm2
  go_wp2_with fail
  refine (HPM.out w3 _ hm3.isB).mono ?_
  rintro e w4 ⟨u4, rfl, hm4, hb4⟩
  have hb4' := hb3'.trans (hb4.mono hsz3)
  have hsz4 := hb4'.size
  clear hb3' hsz3 hb4 hm3
  go_wp2_with fail
  refine (HPU.out w4 _ hm4.isB).mono ?_
  rintro e w5 ⟨u5, rfl, hm5, hb5⟩
  have hb5' := hb4'.trans (hb5.mono hsz4)
  have hsz5 := hb5'.size
  have hx5 := hm5.isB
  clear hb4' hsz4 hb5 hm4 hm5
  obtain ⟨ax, cx, rfl, _, _, _, _⟩ := id hx5
  go_wp2_with fail
  refine (takeInt_any _ X 0 w5 hx5 (by omega) (by omega) (by omega)).mono ?_
  rintro e w6 ⟨rfl, rfl⟩
  rw [E1.out]
  unfold three
  go_wp2_with fail
  refine (takeText_any _ X p1 s.size w5 hx5 (by omega) (by omega) (by omega) (by omega) (by omega)).mono ?_
  rintro e w6 ⟨rfl, rfl⟩
  rw [E2.out]
  unfold threeT
  rw [show (ByteArray.mk s.data.toList.toArray) = s by simp]
  go_wp2_with fail
  refine (takeInt_any _ X p2 w5 hx5 (by omega) (by omega) (by omega)).mono ?_
  rintro e w6 ⟨rfl, rfl⟩
  rw [E3.out]
  unfold three
  go_wp2_with fail
  refine (takeText_any _ X p3 t.size w5 hx5 (by omega) (by omega) (by omega) (by omega) (by omega)).mono ?_
  rintro e w6 ⟨rfl, rfl⟩
  rw [E4.out]
  unfold threeT
  rw [show (ByteArray.mk t.data.toList.toArray) = t by simp]
  clear E1 E2 E3 E4 HPI HPT HPM HPU hx5
  go_wp2_with fail
  refine (HKT.out w5).mono ?_
  rintro e w6 ⟨u6, rfl, hm6, hb6⟩
  have hb6' := hb5'.trans (hb6.mono hsz5)
  have hsz6 := hb6'.size
  clear hb5' hsz5 hb6
  go_wp2_with fail
  refine (HKI.out w6 _ hm6.isB).mono ?_
  rintro e w7 ⟨u7, rfl, hm7, hb7⟩
  have hb7' := hb6'.trans (hb7.mono hsz6)
  have hsz7 := hb7'.size
  clear hb6' hsz6 hb7 hm6
  go_wp2_with fail
  refine (HKU.out w7 _ hm7.isB).mono ?_
  rintro e w8 ⟨u8, rfl, hm8, hb8⟩
  have hb8' := hb7'.trans (hb8.mono hsz7)
  have hsz8 := hb8'.size
  have hy8 := hm8.isB
  clear hb7' hsz7 hb8 hm7 hm8
  obtain ⟨ay, cy, rfl, _, _, _, _⟩ := id hy8
  go_wp2_with fail
  refine (takeKeyText_any _ Y 0 w8 hy8 (by omega) (by omega) (by omega)).mono ?_
  rintro e w9 ⟨rfl, hb9⟩
  have hy9 := hy8.below hb9
  have hb9' := hb8'.trans (hb9.mono hsz8)
  have hsz9 := hb9'.size
  clear hb8' hsz8 hb9 hy8
  rw [F1.out]
  unfold threeT
  rw [show (ByteArray.mk s.data.toList.toArray) = s by simp]
  go_wp2_with fail
  refine (takeKeyInt_any _ Y q1 w9 hy9 (by omega) (by omega) (by omega)).mono ?_
  rintro e w10 ⟨rfl, rfl⟩
  rw [F2.out]
  unfold three
  go_wp2_with fail
  refine (takeKeyText_any _ Y q2 w9 hy9 (by omega) (by omega) (by omega)).mono ?_
  rintro e w10 ⟨rfl, hb10⟩
  have hb10' := hb9'.trans (hb10.mono hsz9)
  have hsz10 := hb10'.size
  clear hb9' hsz9 hb10 hy9
  rw [F3.out]
  unfold threeT
  rw [show (ByteArray.mk t.data.toList.toArray) = t by simp]
  clear F1 F2 F3 HKT HKI HKU
  go_wp2_with fail
  obtain ⟨av, cv, rfl, hlc, hmx, hnil, hcc⟩ := id hv
  clear hcc
  refine (takeInt_any _ l at_ w10 (hv.below hb10') (by omega) h5 h6).mono ?_
  rintro e w11 ⟨rfl, rfl⟩
  have hBk := intB_back l at_
  have hbd := takeI_bounds l at_
  generalize takeI l at_ = r at *
  obtain ⟨u, p, ok⟩ := r
  unfold three
  dsimp only at hBk hbd ⊢
  have HBk := Lib.hid hBk
  have Hbd := Lib.hid hbd
  clear hBk hbd
  go_upto_region 16 with fail
  go_cut [201] (fun b wx => b = .bool false ∧ Below w.heap.size w wx)
  case first =>
    cases ok with
    | false =>
      refine wp_region_noPanic ?_
      refine wp_region_held_drew (S := (fun w' => Below w.heap.size w w')) (by kernel_rfl) hb10'.drew (fun hH => ?_)
      refine wpAnyH_take (i := 0) (oi := { dst := some 190, op := Op.move (Operand.tmp 39), type := 4, pos := "wire.go:107", after := #[], guard := none }) (v := ?_) rfl (by kernel_rfl) (by kernel_rfl) (by kernel_rfl) (fun _ _ _ h => h) (Or.inl ⟨by rfl, ?_⟩) hH ?_
      rotate_left
      · (intro w hSw; clear hSw; go_simp; try with_reducible rfl)
      try simp only [Act.put, List.setIfInBounds_toArray, List.set_cons_zero, List.set_cons_succ]
      refine wpAnyH_take (i := 1) (oi := { dst := some 191, op := Op.move (Operand.tmp 190), type := 4, pos := "wire.go:107", after := #[{ on := 0, ground := Ground.data }], guard := none }) (v := ?_) rfl (by kernel_rfl) (by kernel_rfl) (by kernel_rfl) (fun _ _ _ h => h) (Or.inl ⟨by rfl, ?_⟩) hH ?_
      rotate_left
      · (intro w hSw; clear hSw; go_simp; try with_reducible rfl)
      try simp only [Act.put, List.setIfInBounds_toArray, List.set_cons_zero, List.set_cons_succ]
      refine wpAnyH_take (i := 2) (oi := { dst := some 192, op := Op.move (Operand.tmp 37), type := 2, pos := "wire.go:107", after := #[{ on := 1, ground := Ground.guard }], guard := some (1, true) }) (v := undef) rfl (by kernel_rfl) (by kernel_rfl) (by kernel_rfl) (fun _ _ _ h => h) (Or.inr ⟨by rfl, rfl⟩) hH ?_
      try simp only [Act.put, List.setIfInBounds_toArray, List.set_cons_zero, List.set_cons_succ]
      refine wpAnyH_take (i := 5) (oi := { dst := some 195, op := Op.move (Operand.tmp 4), type := 24, pos := "wire.go:107", after := #[{ on := 1, ground := Ground.guard }], guard := some (1, true) }) (v := undef) rfl (by kernel_rfl) (by kernel_rfl) (by kernel_rfl) (fun _ _ _ h => h) (Or.inr ⟨by rfl, rfl⟩) hH ?_
      try simp only [Act.put, List.setIfInBounds_toArray, List.set_cons_zero, List.set_cons_succ]
      refine wpAnyH_take (i := 6) (oi := { dst := some 196, op := Op.move (Operand.tmp 5), type := 3, pos := "wire.go:107", after := #[{ on := 1, ground := Ground.guard }], guard := some (1, true) }) (v := undef) rfl (by kernel_rfl) (by kernel_rfl) (by kernel_rfl) (fun _ _ _ h => h) (Or.inr ⟨by rfl, rfl⟩) hH ?_
      try simp only [Act.put, List.setIfInBounds_toArray, List.set_cons_zero, List.set_cons_succ]
      refine wpAnyH_take (i := 7) (oi := { dst := some 197, op := Op.move (Operand.tmp 38), type := 3, pos := "wire.go:107", after := #[{ on := 1, ground := Ground.guard }], guard := some (1, true) }) (v := undef) rfl (by kernel_rfl) (by kernel_rfl) (by kernel_rfl) (fun _ _ _ h => h) (Or.inr ⟨by rfl, rfl⟩) hH ?_
      try simp only [Act.put, List.setIfInBounds_toArray, List.set_cons_zero, List.set_cons_succ]
      refine wpAnyH_take (i := 8) (oi := { dst := some 198, op := Op.slice 24 (Operand.tmp 195) (some (Operand.tmp 196)) (some (Operand.tmp 197)) none, type := 24, pos := "wire.go:107", after := #[{ on := 5, ground := Ground.data }, { on := 6, ground := Ground.data }, { on := 7, ground := Ground.data }, { on := 1, ground := Ground.guard }], guard := some (1, true) }) (v := undef) rfl (by kernel_rfl) (by kernel_rfl) (by kernel_rfl) (fun _ _ _ h => h) (Or.inr ⟨by rfl, rfl⟩) hH ?_
      try simp only [Act.put, List.setIfInBounds_toArray, List.set_cons_zero, List.set_cons_succ]
      refine wpAnyH_take (i := 9) (oi := { dst := some 199, op := Op.convert 24 9 (Operand.tmp 198), type := 9, pos := "wire.go:107", after := #[{ on := 8, ground := Ground.data }, { on := 1, ground := Ground.guard }], guard := some (1, true) }) (v := undef) rfl (by kernel_rfl) (by kernel_rfl) (by kernel_rfl) (fun _ _ _ h => h) (Or.inr ⟨by rfl, rfl⟩) hH ?_
      try simp only [Act.put, List.setIfInBounds_toArray, List.set_cons_zero, List.set_cons_succ]
      refine wpAnyH_ready (rs := [3]) (by kernel_rfl) (by simp) ?_
      refine AllReadyH.cons (o := { dst := some 193, op := Op.call { callee := Callee.value (Operand.func 25), args := #[Operand.const (Value.slice none 0 0), Operand.tmp 192], argTypes := #[24, 2] }, type := 24, pos := "wire.go:107", after := #[{ on := 2, ground := Ground.data }, { on := 1, ground := Ground.chain }, { on := 1, ground := Ground.guard }], guard := some (1, true) }) rfl (fun K hK => ?_) AllReadyH.nil
      go_simp
      refine hK.out _ _ hH (fun _ => ?_)
      clear hK K
      try simp only [Act.put, List.setIfInBounds_toArray, List.set_cons_zero, List.set_cons_succ]
      refine wpAnyH_take (i := 4) (oi := { dst := some 194, op := Op.convert 24 9 (Operand.tmp 193), type := 9, pos := "wire.go:107", after := #[{ on := 3, ground := Ground.data }, { on := 1, ground := Ground.guard }], guard := some (1, true) }) (v := undef) rfl (by kernel_rfl) (by kernel_rfl) (by kernel_rfl) (fun _ _ _ h => h) (Or.inr ⟨by rfl, rfl⟩) hH ?_
      try simp only [Act.put, List.setIfInBounds_toArray, List.set_cons_zero, List.set_cons_succ]
      refine wpAnyH_take (i := 10) (oi := { dst := some 200, op := Op.binOp BinOp.neq 9 (Operand.tmp 194) (Operand.tmp 199) 9, type := 4, pos := "wire.go:107", after := #[{ on := 4, ground := Ground.data }, { on := 9, ground := Ground.data }, { on := 1, ground := Ground.guard }], guard := some (1, true) }) (v := undef) rfl (by kernel_rfl) (by kernel_rfl) (by kernel_rfl) (fun _ _ _ h => h) (Or.inr ⟨by rfl, rfl⟩) hH ?_
      try simp only [Act.put, List.setIfInBounds_toArray, List.set_cons_zero, List.set_cons_succ]
      refine wpAnyH_take (i := 11) (oi := { dst := some 201, op := Op.pick (Operand.tmp 191) (Operand.tmp 200) (Operand.const (Value.bool false)), type := 4, pos := "wire.go:107", after := #[{ on := 1, ground := Ground.data }, { on := 10, ground := Ground.data }], guard := none }) (v := ?_) rfl (by kernel_rfl) (by kernel_rfl) (by kernel_rfl) (fun _ _ _ h => h) (Or.inl ⟨by rfl, ?_⟩) hH ?_
      rotate_left
      · (intro w hSw; clear hSw; go_simp; try with_reducible rfl)
      try simp only [Act.put, List.setIfInBounds_toArray, List.set_cons_zero, List.set_cons_succ]
      refine wpAnyH_done (by kernel_rfl) ?_ _
      refine NoPanic.normal ?_
      go_wp2_with fail
      go_meet
      exact ⟨rfl, hH⟩
    | true =>
      obtain ⟨m', k, rfl, hpk, hmk, hkl, hZ⟩ := HBk.out rfl
      subst hpk
      obtain ⟨hu1, hu2⟩ : -9223372036854775808 ≤ u ∧ u ≤ 9223372036854775807 := by
        obtain ⟨_, _, _, _, _, _, hu1, hu2⟩ := Hbd.out rfl
        exact ⟨hu1, hu2⟩
      have hcutf := fun W => run_cut_lh (P := Tryd.prog) W Tryd.underlying24 info_byte av l.length cv m' k (m' : Int) (k : Int) rfl rfl hmk (by omega)
      have hIB := hv.cut m' k hmk hkl
      have hpu := fun W => putInt_any (.slice none 0 0) [] u W (IsB.nil W) (by simp) hu1 hu2
      simp only [List.nil_append] at hpu
      rw [hZ] at hpu
      generalize (l.take k).drop m' = Z at *
      generalize cutA av cv m' = a2 at *
      generalize k - m' = n2 at *
      generalize cv - m' = c2 at *
      have HS0 := Lib.hid (back_held (hIB.below hb10').drew hb10'.drew)
      have HPu := Lib.hid hpu
      clear hpu hIB hZ hv
      refine wp_region_noPanic ?_
      refine wp_region_held_drew (S := (fun w' => BackHeld Tryd.prog 24 9 (.slice a2 n2 c2) Z w.heap.size w w')) (by kernel_rfl) HS0.out (fun hH => ?_)
      refine wpAnyH_take (i := 0) (oi := { dst := some 190, op := Op.move (Operand.tmp 39), type := 4, pos := "wire.go:107", after := #[], guard := none }) (v := ?_) rfl (by kernel_rfl) (by kernel_rfl) (by kernel_rfl) (fun _ _ _ h => h) (Or.inl ⟨by rfl, ?_⟩) hH ?_
      rotate_left
      · (intro w hSw; obtain ⟨q1, _⟩ := hSw; go_simp; try with_reducible rfl)
      try simp only [Act.put, List.setIfInBounds_toArray, List.set_cons_zero, List.set_cons_succ]
      refine wpAnyH_take (i := 1) (oi := { dst := some 191, op := Op.move (Operand.tmp 190), type := 4, pos := "wire.go:107", after := #[{ on := 0, ground := Ground.data }], guard := none }) (v := ?_) rfl (by kernel_rfl) (by kernel_rfl) (by kernel_rfl) (fun _ _ _ h => h) (Or.inl ⟨by rfl, ?_⟩) hH ?_
      rotate_left
      · (intro w hSw; obtain ⟨q1, _⟩ := hSw; go_simp; try with_reducible rfl)
      try simp only [Act.put, List.setIfInBounds_toArray, List.set_cons_zero, List.set_cons_succ]
      refine wpAnyH_take (i := 2) (oi := { dst := some 192, op := Op.move (Operand.tmp 37), type := 2, pos := "wire.go:107", after := #[{ on := 1, ground := Ground.guard }], guard := some (1, true) }) (v := ?_) rfl (by kernel_rfl) (by kernel_rfl) (by kernel_rfl) (fun _ _ _ h => h) (Or.inl ⟨by rfl, ?_⟩) hH ?_
      rotate_left
      · (intro w hSw; obtain ⟨q1, _⟩ := hSw; go_simp; try with_reducible rfl)
      try simp only [Act.put, List.setIfInBounds_toArray, List.set_cons_zero, List.set_cons_succ]
      refine wpAnyH_take (i := 5) (oi := { dst := some 195, op := Op.move (Operand.tmp 4), type := 24, pos := "wire.go:107", after := #[{ on := 1, ground := Ground.guard }], guard := some (1, true) }) (v := ?_) rfl (by kernel_rfl) (by kernel_rfl) (by kernel_rfl) (fun _ _ _ h => h) (Or.inl ⟨by rfl, ?_⟩) hH ?_
      rotate_left
      · (intro w hSw; obtain ⟨q1, _⟩ := hSw; go_simp; try with_reducible rfl)
      try simp only [Act.put, List.setIfInBounds_toArray, List.set_cons_zero, List.set_cons_succ]
      refine wpAnyH_take (i := 6) (oi := { dst := some 196, op := Op.move (Operand.tmp 5), type := 3, pos := "wire.go:107", after := #[{ on := 1, ground := Ground.guard }], guard := some (1, true) }) (v := ?_) rfl (by kernel_rfl) (by kernel_rfl) (by kernel_rfl) (fun _ _ _ h => h) (Or.inl ⟨by rfl, ?_⟩) hH ?_
      rotate_left
      · (intro w hSw; obtain ⟨q1, _⟩ := hSw; go_simp; try with_reducible rfl)
      try simp only [Act.put, List.setIfInBounds_toArray, List.set_cons_zero, List.set_cons_succ]
      refine wpAnyH_take (i := 7) (oi := { dst := some 197, op := Op.move (Operand.tmp 38), type := 3, pos := "wire.go:107", after := #[{ on := 1, ground := Ground.guard }], guard := some (1, true) }) (v := ?_) rfl (by kernel_rfl) (by kernel_rfl) (by kernel_rfl) (fun _ _ _ h => h) (Or.inl ⟨by rfl, ?_⟩) hH ?_
      rotate_left
      · (intro w hSw; obtain ⟨q1, _⟩ := hSw; go_simp; try with_reducible rfl)
      try simp only [Act.put, List.setIfInBounds_toArray, List.set_cons_zero, List.set_cons_succ]
      refine wpAnyH_take (i := 8) (oi := { dst := some 198, op := Op.slice 24 (Operand.tmp 195) (some (Operand.tmp 196)) (some (Operand.tmp 197)) none, type := 24, pos := "wire.go:107", after := #[{ on := 5, ground := Ground.data }, { on := 6, ground := Ground.data }, { on := 7, ground := Ground.data }, { on := 1, ground := Ground.guard }], guard := some (1, true) }) (v := ?_) rfl (by kernel_rfl) (by kernel_rfl) (by kernel_rfl) (fun _ _ _ h => h) (Or.inl ⟨by rfl, ?_⟩) hH ?_
      rotate_left
      · (intro w hSw; obtain ⟨q1, _⟩ := hSw; go_simp; try with_reducible rfl)
      try simp only [Act.put, List.setIfInBounds_toArray, List.set_cons_zero, List.set_cons_succ]
      refine wpAnyH_take (i := 9) (oi := { dst := some 199, op := Op.convert 24 9 (Operand.tmp 198), type := 9, pos := "wire.go:107", after := #[{ on := 8, ground := Ground.data }, { on := 1, ground := Ground.guard }], guard := some (1, true) }) (v := ?_) rfl (by kernel_rfl) (by kernel_rfl) (by kernel_rfl) (fun _ _ _ h => h) (Or.inl ⟨by rfl, ?_⟩) hH ?_
      rotate_left
      · (intro w hSw; obtain ⟨q1, _⟩ := hSw; go_simp; try with_reducible rfl)
      try simp only [Act.put, List.setIfInBounds_toArray, List.set_cons_zero, List.set_cons_succ]
      refine wpAnyH_ready (rs := [3]) (by kernel_rfl) (by simp) ?_
      refine AllReadyH.cons (o := { dst := some 193, op := Op.call { callee := Callee.value (Operand.func 25), args := #[Operand.const (Value.slice none 0 0), Operand.tmp 192], argTypes := #[24, 2] }, type := 24, pos := "wire.go:107", after := #[{ on := 2, ground := Ground.data }, { on := 1, ground := Ground.chain }, { on := 1, ground := Ground.guard }], guard := some (1, true) }) rfl (fun K hK => ?_) AllReadyH.nil
      go_simp
      refine (HPu.out _).mono ?_
      rintro e w12 ⟨u12, rfl, hm12, hb12⟩
      have hs12 := run_str (P := Tryd.prog) hm12.isB 24 9 5 Tryd.underlying24 Tryd.underlying5 Tryd.underlying9
      have hH12 := back_keep (by assumption) hb12
      clear hm12 hb12 hH
      go_wp2_with fail
      refine hK.out _ _ hH12 (fun hH => ?_)
      clear hH12
      clear hK K
      try simp only [Act.put, List.setIfInBounds_toArray, List.set_cons_zero, List.set_cons_succ]
      refine wpAnyH_ready (rs := [4]) (by kernel_rfl) (by simp) ?_
      refine AllReadyH.cons (o := { dst := some 194, op := Op.convert 24 9 (Operand.tmp 193), type := 9, pos := "wire.go:107", after := #[{ on := 3, ground := Ground.data }, { on := 1, ground := Ground.guard }], guard := some (1, true) }) rfl (fun K hK => ?_) AllReadyH.nil
      go_simp
      refine hK.out _ _ hH (fun _ => ?_)
      clear hK K
      try simp only [Act.put, List.setIfInBounds_toArray, List.set_cons_zero, List.set_cons_succ]
      refine wpAnyH_take (i := 10) (oi := { dst := some 200, op := Op.binOp BinOp.neq 9 (Operand.tmp 194) (Operand.tmp 199) 9, type := 4, pos := "wire.go:107", after := #[{ on := 4, ground := Ground.data }, { on := 9, ground := Ground.data }, { on := 1, ground := Ground.guard }], guard := some (1, true) }) (v := ?_) rfl (by kernel_rfl) (by kernel_rfl) (by kernel_rfl) (fun _ _ _ h => h) (Or.inl ⟨by rfl, ?_⟩) hH ?_
      rotate_left
      · (intro w hSw; obtain ⟨q1, _⟩ := hSw; go_simp; try with_reducible rfl)
      try simp only [Act.put, List.setIfInBounds_toArray, List.set_cons_zero, List.set_cons_succ]
      refine wpAnyH_take (i := 11) (oi := { dst := some 201, op := Op.pick (Operand.tmp 191) (Operand.tmp 200) (Operand.const (Value.bool false)), type := 4, pos := "wire.go:107", after := #[{ on := 1, ground := Ground.data }, { on := 10, ground := Ground.data }], guard := none }) (v := ?_) rfl (by kernel_rfl) (by kernel_rfl) (by kernel_rfl) (fun _ _ _ h => h) (Or.inl ⟨by rfl, ?_⟩) hH ?_
      rotate_left
      · (intro w hSw; obtain ⟨q1, _⟩ := hSw; go_simp; try with_reducible rfl)
      try simp only [Act.put, List.setIfInBounds_toArray, List.set_cons_zero, List.set_cons_succ]
      refine wpAnyH_done (by kernel_rfl) ?_ _
      refine NoPanic.normal ?_
      go_wp2_with fail
      go_meet
      exact ⟨rfl, hH.2.2⟩
  case rest =>
    obtain ⟨rfl, hbc⟩ := hcut
    clear HBk Hbd
    go_wp2_with fail
    refine (takeText_any _ l at_ l.length wc (hv.below hbc) (by omega) h5 h6 (by omega) (by omega)).mono ?_
    rintro e w11 ⟨rfl, rfl⟩
    have hBk := textB_back l at_ l.length
    generalize takeT l at_ l.length = r at *
    obtain ⟨z, p, ok⟩ := r
    unfold threeT
    dsimp only at hBk ⊢
    have HBk := Lib.hid hBk
    clear hBk
    go_upto_region 19 with fail
    go_cut [222] (fun b wx => b = .bool false ∧ Below w.heap.size w wx)
    case first =>
      cases ok with
      | false =>
        refine wp_region_noPanic ?_
        refine wp_region_held_drew (S := (fun w' => Below w.heap.size w w')) (by kernel_rfl) hbc.drew (fun hH => ?_)
        refine wpAnyH_take (i := 0) (oi := { dst := some 211, op := Op.move (Operand.tmp 42), type := 4, pos := "wire.go:111", after := #[], guard := none }) (v := ?_) rfl (by kernel_rfl) (by kernel_rfl) (by kernel_rfl) (fun _ _ _ h => h) (Or.inl ⟨by rfl, ?_⟩) hH ?_
        rotate_left
        · (intro w hSw; clear hSw; go_simp; try with_reducible rfl)
        try simp only [Act.put, List.setIfInBounds_toArray, List.set_cons_zero, List.set_cons_succ]
        refine wpAnyH_take (i := 1) (oi := { dst := some 212, op := Op.move (Operand.tmp 211), type := 4, pos := "wire.go:111", after := #[{ on := 0, ground := Ground.data }], guard := none }) (v := ?_) rfl (by kernel_rfl) (by kernel_rfl) (by kernel_rfl) (fun _ _ _ h => h) (Or.inl ⟨by rfl, ?_⟩) hH ?_
        rotate_left
        · (intro w hSw; clear hSw; go_simp; try with_reducible rfl)
        try simp only [Act.put, List.setIfInBounds_toArray, List.set_cons_zero, List.set_cons_succ]
        refine wpAnyH_take (i := 2) (oi := { dst := some 213, op := Op.move (Operand.tmp 40), type := 9, pos := "wire.go:111", after := #[{ on := 1, ground := Ground.guard }], guard := some (1, true) }) (v := undef) rfl (by kernel_rfl) (by kernel_rfl) (by kernel_rfl) (fun _ _ _ h => h) (Or.inr ⟨by rfl, rfl⟩) hH ?_
        try simp only [Act.put, List.setIfInBounds_toArray, List.set_cons_zero, List.set_cons_succ]
        refine wpAnyH_take (i := 5) (oi := { dst := some 216, op := Op.move (Operand.tmp 4), type := 24, pos := "wire.go:111", after := #[{ on := 1, ground := Ground.guard }], guard := some (1, true) }) (v := undef) rfl (by kernel_rfl) (by kernel_rfl) (by kernel_rfl) (fun _ _ _ h => h) (Or.inr ⟨by rfl, rfl⟩) hH ?_
        try simp only [Act.put, List.setIfInBounds_toArray, List.set_cons_zero, List.set_cons_succ]
        refine wpAnyH_take (i := 6) (oi := { dst := some 217, op := Op.move (Operand.tmp 5), type := 3, pos := "wire.go:111", after := #[{ on := 1, ground := Ground.guard }], guard := some (1, true) }) (v := undef) rfl (by kernel_rfl) (by kernel_rfl) (by kernel_rfl) (fun _ _ _ h => h) (Or.inr ⟨by rfl, rfl⟩) hH ?_
        try simp only [Act.put, List.setIfInBounds_toArray, List.set_cons_zero, List.set_cons_succ]
        refine wpAnyH_take (i := 7) (oi := { dst := some 218, op := Op.move (Operand.tmp 41), type := 3, pos := "wire.go:111", after := #[{ on := 1, ground := Ground.guard }], guard := some (1, true) }) (v := undef) rfl (by kernel_rfl) (by kernel_rfl) (by kernel_rfl) (fun _ _ _ h => h) (Or.inr ⟨by rfl, rfl⟩) hH ?_
        try simp only [Act.put, List.setIfInBounds_toArray, List.set_cons_zero, List.set_cons_succ]
        refine wpAnyH_take (i := 8) (oi := { dst := some 219, op := Op.slice 24 (Operand.tmp 216) (some (Operand.tmp 217)) (some (Operand.tmp 218)) none, type := 24, pos := "wire.go:111", after := #[{ on := 5, ground := Ground.data }, { on := 6, ground := Ground.data }, { on := 7, ground := Ground.data }, { on := 1, ground := Ground.guard }], guard := some (1, true) }) (v := undef) rfl (by kernel_rfl) (by kernel_rfl) (by kernel_rfl) (fun _ _ _ h => h) (Or.inr ⟨by rfl, rfl⟩) hH ?_
        try simp only [Act.put, List.setIfInBounds_toArray, List.set_cons_zero, List.set_cons_succ]
        refine wpAnyH_take (i := 9) (oi := { dst := some 220, op := Op.convert 24 9 (Operand.tmp 219), type := 9, pos := "wire.go:111", after := #[{ on := 8, ground := Ground.data }, { on := 1, ground := Ground.guard }], guard := some (1, true) }) (v := undef) rfl (by kernel_rfl) (by kernel_rfl) (by kernel_rfl) (fun _ _ _ h => h) (Or.inr ⟨by rfl, rfl⟩) hH ?_
        try simp only [Act.put, List.setIfInBounds_toArray, List.set_cons_zero, List.set_cons_succ]
        refine wpAnyH_ready (rs := [3]) (by kernel_rfl) (by simp) ?_
        refine AllReadyH.cons (o := { dst := some 214, op := Op.call { callee := Callee.value (Operand.func 26), args := #[Operand.const (Value.slice none 0 0), Operand.tmp 213], argTypes := #[24, 9] }, type := 24, pos := "wire.go:111", after := #[{ on := 2, ground := Ground.data }, { on := 1, ground := Ground.chain }, { on := 1, ground := Ground.guard }], guard := some (1, true) }) rfl (fun K hK => ?_) AllReadyH.nil
        go_simp
        refine hK.out _ _ hH (fun _ => ?_)
        clear hK K
        try simp only [Act.put, List.setIfInBounds_toArray, List.set_cons_zero, List.set_cons_succ]
        refine wpAnyH_take (i := 4) (oi := { dst := some 215, op := Op.convert 24 9 (Operand.tmp 214), type := 9, pos := "wire.go:111", after := #[{ on := 3, ground := Ground.data }, { on := 1, ground := Ground.guard }], guard := some (1, true) }) (v := undef) rfl (by kernel_rfl) (by kernel_rfl) (by kernel_rfl) (fun _ _ _ h => h) (Or.inr ⟨by rfl, rfl⟩) hH ?_
        try simp only [Act.put, List.setIfInBounds_toArray, List.set_cons_zero, List.set_cons_succ]
        refine wpAnyH_take (i := 10) (oi := { dst := some 221, op := Op.binOp BinOp.neq 9 (Operand.tmp 215) (Operand.tmp 220) 9, type := 4, pos := "wire.go:111", after := #[{ on := 4, ground := Ground.data }, { on := 9, ground := Ground.data }, { on := 1, ground := Ground.guard }], guard := some (1, true) }) (v := undef) rfl (by kernel_rfl) (by kernel_rfl) (by kernel_rfl) (fun _ _ _ h => h) (Or.inr ⟨by rfl, rfl⟩) hH ?_
        try simp only [Act.put, List.setIfInBounds_toArray, List.set_cons_zero, List.set_cons_succ]
        refine wpAnyH_take (i := 11) (oi := { dst := some 222, op := Op.pick (Operand.tmp 212) (Operand.tmp 221) (Operand.const (Value.bool false)), type := 4, pos := "wire.go:111", after := #[{ on := 1, ground := Ground.data }, { on := 10, ground := Ground.data }], guard := none }) (v := ?_) rfl (by kernel_rfl) (by kernel_rfl) (by kernel_rfl) (fun _ _ _ h => h) (Or.inl ⟨by rfl, ?_⟩) hH ?_
        rotate_left
        · (intro w hSw; clear hSw; go_simp; try with_reducible rfl)
        try simp only [Act.put, List.setIfInBounds_toArray, List.set_cons_zero, List.set_cons_succ]
        refine wpAnyH_done (by kernel_rfl) ?_ _
        refine NoPanic.normal ?_
        go_wp2_with fail
        go_meet
        exact ⟨rfl, hH⟩
      | true =>
        obtain ⟨m', k, rfl, hpk, hmk, hkl, hzl, hZ⟩ := HBk.out rfl
        subst hpk
        have hcutf := fun W => run_cut_lh (P := Tryd.prog) W Tryd.underlying24 info_byte av l.length cv m' k (m' : Int) (k : Int) rfl rfl hmk (by omega)
        have hIB := hv.cut m' k hmk hkl
        have hpu := fun W => putText_any (.slice none 0 0) [] ⟨z.toArray⟩ W (IsB.nil W) (by simp only [ByteArray.size, List.size_toArray, List.length_nil]; omega)
        simp only [List.nil_append] at hpu
        rw [hZ] at hpu
        generalize (l.take k).drop m' = Z at *
        generalize cutA av cv m' = a2 at *
        generalize k - m' = n2 at *
        generalize cv - m' = c2 at *
        have HS0 := Lib.hid (back_held (hIB.below hbc).drew hbc.drew)
        have HPu := Lib.hid hpu
        clear hpu hIB hZ hv
        refine wp_region_noPanic ?_
        refine wp_region_held_drew (S := (fun w' => BackHeld Tryd.prog 24 9 (.slice a2 n2 c2) Z w.heap.size w w')) (by kernel_rfl) HS0.out (fun hH => ?_)
        refine wpAnyH_take (i := 0) (oi := { dst := some 211, op := Op.move (Operand.tmp 42), type := 4, pos := "wire.go:111", after := #[], guard := none }) (v := ?_) rfl (by kernel_rfl) (by kernel_rfl) (by kernel_rfl) (fun _ _ _ h => h) (Or.inl ⟨by rfl, ?_⟩) hH ?_
        rotate_left
        · (intro w hSw; obtain ⟨q1, _⟩ := hSw; go_simp; try with_reducible rfl)
        try simp only [Act.put, List.setIfInBounds_toArray, List.set_cons_zero, List.set_cons_succ]
        refine wpAnyH_take (i := 1) (oi := { dst := some 212, op := Op.move (Operand.tmp 211), type := 4, pos := "wire.go:111", after := #[{ on := 0, ground := Ground.data }], guard := none }) (v := ?_) rfl (by kernel_rfl) (by kernel_rfl) (by kernel_rfl) (fun _ _ _ h => h) (Or.inl ⟨by rfl, ?_⟩) hH ?_
        rotate_left
        · (intro w hSw; obtain ⟨q1, _⟩ := hSw; go_simp; try with_reducible rfl)
        try simp only [Act.put, List.setIfInBounds_toArray, List.set_cons_zero, List.set_cons_succ]
        refine wpAnyH_take (i := 2) (oi := { dst := some 213, op := Op.move (Operand.tmp 40), type := 9, pos := "wire.go:111", after := #[{ on := 1, ground := Ground.guard }], guard := some (1, true) }) (v := ?_) rfl (by kernel_rfl) (by kernel_rfl) (by kernel_rfl) (fun _ _ _ h => h) (Or.inl ⟨by rfl, ?_⟩) hH ?_
        rotate_left
        · (intro w hSw; obtain ⟨q1, _⟩ := hSw; go_simp; try with_reducible rfl)
        try simp only [Act.put, List.setIfInBounds_toArray, List.set_cons_zero, List.set_cons_succ]
        refine wpAnyH_take (i := 5) (oi := { dst := some 216, op := Op.move (Operand.tmp 4), type := 24, pos := "wire.go:111", after := #[{ on := 1, ground := Ground.guard }], guard := some (1, true) }) (v := ?_) rfl (by kernel_rfl) (by kernel_rfl) (by kernel_rfl) (fun _ _ _ h => h) (Or.inl ⟨by rfl, ?_⟩) hH ?_
        rotate_left
        · (intro w hSw; obtain ⟨q1, _⟩ := hSw; go_simp; try with_reducible rfl)
        try simp only [Act.put, List.setIfInBounds_toArray, List.set_cons_zero, List.set_cons_succ]
        refine wpAnyH_take (i := 6) (oi := { dst := some 217, op := Op.move (Operand.tmp 5), type := 3, pos := "wire.go:111", after := #[{ on := 1, ground := Ground.guard }], guard := some (1, true) }) (v := ?_) rfl (by kernel_rfl) (by kernel_rfl) (by kernel_rfl) (fun _ _ _ h => h) (Or.inl ⟨by rfl, ?_⟩) hH ?_
        rotate_left
        · (intro w hSw; obtain ⟨q1, _⟩ := hSw; go_simp; try with_reducible rfl)
        try simp only [Act.put, List.setIfInBounds_toArray, List.set_cons_zero, List.set_cons_succ]
        refine wpAnyH_take (i := 7) (oi := { dst := some 218, op := Op.move (Operand.tmp 41), type := 3, pos := "wire.go:111", after := #[{ on := 1, ground := Ground.guard }], guard := some (1, true) }) (v := ?_) rfl (by kernel_rfl) (by kernel_rfl) (by kernel_rfl) (fun _ _ _ h => h) (Or.inl ⟨by rfl, ?_⟩) hH ?_
        rotate_left
        · (intro w hSw; obtain ⟨q1, _⟩ := hSw; go_simp; try with_reducible rfl)
        try simp only [Act.put, List.setIfInBounds_toArray, List.set_cons_zero, List.set_cons_succ]
        refine wpAnyH_take (i := 8) (oi := { dst := some 219, op := Op.slice 24 (Operand.tmp 216) (some (Operand.tmp 217)) (some (Operand.tmp 218)) none, type := 24, pos := "wire.go:111", after := #[{ on := 5, ground := Ground.data }, { on := 6, ground := Ground.data }, { on := 7, ground := Ground.data }, { on := 1, ground := Ground.guard }], guard := some (1, true) }) (v := ?_) rfl (by kernel_rfl) (by kernel_rfl) (by kernel_rfl) (fun _ _ _ h => h) (Or.inl ⟨by rfl, ?_⟩) hH ?_
        rotate_left
        · (intro w hSw; obtain ⟨q1, _⟩ := hSw; go_simp; try with_reducible rfl)
        try simp only [Act.put, List.setIfInBounds_toArray, List.set_cons_zero, List.set_cons_succ]
        refine wpAnyH_take (i := 9) (oi := { dst := some 220, op := Op.convert 24 9 (Operand.tmp 219), type := 9, pos := "wire.go:111", after := #[{ on := 8, ground := Ground.data }, { on := 1, ground := Ground.guard }], guard := some (1, true) }) (v := ?_) rfl (by kernel_rfl) (by kernel_rfl) (by kernel_rfl) (fun _ _ _ h => h) (Or.inl ⟨by rfl, ?_⟩) hH ?_
        rotate_left
        · (intro w hSw; obtain ⟨q1, _⟩ := hSw; go_simp; try with_reducible rfl)
        try simp only [Act.put, List.setIfInBounds_toArray, List.set_cons_zero, List.set_cons_succ]
        refine wpAnyH_ready (rs := [3]) (by kernel_rfl) (by simp) ?_
        refine AllReadyH.cons (o := { dst := some 214, op := Op.call { callee := Callee.value (Operand.func 26), args := #[Operand.const (Value.slice none 0 0), Operand.tmp 213], argTypes := #[24, 9] }, type := 24, pos := "wire.go:111", after := #[{ on := 2, ground := Ground.data }, { on := 1, ground := Ground.chain }, { on := 1, ground := Ground.guard }], guard := some (1, true) }) rfl (fun K hK => ?_) AllReadyH.nil
        go_simp
        refine (HPu.out _).mono ?_
        rintro e w12 ⟨u12, rfl, hm12, hb12⟩
        have hs12 := run_str (P := Tryd.prog) hm12.isB 24 9 5 Tryd.underlying24 Tryd.underlying5 Tryd.underlying9
        have hH12 := back_keep (by assumption) hb12
        clear hm12 hb12 hH
        go_wp2_with fail
        refine hK.out _ _ hH12 (fun hH => ?_)
        clear hH12
        clear hK K
        try simp only [Act.put, List.setIfInBounds_toArray, List.set_cons_zero, List.set_cons_succ]
        refine wpAnyH_ready (rs := [4]) (by kernel_rfl) (by simp) ?_
        refine AllReadyH.cons (o := { dst := some 215, op := Op.convert 24 9 (Operand.tmp 214), type := 9, pos := "wire.go:111", after := #[{ on := 3, ground := Ground.data }, { on := 1, ground := Ground.guard }], guard := some (1, true) }) rfl (fun K hK => ?_) AllReadyH.nil
        go_simp
        refine hK.out _ _ hH (fun _ => ?_)
        clear hK K
        try simp only [Act.put, List.setIfInBounds_toArray, List.set_cons_zero, List.set_cons_succ]
        refine wpAnyH_take (i := 10) (oi := { dst := some 221, op := Op.binOp BinOp.neq 9 (Operand.tmp 215) (Operand.tmp 220) 9, type := 4, pos := "wire.go:111", after := #[{ on := 4, ground := Ground.data }, { on := 9, ground := Ground.data }, { on := 1, ground := Ground.guard }], guard := some (1, true) }) (v := ?_) rfl (by kernel_rfl) (by kernel_rfl) (by kernel_rfl) (fun _ _ _ h => h) (Or.inl ⟨by rfl, ?_⟩) hH ?_
        rotate_left
        · (intro w hSw; obtain ⟨q1, _⟩ := hSw; go_simp; try with_reducible rfl)
        try simp only [Act.put, List.setIfInBounds_toArray, List.set_cons_zero, List.set_cons_succ]
        refine wpAnyH_take (i := 11) (oi := { dst := some 222, op := Op.pick (Operand.tmp 212) (Operand.tmp 221) (Operand.const (Value.bool false)), type := 4, pos := "wire.go:111", after := #[{ on := 1, ground := Ground.data }, { on := 10, ground := Ground.data }], guard := none }) (v := ?_) rfl (by kernel_rfl) (by kernel_rfl) (by kernel_rfl) (fun _ _ _ h => h) (Or.inl ⟨by rfl, ?_⟩) hH ?_
        rotate_left
        · (intro w hSw; obtain ⟨q1, _⟩ := hSw; go_simp; try with_reducible rfl)
        try simp only [Act.put, List.setIfInBounds_toArray, List.set_cons_zero, List.set_cons_succ]
        refine wpAnyH_done (by kernel_rfl) ?_ _
        refine NoPanic.normal ?_
        go_wp2_with fail
        go_meet
        exact ⟨rfl, hH.2.2⟩

    case rest =>
      obtain ⟨rfl, hbd⟩ := hcut
      clear HBk
      go_wp2_with fail
      refine (takeKeyText_any _ l at_ wc (hv.below hbd) (by omega) h5 h6).mono ?_
      rintro e w13 ⟨rfl, hb13⟩
      have hbe := hbd.trans (hb13.mono hbd.size)
      have hBk := keyT_back l at_
      generalize takeKT l at_ = r at *
      obtain ⟨y, p, ok⟩ := r
      unfold threeT
      dsimp only at hBk ⊢
      have HBk := Lib.hid hBk
      clear hBk hb13
      go_upto_region 22 with fail
      cases ok with
      | false =>
        refine wp_region_noPanic ?_
        refine wp_region_held_drew (S := (fun w' => Below w.heap.size w w')) (by kernel_rfl) hbe.drew (fun hH => ?_)
        refine wpAnyH_take (i := 0) (oi := { dst := some 230, op := Op.move (Operand.tmp 13), type := 4, pos := "wire.go:115", after := #[], guard := none }) (v := ?_) rfl (by kernel_rfl) (by kernel_rfl) (by kernel_rfl) (fun _ _ _ h => h) (Or.inl ⟨by rfl, ?_⟩) hH ?_
        rotate_left
        · (intro w hSw; clear hSw; go_simp; try with_reducible rfl)
        try simp only [Act.put, List.setIfInBounds_toArray, List.set_cons_zero, List.set_cons_succ]
        refine wpAnyH_take (i := 1) (oi := { dst := some 231, op := Op.move (Operand.tmp 230), type := 4, pos := "wire.go:115", after := #[{ on := 0, ground := Ground.data }], guard := none }) (v := ?_) rfl (by kernel_rfl) (by kernel_rfl) (by kernel_rfl) (fun _ _ _ h => h) (Or.inl ⟨by rfl, ?_⟩) hH ?_
        rotate_left
        · (intro w hSw; clear hSw; go_simp; try with_reducible rfl)
        try simp only [Act.put, List.setIfInBounds_toArray, List.set_cons_zero, List.set_cons_succ]
        refine wpAnyH_take (i := 2) (oi := { dst := some 232, op := Op.move (Operand.tmp 45), type := 4, pos := "wire.go:115", after := #[{ on := 1, ground := Ground.guard }], guard := some (1, true) }) (v := ?_) rfl (by kernel_rfl) (by kernel_rfl) (by kernel_rfl) (fun _ _ _ h => h) (Or.inl ⟨by rfl, ?_⟩) hH ?_
        rotate_left
        · (intro w hSw; clear hSw; go_simp; try with_reducible rfl)
        try simp only [Act.put, List.setIfInBounds_toArray, List.set_cons_zero, List.set_cons_succ]
        refine wpAnyH_take (i := 3) (oi := { dst := some 233, op := Op.unOp UnOp.not 4 (Operand.tmp 232), type := 4, pos := "wire.go:115", after := #[{ on := 2, ground := Ground.data }, { on := 1, ground := Ground.guard }], guard := some (1, true) }) (v := ?_) rfl (by kernel_rfl) (by kernel_rfl) (by kernel_rfl) (fun _ _ _ h => h) (Or.inl ⟨by rfl, ?_⟩) hH ?_
        rotate_left
        · (intro w hSw; clear hSw; go_simp; try with_reducible rfl)
        try simp only [Act.put, List.setIfInBounds_toArray, List.set_cons_zero, List.set_cons_succ]
        refine wpAnyH_take (i := 4) (oi := { dst := some 234, op := Op.move (Operand.tmp 233), type := 4, pos := "wire.go:115", after := #[{ on := 3, ground := Ground.data }, { on := 1, ground := Ground.chain }, { on := 1, ground := Ground.guard }], guard := some (1, true) }) (v := ?_) rfl (by kernel_rfl) (by kernel_rfl) (by kernel_rfl) (fun _ _ _ h => h) (Or.inl ⟨by rfl, ?_⟩) hH ?_
        rotate_left
        · (intro w hSw; clear hSw; go_simp; try with_reducible rfl)
        try simp only [Act.put, List.setIfInBounds_toArray, List.set_cons_zero, List.set_cons_succ]
        refine wpAnyH_take (i := 5) (oi := { dst := some 235, op := Op.move (Operand.tmp 43), type := 9, pos := "wire.go:115", after := #[{ on := 4, ground := Ground.guard }], guard := some (4, false) }) (v := undef) rfl (by kernel_rfl) (by kernel_rfl) (by kernel_rfl) (fun _ _ _ h => h) (Or.inr ⟨by rfl, rfl⟩) hH ?_
        try simp only [Act.put, List.setIfInBounds_toArray, List.set_cons_zero, List.set_cons_succ]
        refine wpAnyH_take (i := 8) (oi := { dst := some 238, op := Op.move (Operand.tmp 4), type := 24, pos := "wire.go:115", after := #[{ on := 4, ground := Ground.guard }], guard := some (4, false) }) (v := undef) rfl (by kernel_rfl) (by kernel_rfl) (by kernel_rfl) (fun _ _ _ h => h) (Or.inr ⟨by rfl, rfl⟩) hH ?_
        try simp only [Act.put, List.setIfInBounds_toArray, List.set_cons_zero, List.set_cons_succ]
        refine wpAnyH_take (i := 9) (oi := { dst := some 239, op := Op.move (Operand.tmp 5), type := 3, pos := "wire.go:115", after := #[{ on := 4, ground := Ground.guard }], guard := some (4, false) }) (v := undef) rfl (by kernel_rfl) (by kernel_rfl) (by kernel_rfl) (fun _ _ _ h => h) (Or.inr ⟨by rfl, rfl⟩) hH ?_
        try simp only [Act.put, List.setIfInBounds_toArray, List.set_cons_zero, List.set_cons_succ]
        refine wpAnyH_take (i := 10) (oi := { dst := some 240, op := Op.move (Operand.tmp 44), type := 3, pos := "wire.go:115", after := #[{ on := 4, ground := Ground.guard }], guard := some (4, false) }) (v := undef) rfl (by kernel_rfl) (by kernel_rfl) (by kernel_rfl) (fun _ _ _ h => h) (Or.inr ⟨by rfl, rfl⟩) hH ?_
        try simp only [Act.put, List.setIfInBounds_toArray, List.set_cons_zero, List.set_cons_succ]
        refine wpAnyH_take (i := 11) (oi := { dst := some 241, op := Op.slice 24 (Operand.tmp 238) (some (Operand.tmp 239)) (some (Operand.tmp 240)) none, type := 24, pos := "wire.go:115", after := #[{ on := 8, ground := Ground.data }, { on := 9, ground := Ground.data }, { on := 10, ground := Ground.data }, { on := 4, ground := Ground.guard }], guard := some (4, false) }) (v := undef) rfl (by kernel_rfl) (by kernel_rfl) (by kernel_rfl) (fun _ _ _ h => h) (Or.inr ⟨by rfl, rfl⟩) hH ?_
        try simp only [Act.put, List.setIfInBounds_toArray, List.set_cons_zero, List.set_cons_succ]
        refine wpAnyH_take (i := 12) (oi := { dst := some 242, op := Op.convert 24 9 (Operand.tmp 241), type := 9, pos := "wire.go:115", after := #[{ on := 11, ground := Ground.data }, { on := 4, ground := Ground.guard }], guard := some (4, false) }) (v := undef) rfl (by kernel_rfl) (by kernel_rfl) (by kernel_rfl) (fun _ _ _ h => h) (Or.inr ⟨by rfl, rfl⟩) hH ?_
        try simp only [Act.put, List.setIfInBounds_toArray, List.set_cons_zero, List.set_cons_succ]
        refine wpAnyH_ready (rs := [6]) (by kernel_rfl) (by simp) ?_
        refine AllReadyH.cons (o := { dst := some 236, op := Op.call { callee := Callee.value (Operand.func 22), args := #[Operand.const (Value.slice none 0 0), Operand.tmp 235], argTypes := #[24, 9] }, type := 24, pos := "wire.go:115", after := #[{ on := 5, ground := Ground.data }, { on := 4, ground := Ground.chain }, { on := 4, ground := Ground.guard }], guard := some (4, false) }) rfl (fun K hK => ?_) AllReadyH.nil
        go_simp
        refine hK.out _ _ hH (fun _ => ?_)
        clear hK K
        try simp only [Act.put, List.setIfInBounds_toArray, List.set_cons_zero, List.set_cons_succ]
        refine wpAnyH_take (i := 7) (oi := { dst := some 237, op := Op.convert 24 9 (Operand.tmp 236), type := 9, pos := "wire.go:115", after := #[{ on := 6, ground := Ground.data }, { on := 4, ground := Ground.guard }], guard := some (4, false) }) (v := undef) rfl (by kernel_rfl) (by kernel_rfl) (by kernel_rfl) (fun _ _ _ h => h) (Or.inr ⟨by rfl, rfl⟩) hH ?_
        try simp only [Act.put, List.setIfInBounds_toArray, List.set_cons_zero, List.set_cons_succ]
        refine wpAnyH_take (i := 13) (oi := { dst := some 243, op := Op.binOp BinOp.eql 9 (Operand.tmp 237) (Operand.tmp 242) 9, type := 4, pos := "wire.go:115", after := #[{ on := 7, ground := Ground.data }, { on := 12, ground := Ground.data }, { on := 4, ground := Ground.guard }], guard := some (4, false) }) (v := undef) rfl (by kernel_rfl) (by kernel_rfl) (by kernel_rfl) (fun _ _ _ h => h) (Or.inr ⟨by rfl, rfl⟩) hH ?_
        try simp only [Act.put, List.setIfInBounds_toArray, List.set_cons_zero, List.set_cons_succ]
        refine wpAnyH_take (i := 14) (oi := { dst := some 244, op := Op.pick (Operand.tmp 234) (Operand.const (Value.bool true)) (Operand.tmp 243), type := 4, pos := "wire.go:115", after := #[{ on := 4, ground := Ground.data }, { on := 13, ground := Ground.data }, { on := 1, ground := Ground.guard }], guard := some (1, true) }) (v := ?_) rfl (by kernel_rfl) (by kernel_rfl) (by kernel_rfl) (fun _ _ _ h => h) (Or.inl ⟨by rfl, ?_⟩) hH ?_
        rotate_left
        · (intro w hSw; clear hSw; go_simp; try with_reducible rfl)
        try simp only [Act.put, List.setIfInBounds_toArray, List.set_cons_zero, List.set_cons_succ]
        refine wpAnyH_take (i := 15) (oi := { dst := some 245, op := Op.pick (Operand.tmp 231) (Operand.tmp 244) (Operand.const (Value.bool false)), type := 4, pos := "wire.go:115", after := #[{ on := 1, ground := Ground.data }, { on := 14, ground := Ground.data }], guard := none }) (v := ?_) rfl (by kernel_rfl) (by kernel_rfl) (by kernel_rfl) (fun _ _ _ h => h) (Or.inl ⟨by rfl, ?_⟩) hH ?_
        rotate_left
        · (intro w hSw; clear hSw; go_simp; try with_reducible rfl)
        try simp only [Act.put, List.setIfInBounds_toArray, List.set_cons_zero, List.set_cons_succ]
        refine wpAnyH_take (i := 16) (oi := { dst := some 12, op := Op.assign (Operand.tmp 245), type := 4, pos := "wire.go:115", after := #[{ on := 15, ground := Ground.data }, { on := 6, ground := Ground.chain }, { on := 0, ground := Ground.phase }, { on := 1, ground := Ground.phase }, { on := 2, ground := Ground.phase }, { on := 3, ground := Ground.phase }, { on := 4, ground := Ground.phase }, { on := 5, ground := Ground.phase }, { on := 6, ground := Ground.phase }, { on := 7, ground := Ground.phase }, { on := 8, ground := Ground.phase }, { on := 9, ground := Ground.phase }, { on := 10, ground := Ground.phase }, { on := 11, ground := Ground.phase }, { on := 12, ground := Ground.phase }, { on := 13, ground := Ground.phase }, { on := 14, ground := Ground.phase }, { on := 15, ground := Ground.phase }], guard := none }) (v := ?_) rfl (by kernel_rfl) (by kernel_rfl) (by kernel_rfl) (fun _ _ _ h => h) (Or.inl ⟨by rfl, ?_⟩) hH ?_
        rotate_left
        · (intro w hSw; clear hSw; go_simp; try with_reducible rfl)
        try simp only [Act.put, List.setIfInBounds_toArray, List.set_cons_zero, List.set_cons_succ]
        refine wpAnyH_done (by kernel_rfl) ?_ _
        refine NoPanic.normal ?_
        go_wp2_with fail
        exact ⟨rfl, .bool true, by first | kernel_rfl | (go_simp; done) | (go_simp; rfl) | (simp [results]; done), rfl, hH⟩
      | true =>
        obtain ⟨m', k, rfl, hpk, hmk, hkl, hzl, hZ⟩ := HBk.out rfl
        subst hpk
        have hcutf := fun W => run_cut_lh (P := Tryd.prog) W Tryd.underlying24 info_byte av l.length cv m' k (m' : Int) (k : Int) rfl rfl hmk (by omega)
        have hIB := hv.cut m' k hmk hkl
        have hpu := fun W => keyText_any (.slice none 0 0) [] ⟨y.toArray⟩ W (IsB.nil W) (by simp only [ByteArray.size, List.size_toArray, List.length_nil]; omega)
        simp only [List.nil_append] at hpu
        rw [hZ] at hpu
        generalize (l.take k).drop m' = Z at *
        generalize cutA av cv m' = a2 at *
        generalize k - m' = n2 at *
        generalize cv - m' = c2 at *
        have HS0 := Lib.hid (back_held (hIB.below hbe).drew hbe.drew)
        have HPu := Lib.hid hpu
        clear hpu hIB hZ hv
        refine wp_region_noPanic ?_
        refine wp_region_held_drew (S := (fun w' => BackHeld Tryd.prog 24 9 (.slice a2 n2 c2) Z w.heap.size w w')) (by kernel_rfl) HS0.out (fun hH => ?_)
        refine wpAnyH_take (i := 0) (oi := { dst := some 230, op := Op.move (Operand.tmp 13), type := 4, pos := "wire.go:115", after := #[], guard := none }) (v := ?_) rfl (by kernel_rfl) (by kernel_rfl) (by kernel_rfl) (fun _ _ _ h => h) (Or.inl ⟨by rfl, ?_⟩) hH ?_
        rotate_left
        · (intro w hSw; obtain ⟨q1, _⟩ := hSw; go_simp; try with_reducible rfl)
        try simp only [Act.put, List.setIfInBounds_toArray, List.set_cons_zero, List.set_cons_succ]
        refine wpAnyH_take (i := 1) (oi := { dst := some 231, op := Op.move (Operand.tmp 230), type := 4, pos := "wire.go:115", after := #[{ on := 0, ground := Ground.data }], guard := none }) (v := ?_) rfl (by kernel_rfl) (by kernel_rfl) (by kernel_rfl) (fun _ _ _ h => h) (Or.inl ⟨by rfl, ?_⟩) hH ?_
        rotate_left
        · (intro w hSw; obtain ⟨q1, _⟩ := hSw; go_simp; try with_reducible rfl)
        try simp only [Act.put, List.setIfInBounds_toArray, List.set_cons_zero, List.set_cons_succ]
        refine wpAnyH_take (i := 2) (oi := { dst := some 232, op := Op.move (Operand.tmp 45), type := 4, pos := "wire.go:115", after := #[{ on := 1, ground := Ground.guard }], guard := some (1, true) }) (v := ?_) rfl (by kernel_rfl) (by kernel_rfl) (by kernel_rfl) (fun _ _ _ h => h) (Or.inl ⟨by rfl, ?_⟩) hH ?_
        rotate_left
        · (intro w hSw; obtain ⟨q1, _⟩ := hSw; go_simp; try with_reducible rfl)
        try simp only [Act.put, List.setIfInBounds_toArray, List.set_cons_zero, List.set_cons_succ]
        refine wpAnyH_take (i := 3) (oi := { dst := some 233, op := Op.unOp UnOp.not 4 (Operand.tmp 232), type := 4, pos := "wire.go:115", after := #[{ on := 2, ground := Ground.data }, { on := 1, ground := Ground.guard }], guard := some (1, true) }) (v := ?_) rfl (by kernel_rfl) (by kernel_rfl) (by kernel_rfl) (fun _ _ _ h => h) (Or.inl ⟨by rfl, ?_⟩) hH ?_
        rotate_left
        · (intro w hSw; obtain ⟨q1, _⟩ := hSw; go_simp; try with_reducible rfl)
        try simp only [Act.put, List.setIfInBounds_toArray, List.set_cons_zero, List.set_cons_succ]
        refine wpAnyH_take (i := 4) (oi := { dst := some 234, op := Op.move (Operand.tmp 233), type := 4, pos := "wire.go:115", after := #[{ on := 3, ground := Ground.data }, { on := 1, ground := Ground.chain }, { on := 1, ground := Ground.guard }], guard := some (1, true) }) (v := ?_) rfl (by kernel_rfl) (by kernel_rfl) (by kernel_rfl) (fun _ _ _ h => h) (Or.inl ⟨by rfl, ?_⟩) hH ?_
        rotate_left
        · (intro w hSw; obtain ⟨q1, _⟩ := hSw; go_simp; try with_reducible rfl)
        try simp only [Act.put, List.setIfInBounds_toArray, List.set_cons_zero, List.set_cons_succ]
        refine wpAnyH_take (i := 5) (oi := { dst := some 235, op := Op.move (Operand.tmp 43), type := 9, pos := "wire.go:115", after := #[{ on := 4, ground := Ground.guard }], guard := some (4, false) }) (v := ?_) rfl (by kernel_rfl) (by kernel_rfl) (by kernel_rfl) (fun _ _ _ h => h) (Or.inl ⟨by rfl, ?_⟩) hH ?_
        rotate_left
        · (intro w hSw; obtain ⟨q1, _⟩ := hSw; go_simp; try with_reducible rfl)
        try simp only [Act.put, List.setIfInBounds_toArray, List.set_cons_zero, List.set_cons_succ]
        refine wpAnyH_take (i := 8) (oi := { dst := some 238, op := Op.move (Operand.tmp 4), type := 24, pos := "wire.go:115", after := #[{ on := 4, ground := Ground.guard }], guard := some (4, false) }) (v := ?_) rfl (by kernel_rfl) (by kernel_rfl) (by kernel_rfl) (fun _ _ _ h => h) (Or.inl ⟨by rfl, ?_⟩) hH ?_
        rotate_left
        · (intro w hSw; obtain ⟨q1, _⟩ := hSw; go_simp; try with_reducible rfl)
        try simp only [Act.put, List.setIfInBounds_toArray, List.set_cons_zero, List.set_cons_succ]
        refine wpAnyH_take (i := 9) (oi := { dst := some 239, op := Op.move (Operand.tmp 5), type := 3, pos := "wire.go:115", after := #[{ on := 4, ground := Ground.guard }], guard := some (4, false) }) (v := ?_) rfl (by kernel_rfl) (by kernel_rfl) (by kernel_rfl) (fun _ _ _ h => h) (Or.inl ⟨by rfl, ?_⟩) hH ?_
        rotate_left
        · (intro w hSw; obtain ⟨q1, _⟩ := hSw; go_simp; try with_reducible rfl)
        try simp only [Act.put, List.setIfInBounds_toArray, List.set_cons_zero, List.set_cons_succ]
        refine wpAnyH_take (i := 10) (oi := { dst := some 240, op := Op.move (Operand.tmp 44), type := 3, pos := "wire.go:115", after := #[{ on := 4, ground := Ground.guard }], guard := some (4, false) }) (v := ?_) rfl (by kernel_rfl) (by kernel_rfl) (by kernel_rfl) (fun _ _ _ h => h) (Or.inl ⟨by rfl, ?_⟩) hH ?_
        rotate_left
        · (intro w hSw; obtain ⟨q1, _⟩ := hSw; go_simp; try with_reducible rfl)
        try simp only [Act.put, List.setIfInBounds_toArray, List.set_cons_zero, List.set_cons_succ]
        refine wpAnyH_take (i := 11) (oi := { dst := some 241, op := Op.slice 24 (Operand.tmp 238) (some (Operand.tmp 239)) (some (Operand.tmp 240)) none, type := 24, pos := "wire.go:115", after := #[{ on := 8, ground := Ground.data }, { on := 9, ground := Ground.data }, { on := 10, ground := Ground.data }, { on := 4, ground := Ground.guard }], guard := some (4, false) }) (v := ?_) rfl (by kernel_rfl) (by kernel_rfl) (by kernel_rfl) (fun _ _ _ h => h) (Or.inl ⟨by rfl, ?_⟩) hH ?_
        rotate_left
        · (intro w hSw; obtain ⟨q1, _⟩ := hSw; go_simp; try with_reducible rfl)
        try simp only [Act.put, List.setIfInBounds_toArray, List.set_cons_zero, List.set_cons_succ]
        refine wpAnyH_take (i := 12) (oi := { dst := some 242, op := Op.convert 24 9 (Operand.tmp 241), type := 9, pos := "wire.go:115", after := #[{ on := 11, ground := Ground.data }, { on := 4, ground := Ground.guard }], guard := some (4, false) }) (v := ?_) rfl (by kernel_rfl) (by kernel_rfl) (by kernel_rfl) (fun _ _ _ h => h) (Or.inl ⟨by rfl, ?_⟩) hH ?_
        rotate_left
        · (intro w hSw; obtain ⟨q1, _⟩ := hSw; go_simp; try with_reducible rfl)
        try simp only [Act.put, List.setIfInBounds_toArray, List.set_cons_zero, List.set_cons_succ]
        refine wpAnyH_ready (rs := [6]) (by kernel_rfl) (by simp) ?_
        refine AllReadyH.cons (o := { dst := some 236, op := Op.call { callee := Callee.value (Operand.func 22), args := #[Operand.const (Value.slice none 0 0), Operand.tmp 235], argTypes := #[24, 9] }, type := 24, pos := "wire.go:115", after := #[{ on := 5, ground := Ground.data }, { on := 4, ground := Ground.chain }, { on := 4, ground := Ground.guard }], guard := some (4, false) }) rfl (fun K hK => ?_) AllReadyH.nil
        go_simp
        refine (HPu.out _).mono ?_
        rintro e w20 ⟨u20, rfl, hm20, hb20⟩
        have hs20 := run_str (P := Tryd.prog) hm20.isB 24 9 5 Tryd.underlying24 Tryd.underlying5 Tryd.underlying9
        have hH20 := back_keep (by assumption) hb20
        clear hm20 hb20 hH
        go_wp2_with fail
        refine hK.out _ _ hH20 (fun hH => ?_)
        clear hH20
        clear hK K
        try simp only [Act.put, List.setIfInBounds_toArray, List.set_cons_zero, List.set_cons_succ]
        refine wpAnyH_ready (rs := [7]) (by kernel_rfl) (by simp) ?_
        refine AllReadyH.cons (o := { dst := some 237, op := Op.convert 24 9 (Operand.tmp 236), type := 9, pos := "wire.go:115", after := #[{ on := 6, ground := Ground.data }, { on := 4, ground := Ground.guard }], guard := some (4, false) }) rfl (fun K hK => ?_) AllReadyH.nil
        go_simp
        refine hK.out _ _ hH (fun _ => ?_)
        clear hK K
        try simp only [Act.put, List.setIfInBounds_toArray, List.set_cons_zero, List.set_cons_succ]
        refine wpAnyH_take (i := 13) (oi := { dst := some 243, op := Op.binOp BinOp.eql 9 (Operand.tmp 237) (Operand.tmp 242) 9, type := 4, pos := "wire.go:115", after := #[{ on := 7, ground := Ground.data }, { on := 12, ground := Ground.data }, { on := 4, ground := Ground.guard }], guard := some (4, false) }) (v := ?_) rfl (by kernel_rfl) (by kernel_rfl) (by kernel_rfl) (fun _ _ _ h => h) (Or.inl ⟨by rfl, ?_⟩) hH ?_
        rotate_left
        · (intro w hSw; obtain ⟨q1, _⟩ := hSw; go_simp; try with_reducible rfl)
        try simp only [Act.put, List.setIfInBounds_toArray, List.set_cons_zero, List.set_cons_succ]
        refine wpAnyH_take (i := 14) (oi := { dst := some 244, op := Op.pick (Operand.tmp 234) (Operand.const (Value.bool true)) (Operand.tmp 243), type := 4, pos := "wire.go:115", after := #[{ on := 4, ground := Ground.data }, { on := 13, ground := Ground.data }, { on := 1, ground := Ground.guard }], guard := some (1, true) }) (v := ?_) rfl (by kernel_rfl) (by kernel_rfl) (by kernel_rfl) (fun _ _ _ h => h) (Or.inl ⟨by rfl, ?_⟩) hH ?_
        rotate_left
        · (intro w hSw; obtain ⟨q1, _⟩ := hSw; go_simp; try with_reducible rfl)
        try simp only [Act.put, List.setIfInBounds_toArray, List.set_cons_zero, List.set_cons_succ]
        refine wpAnyH_take (i := 15) (oi := { dst := some 245, op := Op.pick (Operand.tmp 231) (Operand.tmp 244) (Operand.const (Value.bool false)), type := 4, pos := "wire.go:115", after := #[{ on := 1, ground := Ground.data }, { on := 14, ground := Ground.data }], guard := none }) (v := ?_) rfl (by kernel_rfl) (by kernel_rfl) (by kernel_rfl) (fun _ _ _ h => h) (Or.inl ⟨by rfl, ?_⟩) hH ?_
        rotate_left
        · (intro w hSw; obtain ⟨q1, _⟩ := hSw; go_simp; try with_reducible rfl)
        try simp only [Act.put, List.setIfInBounds_toArray, List.set_cons_zero, List.set_cons_succ]
        refine wpAnyH_take (i := 16) (oi := { dst := some 12, op := Op.assign (Operand.tmp 245), type := 4, pos := "wire.go:115", after := #[{ on := 15, ground := Ground.data }, { on := 6, ground := Ground.chain }, { on := 0, ground := Ground.phase }, { on := 1, ground := Ground.phase }, { on := 2, ground := Ground.phase }, { on := 3, ground := Ground.phase }, { on := 4, ground := Ground.phase }, { on := 5, ground := Ground.phase }, { on := 6, ground := Ground.phase }, { on := 7, ground := Ground.phase }, { on := 8, ground := Ground.phase }, { on := 9, ground := Ground.phase }, { on := 10, ground := Ground.phase }, { on := 11, ground := Ground.phase }, { on := 12, ground := Ground.phase }, { on := 13, ground := Ground.phase }, { on := 14, ground := Ground.phase }, { on := 15, ground := Ground.phase }], guard := none }) (v := ?_) rfl (by kernel_rfl) (by kernel_rfl) (by kernel_rfl) (fun _ _ _ h => h) (Or.inl ⟨by rfl, ?_⟩) hH ?_
        rotate_left
        · (intro w hSw; obtain ⟨q1, _⟩ := hSw; go_simp; try with_reducible rfl)
        try simp only [Act.put, List.setIfInBounds_toArray, List.set_cons_zero, List.set_cons_succ]
        refine wpAnyH_done (by kernel_rfl) ?_ _
        refine NoPanic.normal ?_
        go_wp2_with fail
        exact ⟨rfl, .bool true, by first | kernel_rfl | (go_simp; done) | (go_simp; rfl) | (simp [results]; done), rfl, hH.2.2⟩
end Go.Proofs.YteeenihhehmmoaaDoor
