/- The walk of DiskFlushes: it answers true. -/
import Derived.Test.YtncoclbmnhbgbaaDkPlays
import Derived.Deep.RegionHeld3
set_option linter.unusedVariables false
set_option linter.unusedSimpArgs false
namespace Go.Proofs.Ytncoclbmnhbgbaa
open Go.RowKit

/-- a disk whose sector k was flushed with the bytes b, and of which no loose write is of k -/
structure Kept (D : Dk) (k : Nat) (b : List UInt8) (m : Nat) : Prop where
  n : D.n = 8
  off : D.off = false
  cut : D.cut = -1
  ops : D.ops ≤ m
  lies : sec D.safe k = b
  no : ∀ x ∈ D.hung, x.1 ≠ k
theorem Kept.gone {D : Dk} {k m : Nat} {b : List UInt8} (h : Kept D k b m) : D.gone = false := Dk.gone_no h.off (by rw [h.cut]; omega)
theorem Good.kept {D : Dk} {k : Nat} {b : List UInt8} (h : Good D 100) (hok : D.Ok) (hk : k < 8) (hb : b.length = 128) :
    ∃ D1 D2, D.write k b = (0, D1) ∧ D1.flush = (0, D2) ∧ Kept D2 k b 102 := by
  refine ⟨_, _, Dk.write_ok h.gone (by rw [h.n]; exact hk) hb (by have := h.ops; omega), Dk.flush_ok (Dk.gone_no rfl (by show D.cut < 0; rw [h.cut]; omega)) (by have := h.ops; show D.ops + 1 < _; omega), h.n, rfl, h.cut, ?_, ?_, fun x hx => (by cases hx)⟩
  · have := h.ops
    show D.ops + 1 + 1 ≤ 102
    omega
  · exact sec_putS_same hok.now hb (by rw [h.n]; exact hk)
theorem Kept.write {D : Dk} {k m a : Nat} {b l : List UInt8} (h : Kept D k b m) (ha : a < 8) (hne : a ≠ k) (hl : l.length = 128) (hm : m < 1048576) : ∃ D1, D.write a l = (0, D1) ∧ Kept D1 k b (m + 1) := by
  refine ⟨_, Dk.write_ok h.gone (by rw [h.n]; exact ha) hl (by have := h.ops; omega), h.n, rfl, h.cut, ?_, h.lies, fun x hx => ?_⟩
  · have := h.ops
    show D.ops + 1 ≤ m + 1
    omega
  · rcases List.mem_append.1 hx with hx | hx
    · exact h.no x hx
    · rw [List.mem_singleton.1 hx]; exact hne
theorem crashTo_kept {D : Dk} (hok : D.Ok) {k : Nat} (hk : k < D.n) (hno : ∀ x ∈ D.hung, x.1 ≠ k) (stay : List Int) (j : Nat) : sec (crashTo D stay j) k = sec D.safe k := by
  induction j with
  | zero => rfl
  | succ j ih =>
    simp only [crashTo]
    split
    · split
      · rename_i x hx
        have hm := List.mem_of_getElem? hx
        obtain ⟨h1, h2⟩ := hok.hung x hm
        rw [sec_putS_other (crashTo_length hok stay j) h2 h1 hk (fun e => hno x hm e.symm)]
        exact ih
      · exact ih
    · exact ih
theorem Kept.crash {D : Dk} {k m : Nat} {b : List UInt8} (h : Kept D k b m) (hok : D.Ok) (hk : k < 8) (stay : List Int) : (D.crash stay).read k = (b, 0) ∧ (D.crash stay).n = 8 := by
  refine ⟨?_, h.n⟩
  rw [Dk.read_ok (D := D.crash stay) rfl (by show k < D.n; rw [h.n]; exact hk)]
  show (sec (crashTo D stay D.hung.length) k, _) = _
  rw [crashTo_kept hok (by rw [h.n]; exact hk) h.no, h.lies]

/-- what is held through the last statement -/
abbrev FlHeld (P : Program) (ts ss : TypeId) (Fx : Ft) (Dx : Dk) (v4 : Value) (stay : List Int) (s : Value) (Z : List UInt8) (B : Nat) (w0 w : World) : Prop :=
  DkAt w Fx Dx ∧ IsI w v4 stay ∧ (convert ts ss s).run P w = .ok (.string ⟨Z.toArray⟩) w ∧ IsB w s Z ∧ Below B w0 w
theorem fl_held {Fx : Ft} {Dx : Dk} {v4 : Value} {stay : List Int} {s : Value} {Z : List UInt8} {w0 w : World} (h1 : DkAt w Fx Dx) (h2 : IsI w v4 stay) (h3 : IsB w s Z) (h5 : Below w0.heap.size w0 w) :
    FlHeld Try.prog 30 9 Fx Dx v4 stay s Z w0.heap.size w0 w :=
  ⟨h1, h2, run_str (P := Try.prog) h3 30 9 5 Try.underlying30 Try.underlying5 Try.underlying9, h3, h5⟩
theorem fl_keep {Fx : Ft} {Dx : Dk} {v4 : Value} {stay : List Int} {s : Value} {Z : List UInt8} {w0 w w' : World} (h : FlHeld Try.prog 30 9 Fx Dx v4 stay s Z w0.heap.size w0 w) (hb : Below w.heap.size w w') :
    FlHeld Try.prog 30 9 Fx Dx v4 stay s Z w0.heap.size w0 w' := by
  obtain ⟨h1, h2, _, h3, h5⟩ := h
  exact fl_held (h1.below hb) (h2.below hb) (h3.below hb) (h5.trans (hb.mono h5.size))
theorem fl_drew {Fx : Ft} {Dx : Dk} {v4 : Value} {stay : List Int} {s : Value} {Z : List UInt8} {w0 w : World} (h : FlHeld Try.prog 30 9 Fx Dx v4 stay s Z w0.heap.size w0 w) :
    FlHeld Try.prog 30 9 Fx Dx v4 stay s Z w0.heap.size w0 w.drew := fl_keep h (Below.refl _ w).drew

set_option maxRecDepth 100000 in
set_option maxHeartbeats 8000000 in
theorem lawFlushes_walk (w : World) (v0 : Value) (L : List OpV) (at_ : Int) (c : UInt8) (v3 : Value) (then_ : List Int) (v4 : Value) (stay : List Int) (hv0 : IsO w v0 L) (h1 : -9223372036854775808 ≤ at_) (h2 : at_ ≤ 9223372036854775807)
    (hv3 : IsI w v3 then_) (hr3 : ∀ x ∈ then_, -9223372036854775808 ≤ x ∧ x ≤ 9223372036854775807) (hv4 : IsI w v4 stay) :
    Calls Try.prog 5 #[v0, .int .i64 at_, .int .u8 (c.toNat : Int), v3, v4] w fun e w' => e = .returned (.bool true) ∧ Below w.heap.size w w' := by
  have hk := pickN_lt at_ (show 0 < 8 by omega)
  have hcl : (List.replicate 128 c).length = 128 := List.length_replicate
  have hc2 : (List.replicate 128 (c + 1)).length = 128 := List.length_replicate
  have hof := fun w : World => of_any w c
  have e8 : ((c.toNat : Int) + 1) % 256 = ((c + 1).toNat : Int) := by
    rw [UInt8.toNat_add]
    simp
  have hof1 : ∀ w : World, Calls Try.prog 18 #[.int .u8 (((c.toNat : Int) + 1) % 256)] w fun e w' => ∃ v, e = .returned v ∧ Mine 5 w.heap.size w' v (List.replicate 128 (c + 1)) ∧ Below w.heap.size w w' := fun w => by rw [e8]; exact of_any w (c + 1)
  generalize List.replicate 128 c = Z at *
  generalize List.replicate 128 (c + 1) = Z1 at *
  have Hof := Lib.hid hof
  have Hof1 := Lib.hid hof1
  clear hof hof1 e8
  go_enter Try.func5, Try.ntmps5
  go_wp2_with fail
  refine (shown_any w).mono ?_
  rintro e w1 ⟨rfl, hb1⟩
  go_wp2_with fail
  refine (plays_any w1 v0 L (hv0.below hb1)).mono ?_
  rintro e w2 ⟨F, D, u2, B, rfl, d2, g2, l2, hFB, hBw, hb2⟩
  have hF : F.new w := fun k hk => Nat.le_trans hb1.size (hFB k hk).1
  have hb2' := hb1.trans (hb2.mono hb1.size)
  have hs2 := hb2'.size
  clear hb1 hb2 l2 hFB hBw
  go_wp2_with fail
  refine (pick_any w2 at_ 8 h1 h2 (by omega) (by omega)).mono ?_
  rintro e w3 ⟨rfl, rfl⟩
  generalize pickN at_ 8 = p at *
  obtain ⟨D1, D2, e1, e2, kp⟩ := g2.kept d2.ok hk hcl
  have E1 := Lib.hid e1
  have E2 := Lib.hid e2
  clear e1 e2
  go_wp2_with fail
  refine (Hof.out w2).mono ?_
  rintro e w4 ⟨u4, rfl, hm4, hb4⟩
  have d4 := d2.below hb4
  have hb4' := hb2'.trans (hb4.mono hs2)
  have hs4 := hb4'.size
  clear hb2' hb4 d2 hs2 g2
  go_wp2_with fail
  refine (write_any w4 F D d4 p u4 Z hm4.isB (by omega) (by omega)).mono ?_
  rintro e w5 ⟨rfl, d5, t5⟩
  rw [E1.out] at d5 ⊢
  have hb5' := t5.own hb4' hF hs4
  have hs5 := hb5'.size
  clear hb4' d4 hs4 hm4 t5
  go_wp2_with fail
  refine (flush_any w5 F D1 d5).mono ?_
  rintro e w6 ⟨rfl, d6, t6⟩
  rw [E2.out] at d6 ⊢
  have hb6' := t6.own hb5' hF hs5
  have hs6 := hb6'.size
  clear hb5' d5 hs5 t6 E1 E2
  obtain ⟨a3, cap3, rfl, hlc3, hmx3, hnil3, hc3⟩ := id hv3
  unfold maxLen at hmx3
  clear hc3
  go_wp2_with fail
  go_loopw [18, 19, 45, 46, 47, 48, 49, 50, 51, 52, 53, 54, 55, 56, 57, 58, 59, 60, 61, 62, 63, 64, 65, 66, 67, 68] (fun i _ _ _ _ _ _ _ _ _ _ _ _ _ _ _ _ _ _ _ _ _ _ _ _ _ wr => ∃ (k : Nat) (D : Dk), k ≤ then_.length ∧ k ≤ 50 ∧ i = .int .i64 (k : Int) ∧ DkAt wr F D ∧ Kept D p Z (102 + k) ∧ Below w.heap.size w wr) (fun i _ _ _ _ _ _ _ _ _ _ _ _ _ _ _ _ _ _ _ _ _ _ _ _ _ _ => 50 - (intOf i).toNat)
  case atStart => exact ⟨0, D2, Nat.zero_le _, Nat.zero_le _, rfl, d6, kp, hb6'⟩
  case round =>
    obtain ⟨k, D', hk1, hk2, rfl, dr, kp', hbr⟩ := hrel
    clear d6 kp hb6' hs6
    have hsr := hbr.size
    by_cases hlt : k < then_.length
    · by_cases hlt2 : k < 50
      · have hd : decide ((k : Int) < (then_.length : Int)) = true := by simpa using hlt
        have hd2 : decide ((k : Int) < 50) = true := by simp; omega
        obtain ⟨a', cap', hv', _, _, _, hc⟩ := hv3.below hbr
        simp only [Value.slice.injEq] at hv'
        obtain ⟨rfl, _, rfl⟩ := hv'
        obtain ⟨x, rfl⟩ : ∃ x, a3 = some x := by
          cases a3 with
          | none => have := hnil3 rfl; omega
          | some x => exact ⟨x, rfl⟩
        obtain ⟨hsp, hcl3⟩ := hc x rfl
        obtain ⟨Bx, o, sp⟩ := x
        obtain rfl : sp = none := hsp (by omega)
        have c0 := hcl3 k hlt
        dsimp only at c0
        obtain ⟨y1, y2⟩ := hr3 then_[k] (List.getElem_mem hlt)
        clear hc hcl3 hsp
        generalize then_[k] = y at *
        have i0 : (0 : Int) ≤ (k : Int) := by omega
        have i1 : (k : Int) < (then_.length : Int) := by omega
        go_wp2_with fail
        refine (pick_any wr y 8 y1 y2 (by omega) (by omega)).mono ?_
        rintro e w7 ⟨rfl, rfl⟩
        have hq := pickN_lt y (show 0 < 8 by omega)
        generalize pickN y 8 = q at *
        by_cases hqp : q = p
        · subst hqp
          have hb : (((q : Nat) : Int) != ((q : Nat) : Int)) = false := by simp
          go_wp2_with fail
          go_roundw
          case rel => exact ⟨k + 1, D', by omega, by omega, by go_num, dr, ⟨kp'.n, kp'.off, kp'.cut, by have := kp'.ops; omega, kp'.lies, kp'.no⟩, hbr⟩
          case measure => simp [intOf]; omega
        · have hb : (((q : Nat) : Int) != ((p : Nat) : Int)) = true := by simp; omega
          obtain ⟨D'', e', kp''⟩ := kp'.write hq hqp hc2 (by omega)
          have E' := Lib.hid e'
          clear e'
          go_wp2_with fail
          refine (Hof1.out wr).mono ?_
          rintro e w7 ⟨u7, rfl, hm7, hb7⟩
          have d7 := dr.below hb7
          have b7 := hbr.trans (hb7.mono hsr)
          clear dr hb7 hbr hsr
          go_wp2_with fail
          refine (write_any w7 F D' d7 q u7 Z1 hm7.isB (by omega) (by omega)).mono ?_
          rintro e w8 ⟨rfl, d8, t8⟩
          rw [E'.out] at d8 ⊢
          have b8 := t8.own b7 hF b7.size
          clear d7 b7 t8 hm7
          go_wp2_with fail
          go_roundw
          case rel => exact ⟨k + 1, D'', by omega, by omega, by go_num, d8, kp'', b8⟩
          case measure => simp [intOf]; omega
      · have hd : decide ((k : Int) < (then_.length : Int)) = true := by simpa using hlt
        have hd2 : decide ((k : Int) < 50) = false := by simp; omega
        go_wp2_with fail
        refine (crash_any wr F D' dr v4 stay (hv4.below hbr)).mono ?_
        rintro e w8 ⟨Fx, rfl, dx8, hFx, hb8⟩
        obtain ⟨ec, en⟩ := kp'.crash dr.ok hk stay
        have b8 := hbr.trans (hb8.mono hsr)
        have en2 : ((D'.crash stay).crash stay).n = 8 := en
        have Ec := Lib.hid ec
        have En := Lib.hid en2
        clear ec en en2 dr hb8 hbr hsr hFx kp'
        generalize D'.crash stay = Dx at *
        go_wp2_with fail
        refine (read_any w8 Fx Dx dx8 p (by omega) (by omega)).mono ?_
        rintro e w9 ⟨v9, rfl, hg9⟩
        rw [Ec.out] at hg9 ⊢
        have hb9 := hg9.below
        have dx9 := dx8.below hb9
        have b9 := b8.trans (hb9.mono b8.size)
        have hi9 := hg9.isB
        have i9 := hv4.below b9
        clear dx8 hb9 b8 hg9
        go_wp2_with fail
        refine wp_region_noPanic ?_
        refine wp_region_held_drew (S := (fun w' => FlHeld Try.prog 30 9 Fx Dx v4 stay v9 Z w.heap.size w w')) (by kernel_rfl) (fl_drew (fl_held dx9 i9 hi9 b9)) (fun hH => ?_)
        refine wpAnyH_take (i := 0) (oi := { dst := some 78, op := Op.move (Operand.tmp 16), type := 31, pos := "disk.go:244", after := #[], guard := none }) (v := ?_) rfl (by kernel_rfl) (by kernel_rfl) (by kernel_rfl) (fun _ _ _ h => h) (Or.inl ⟨by rfl, ?_⟩) hH ?_
        rotate_left
        · (intro w hSw; obtain ⟨_, _, q1, _⟩ := hSw; go_simp; try with_reducible rfl)
        try simp only [Act.put, List.setIfInBounds_toArray, List.set_cons_zero, List.set_cons_succ]
        refine wpAnyH_take (i := 1) (oi := { dst := some 79, op := Op.binOp BinOp.eql 31 (Operand.tmp 78) (Operand.const (Value.int IntKind.i64 0)) 31, type := 4, pos := "disk.go:244", after := #[{ on := 0, ground := Ground.data }], guard := none }) (v := ?_) rfl (by kernel_rfl) (by kernel_rfl) (by kernel_rfl) (fun _ _ _ h => h) (Or.inl ⟨by rfl, ?_⟩) hH ?_
        rotate_left
        · (intro w hSw; obtain ⟨_, _, q1, _⟩ := hSw; go_simp; try with_reducible rfl)
        try simp only [Act.put, List.setIfInBounds_toArray, List.set_cons_zero, List.set_cons_succ]
        refine wpAnyH_take (i := 2) (oi := { dst := some 80, op := Op.move (Operand.tmp 79), type := 4, pos := "disk.go:244", after := #[{ on := 1, ground := Ground.data }], guard := none }) (v := ?_) rfl (by kernel_rfl) (by kernel_rfl) (by kernel_rfl) (fun _ _ _ h => h) (Or.inl ⟨by rfl, ?_⟩) hH ?_
        rotate_left
        · (intro w hSw; obtain ⟨_, _, q1, _⟩ := hSw; go_simp; try with_reducible rfl)
        try simp only [Act.put, List.setIfInBounds_toArray, List.set_cons_zero, List.set_cons_succ]
        refine wpAnyH_take (i := 3) (oi := { dst := some 81, op := Op.move (Operand.tmp 17), type := 31, pos := "disk.go:244", after := #[{ on := 2, ground := Ground.guard }], guard := some (2, true) }) (v := ?_) rfl (by kernel_rfl) (by kernel_rfl) (by kernel_rfl) (fun _ _ _ h => h) (Or.inl ⟨by rfl, ?_⟩) hH ?_
        rotate_left
        · (intro w hSw; obtain ⟨_, _, q1, _⟩ := hSw; go_simp; try with_reducible rfl)
        try simp only [Act.put, List.setIfInBounds_toArray, List.set_cons_zero, List.set_cons_succ]
        refine wpAnyH_take (i := 4) (oi := { dst := some 82, op := Op.binOp BinOp.eql 31 (Operand.tmp 81) (Operand.const (Value.int IntKind.i64 0)) 31, type := 4, pos := "disk.go:244", after := #[{ on := 3, ground := Ground.data }, { on := 2, ground := Ground.guard }], guard := some (2, true) }) (v := ?_) rfl (by kernel_rfl) (by kernel_rfl) (by kernel_rfl) (fun _ _ _ h => h) (Or.inl ⟨by rfl, ?_⟩) hH ?_
        rotate_left
        · (intro w hSw; obtain ⟨_, _, q1, _⟩ := hSw; go_simp; try with_reducible rfl)
        try simp only [Act.put, List.setIfInBounds_toArray, List.set_cons_zero, List.set_cons_succ]
        refine wpAnyH_take (i := 5) (oi := { dst := some 83, op := Op.pick (Operand.tmp 80) (Operand.tmp 82) (Operand.const (Value.bool false)), type := 4, pos := "disk.go:244", after := #[{ on := 2, ground := Ground.data }, { on := 4, ground := Ground.data }], guard := none }) (v := ?_) rfl (by kernel_rfl) (by kernel_rfl) (by kernel_rfl) (fun _ _ _ h => h) (Or.inl ⟨by rfl, ?_⟩) hH ?_
        rotate_left
        · (intro w hSw; obtain ⟨_, _, q1, _⟩ := hSw; go_simp; try with_reducible rfl)
        try simp only [Act.put, List.setIfInBounds_toArray, List.set_cons_zero, List.set_cons_succ]
        refine wpAnyH_take (i := 6) (oi := { dst := some 84, op := Op.move (Operand.tmp 83), type := 4, pos := "disk.go:244", after := #[{ on := 5, ground := Ground.data }, { on := 2, ground := Ground.chain }], guard := none }) (v := ?_) rfl (by kernel_rfl) (by kernel_rfl) (by kernel_rfl) (fun _ _ _ h => h) (Or.inl ⟨by rfl, ?_⟩) hH ?_
        rotate_left
        · (intro w hSw; obtain ⟨_, _, q1, _⟩ := hSw; go_simp; try with_reducible rfl)
        try simp only [Act.put, List.setIfInBounds_toArray, List.set_cons_zero, List.set_cons_succ]
        refine wpAnyH_take (i := 7) (oi := { dst := some 85, op := Op.move (Operand.tmp 22), type := 31, pos := "disk.go:244", after := #[{ on := 6, ground := Ground.guard }], guard := some (6, true) }) (v := ?_) rfl (by kernel_rfl) (by kernel_rfl) (by kernel_rfl) (fun _ _ _ h => h) (Or.inl ⟨by rfl, ?_⟩) hH ?_
        rotate_left
        · (intro w hSw; obtain ⟨_, _, q1, _⟩ := hSw; go_simp; try with_reducible rfl)
        try simp only [Act.put, List.setIfInBounds_toArray, List.set_cons_zero, List.set_cons_succ]
        refine wpAnyH_take (i := 8) (oi := { dst := some 86, op := Op.binOp BinOp.eql 31 (Operand.tmp 85) (Operand.const (Value.int IntKind.i64 0)) 31, type := 4, pos := "disk.go:244", after := #[{ on := 7, ground := Ground.data }, { on := 6, ground := Ground.guard }], guard := some (6, true) }) (v := ?_) rfl (by kernel_rfl) (by kernel_rfl) (by kernel_rfl) (fun _ _ _ h => h) (Or.inl ⟨by rfl, ?_⟩) hH ?_
        rotate_left
        · (intro w hSw; obtain ⟨_, _, q1, _⟩ := hSw; go_simp; try with_reducible rfl)
        try simp only [Act.put, List.setIfInBounds_toArray, List.set_cons_zero, List.set_cons_succ]
        refine wpAnyH_take (i := 9) (oi := { dst := some 87, op := Op.pick (Operand.tmp 84) (Operand.tmp 86) (Operand.const (Value.bool false)), type := 4, pos := "disk.go:244", after := #[{ on := 6, ground := Ground.data }, { on := 8, ground := Ground.data }], guard := none }) (v := ?_) rfl (by kernel_rfl) (by kernel_rfl) (by kernel_rfl) (fun _ _ _ h => h) (Or.inl ⟨by rfl, ?_⟩) hH ?_
        rotate_left
        · (intro w hSw; obtain ⟨_, _, q1, _⟩ := hSw; go_simp; try with_reducible rfl)
        try simp only [Act.put, List.setIfInBounds_toArray, List.set_cons_zero, List.set_cons_succ]
        refine wpAnyH_take (i := 10) (oi := { dst := some 88, op := Op.move (Operand.tmp 87), type := 4, pos := "disk.go:244", after := #[{ on := 9, ground := Ground.data }, { on := 6, ground := Ground.chain }], guard := none }) (v := ?_) rfl (by kernel_rfl) (by kernel_rfl) (by kernel_rfl) (fun _ _ _ h => h) (Or.inl ⟨by rfl, ?_⟩) hH ?_
        rotate_left
        · (intro w hSw; obtain ⟨_, _, q1, _⟩ := hSw; go_simp; try with_reducible rfl)
        try simp only [Act.put, List.setIfInBounds_toArray, List.set_cons_zero, List.set_cons_succ]
        refine wpAnyH_take (i := 11) (oi := { dst := some 89, op := Op.move (Operand.tmp 21), type := 30, pos := "disk.go:244", after := #[{ on := 10, ground := Ground.guard }], guard := some (10, true) }) (v := ?_) rfl (by kernel_rfl) (by kernel_rfl) (by kernel_rfl) (fun _ _ _ h => h) (Or.inl ⟨by rfl, ?_⟩) hH ?_
        rotate_left
        · (intro w hSw; obtain ⟨_, _, q1, _⟩ := hSw; go_simp; try with_reducible rfl)
        try simp only [Act.put, List.setIfInBounds_toArray, List.set_cons_zero, List.set_cons_succ]
        refine wpAnyH_take (i := 12) (oi := { dst := some 90, op := Op.convert 30 9 (Operand.tmp 89), type := 9, pos := "disk.go:244", after := #[{ on := 11, ground := Ground.data }, { on := 10, ground := Ground.guard }], guard := some (10, true) }) (v := ?_) rfl (by kernel_rfl) (by kernel_rfl) (by kernel_rfl) (fun _ _ _ h => h) (Or.inl ⟨by rfl, ?_⟩) hH ?_
        rotate_left
        · (intro w hSw; obtain ⟨_, _, q1, _⟩ := hSw; go_simp; try with_reducible rfl)
        try simp only [Act.put, List.setIfInBounds_toArray, List.set_cons_zero, List.set_cons_succ]
        refine wpAnyH_take (i := 13) (oi := { dst := some 91, op := Op.move (Operand.tmp 2), type := 5, pos := "disk.go:244", after := #[{ on := 10, ground := Ground.guard }], guard := some (10, true) }) (v := ?_) rfl (by kernel_rfl) (by kernel_rfl) (by kernel_rfl) (fun _ _ _ h => h) (Or.inl ⟨by rfl, ?_⟩) hH ?_
        rotate_left
        · (intro w hSw; obtain ⟨_, _, q1, _⟩ := hSw; go_simp; try with_reducible rfl)
        try simp only [Act.put, List.setIfInBounds_toArray, List.set_cons_zero, List.set_cons_succ]
        refine wpAnyH_ready (rs := [14]) (by kernel_rfl) (by simp) ?_
        refine AllReadyH.cons (o := { dst := some 92, op := Op.call { callee := Callee.value (Operand.func 18), args := #[Operand.tmp 91], argTypes := #[5] }, type := 30, pos := "disk.go:244", after := #[{ on := 13, ground := Ground.data }, { on := 10, ground := Ground.chain }, { on := 10, ground := Ground.guard }], guard := some (10, true) }) rfl (fun K hK => ?_) AllReadyH.nil
        go_simp
        refine (Hof.out _).mono ?_
        rintro e w20 ⟨u20, rfl, hm20, hb20⟩
        have hs20 := run_str (P := Try.prog) hm20.isB 30 9 5 Try.underlying30 Try.underlying5 Try.underlying9
        have hH20 := fl_keep hH hb20
        clear hm20 hb20 hH
        go_wp2_with fail
        refine hK.out _ _ hH20 (fun hH => ?_)
        clear hH20
        clear hK K
        try simp only [Act.put, List.setIfInBounds_toArray, List.set_cons_zero, List.set_cons_succ]
        refine wpAnyH_ready (rs := [15]) (by kernel_rfl) (by simp) ?_
        refine AllReadyH.cons (o := { dst := some 93, op := Op.convert 30 9 (Operand.tmp 92), type := 9, pos := "disk.go:244", after := #[{ on := 14, ground := Ground.data }, { on := 10, ground := Ground.guard }], guard := some (10, true) }) rfl (fun K hK => ?_) AllReadyH.nil
        go_simp
        refine hK.out _ _ hH (fun _ => ?_)
        clear hK K
        try simp only [Act.put, List.setIfInBounds_toArray, List.set_cons_zero, List.set_cons_succ]
        refine wpAnyH_take (i := 16) (oi := { dst := some 94, op := Op.binOp BinOp.eql 9 (Operand.tmp 90) (Operand.tmp 93) 9, type := 4, pos := "disk.go:244", after := #[{ on := 12, ground := Ground.data }, { on := 15, ground := Ground.data }, { on := 10, ground := Ground.guard }], guard := some (10, true) }) (v := ?_) rfl (by kernel_rfl) (by kernel_rfl) (by kernel_rfl) (fun _ _ _ h => h) (Or.inl ⟨by rfl, ?_⟩) hH ?_
        rotate_left
        · (intro w hSw; obtain ⟨_, _, q1, _⟩ := hSw; go_simp; try with_reducible rfl)
        try simp only [Act.put, List.setIfInBounds_toArray, List.set_cons_zero, List.set_cons_succ]
        refine wpAnyH_take (i := 17) (oi := { dst := some 95, op := Op.pick (Operand.tmp 88) (Operand.tmp 94) (Operand.const (Value.bool false)), type := 4, pos := "disk.go:244", after := #[{ on := 10, ground := Ground.data }, { on := 16, ground := Ground.data }], guard := none }) (v := ?_) rfl (by kernel_rfl) (by kernel_rfl) (by kernel_rfl) (fun _ _ _ h => h) (Or.inl ⟨by rfl, ?_⟩) hH ?_
        rotate_left
        · (intro w hSw; obtain ⟨_, _, q1, _⟩ := hSw; go_simp; try with_reducible rfl)
        try simp only [Act.put, List.setIfInBounds_toArray, List.set_cons_zero, List.set_cons_succ]
        refine wpAnyH_take (i := 18) (oi := { dst := some 96, op := Op.move (Operand.tmp 95), type := 4, pos := "disk.go:244", after := #[{ on := 17, ground := Ground.data }, { on := 14, ground := Ground.chain }], guard := none }) (v := ?_) rfl (by kernel_rfl) (by kernel_rfl) (by kernel_rfl) (fun _ _ _ h => h) (Or.inl ⟨by rfl, ?_⟩) hH ?_
        rotate_left
        · (intro w hSw; obtain ⟨_, _, q1, _⟩ := hSw; go_simp; try with_reducible rfl)
        try simp only [Act.put, List.setIfInBounds_toArray, List.set_cons_zero, List.set_cons_succ]
        refine wpAnyH_take (i := 19) (oi := { dst := some 97, op := Op.move (Operand.tmp 20), type := 25, pos := "disk.go:244", after := #[{ on := 18, ground := Ground.guard }], guard := some (18, true) }) (v := ?_) rfl (by kernel_rfl) (by kernel_rfl) (by kernel_rfl) (fun _ _ _ h => h) (Or.inl ⟨by rfl, ?_⟩) hH ?_
        rotate_left
        · (intro w hSw; obtain ⟨_, _, q1, _⟩ := hSw; go_simp; try with_reducible rfl)
        try simp only [Act.put, List.setIfInBounds_toArray, List.set_cons_zero, List.set_cons_succ]
        refine wpAnyH_take (i := 20) (oi := { dst := some 98, op := Op.move (Operand.tmp 4), type := 23, pos := "disk.go:244", after := #[{ on := 18, ground := Ground.guard }], guard := some (18, true) }) (v := ?_) rfl (by kernel_rfl) (by kernel_rfl) (by kernel_rfl) (fun _ _ _ h => h) (Or.inl ⟨by rfl, ?_⟩) hH ?_
        rotate_left
        · (intro w hSw; obtain ⟨_, _, q1, _⟩ := hSw; go_simp; try with_reducible rfl)
        try simp only [Act.put, List.setIfInBounds_toArray, List.set_cons_zero, List.set_cons_succ]
        refine wpAnyH_ready (rs := [21]) (by kernel_rfl) (by simp) ?_
        refine AllReadyH.cons (o := { dst := some 99, op := Op.call { callee := Callee.value (Operand.func 11), args := #[Operand.tmp 97, Operand.tmp 98], argTypes := #[25, 23] }, type := 25, pos := "disk.go:244", after := #[{ on := 19, ground := Ground.data }, { on := 20, ground := Ground.data }, { on := 18, ground := Ground.chain }, { on := 18, ground := Ground.guard }], guard := some (18, true) }) rfl (fun K hK => ?_) AllReadyH.nil
        go_simp
        refine (crash_any _ Fx Dx hH.1 v4 stay hH.2.1).mono ?_
        rintro e w30 ⟨F3, rfl, dz, hF3, hb30⟩
        have hH30 := fl_keep hH hb30
        clear hF3 hb30 hH
        go_wp2_with fail
        refine hK.out _ _ hH30 (fun hH => ?_)
        clear hH30
        clear hK K
        try simp only [Act.put, List.setIfInBounds_toArray, List.set_cons_zero, List.set_cons_succ]
        refine wpAnyH_ready (rs := [22]) (by kernel_rfl) (by simp) ?_
        refine AllReadyH.cons (o := { dst := some 100, op := Op.call { callee := Callee.value (Operand.func 19), args := #[Operand.tmp 99], argTypes := #[25] }, type := 3, pos := "disk.go:244", after := #[{ on := 21, ground := Ground.data }, { on := 21, ground := Ground.chain }, { on := 18, ground := Ground.guard }], guard := some (18, true) }) rfl (fun K hK => ?_) AllReadyH.nil
        go_simp
        refine (sectors_any _ F3 (Dx.crash stay) dz).mono ?_
        rintro e w' ⟨rfl, rfl⟩
        rw [En.out]
        go_wp2_with fail
        refine hK.out _ _ hH (fun _ => ?_)
        clear hK K
        try simp only [Act.put, List.setIfInBounds_toArray, List.set_cons_zero, List.set_cons_succ]
        refine wpAnyH_take (i := 23) (oi := { dst := some 101, op := Op.binOp BinOp.eql 3 (Operand.tmp 100) (Operand.const (Value.int IntKind.i64 8)) 3, type := 4, pos := "disk.go:244", after := #[{ on := 22, ground := Ground.data }, { on := 18, ground := Ground.guard }], guard := some (18, true) }) (v := ?_) rfl (by kernel_rfl) (by kernel_rfl) (by kernel_rfl) (fun _ _ _ h => h) (Or.inl ⟨by rfl, ?_⟩) hH ?_
        rotate_left
        · (intro w hSw; obtain ⟨_, _, q1, _⟩ := hSw; go_simp; try with_reducible rfl)
        try simp only [Act.put, List.setIfInBounds_toArray, List.set_cons_zero, List.set_cons_succ]
        refine wpAnyH_take (i := 24) (oi := { dst := some 102, op := Op.pick (Operand.tmp 96) (Operand.tmp 101) (Operand.const (Value.bool false)), type := 4, pos := "disk.go:244", after := #[{ on := 18, ground := Ground.data }, { on := 23, ground := Ground.data }], guard := none }) (v := ?_) rfl (by kernel_rfl) (by kernel_rfl) (by kernel_rfl) (fun _ _ _ h => h) (Or.inl ⟨by rfl, ?_⟩) hH ?_
        rotate_left
        · (intro w hSw; obtain ⟨_, _, q1, _⟩ := hSw; go_simp; try with_reducible rfl)
        try simp only [Act.put, List.setIfInBounds_toArray, List.set_cons_zero, List.set_cons_succ]
        refine wpAnyH_take (i := 25) (oi := { dst := some 10, op := Op.assign (Operand.tmp 102), type := 4, pos := "disk.go:244", after := #[{ on := 24, ground := Ground.data }, { on := 22, ground := Ground.chain }, { on := 0, ground := Ground.phase }, { on := 1, ground := Ground.phase }, { on := 2, ground := Ground.phase }, { on := 3, ground := Ground.phase }, { on := 4, ground := Ground.phase }, { on := 5, ground := Ground.phase }, { on := 6, ground := Ground.phase }, { on := 7, ground := Ground.phase }, { on := 8, ground := Ground.phase }, { on := 9, ground := Ground.phase }, { on := 10, ground := Ground.phase }, { on := 11, ground := Ground.phase }, { on := 12, ground := Ground.phase }, { on := 13, ground := Ground.phase }, { on := 14, ground := Ground.phase }, { on := 15, ground := Ground.phase }, { on := 16, ground := Ground.phase }, { on := 17, ground := Ground.phase }, { on := 18, ground := Ground.phase }, { on := 19, ground := Ground.phase }, { on := 20, ground := Ground.phase }, { on := 21, ground := Ground.phase }, { on := 22, ground := Ground.phase }, { on := 23, ground := Ground.phase }, { on := 24, ground := Ground.phase }], guard := none }) (v := ?_) rfl (by kernel_rfl) (by kernel_rfl) (by kernel_rfl) (fun _ _ _ h => h) (Or.inl ⟨by rfl, ?_⟩) hH ?_
        rotate_left
        · (intro w hSw; obtain ⟨_, _, q1, _⟩ := hSw; go_simp; try with_reducible rfl)
        try simp only [Act.put, List.setIfInBounds_toArray, List.set_cons_zero, List.set_cons_succ]
        refine wpAnyH_done (by kernel_rfl) ?_ _
        refine NoPanic.normal ?_
        go_wp2_with fail
        go_ret
        exact ⟨rfl, hH.2.2.2.2⟩
    · have hd : decide ((k : Int) < (then_.length : Int)) = false := by simpa using hlt
      go_wp2_with fail
      refine (crash_any wr F D' dr v4 stay (hv4.below hbr)).mono ?_
      rintro e w8 ⟨Fx, rfl, dx8, hFx, hb8⟩
      obtain ⟨ec, en⟩ := kp'.crash dr.ok hk stay
      have b8 := hbr.trans (hb8.mono hsr)
      have en2 : ((D'.crash stay).crash stay).n = 8 := en
      have Ec := Lib.hid ec
      have En := Lib.hid en2
      clear ec en en2 dr hb8 hbr hsr hFx kp'
      generalize D'.crash stay = Dx at *
      go_wp2_with fail
      refine (read_any w8 Fx Dx dx8 p (by omega) (by omega)).mono ?_
      rintro e w9 ⟨v9, rfl, hg9⟩
      rw [Ec.out] at hg9 ⊢
      have hb9 := hg9.below
      have dx9 := dx8.below hb9
      have b9 := b8.trans (hb9.mono b8.size)
      have hi9 := hg9.isB
      have i9 := hv4.below b9
      clear dx8 hb9 b8 hg9
      go_wp2_with fail
      refine wp_region_noPanic ?_
      refine wp_region_held_drew (S := (fun w' => FlHeld Try.prog 30 9 Fx Dx v4 stay v9 Z w.heap.size w w')) (by kernel_rfl) (fl_drew (fl_held dx9 i9 hi9 b9)) (fun hH => ?_)
      refine wpAnyH_take (i := 0) (oi := { dst := some 78, op := Op.move (Operand.tmp 16), type := 31, pos := "disk.go:244", after := #[], guard := none }) (v := ?_) rfl (by kernel_rfl) (by kernel_rfl) (by kernel_rfl) (fun _ _ _ h => h) (Or.inl ⟨by rfl, ?_⟩) hH ?_
      rotate_left
      · (intro w hSw; obtain ⟨_, _, q1, _⟩ := hSw; go_simp; try with_reducible rfl)
      try simp only [Act.put, List.setIfInBounds_toArray, List.set_cons_zero, List.set_cons_succ]
      refine wpAnyH_take (i := 1) (oi := { dst := some 79, op := Op.binOp BinOp.eql 31 (Operand.tmp 78) (Operand.const (Value.int IntKind.i64 0)) 31, type := 4, pos := "disk.go:244", after := #[{ on := 0, ground := Ground.data }], guard := none }) (v := ?_) rfl (by kernel_rfl) (by kernel_rfl) (by kernel_rfl) (fun _ _ _ h => h) (Or.inl ⟨by rfl, ?_⟩) hH ?_
      rotate_left
      · (intro w hSw; obtain ⟨_, _, q1, _⟩ := hSw; go_simp; try with_reducible rfl)
      try simp only [Act.put, List.setIfInBounds_toArray, List.set_cons_zero, List.set_cons_succ]
      refine wpAnyH_take (i := 2) (oi := { dst := some 80, op := Op.move (Operand.tmp 79), type := 4, pos := "disk.go:244", after := #[{ on := 1, ground := Ground.data }], guard := none }) (v := ?_) rfl (by kernel_rfl) (by kernel_rfl) (by kernel_rfl) (fun _ _ _ h => h) (Or.inl ⟨by rfl, ?_⟩) hH ?_
      rotate_left
      · (intro w hSw; obtain ⟨_, _, q1, _⟩ := hSw; go_simp; try with_reducible rfl)
      try simp only [Act.put, List.setIfInBounds_toArray, List.set_cons_zero, List.set_cons_succ]
      refine wpAnyH_take (i := 3) (oi := { dst := some 81, op := Op.move (Operand.tmp 17), type := 31, pos := "disk.go:244", after := #[{ on := 2, ground := Ground.guard }], guard := some (2, true) }) (v := ?_) rfl (by kernel_rfl) (by kernel_rfl) (by kernel_rfl) (fun _ _ _ h => h) (Or.inl ⟨by rfl, ?_⟩) hH ?_
      rotate_left
      · (intro w hSw; obtain ⟨_, _, q1, _⟩ := hSw; go_simp; try with_reducible rfl)
      try simp only [Act.put, List.setIfInBounds_toArray, List.set_cons_zero, List.set_cons_succ]
      refine wpAnyH_take (i := 4) (oi := { dst := some 82, op := Op.binOp BinOp.eql 31 (Operand.tmp 81) (Operand.const (Value.int IntKind.i64 0)) 31, type := 4, pos := "disk.go:244", after := #[{ on := 3, ground := Ground.data }, { on := 2, ground := Ground.guard }], guard := some (2, true) }) (v := ?_) rfl (by kernel_rfl) (by kernel_rfl) (by kernel_rfl) (fun _ _ _ h => h) (Or.inl ⟨by rfl, ?_⟩) hH ?_
      rotate_left
      · (intro w hSw; obtain ⟨_, _, q1, _⟩ := hSw; go_simp; try with_reducible rfl)
      try simp only [Act.put, List.setIfInBounds_toArray, List.set_cons_zero, List.set_cons_succ]
      refine wpAnyH_take (i := 5) (oi := { dst := some 83, op := Op.pick (Operand.tmp 80) (Operand.tmp 82) (Operand.const (Value.bool false)), type := 4, pos := "disk.go:244", after := #[{ on := 2, ground := Ground.data }, { on := 4, ground := Ground.data }], guard := none }) (v := ?_) rfl (by kernel_rfl) (by kernel_rfl) (by kernel_rfl) (fun _ _ _ h => h) (Or.inl ⟨by rfl, ?_⟩) hH ?_
      rotate_left
      · (intro w hSw; obtain ⟨_, _, q1, _⟩ := hSw; go_simp; try with_reducible rfl)
      try simp only [Act.put, List.setIfInBounds_toArray, List.set_cons_zero, List.set_cons_succ]
      refine wpAnyH_take (i := 6) (oi := { dst := some 84, op := Op.move (Operand.tmp 83), type := 4, pos := "disk.go:244", after := #[{ on := 5, ground := Ground.data }, { on := 2, ground := Ground.chain }], guard := none }) (v := ?_) rfl (by kernel_rfl) (by kernel_rfl) (by kernel_rfl) (fun _ _ _ h => h) (Or.inl ⟨by rfl, ?_⟩) hH ?_
      rotate_left
      · (intro w hSw; obtain ⟨_, _, q1, _⟩ := hSw; go_simp; try with_reducible rfl)
      try simp only [Act.put, List.setIfInBounds_toArray, List.set_cons_zero, List.set_cons_succ]
      refine wpAnyH_take (i := 7) (oi := { dst := some 85, op := Op.move (Operand.tmp 22), type := 31, pos := "disk.go:244", after := #[{ on := 6, ground := Ground.guard }], guard := some (6, true) }) (v := ?_) rfl (by kernel_rfl) (by kernel_rfl) (by kernel_rfl) (fun _ _ _ h => h) (Or.inl ⟨by rfl, ?_⟩) hH ?_
      rotate_left
      · (intro w hSw; obtain ⟨_, _, q1, _⟩ := hSw; go_simp; try with_reducible rfl)
      try simp only [Act.put, List.setIfInBounds_toArray, List.set_cons_zero, List.set_cons_succ]
      refine wpAnyH_take (i := 8) (oi := { dst := some 86, op := Op.binOp BinOp.eql 31 (Operand.tmp 85) (Operand.const (Value.int IntKind.i64 0)) 31, type := 4, pos := "disk.go:244", after := #[{ on := 7, ground := Ground.data }, { on := 6, ground := Ground.guard }], guard := some (6, true) }) (v := ?_) rfl (by kernel_rfl) (by kernel_rfl) (by kernel_rfl) (fun _ _ _ h => h) (Or.inl ⟨by rfl, ?_⟩) hH ?_
      rotate_left
      · (intro w hSw; obtain ⟨_, _, q1, _⟩ := hSw; go_simp; try with_reducible rfl)
      try simp only [Act.put, List.setIfInBounds_toArray, List.set_cons_zero, List.set_cons_succ]
      refine wpAnyH_take (i := 9) (oi := { dst := some 87, op := Op.pick (Operand.tmp 84) (Operand.tmp 86) (Operand.const (Value.bool false)), type := 4, pos := "disk.go:244", after := #[{ on := 6, ground := Ground.data }, { on := 8, ground := Ground.data }], guard := none }) (v := ?_) rfl (by kernel_rfl) (by kernel_rfl) (by kernel_rfl) (fun _ _ _ h => h) (Or.inl ⟨by rfl, ?_⟩) hH ?_
      rotate_left
      · (intro w hSw; obtain ⟨_, _, q1, _⟩ := hSw; go_simp; try with_reducible rfl)
      try simp only [Act.put, List.setIfInBounds_toArray, List.set_cons_zero, List.set_cons_succ]
      refine wpAnyH_take (i := 10) (oi := { dst := some 88, op := Op.move (Operand.tmp 87), type := 4, pos := "disk.go:244", after := #[{ on := 9, ground := Ground.data }, { on := 6, ground := Ground.chain }], guard := none }) (v := ?_) rfl (by kernel_rfl) (by kernel_rfl) (by kernel_rfl) (fun _ _ _ h => h) (Or.inl ⟨by rfl, ?_⟩) hH ?_
      rotate_left
      · (intro w hSw; obtain ⟨_, _, q1, _⟩ := hSw; go_simp; try with_reducible rfl)
      try simp only [Act.put, List.setIfInBounds_toArray, List.set_cons_zero, List.set_cons_succ]
      refine wpAnyH_take (i := 11) (oi := { dst := some 89, op := Op.move (Operand.tmp 21), type := 30, pos := "disk.go:244", after := #[{ on := 10, ground := Ground.guard }], guard := some (10, true) }) (v := ?_) rfl (by kernel_rfl) (by kernel_rfl) (by kernel_rfl) (fun _ _ _ h => h) (Or.inl ⟨by rfl, ?_⟩) hH ?_
      rotate_left
      · (intro w hSw; obtain ⟨_, _, q1, _⟩ := hSw; go_simp; try with_reducible rfl)
      try simp only [Act.put, List.setIfInBounds_toArray, List.set_cons_zero, List.set_cons_succ]
      refine wpAnyH_take (i := 12) (oi := { dst := some 90, op := Op.convert 30 9 (Operand.tmp 89), type := 9, pos := "disk.go:244", after := #[{ on := 11, ground := Ground.data }, { on := 10, ground := Ground.guard }], guard := some (10, true) }) (v := ?_) rfl (by kernel_rfl) (by kernel_rfl) (by kernel_rfl) (fun _ _ _ h => h) (Or.inl ⟨by rfl, ?_⟩) hH ?_
      rotate_left
      · (intro w hSw; obtain ⟨_, _, q1, _⟩ := hSw; go_simp; try with_reducible rfl)
      try simp only [Act.put, List.setIfInBounds_toArray, List.set_cons_zero, List.set_cons_succ]
      refine wpAnyH_take (i := 13) (oi := { dst := some 91, op := Op.move (Operand.tmp 2), type := 5, pos := "disk.go:244", after := #[{ on := 10, ground := Ground.guard }], guard := some (10, true) }) (v := ?_) rfl (by kernel_rfl) (by kernel_rfl) (by kernel_rfl) (fun _ _ _ h => h) (Or.inl ⟨by rfl, ?_⟩) hH ?_
      rotate_left
      · (intro w hSw; obtain ⟨_, _, q1, _⟩ := hSw; go_simp; try with_reducible rfl)
      try simp only [Act.put, List.setIfInBounds_toArray, List.set_cons_zero, List.set_cons_succ]
      refine wpAnyH_ready (rs := [14]) (by kernel_rfl) (by simp) ?_
      refine AllReadyH.cons (o := { dst := some 92, op := Op.call { callee := Callee.value (Operand.func 18), args := #[Operand.tmp 91], argTypes := #[5] }, type := 30, pos := "disk.go:244", after := #[{ on := 13, ground := Ground.data }, { on := 10, ground := Ground.chain }, { on := 10, ground := Ground.guard }], guard := some (10, true) }) rfl (fun K hK => ?_) AllReadyH.nil
      go_simp
      refine (Hof.out _).mono ?_
      rintro e w20 ⟨u20, rfl, hm20, hb20⟩
      have hs20 := run_str (P := Try.prog) hm20.isB 30 9 5 Try.underlying30 Try.underlying5 Try.underlying9
      have hH20 := fl_keep hH hb20
      clear hm20 hb20 hH
      go_wp2_with fail
      refine hK.out _ _ hH20 (fun hH => ?_)
      clear hH20
      clear hK K
      try simp only [Act.put, List.setIfInBounds_toArray, List.set_cons_zero, List.set_cons_succ]
      refine wpAnyH_ready (rs := [15]) (by kernel_rfl) (by simp) ?_
      refine AllReadyH.cons (o := { dst := some 93, op := Op.convert 30 9 (Operand.tmp 92), type := 9, pos := "disk.go:244", after := #[{ on := 14, ground := Ground.data }, { on := 10, ground := Ground.guard }], guard := some (10, true) }) rfl (fun K hK => ?_) AllReadyH.nil
      go_simp
      refine hK.out _ _ hH (fun _ => ?_)
      clear hK K
      try simp only [Act.put, List.setIfInBounds_toArray, List.set_cons_zero, List.set_cons_succ]
      refine wpAnyH_take (i := 16) (oi := { dst := some 94, op := Op.binOp BinOp.eql 9 (Operand.tmp 90) (Operand.tmp 93) 9, type := 4, pos := "disk.go:244", after := #[{ on := 12, ground := Ground.data }, { on := 15, ground := Ground.data }, { on := 10, ground := Ground.guard }], guard := some (10, true) }) (v := ?_) rfl (by kernel_rfl) (by kernel_rfl) (by kernel_rfl) (fun _ _ _ h => h) (Or.inl ⟨by rfl, ?_⟩) hH ?_
      rotate_left
      · (intro w hSw; obtain ⟨_, _, q1, _⟩ := hSw; go_simp; try with_reducible rfl)
      try simp only [Act.put, List.setIfInBounds_toArray, List.set_cons_zero, List.set_cons_succ]
      refine wpAnyH_take (i := 17) (oi := { dst := some 95, op := Op.pick (Operand.tmp 88) (Operand.tmp 94) (Operand.const (Value.bool false)), type := 4, pos := "disk.go:244", after := #[{ on := 10, ground := Ground.data }, { on := 16, ground := Ground.data }], guard := none }) (v := ?_) rfl (by kernel_rfl) (by kernel_rfl) (by kernel_rfl) (fun _ _ _ h => h) (Or.inl ⟨by rfl, ?_⟩) hH ?_
      rotate_left
      · (intro w hSw; obtain ⟨_, _, q1, _⟩ := hSw; go_simp; try with_reducible rfl)
      try simp only [Act.put, List.setIfInBounds_toArray, List.set_cons_zero, List.set_cons_succ]
      refine wpAnyH_take (i := 18) (oi := { dst := some 96, op := Op.move (Operand.tmp 95), type := 4, pos := "disk.go:244", after := #[{ on := 17, ground := Ground.data }, { on := 14, ground := Ground.chain }], guard := none }) (v := ?_) rfl (by kernel_rfl) (by kernel_rfl) (by kernel_rfl) (fun _ _ _ h => h) (Or.inl ⟨by rfl, ?_⟩) hH ?_
      rotate_left
      · (intro w hSw; obtain ⟨_, _, q1, _⟩ := hSw; go_simp; try with_reducible rfl)
      try simp only [Act.put, List.setIfInBounds_toArray, List.set_cons_zero, List.set_cons_succ]
      refine wpAnyH_take (i := 19) (oi := { dst := some 97, op := Op.move (Operand.tmp 20), type := 25, pos := "disk.go:244", after := #[{ on := 18, ground := Ground.guard }], guard := some (18, true) }) (v := ?_) rfl (by kernel_rfl) (by kernel_rfl) (by kernel_rfl) (fun _ _ _ h => h) (Or.inl ⟨by rfl, ?_⟩) hH ?_
      rotate_left
      · (intro w hSw; obtain ⟨_, _, q1, _⟩ := hSw; go_simp; try with_reducible rfl)
      try simp only [Act.put, List.setIfInBounds_toArray, List.set_cons_zero, List.set_cons_succ]
      refine wpAnyH_take (i := 20) (oi := { dst := some 98, op := Op.move (Operand.tmp 4), type := 23, pos := "disk.go:244", after := #[{ on := 18, ground := Ground.guard }], guard := some (18, true) }) (v := ?_) rfl (by kernel_rfl) (by kernel_rfl) (by kernel_rfl) (fun _ _ _ h => h) (Or.inl ⟨by rfl, ?_⟩) hH ?_
      rotate_left
      · (intro w hSw; obtain ⟨_, _, q1, _⟩ := hSw; go_simp; try with_reducible rfl)
      try simp only [Act.put, List.setIfInBounds_toArray, List.set_cons_zero, List.set_cons_succ]
      refine wpAnyH_ready (rs := [21]) (by kernel_rfl) (by simp) ?_
      refine AllReadyH.cons (o := { dst := some 99, op := Op.call { callee := Callee.value (Operand.func 11), args := #[Operand.tmp 97, Operand.tmp 98], argTypes := #[25, 23] }, type := 25, pos := "disk.go:244", after := #[{ on := 19, ground := Ground.data }, { on := 20, ground := Ground.data }, { on := 18, ground := Ground.chain }, { on := 18, ground := Ground.guard }], guard := some (18, true) }) rfl (fun K hK => ?_) AllReadyH.nil
      go_simp
      refine (crash_any _ Fx Dx hH.1 v4 stay hH.2.1).mono ?_
      rintro e w30 ⟨F3, rfl, dz, hF3, hb30⟩
      have hH30 := fl_keep hH hb30
      clear hF3 hb30 hH
      go_wp2_with fail
      refine hK.out _ _ hH30 (fun hH => ?_)
      clear hH30
      clear hK K
      try simp only [Act.put, List.setIfInBounds_toArray, List.set_cons_zero, List.set_cons_succ]
      refine wpAnyH_ready (rs := [22]) (by kernel_rfl) (by simp) ?_
      refine AllReadyH.cons (o := { dst := some 100, op := Op.call { callee := Callee.value (Operand.func 19), args := #[Operand.tmp 99], argTypes := #[25] }, type := 3, pos := "disk.go:244", after := #[{ on := 21, ground := Ground.data }, { on := 21, ground := Ground.chain }, { on := 18, ground := Ground.guard }], guard := some (18, true) }) rfl (fun K hK => ?_) AllReadyH.nil
      go_simp
      refine (sectors_any _ F3 (Dx.crash stay) dz).mono ?_
      rintro e w' ⟨rfl, rfl⟩
      rw [En.out]
      go_wp2_with fail
      refine hK.out _ _ hH (fun _ => ?_)
      clear hK K
      try simp only [Act.put, List.setIfInBounds_toArray, List.set_cons_zero, List.set_cons_succ]
      refine wpAnyH_take (i := 23) (oi := { dst := some 101, op := Op.binOp BinOp.eql 3 (Operand.tmp 100) (Operand.const (Value.int IntKind.i64 8)) 3, type := 4, pos := "disk.go:244", after := #[{ on := 22, ground := Ground.data }, { on := 18, ground := Ground.guard }], guard := some (18, true) }) (v := ?_) rfl (by kernel_rfl) (by kernel_rfl) (by kernel_rfl) (fun _ _ _ h => h) (Or.inl ⟨by rfl, ?_⟩) hH ?_
      rotate_left
      · (intro w hSw; obtain ⟨_, _, q1, _⟩ := hSw; go_simp; try with_reducible rfl)
      try simp only [Act.put, List.setIfInBounds_toArray, List.set_cons_zero, List.set_cons_succ]
      refine wpAnyH_take (i := 24) (oi := { dst := some 102, op := Op.pick (Operand.tmp 96) (Operand.tmp 101) (Operand.const (Value.bool false)), type := 4, pos := "disk.go:244", after := #[{ on := 18, ground := Ground.data }, { on := 23, ground := Ground.data }], guard := none }) (v := ?_) rfl (by kernel_rfl) (by kernel_rfl) (by kernel_rfl) (fun _ _ _ h => h) (Or.inl ⟨by rfl, ?_⟩) hH ?_
      rotate_left
      · (intro w hSw; obtain ⟨_, _, q1, _⟩ := hSw; go_simp; try with_reducible rfl)
      try simp only [Act.put, List.setIfInBounds_toArray, List.set_cons_zero, List.set_cons_succ]
      refine wpAnyH_take (i := 25) (oi := { dst := some 10, op := Op.assign (Operand.tmp 102), type := 4, pos := "disk.go:244", after := #[{ on := 24, ground := Ground.data }, { on := 22, ground := Ground.chain }, { on := 0, ground := Ground.phase }, { on := 1, ground := Ground.phase }, { on := 2, ground := Ground.phase }, { on := 3, ground := Ground.phase }, { on := 4, ground := Ground.phase }, { on := 5, ground := Ground.phase }, { on := 6, ground := Ground.phase }, { on := 7, ground := Ground.phase }, { on := 8, ground := Ground.phase }, { on := 9, ground := Ground.phase }, { on := 10, ground := Ground.phase }, { on := 11, ground := Ground.phase }, { on := 12, ground := Ground.phase }, { on := 13, ground := Ground.phase }, { on := 14, ground := Ground.phase }, { on := 15, ground := Ground.phase }, { on := 16, ground := Ground.phase }, { on := 17, ground := Ground.phase }, { on := 18, ground := Ground.phase }, { on := 19, ground := Ground.phase }, { on := 20, ground := Ground.phase }, { on := 21, ground := Ground.phase }, { on := 22, ground := Ground.phase }, { on := 23, ground := Ground.phase }, { on := 24, ground := Ground.phase }], guard := none }) (v := ?_) rfl (by kernel_rfl) (by kernel_rfl) (by kernel_rfl) (fun _ _ _ h => h) (Or.inl ⟨by rfl, ?_⟩) hH ?_
      rotate_left
      · (intro w hSw; obtain ⟨_, _, q1, _⟩ := hSw; go_simp; try with_reducible rfl)
      try simp only [Act.put, List.setIfInBounds_toArray, List.set_cons_zero, List.set_cons_succ]
      refine wpAnyH_done (by kernel_rfl) ?_ _
      refine NoPanic.normal ?_
      go_wp2_with fail
      go_ret
      exact ⟨rfl, hH.2.2.2.2⟩
end Go.Proofs.Ytncoclbmnhbgbaa
