/- The walk of DiskAgain: it answers true. -/
import Derived.Test.YtncoclbmnhbgbaaIntsOwn
import Derived.Test.YtncoclbmnhbgbaaDkPoke
set_option linter.unusedVariables false
set_option linter.unusedSimpArgs false
namespace Go.Proofs.Ytncoclbmnhbgbaa
open Go.RowKit

/-- a disk of eight sectors, its power on -/
structure Zed (D : Dk) (k : Nat) : Prop where
  n : D.n = 8
  off : D.off = false
  cut : D.cut = -1
  ops : D.ops ≤ k
theorem Zed.gone {D : Dk} {k : Nat} (h : Zed D k) : D.gone = false := Dk.gone_no h.off (by rw [h.cut]; omega)
theorem Zed.step {D : Dk} {k a : Nat} {l : List UInt8} (h : Zed D k) (ha : a < 8) (hl : l.length = 128) (hk : k < 1000) (b : UInt8) : ∃ D1 D2, D.write a l = (0, D1) ∧ D1.flush = (0, D2) ∧ (D2.poke a 5 b).1 = 0 ∧ Zed (D2.poke a 5 b).2 (k + 2) := by
  have ho := h.ops
  have e1 := Dk.write_ok (l := l) h.gone (show a < D.n by rw [h.n]; exact ha) hl (by omega)
  have e2 := Dk.flush_ok (D := { D with off := false, now := putS D.now a l, hung := D.hung ++ [(a, l)], ops := D.ops + 1 }) (Dk.gone_no rfl (by show D.cut < 0; rw [h.cut]; omega)) (by show D.ops + 1 < _; omega)
  refine ⟨_, _, e1, e2, ?_, ?_⟩
  · unfold Dk.poke
    rw [if_neg (fun hn => hn ⟨by omega, by show (a : Int) < (D.n : Int); rw [h.n]; omega⟩), if_neg (by omega)]
  · unfold Dk.poke
    rw [if_neg (fun hn => hn ⟨by omega, by show (a : Int) < (D.n : Int); rw [h.n]; omega⟩), if_neg (by omega)]
    exact ⟨h.n, rfl, h.cut, by show D.ops + 1 + 1 ≤ k + 2; omega⟩
theorem again_plain {D : Dk} (g : Good D 100) (stay then_ : List Int) {k : Nat} (hk : k < 8) :
    (D.crash stay).read k = (sec (crashTo D stay D.hung.length) k, 0) ∧ ((D.crash stay).crash then_).read k = (sec (crashTo D stay D.hung.length) k, 0) := by
  have hn : k < D.n := by rw [g.n]; exact hk
  exact ⟨Dk.read_ok (D := D.crash stay) rfl hn, Dk.read_ok (D := (D.crash stay).crash then_) rfl hn⟩
theorem flush_plain {D : Dk} (g : Good D 100) (stay then_ : List Int) : ∃ D1 D2, D.flush = (0, D1) ∧ D1.flush = (0, D2) ∧
    (∀ k : Nat, k < 8 → (D1.crash stay).read k = (sec D.now k, 0) ∧ D2.read k = (sec D.now k, 0) ∧ (D2.crash then_).read k = (sec D.now k, 0)) ∧ D2.hung.length = 0 := by
  have ho := g.ops
  have e1 := Dk.flush_ok g.gone (show D.ops < 1048576 by omega)
  have e2 := Dk.flush_ok (D := { D with off := false, safe := D.now, hung := [], ops := D.ops + 1 }) (Dk.gone_no rfl (by show D.cut < 0; rw [g.cut]; omega)) (by show D.ops + 1 < _; omega)
  refine ⟨_, _, e1, e2, fun k hk => ?_, rfl⟩
  have hn : k < D.n := by rw [g.n]; exact hk
  exact ⟨Dk.read_ok (D := Dk.crash { D with off := false, safe := D.now, hung := [], ops := D.ops + 1 } stay) rfl hn, Dk.read_ok rfl hn, Dk.read_ok (D := Dk.crash { D with off := false, safe := D.now, hung := [], ops := D.ops + 1 + 1 } then_) rfl hn⟩

set_option maxRecDepth 100000 in
set_option maxHeartbeats 16000000 in
theorem lawAgain_walk (w : World) (v0 : Value) (L : List OpV) (v1 : Value) (stay : List Int) (v2 : Value) (then_ : List Int) (hv0 : IsO w v0 L) (hv1 : IsI w v1 stay) (hv2 : IsI w v2 then_) (hr2 : ∀ x ∈ then_, -9223372036854775808 ≤ x ∧ x ≤ 9223372036854775807) :
    Calls Try.prog 6 #[v0, v1, v2] w fun e w' => e = .returned (.bool true) ∧ Below w.heap.size w w' := by
  obtain ⟨a2, cap2, rfl, hl2, hm2, hn2, hc2⟩ := id hv2
  unfold maxLen at hm2
  clear hc2
  go_enter Try.func6, Try.ntmps6
  go_wp2_with fail
  refine (shown_any w).mono ?_
  rintro e w1 ⟨rfl, hb1⟩
  go_wp2_with fail
  refine (plays_any w1 v0 L (hv0.below hb1)).mono ?_
  rintro e w2 ⟨F, D, u2, B, rfl, d2, g2, l2, hFB, hBw, hb2⟩
  have hb2' := hb1.trans (hb2.mono hb1.size)
  have hF : F.new w := fun k hk => Nat.le_trans hb1.size (hFB k hk).1
  clear hb1 hb2 hFB hBw
  obtain ⟨au, cu, rfl, hlu, hmu⟩ := l2.shape
  unfold maxLen at hmu
  have hDl : D.hung.length ≤ 100 := Nat.le_trans d2.ok.loose g2.ops
  clear l2
  have i2 := hv1.below hb2'
  go_wp2_with fail
  refine (crash_any w2 F D d2 _ stay i2).mono ?_
  rintro e w3 ⟨Fx, rfl, dx3, hFx, hb3⟩
  have d3 := d2.below hb3
  have b3 := hb2'.trans (hb3.mono hb2'.size)
  have i3 := hv2.below b3
  clear d2 hb3 hb2' i2
  go_wp2_with fail
  refine (crash_any w3 Fx _ dx3 _ then_ i3).mono ?_
  rintro e w4 ⟨Fy, rfl, dy4, hFy, hb4⟩
  have d4 := d3.below hb4
  have dx4 := dx3.below hb4
  have b4 := b3.trans (hb4.mono b3.size)
  have i4 := hv1.below b4
  clear d3 dx3 hb4 b3 i3
  go_wp2_with fail
  refine (crash_any w4 F D d4 _ stay i4).mono ?_
  rintro e w5 ⟨Fz, rfl, dz5, hFz, hb5⟩
  have hz1 : ∀ j, F.has j → ¬ Fz.has j := fun j hj hz => by have := d4.lt hj; have := hFz j hz; omega
  have hz2 : ∀ j, Fx.has j → ¬ Fz.has j := fun j hj hz => by have := dx4.lt hj; have := hFz j hz; omega
  have hz3 : ∀ j, Fy.has j → ¬ Fz.has j := fun j hj hz => by have := dy4.lt hj; have := hFz j hz; omega
  have hzw : Fz.new w := fun j hj => Nat.le_trans b4.size (hFz j hj)
  have d5 := d4.below hb5
  have dx5 := dx4.below hb5
  have dy5 := dy4.below hb5
  have b5 := b4.trans (hb5.mono b4.size)
  have z5 : Zed (D.crash stay) 0 := ⟨g2.n, rfl, rfl, Nat.le_refl _⟩
  clear d4 dx4 dy4 hb5 b4 i4 hFx hFy hFz
  go_wp2_with fail
  go_loopw [14, 15, 16, 17, 58, 59, 60, 61, 62, 63, 64, 65, 66, 67, 68, 69, 70, 71, 72, 73, 74, 75, 76, 77, 78, 79, 80, 81, 82, 83, 84, 85, 86, 87, 88, 89, 90, 91, 92, 93, 94, 95, 96] (fun i _ _ _ _ _ _ _ _ _ _ _ _ _ _ _ _ _ _ _ _ _ _ _ _ _ _ _ _ _ _ _ _ _ _ _ _ _ _ _ _ _ _ wr => ∃ (k : Nat) (Dz : Dk), k ≤ then_.length ∧ k ≤ 20 ∧ i = .int .i64 (k : Int) ∧ DkAt wr F D ∧ DkAt wr Fx (D.crash stay) ∧ DkAt wr Fy ((D.crash stay).crash then_) ∧ DkAt wr Fz Dz ∧ Zed Dz (2 * k) ∧ Below w.heap.size w wr) (fun i _ _ _ _ _ _ _ _ _ _ _ _ _ _ _ _ _ _ _ _ _ _ _ _ _ _ _ _ _ _ _ _ _ _ _ _ _ _ _ _ _ _ _ => 20 - (intOf i).toNat)
  case atStart => exact ⟨0, _, Nat.zero_le _, Nat.zero_le _, rfl, d5, dx5, dy5, dz5, z5, b5⟩
  case round =>
    obtain ⟨k, Dz, hk1, hk2, rfl, dr, dxr, dyr, dzr, zr, hbr⟩ := hrel
    clear d5 dx5 dy5 dz5 z5 b5
    by_cases hlt : k < then_.length
    · by_cases hlt2 : k < 20
      · have hd : decide ((k : Int) < (then_.length : Int)) = true := by simpa using hlt
        have hd2 : decide ((k : Int) < 20) = true := by simp; omega
        obtain ⟨a', cap', hv', _, _, _, hc⟩ := hv2
        simp only [Value.slice.injEq] at hv'
        obtain ⟨rfl, _, rfl⟩ := hv'
        obtain ⟨x, rfl⟩ : ∃ x, a2 = some x := by
          cases a2 with
          | none => have := hn2 rfl; omega
          | some x => exact ⟨x, rfl⟩
        obtain ⟨hsp, hcl3⟩ := hc x rfl
        obtain ⟨Bx, o, sp⟩ := x
        obtain rfl : sp = none := hsp (by omega)
        have cW : ∀ W : World, Below w.heap.size w W → W.cell? ⟨Bx, o + k, none⟩ = some (.int .i64 then_[k]) := fun W hW => cells_below hW _ _ (hcl3 k hlt)
        obtain ⟨y1, y2⟩ := hr2 then_[k] (List.getElem_mem hlt)
        clear hc hcl3 hsp
        generalize then_[k] = y at *
        have c0 := cW wr hbr
        have CW := Lib.hid cW
        clear cW
        have i0 : (0 : Int) ≤ (k : Int) := by omega
        have i1 : (k : Int) < (then_.length : Int) := by omega
        have hq := pickN_lt y (show 0 < 8 by omega)
        have e8 : ((UInt8.ofNat k).toNat : Int) = (k : Int) := by
          rw [UInt8.toNat_ofNat']
          omega
        have hof : ∀ w : World, Calls Try.prog 18 #[.int .u8 (k : Int)] w fun e w' => ∃ v, e = .returned v ∧ Mine 5 w.heap.size w' v (List.replicate 128 (UInt8.ofNat k)) ∧ Below w.heap.size w w' := fun w => by
          have := of_any w (UInt8.ofNat k)
          rwa [e8] at this
        have hlen : (List.replicate 128 (UInt8.ofNat k)).length = 128 := List.length_replicate
        generalize List.replicate 128 (UInt8.ofNat k) = Z at *
        have Hof := Lib.hid hof
        clear hof e8
        go_wp2_with fail
        refine (pick_any wr y 8 y1 y2 (by omega) (by omega)).mono ?_
        rintro e w6 ⟨rfl, rfl⟩
        go_wp2_with fail
        refine (Hof.out wr).mono ?_
        rintro e w7 ⟨u7, rfl, hm7, hb7⟩
        have d7 := dr.below hb7
        have dx7 := dxr.below hb7
        have dy7 := dyr.below hb7
        have dz7 := dzr.below hb7
        have b7 := hbr.trans (hb7.mono hbr.size)
        clear dr dxr dyr dzr hb7 hbr c0
        obtain ⟨D1, D2, e1, e2, e3, z3⟩ := zr.step hq hlen (by omega) 99
        have E1 := Lib.hid e1
        have E2 := Lib.hid e2
        have E3 := Lib.hid e3
        clear e1 e2 e3
        go_wp2_with fail
        refine (write_any w7 Fz Dz dz7 (pickN y 8 : Nat) u7 Z hm7.isB (by omega) (by omega)).mono ?_
        rintro e w8 ⟨rfl, dz8, t8⟩
        rw [E1.out] at dz8 ⊢
        have b8 := t8.own b7 hzw b7.size
        have d8 := d7.turned t8 hz1
        have dx8 := dx7.turned t8 hz2
        have dy8 := dy7.turned t8 hz3
        clear d7 dx7 dy7 dz7 b7 t8 hm7
        go_wp2_with fail
        refine (flush_any w8 Fz D1 dz8).mono ?_
        rintro e w9 ⟨rfl, dz9, t9⟩
        rw [E2.out] at dz9 ⊢
        have b9 := t9.own b8 hzw b8.size
        have d9 := d8.turned t9 hz1
        have dx9 := dx8.turned t9 hz2
        have dy9 := dy8.turned t9 hz3
        clear d8 dx8 dy8 dz8 b8 t9
        have c9 := CW.out w9 b9
        go_wp2_with fail
        refine (pick_any w9 y 8 y1 y2 (by omega) (by omega)).mono ?_
        rintro e w10 ⟨rfl, rfl⟩
        have hpk := poke_any w9 Fz D2 dz9 (pickN y 8 : Nat) 5 99 (by omega) (by omega) (by omega) (by omega)
        rw [show (((99 : UInt8).toNat : Nat) : Int) = 99 from rfl, E3.out] at hpk
        go_wp2_with fail
        refine hpk.mono ?_
        rintro e w10 ⟨rfl, dz10, t10⟩
        have b10 := t10.own b9 hzw b9.size
        have d10 := d9.turned t10 hz1
        have dx10 := dx9.turned t10 hz2
        have dy10 := dy9.turned t10 hz3
        clear d9 dx9 dy9 dz9 b9 t10 hpk c9
        go_wp2_with fail
        go_roundw
        case rel => exact ⟨k + 1, _, by omega, by omega, by go_num, d10, dx10, dy10, dz10, z3, b10⟩
        case measure => simp [intOf]; omega
      · have hd : decide ((k : Int) < (then_.length : Int)) = true := by simpa using hlt
        have hd2 : decide ((k : Int) < 20) = false := by simp; omega
        go_wp2_with fail
        refine (loose_any wr F _ dr).mono ?_
        rintro e w9 ⟨rfl, rfl⟩
        have iv1 := hv1.below hbr
        go_wp2_with fail
        refine (crash_any wr F D dr _ stay iv1).mono ?_
        rintro e w10 ⟨Fa, rfl, da, _, hb10⟩
        have d10 := dr.below hb10
        have dx10 := dxr.below hb10
        have dy10 := dyr.below hb10
        have b10 := hbr.trans (hb10.mono hbr.size)
        clear dr dxr dyr dzr hb10 hbr iv1
        go_wp2_with fail
        go_loopw [19, 20, 21, 22, 23, 24, 25, 105, 106, 107, 108, 109, 110, 111, 112, 113, 114, 115, 116, 117, 118, 119, 120, 121, 122, 123, 124, 125, 126, 127, 128, 129, 130, 131, 132, 133, 134, 135, 136, 137, 138, 139, 140, 141, 142, 143, 144, 145, 146, 147, 148, 149, 150] (fun i _ _ _ _ _ _ _ _ _ _ _ _ _ _ _ _ _ _ _ _ _ _ _ _ _ _ _ _ _ _ _ _ _ _ _ _ _ _ _ _ _ _ _ _ _ _ _ _ _ _ _ _ wr => ∃ k : Nat, k ≤ 8 ∧ i = .int .i64 (k : Int) ∧ DkAt wr F D ∧ DkAt wr Fx (D.crash stay) ∧ DkAt wr Fy ((D.crash stay).crash then_) ∧ DkAt wr Fa (D.crash stay) ∧ Below w.heap.size w wr) (fun i _ _ _ _ _ _ _ _ _ _ _ _ _ _ _ _ _ _ _ _ _ _ _ _ _ _ _ _ _ _ _ _ _ _ _ _ _ _ _ _ _ _ _ _ _ _ _ _ _ _ _ _ _ => 8 - (intOf i).toNat)
        case atStart => exact ⟨0, by omega, rfl, d10, dx10, dy10, da, b10⟩
        case round =>
          obtain ⟨k2, hk2, rfl, dr, dxr, dyr, dar, hbr⟩ := hrel
          clear d10 dx10 dy10 da b10
          by_cases hlt8 : k2 < 8
          · have hd8 : decide ((k2 : Int) < 8) = true := by simp; omega
            obtain ⟨ex, ey⟩ := again_plain g2 stay then_ hlt8
            have Ex := Lib.hid ex
            have Ey := Lib.hid ey
            clear ex ey
            go_wp2_with fail
            refine (read_any wr Fx _ dxr k2 (by omega) (by omega)).mono ?_
            rintro e w20 ⟨u20, rfl, hg20⟩
            rw [Ex.out] at hg20 ⊢
            have hb20 := hg20.below
            have i20 := hg20.isB
            have d20 := dr.below hb20
            have dx20 := dxr.below hb20
            have dy20 := dyr.below hb20
            have da20 := dar.below hb20
            have b20 := hbr.trans (hb20.mono hbr.size)
            clear hg20 hb20 dr dxr dyr dar hbr
            go_wp2_with fail
            refine (read_any w20 Fy _ dy20 k2 (by omega) (by omega)).mono ?_
            rintro e w21 ⟨u21, rfl, hg21⟩
            rw [Ey.out] at hg21 ⊢
            have hb21 := hg21.below
            have i21 := hg21.isB
            have d21 := d20.below hb21
            have dx21 := dx20.below hb21
            have dy21 := dy20.below hb21
            have da21 := da20.below hb21
            have i20a := i20.below hb21
            have b21 := b20.trans (hb21.mono b20.size)
            clear hg21 hb21 d20 dx20 dy20 da20 b20 i20
            go_wp2_with fail
            refine (read_any w21 Fa _ da21 k2 (by omega) (by omega)).mono ?_
            rintro e w22 ⟨u22, rfl, hg22⟩
            rw [Ex.out] at hg22 ⊢
            have hb22 := hg22.below
            have i22 := hg22.isB
            have d22 := d21.below hb22
            have dx22 := dx21.below hb22
            have dy22 := dy21.below hb22
            have da22 := da21.below hb22
            have i20b := i20a.below hb22
            have i21b := i21.below hb22
            have b22 := b21.trans (hb22.mono b21.size)
            clear hg22 hb22 d21 dx21 dy21 da21 b21 i20a i21
            have s1 := run_str (P := Try.prog) i20b 30 9 5 Try.underlying30 Try.underlying5 Try.underlying9
            have s2 := run_str (P := Try.prog) i21b 30 9 5 Try.underlying30 Try.underlying5 Try.underlying9
            have s3 := run_str (P := Try.prog) i22 30 9 5 Try.underlying30 Try.underlying5 Try.underlying9
            clear i20b i21b i22
            generalize sec (crashTo D stay D.hung.length) k2 = Z at *
            go_wp2_with fail
            go_roundw
            case rel => exact ⟨k2 + 1, by omega, by go_num, d22, dx22, dy22, da22, b22⟩
            case measure => simp [intOf]; omega
          · have hd8 : decide ((k2 : Int) < 8) = false := by simp; omega
            clear dxr dyr dar
            obtain ⟨D1, D2, e1, e2, eread, eh⟩ := flush_plain g2 stay then_
            have E1 := Lib.hid e1
            have E2 := Lib.hid e2
            have Eread := Lib.hid eread
            have Eh := Lib.hid eh
            clear e1 e2 eread eh
            go_wp2_with fail
            refine (flush_any wr F D dr).mono ?_
            rintro e w30 ⟨rfl, d30, t30⟩
            rw [E1.out] at d30 ⊢
            have b30 := t30.own hbr hF hbr.size
            have iv3 := hv1.below b30
            clear dr t30 hbr
            go_wp2_with fail
            refine (crash_any w30 F D1 d30 _ stay iv3).mono ?_
            rintro e w31 ⟨Fo, rfl, do31, hFo, hb31⟩
            have hd31 := fun j hj => d30.lt (k := j) hj
            have d31 := d30.below hb31
            have b31 := b30.trans (hb31.mono b30.size)
            clear d30 hb31 b30 iv3
            go_wp2_with fail
            refine (flush_any w31 F D1 d31).mono ?_
            rintro e w32 ⟨rfl, d32, t32⟩
            rw [E2.out] at d32 ⊢
            have b32 := t32.own b31 hF b31.size
            have do32 := do31.turned t32 (fun j hj hF => by have := hFo j hj; have := hd31 j hF; omega)
            clear d31 do31 t32 b31 hd31 hFo
            go_wp2_with fail
            go_loopw [29, 30, 31, 32, 33, 34, 35, 158, 159, 160, 161, 162, 163, 164, 165, 166, 167, 168, 169, 170, 171, 172, 173, 174, 175, 176, 177, 178, 179, 180, 181, 182, 183, 184, 185, 186, 187, 188, 189, 190, 191, 192, 193, 194, 195, 196, 197, 198, 199, 200, 201, 202, 203, 204, 205] (fun i _ _ _ _ _ _ _ _ _ _ _ _ _ _ _ _ _ _ _ _ _ _ _ _ _ _ _ _ _ _ _ _ _ _ _ _ _ _ _ _ _ _ _ _ _ _ _ _ _ _ _ _ _ _ wr => ∃ k : Nat, k ≤ 8 ∧ i = .int .i64 (k : Int) ∧ DkAt wr F D2 ∧ DkAt wr Fo (D1.crash stay) ∧ Below w.heap.size w wr) (fun i _ _ _ _ _ _ _ _ _ _ _ _ _ _ _ _ _ _ _ _ _ _ _ _ _ _ _ _ _ _ _ _ _ _ _ _ _ _ _ _ _ _ _ _ _ _ _ _ _ _ _ _ _ _ _ => 8 - (intOf i).toNat)
            case atStart => exact ⟨0, by omega, rfl, d32, do32, b32⟩
            case round =>
              obtain ⟨k3, hk3, rfl, dr, dor, hbr⟩ := hrel
              clear d32 do32 b32
              by_cases hlt8 : k3 < 8
              · have hd8 : decide ((k3 : Int) < 8) = true := by simp; omega
                obtain ⟨eo, ed, ec⟩ := Eread.out k3 hlt8
                have Eo := Lib.hid eo
                have Ed := Lib.hid ed
                have Ec := Lib.hid ec
                clear eo ed ec
                go_wp2_with fail
                refine (read_any wr Fo _ dor k3 (by omega) (by omega)).mono ?_
                rintro e w40 ⟨u40, rfl, hg40⟩
                rw [Eo.out] at hg40 ⊢
                have hb40 := hg40.below
                have i40 := hg40.isB
                have d40 := dr.below hb40
                have do40 := dor.below hb40
                have b40 := hbr.trans (hb40.mono hbr.size)
                clear hg40 hb40 dr dor hbr
                go_wp2_with fail
                refine (read_any w40 F _ d40 k3 (by omega) (by omega)).mono ?_
                rintro e w41 ⟨u41, rfl, hg41⟩
                rw [Ed.out] at hg41 ⊢
                have hb41 := hg41.below
                have i41 := hg41.isB
                have d41 := d40.below hb41
                have do41 := do40.below hb41
                have i40a := i40.below hb41
                have b41 := b40.trans (hb41.mono b40.size)
                have iv2 := hv2.below b41
                clear hg41 hb41 d40 do40 b40 i40
                go_wp2_with fail
                refine (crash_any w41 F D2 d41 _ then_ iv2).mono ?_
                rintro e w42 ⟨Fc, rfl, dc, _, hb42⟩
                have d42 := d41.below hb42
                have do42 := do41.below hb42
                have i40b := i40a.below hb42
                have i41b := i41.below hb42
                have b42 := b41.trans (hb42.mono b41.size)
                clear d41 do41 i40a i41 hb42 b41 iv2
                go_wp2_with fail
                refine (read_any w42 Fc _ dc k3 (by omega) (by omega)).mono ?_
                rintro e w43 ⟨u43, rfl, hg43⟩
                rw [Ec.out] at hg43 ⊢
                have hb43 := hg43.below
                have i43 := hg43.isB
                have d43 := d42.below hb43
                have do43 := do42.below hb43
                have i40c := i40b.below hb43
                have i41c := i41b.below hb43
                have b43 := b42.trans (hb43.mono b42.size)
                clear hg43 hb43 d42 do42 dc b42 i40b i41b
                have s1 := run_str (P := Try.prog) i40c 30 9 5 Try.underlying30 Try.underlying5 Try.underlying9
                have s2 := run_str (P := Try.prog) i41c 30 9 5 Try.underlying30 Try.underlying5 Try.underlying9
                have s3 := run_str (P := Try.prog) i43 30 9 5 Try.underlying30 Try.underlying5 Try.underlying9
                clear i40c i41c i43
                generalize sec D.now k3 = Z at *
                go_wp2_with fail
                go_roundw
                case rel => exact ⟨k3 + 1, by omega, by go_num, d43, do43, b43⟩
                case measure => simp [intOf]; omega
              · have hd8 : decide ((k3 : Int) < 8) = false := by simp; omega
                go_wp2_with fail
                refine (loose_any wr F _ dr).mono ?_
                rintro e w50 ⟨rfl, rfl⟩
                rw [Eh.out]
                go_wp2_with fail
                go_ret
                exact ⟨rfl, hbr⟩
    · have hd : decide ((k : Int) < (then_.length : Int)) = false := by simpa using hlt
      go_wp2_with fail
      refine (loose_any wr F _ dr).mono ?_
      rintro e w9 ⟨rfl, rfl⟩
      have iv1 := hv1.below hbr
      go_wp2_with fail
      refine (crash_any wr F D dr _ stay iv1).mono ?_
      rintro e w10 ⟨Fa, rfl, da, _, hb10⟩
      have d10 := dr.below hb10
      have dx10 := dxr.below hb10
      have dy10 := dyr.below hb10
      have b10 := hbr.trans (hb10.mono hbr.size)
      clear dr dxr dyr dzr hb10 hbr iv1
      go_wp2_with fail
      go_loopw [19, 20, 21, 22, 23, 24, 25, 105, 106, 107, 108, 109, 110, 111, 112, 113, 114, 115, 116, 117, 118, 119, 120, 121, 122, 123, 124, 125, 126, 127, 128, 129, 130, 131, 132, 133, 134, 135, 136, 137, 138, 139, 140, 141, 142, 143, 144, 145, 146, 147, 148, 149, 150] (fun i _ _ _ _ _ _ _ _ _ _ _ _ _ _ _ _ _ _ _ _ _ _ _ _ _ _ _ _ _ _ _ _ _ _ _ _ _ _ _ _ _ _ _ _ _ _ _ _ _ _ _ _ wr => ∃ k : Nat, k ≤ 8 ∧ i = .int .i64 (k : Int) ∧ DkAt wr F D ∧ DkAt wr Fx (D.crash stay) ∧ DkAt wr Fy ((D.crash stay).crash then_) ∧ DkAt wr Fa (D.crash stay) ∧ Below w.heap.size w wr) (fun i _ _ _ _ _ _ _ _ _ _ _ _ _ _ _ _ _ _ _ _ _ _ _ _ _ _ _ _ _ _ _ _ _ _ _ _ _ _ _ _ _ _ _ _ _ _ _ _ _ _ _ _ _ => 8 - (intOf i).toNat)
      case atStart => exact ⟨0, by omega, rfl, d10, dx10, dy10, da, b10⟩
      case round =>
        obtain ⟨k2, hk2, rfl, dr, dxr, dyr, dar, hbr⟩ := hrel
        clear d10 dx10 dy10 da b10
        by_cases hlt8 : k2 < 8
        · have hd8 : decide ((k2 : Int) < 8) = true := by simp; omega
          obtain ⟨ex, ey⟩ := again_plain g2 stay then_ hlt8
          have Ex := Lib.hid ex
          have Ey := Lib.hid ey
          clear ex ey
          go_wp2_with fail
          refine (read_any wr Fx _ dxr k2 (by omega) (by omega)).mono ?_
          rintro e w20 ⟨u20, rfl, hg20⟩
          rw [Ex.out] at hg20 ⊢
          have hb20 := hg20.below
          have i20 := hg20.isB
          have d20 := dr.below hb20
          have dx20 := dxr.below hb20
          have dy20 := dyr.below hb20
          have da20 := dar.below hb20
          have b20 := hbr.trans (hb20.mono hbr.size)
          clear hg20 hb20 dr dxr dyr dar hbr
          go_wp2_with fail
          refine (read_any w20 Fy _ dy20 k2 (by omega) (by omega)).mono ?_
          rintro e w21 ⟨u21, rfl, hg21⟩
          rw [Ey.out] at hg21 ⊢
          have hb21 := hg21.below
          have i21 := hg21.isB
          have d21 := d20.below hb21
          have dx21 := dx20.below hb21
          have dy21 := dy20.below hb21
          have da21 := da20.below hb21
          have i20a := i20.below hb21
          have b21 := b20.trans (hb21.mono b20.size)
          clear hg21 hb21 d20 dx20 dy20 da20 b20 i20
          go_wp2_with fail
          refine (read_any w21 Fa _ da21 k2 (by omega) (by omega)).mono ?_
          rintro e w22 ⟨u22, rfl, hg22⟩
          rw [Ex.out] at hg22 ⊢
          have hb22 := hg22.below
          have i22 := hg22.isB
          have d22 := d21.below hb22
          have dx22 := dx21.below hb22
          have dy22 := dy21.below hb22
          have da22 := da21.below hb22
          have i20b := i20a.below hb22
          have i21b := i21.below hb22
          have b22 := b21.trans (hb22.mono b21.size)
          clear hg22 hb22 d21 dx21 dy21 da21 b21 i20a i21
          have s1 := run_str (P := Try.prog) i20b 30 9 5 Try.underlying30 Try.underlying5 Try.underlying9
          have s2 := run_str (P := Try.prog) i21b 30 9 5 Try.underlying30 Try.underlying5 Try.underlying9
          have s3 := run_str (P := Try.prog) i22 30 9 5 Try.underlying30 Try.underlying5 Try.underlying9
          clear i20b i21b i22
          generalize sec (crashTo D stay D.hung.length) k2 = Z at *
          go_wp2_with fail
          go_roundw
          case rel => exact ⟨k2 + 1, by omega, by go_num, d22, dx22, dy22, da22, b22⟩
          case measure => simp [intOf]; omega
        · have hd8 : decide ((k2 : Int) < 8) = false := by simp; omega
          clear dxr dyr dar
          obtain ⟨D1, D2, e1, e2, eread, eh⟩ := flush_plain g2 stay then_
          have E1 := Lib.hid e1
          have E2 := Lib.hid e2
          have Eread := Lib.hid eread
          have Eh := Lib.hid eh
          clear e1 e2 eread eh
          go_wp2_with fail
          refine (flush_any wr F D dr).mono ?_
          rintro e w30 ⟨rfl, d30, t30⟩
          rw [E1.out] at d30 ⊢
          have b30 := t30.own hbr hF hbr.size
          have iv3 := hv1.below b30
          clear dr t30 hbr
          go_wp2_with fail
          refine (crash_any w30 F D1 d30 _ stay iv3).mono ?_
          rintro e w31 ⟨Fo, rfl, do31, hFo, hb31⟩
          have hd31 := fun j hj => d30.lt (k := j) hj
          have d31 := d30.below hb31
          have b31 := b30.trans (hb31.mono b30.size)
          clear d30 hb31 b30 iv3
          go_wp2_with fail
          refine (flush_any w31 F D1 d31).mono ?_
          rintro e w32 ⟨rfl, d32, t32⟩
          rw [E2.out] at d32 ⊢
          have b32 := t32.own b31 hF b31.size
          have do32 := do31.turned t32 (fun j hj hF => by have := hFo j hj; have := hd31 j hF; omega)
          clear d31 do31 t32 b31 hd31 hFo
          go_wp2_with fail
          go_loopw [29, 30, 31, 32, 33, 34, 35, 158, 159, 160, 161, 162, 163, 164, 165, 166, 167, 168, 169, 170, 171, 172, 173, 174, 175, 176, 177, 178, 179, 180, 181, 182, 183, 184, 185, 186, 187, 188, 189, 190, 191, 192, 193, 194, 195, 196, 197, 198, 199, 200, 201, 202, 203, 204, 205] (fun i _ _ _ _ _ _ _ _ _ _ _ _ _ _ _ _ _ _ _ _ _ _ _ _ _ _ _ _ _ _ _ _ _ _ _ _ _ _ _ _ _ _ _ _ _ _ _ _ _ _ _ _ _ _ wr => ∃ k : Nat, k ≤ 8 ∧ i = .int .i64 (k : Int) ∧ DkAt wr F D2 ∧ DkAt wr Fo (D1.crash stay) ∧ Below w.heap.size w wr) (fun i _ _ _ _ _ _ _ _ _ _ _ _ _ _ _ _ _ _ _ _ _ _ _ _ _ _ _ _ _ _ _ _ _ _ _ _ _ _ _ _ _ _ _ _ _ _ _ _ _ _ _ _ _ _ _ => 8 - (intOf i).toNat)
          case atStart => exact ⟨0, by omega, rfl, d32, do32, b32⟩
          case round =>
            obtain ⟨k3, hk3, rfl, dr, dor, hbr⟩ := hrel
            clear d32 do32 b32
            by_cases hlt8 : k3 < 8
            · have hd8 : decide ((k3 : Int) < 8) = true := by simp; omega
              obtain ⟨eo, ed, ec⟩ := Eread.out k3 hlt8
              have Eo := Lib.hid eo
              have Ed := Lib.hid ed
              have Ec := Lib.hid ec
              clear eo ed ec
              go_wp2_with fail
              refine (read_any wr Fo _ dor k3 (by omega) (by omega)).mono ?_
              rintro e w40 ⟨u40, rfl, hg40⟩
              rw [Eo.out] at hg40 ⊢
              have hb40 := hg40.below
              have i40 := hg40.isB
              have d40 := dr.below hb40
              have do40 := dor.below hb40
              have b40 := hbr.trans (hb40.mono hbr.size)
              clear hg40 hb40 dr dor hbr
              go_wp2_with fail
              refine (read_any w40 F _ d40 k3 (by omega) (by omega)).mono ?_
              rintro e w41 ⟨u41, rfl, hg41⟩
              rw [Ed.out] at hg41 ⊢
              have hb41 := hg41.below
              have i41 := hg41.isB
              have d41 := d40.below hb41
              have do41 := do40.below hb41
              have i40a := i40.below hb41
              have b41 := b40.trans (hb41.mono b40.size)
              have iv2 := hv2.below b41
              clear hg41 hb41 d40 do40 b40 i40
              go_wp2_with fail
              refine (crash_any w41 F D2 d41 _ then_ iv2).mono ?_
              rintro e w42 ⟨Fc, rfl, dc, _, hb42⟩
              have d42 := d41.below hb42
              have do42 := do41.below hb42
              have i40b := i40a.below hb42
              have i41b := i41.below hb42
              have b42 := b41.trans (hb42.mono b41.size)
              clear d41 do41 i40a i41 hb42 b41 iv2
              go_wp2_with fail
              refine (read_any w42 Fc _ dc k3 (by omega) (by omega)).mono ?_
              rintro e w43 ⟨u43, rfl, hg43⟩
              rw [Ec.out] at hg43 ⊢
              have hb43 := hg43.below
              have i43 := hg43.isB
              have d43 := d42.below hb43
              have do43 := do42.below hb43
              have i40c := i40b.below hb43
              have i41c := i41b.below hb43
              have b43 := b42.trans (hb43.mono b42.size)
              clear hg43 hb43 d42 do42 dc b42 i40b i41b
              have s1 := run_str (P := Try.prog) i40c 30 9 5 Try.underlying30 Try.underlying5 Try.underlying9
              have s2 := run_str (P := Try.prog) i41c 30 9 5 Try.underlying30 Try.underlying5 Try.underlying9
              have s3 := run_str (P := Try.prog) i43 30 9 5 Try.underlying30 Try.underlying5 Try.underlying9
              clear i40c i41c i43
              generalize sec D.now k3 = Z at *
              go_wp2_with fail
              go_roundw
              case rel => exact ⟨k3 + 1, by omega, by go_num, d43, do43, b43⟩
              case measure => simp [intOf]; omega
            · have hd8 : decide ((k3 : Int) < 8) = false := by simp; omega
              go_wp2_with fail
              refine (loose_any wr F _ dr).mono ?_
              rintro e w50 ⟨rfl, rfl⟩
              rw [Eh.out]
              go_wp2_with fail
              go_ret
              exact ⟨rfl, hbr⟩
end Go.Proofs.Ytncoclbmnhbgbaa
