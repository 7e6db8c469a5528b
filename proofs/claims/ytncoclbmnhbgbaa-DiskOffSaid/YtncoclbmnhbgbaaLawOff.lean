/- The walk of DiskOff: it answers true. -/
import Derived.Test.YtncoclbmnhbgbaaStrsOwn
import Derived.StillTailTactics
set_option linter.unusedVariables false
set_option linter.unusedSimpArgs false
namespace Go.Proofs.Ytncoclbmnhbgbaa
open Go.RowKit

theorem MineS.keep {B : Nat} {w w' : World} {v : Value} {ls : List (List UInt8)} (h : MineS B w v ls) (hw : ∀ k, k < w.heap.size → B ≤ k → w'.heap[k]? = w.heap[k]?) : MineS B w' v ls := ownsRow_keep h hw
/-- a disk whose power goes at the next operation, or is gone -/
def cutD (D : Dk) (b : Bool) : Dk := { D with cut := (D.ops : Int), off := b }
theorem cutD_gone (D : Dk) (b : Bool) : (cutD D b).gone = true := by simp [cutD, Dk.gone]
theorem cutD_write (D : Dk) (b : Bool) (a : Int) (l : List UInt8) : (cutD D b).write a l = (43, cutD D true) := by
  unfold Dk.write; rw [if_pos (cutD_gone D b)]; rfl
theorem cutD_flush (D : Dk) (b : Bool) : (cutD D b).flush = (43, cutD D true) := by
  unfold Dk.flush; rw [if_pos (cutD_gone D b)]; rfl
theorem cutD_read (D : Dk) (k : Nat) (hk : k < D.n) : (cutD D true).read k = ([], 43) ∧ (cutD D false).read k = (sec D.now k, 0) :=
  ⟨by simp [Dk.read, cutD], Dk.read_ok (D := cutD D false) rfl hk⟩

set_option maxRecDepth 100000 in
set_option maxHeartbeats 16000000 in
theorem lawOff_walk (w : World) (v0 : Value) (L : List OpV) (v1 : Value) (L1 : List OpV) (hv0 : IsO w v0 L) (hv1 : IsO w v1 L1) :
    Calls Try.prog 4 #[v0, v1] w fun e w' => e = .returned (.bool true) ∧ Below w.heap.size w w' := by
  obtain ⟨a1, cap1, rfl, hl1, hm1, hn1, hc1⟩ := id hv1
  unfold maxLen at hm1
  clear hc1
  go_enter Try.func4, Try.ntmps4
  go_wp2_with fail
  refine (shown_any w).mono ?_
  rintro e w1 ⟨rfl, hb1⟩
  go_wp2_with fail
  refine (plays_any w1 v0 L (hv0.below hb1)).mono ?_
  rintro e w2 ⟨F, D, u2, B, rfl, d2, g2, l2, hFB, hBw, hb2⟩
  have hb2' := hb1.trans (hb2.mono hb1.size)
  have hs2 := hb2'.size
  have hF : F.new w := fun k hk => Nat.le_trans hb1.size (hFB k hk).1
  have hFlt : ∀ k, F.has k → k < w2.heap.size := fun k hk => d2.lt hk
  clear hb1 hb2 hFB hBw
  obtain ⟨au, cu, rfl, hlu, hmu⟩ := l2.shape
  unfold maxLen at hmu
  have hDl : D.hung.length ≤ 100 := Nat.le_trans d2.ok.loose g2.ops
  have hDo : D.ops ≤ 100 := g2.ops
  clear l2
  go_wp2_with fail
  go_loopw [9, 10, 11, 12, 34, 35, 36, 37, 38, 39, 40, 41, 42, 43, 44, 45, 46, 47, 48] (fun u i _ _ _ _ _ _ _ _ _ _ _ _ _ _ _ _ _ wr => ∃ k : Nat, k ≤ 8 ∧ i = .int .i64 (k : Int) ∧ MineS w2.heap.size wr u ((List.range k).map fun j : Nat => sec D.now j) ∧ Below w2.heap.size w2 wr) (fun _ i _ _ _ _ _ _ _ _ _ _ _ _ _ _ _ _ _ _ => 8 - (intOf i).toNat)
  case atStart => exact ⟨0, Nat.zero_le _, rfl, MineS.nil _ _, Below.refl _ _⟩
  case round =>
    obtain ⟨k, hk, rfl, hm, hbr⟩ := hrel
    have hsr := hbr.size
    by_cases hlt : k < 8
    · have hd : decide ((k : Int) < 8) = true := by simp; omega
      have dr := d2.below hbr
      have er : D.read k = (sec D.now k, 0) := Dk.read_ok g2.off (by rw [g2.n]; exact hlt)
      have Er := Lib.hid er
      clear er
      go_wp2_with fail
      refine (read_any wr F D dr k (by omega) (by omega)).mono ?_
      rintro e w3 ⟨u3, rfl, hg3⟩
      rw [Er.out] at hg3 ⊢
      have hb3 := hg3.below
      have s3 := run_str (P := Try.prog) hg3.isB 30 9 5 Try.underlying30 Try.underlying5 Try.underlying9
      have hb3' : Below wr.heap.size wr (w3.alloc (.cells #[.string ⟨(sec D.now k).toArray⟩] 9)) := hb3.alloc hb3.size _
      obtain ⟨v', w4, hr, m4, t4⟩ := MineS.snoc (hm.keep (fun j hj _ => hb3'.block j hj)) (Nat.le_trans hsr hb3'.size) (by simp; omega) (sec D.now k) w3.heap.size (heap_alloc_new w3 _)
      have m4' : MineS w2.heap.size w4 v' ((List.range (k + 1)).map fun j : Nat => sec D.now j) := by
        rw [List.range_succ, List.map_append]; exact m4
      have b4 : Below w2.heap.size w2 w4 := (hbr.trans (hb3'.mono hsr)).trans (t4.below (Nat.le_trans hsr hb3'.size) (fun _ h => h))
      clear hm hbr hb3 hb3' hg3 m4 t4 dr
      go_wp2_with (at_builtin; refine wpList_append_run rfl (.tmp 44) (.tmp 47) 37 37 rfl _ _ _ rfl rfl hr ?_; clear hr)
      go_roundw
      case rel => exact ⟨k + 1, by omega, by go_num, m4', b4⟩
      case measure => simp [intOf]; omega
    · obtain rfl : k = 8 := by omega
      have hd : decide ((8 : Int) < 8) = false := by simp
      have d5 := d2.below hbr
      have b5 := hb2'.trans (hbr.mono hs2)
      generalize hBs : w2.heap.size = Bs at *
      clear d2 hb2' hbr hBs
      go_wp2_with fail
      refine (ops_any wr F D d5).mono ?_
      rintro e w6 ⟨rfl, rfl⟩
      go_wp2_with fail
      refine (cutAt_any wr F D d5 (D.ops : Int) (by omega) (by omega)).mono ?_
      rintro e wc ⟨rfl, dc, tc⟩
      have bc := tc.has_of_p.own b5 hF b5.size
      have mc := hm.keep (fun j hj hB => tc.block j hj (fun e => by have := hFlt F.p (.inl rfl); omega))
      have sc : Bs ≤ wc.heap.size := Nat.le_trans hsr tc.size
      clear hm d5 b5 tc hsr
      change DkAt wc F (cutD D false) at dc
      go_wp2_with fail
      go_loopw [14, 15, 16, 17, 54, 55, 56, 57, 58, 59, 60, 61, 62, 63, 64, 65, 66, 67, 68, 69, 70, 71, 72, 73, 74, 75, 76, 77, 78, 79, 80, 81, 82, 83, 84, 85, 86, 87, 88, 89, 90, 91, 92, 93, 94, 95, 96] (fun b i _ _ _ _ _ _ _ _ _ _ _ _ _ _ _ _ _ _ _ _ _ _ _ _ _ _ _ _ _ _ _ _ _ _ _ _ _ _ _ _ _ _ _ _ _ wr => ∃ (k : Nat) (off : Bool), k ≤ L1.length ∧ k ≤ 50 ∧ i = .int .i64 (k : Int) ∧ b = .bool off ∧ DkAt wr F (cutD D off) ∧ MineS Bs wr u9 ((List.range 8).map fun j : Nat => sec D.now j) ∧ Below w.heap.size w wr ∧ Bs ≤ wr.heap.size) (fun _ i _ _ _ _ _ _ _ _ _ _ _ _ _ _ _ _ _ _ _ _ _ _ _ _ _ _ _ _ _ _ _ _ _ _ _ _ _ _ _ _ _ _ _ _ _ _ => 50 - (intOf i).toNat)
      case atStart => exact ⟨0, false, Nat.zero_le _, Nat.zero_le _, rfl, rfl, dc, mc, bc, sc⟩
      case round =>
        obtain ⟨k, off, hk1, hk2, rfl, rfl, dr, mr, hbr, hsr⟩ := hrel
        clear dc mc bc sc
        by_cases hlt : k < L1.length
        · have hd : decide ((k : Int) < (L1.length : Int)) = true := by simpa using hlt
          by_cases hlt2 : k < 50
          · have hd2 : decide ((k : Int) < 50) = true := by simp; omega
            obtain ⟨a', cap', hv', _, _, _, hc⟩ := hv1.below hbr
            simp only [Value.slice.injEq] at hv'
            obtain ⟨rfl, _, rfl⟩ := hv'
            obtain ⟨x, rfl⟩ : ∃ x, a1 = some x := by
              cases a1 with
              | none => have := hn1 rfl; omega
              | some x => exact ⟨x, rfl⟩
            obtain ⟨hsp, hcl⟩ := hc x rfl
            obtain ⟨Bx, o, sp⟩ := x
            obtain rfl : sp = none := hsp (by omega)
            obtain ⟨hcell, hxk⟩ := hcl k hlt
            have c0 := hcell 0 (by omega)
            have c1 := hcell 1 (by omega)
            have c2 := hcell 2 (by omega)
            have c3 := hcell 3 (by omega)
            have c4 := hcell 4 (by omega)
            dsimp only [OpV.cell, Nat.add_zero] at c0 c1 c2 c3 c4
            clear hc hcl hcell hsp
            generalize L1[k] = y at *
            obtain ⟨yk, ya, yn, yb, ybl, ys, yst⟩ := y
            obtain ⟨k1, k2, a1, a2, _, _, hib, ⟨sa, sc, e2, _⟩⟩ := hxk
            obtain ⟨ab, cb, e1, _⟩ := id hib
            dsimp only at c0 c1 c2 c3 c4 k1 k2 a1 a2 e1 e2 hib
            subst e1 e2
            have i0 : (0 : Int) ≤ (k : Int) := by omega
            have i1 : (k : Int) < (L1.length : Int) := by omega
            go_wp2_with fail
            have o1 : (wr.alloc (.cells #[.int .i64 yk, .int .i64 ya, .int .i64 yn, .slice ab ybl.length cb, .slice sa yst.length sc] 35)).cell? ⟨wr.heap.size, 1, none⟩ = some (.int .i64 ya) := by
              rw [cell_of_row _ _ _ _ _ _ (heap_alloc_new wr _)]; rfl
            have o3 : (wr.alloc (.cells #[.int .i64 yk, .int .i64 ya, .int .i64 yn, .slice ab ybl.length cb, .slice sa yst.length sc] 35)).cell? ⟨wr.heap.size, 3, none⟩ = some (.slice ab ybl.length cb) := by
              rw [cell_of_row _ _ _ _ _ _ (heap_alloc_new wr _)]; rfl
            have hbo : Below wr.heap.size wr (wr.alloc (.cells #[.int .i64 yk, .int .i64 ya, .int .i64 yn, .slice ab ybl.length cb, .slice sa yst.length sc] 35)) := (Below.refl _ _).alloc (Nat.le_refl _) _
            generalize wr.alloc (.cells #[.int .i64 yk, .int .i64 ya, .int .i64 yn, .slice ab ybl.length cb, .slice sa yst.length sc] 35) = W2 at *
            have d2 := dr.below hbo
            have m2 := mr.keep (fun j hj _ => hbo.block j hj)
            have b2 := hbr.trans (hbo.mono hbr.size)
            have s2 : Bs ≤ W2.heap.size := Nat.le_trans hsr hbo.size
            have ib2 := hib.below hbo
            clear dr mr hbr hbo c0 c1 c2 c3 c4 hib hsr
            generalize wr.heap.size = ox at *
            refine (pick_any W2 yk 3 k1 k2 (by omega) (by omega)).mono ?_
            rintro e w3 ⟨rfl, rfl⟩
            have hq := pickN_lt yk (show 0 < 3 by omega)
            generalize pickN yk 3 = q at *
            rcases (show q = 0 ∨ q = 1 ∨ q = 2 by omega) with rfl | rfl | rfl
            · go_wp2_with fail
              refine (write_any W2 F (cutD D off) d2 ya _ ybl ib2 a1 a2).mono ?_
              rintro e w4 ⟨rfl, d4, t4⟩
              rw [cutD_write] at d4 ⊢
              have b4 := t4.own b2 hF b2.size
              have m4 := m2.keep (fun j hj hB => t4.block j hj (fun e => by have := hFlt j e; omega))
              have s4 : Bs ≤ w4.heap.size := Nat.le_trans s2 t4.size
              clear d2 m2 b2 s2 ib2 t4 o1 o3
              go_wp2_with fail
              go_roundw
              case rel => exact ⟨k + 1, true, by omega, by omega, by go_num, rfl, d4, m4, b4, s4⟩
              case measure => simp [intOf]; omega
            · go_wp2_with fail
              refine (flush_any W2 F (cutD D off) d2).mono ?_
              rintro e w4 ⟨rfl, d4, t4⟩
              rw [cutD_flush] at d4 ⊢
              have b4 := t4.own b2 hF b2.size
              have m4 := m2.keep (fun j hj hB => t4.block j hj (fun e => by have := hFlt j e; omega))
              have s4 : Bs ≤ w4.heap.size := Nat.le_trans s2 t4.size
              clear d2 m2 b2 s2 ib2 t4 o1 o3
              go_wp2_with fail
              go_roundw
              case rel => exact ⟨k + 1, true, by omega, by omega, by go_num, rfl, d4, m4, b4, s4⟩
              case measure => simp [intOf]; omega
            · go_wp2_with fail
              refine (pick_any W2 ya 8 a1 a2 (by omega) (by omega)).mono ?_
              rintro e w3 ⟨rfl, rfl⟩
              have hp := pickN_lt ya (show 0 < 8 by omega)
              generalize pickN ya 8 = pp at *
              have hrd := cutD_read D pp (by rw [g2.n]; exact hp)
              have Hrd := Lib.hid hrd
              clear hrd
              go_wp2_with fail
              refine (read_any W2 F (cutD D off) d2 pp (by omega) (by omega)).mono ?_
              rintro e w4 ⟨v4, rfl, hg4⟩
              have hb4 := hg4.below
              have d4 := d2.below hb4
              have m4 := m2.keep (fun j hj _ => hb4.block j hj)
              have b4 := b2.trans (hb4.mono b2.size)
              have s4 : Bs ≤ w4.heap.size := Nat.le_trans s2 hb4.size
              clear hg4 hb4 d2 m2 b2 s2 ib2 o1 o3
              cases off with
              | true =>
                rw [Hrd.out.1]
                go_wp2_with fail
                go_roundw
                case rel => exact ⟨k + 1, true, by omega, by omega, by go_num, rfl, d4, m4, b4, s4⟩
                case measure => simp [intOf]; omega
              | false =>
                rw [Hrd.out.2]
                go_wp2_with fail
                go_roundw
                case rel => exact ⟨k + 1, false, by omega, by omega, by go_num, rfl, d4, m4, b4, s4⟩
                case measure => simp [intOf]; omega
          · have hd2 : decide ((k : Int) < 50) = false := by simp; omega
            go_wp2_with fail
            refine (ops_any wr F _ dr).mono ?_
            rintro e w6 ⟨rfl, rfl⟩
            rw [show (cutD D off).ops = D.ops from rfl]
            go_wp2_with fail
            refine (loose_any wr F _ dr).mono ?_
            rintro e w6 ⟨rfl, rfl⟩
            rw [show (cutD D off).hung = D.hung from rfl]
            go_wp2_with fail
            refine (cutAt_any wr F _ dr (-1) (by omega) (by omega)).mono ?_
            rintro e w7 ⟨rfl, d7, t7⟩
            change DkAt w7 F { D with cut := -1, off := false } at d7
            have b7 := t7.has_of_p.own hbr hF hbr.size
            have m7 := mr.keep (fun j hj hB => t7.block j hj (fun e => by have := hFlt F.p (.inl rfl); omega))
            clear dr mr hbr hsr t7
            go_wp2_with fail
            go_loopw [18, 19, 20, 110, 111, 112, 113, 114, 115, 116, 117, 118, 119, 120, 121, 122, 123, 124, 125, 126, 127, 128, 129, 130] (fun i _ _ _ _ _ _ _ _ _ _ _ _ _ _ _ _ _ _ _ _ _ _ _ wr => ∃ k : Nat, k ≤ 8 ∧ i = .int .i64 (k : Int) ∧ DkAt wr F { D with cut := -1, off := false } ∧ MineS Bs wr u9 ((List.range 8).map fun j : Nat => sec D.now j) ∧ Below w.heap.size w wr) (fun i _ _ _ _ _ _ _ _ _ _ _ _ _ _ _ _ _ _ _ _ _ _ _ _ => 8 - (intOf i).toNat)
            case atStart => exact ⟨0, by omega, rfl, d7, m7, b7⟩
            case round =>
              obtain ⟨k', hk', rfl, dr, mr, hbr⟩ := hrel
              clear d7 m7 b7
              by_cases hlt8 : k' < 8
              · have hd8 : decide ((k' : Int) < 8) = true := by simp; omega
                have er : Dk.read { D with cut := -1, off := false } k' = (sec D.now k', 0) := Dk.read_ok rfl (by show k' < D.n; rw [g2.n]; exact hlt8)
                have Er := Lib.hid er
                clear er
                go_wp2_with fail
                refine (read_any wr F _ dr k' (by omega) (by omega)).mono ?_
                rintro e w3 ⟨u3, rfl, hg3⟩
                rw [Er.out] at hg3 ⊢
                have hb3 := hg3.below
                have d3 := (dr.below hb3).drew
                have m3 : MineS Bs w3.drew u9 ((List.range 8).map fun j : Nat => sec D.now j) := mr.keep (fun j hj _ => hb3.block j hj)
                have b3 := (hbr.trans (hb3.mono hbr.size)).drew
                have s3 := run_str (P := Try.prog) hg3.isB.drew 30 9 5 Try.underlying30 Try.underlying5 Try.underlying9
                obtain ⟨gs, cs, hus, _, _, hcs⟩ := m3.at (by simp)
                have cs8 := hcs k' (by simp; exact hlt8)
                simp only [List.getElem_map, List.getElem_range] at cs8
                rw [List.length_map, List.length_range] at hus
                have j0 : (0 : Int) ≤ (k' : Int) := by omega
                have j1 : (k' : Int) < 8 := by omega
                clear hcs hg3 hb3 dr mr hbr
                subst hus
                go_wp2_with fail
                refine wp_region_still_lit (by kernel_rfl) (by kernel_rfl) ?_
                change wpStill _ _ w3.drew (fun a' => _) _ _
                repeat still_step
                refine wpStill_nil ?_
                clear s3 cs8
                go_wp2_with fail
                go_roundw
                case rel => exact ⟨k' + 1, by omega, by go_num, d3, m3, b3⟩
                case measure => simp [intOf]; omega
              · have hd8 : decide ((k' : Int) < 8) = false := by simp; omega
                go_wp2_with fail
                go_ret
                exact ⟨rfl, hbr⟩
        · have hd : decide ((k : Int) < (L1.length : Int)) = false := by simpa using hlt
          go_wp2_with fail
          refine (ops_any wr F _ dr).mono ?_
          rintro e w6 ⟨rfl, rfl⟩
          rw [show (cutD D off).ops = D.ops from rfl]
          go_wp2_with fail
          refine (loose_any wr F _ dr).mono ?_
          rintro e w6 ⟨rfl, rfl⟩
          rw [show (cutD D off).hung = D.hung from rfl]
          go_wp2_with fail
          refine (cutAt_any wr F _ dr (-1) (by omega) (by omega)).mono ?_
          rintro e w7 ⟨rfl, d7, t7⟩
          change DkAt w7 F { D with cut := -1, off := false } at d7
          have b7 := t7.has_of_p.own hbr hF hbr.size
          have m7 := mr.keep (fun j hj hB => t7.block j hj (fun e => by have := hFlt F.p (.inl rfl); omega))
          clear dr mr hbr hsr t7
          go_wp2_with fail
          go_loopw [18, 19, 20, 110, 111, 112, 113, 114, 115, 116, 117, 118, 119, 120, 121, 122, 123, 124, 125, 126, 127, 128, 129, 130] (fun i _ _ _ _ _ _ _ _ _ _ _ _ _ _ _ _ _ _ _ _ _ _ _ wr => ∃ k : Nat, k ≤ 8 ∧ i = .int .i64 (k : Int) ∧ DkAt wr F { D with cut := -1, off := false } ∧ MineS Bs wr u9 ((List.range 8).map fun j : Nat => sec D.now j) ∧ Below w.heap.size w wr) (fun i _ _ _ _ _ _ _ _ _ _ _ _ _ _ _ _ _ _ _ _ _ _ _ _ => 8 - (intOf i).toNat)
          case atStart => exact ⟨0, by omega, rfl, d7, m7, b7⟩
          case round =>
            obtain ⟨k', hk', rfl, dr, mr, hbr⟩ := hrel
            clear d7 m7 b7
            by_cases hlt8 : k' < 8
            · have hd8 : decide ((k' : Int) < 8) = true := by simp; omega
              have er : Dk.read { D with cut := -1, off := false } k' = (sec D.now k', 0) := Dk.read_ok rfl (by show k' < D.n; rw [g2.n]; exact hlt8)
              have Er := Lib.hid er
              clear er
              go_wp2_with fail
              refine (read_any wr F _ dr k' (by omega) (by omega)).mono ?_
              rintro e w3 ⟨u3, rfl, hg3⟩
              rw [Er.out] at hg3 ⊢
              have hb3 := hg3.below
              have d3 := (dr.below hb3).drew
              have m3 : MineS Bs w3.drew u9 ((List.range 8).map fun j : Nat => sec D.now j) := mr.keep (fun j hj _ => hb3.block j hj)
              have b3 := (hbr.trans (hb3.mono hbr.size)).drew
              have s3 := run_str (P := Try.prog) hg3.isB.drew 30 9 5 Try.underlying30 Try.underlying5 Try.underlying9
              obtain ⟨gs, cs, hus, _, _, hcs⟩ := m3.at (by simp)
              have cs8 := hcs k' (by simp; exact hlt8)
              simp only [List.getElem_map, List.getElem_range] at cs8
              rw [List.length_map, List.length_range] at hus
              have j0 : (0 : Int) ≤ (k' : Int) := by omega
              have j1 : (k' : Int) < 8 := by omega
              clear hcs hg3 hb3 dr mr hbr
              subst hus
              go_wp2_with fail
              refine wp_region_still_lit (by kernel_rfl) (by kernel_rfl) ?_
              change wpStill _ _ w3.drew (fun a' => _) _ _
              repeat still_step
              refine wpStill_nil ?_
              clear s3 cs8
              go_wp2_with fail
              go_roundw
              case rel => exact ⟨k' + 1, by omega, by go_num, d3, m3, b3⟩
              case measure => simp [intOf]; omega
            · have hd8 : decide ((k' : Int) < 8) = false := by simp; omega
              go_wp2_with fail
              go_ret
              exact ⟨rfl, hbr⟩
end Go.Proofs.Ytncoclbmnhbgbaa
