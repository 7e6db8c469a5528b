/- The walk of DiskKeeps: it answers true. -/
import Derived.Test.YtncoclbmnhbgbaaIntsOwn
set_option linter.unusedVariables false
set_option linter.unusedSimpArgs false
namespace Go.Proofs.Ytncoclbmnhbgbaa
open Go.RowKit

theorem crashTo_nil (D : Dk) (k : Nat) : crashTo D [] k = D.safe := by
  induction k with
  | zero => rfl
  | succ k ih => rw [crashTo, if_neg (by simp)]; exact ih

set_option maxRecDepth 100000 in
set_option maxHeartbeats 16000000 in
theorem lawKeeps_walk (w : World) (v0 : Value) (L : List OpV) (v1 : Value) (stay : List Int) (hv0 : IsO w v0 L) (hv1 : IsI w v1 stay) :
    Calls Try.prog 3 #[v0, v1] w fun e w' => e = .returned (.bool true) ∧ Below w.heap.size w w' := by
  obtain ⟨a1, cap1, rfl, hl1, hm1, hn1, hc1⟩ := id hv1
  unfold maxLen at hm1
  clear hc1
  go_enter Try.func3, Try.ntmps3
  go_wp2_with fail
  refine (shown_any w).mono ?_
  rintro e w1 ⟨rfl, hb1⟩
  go_wp2_with fail
  refine (plays_any w1 v0 L (hv0.below hb1)).mono ?_
  rintro e w2 ⟨F, D, u2, B, rfl, d2, g2, l2, hFB, hBw, hb2⟩
  have hb2' := hb1.trans (hb2.mono hb1.size)
  have hs2 := hb2'.size
  clear hb1 hb2 hFB hBw
  obtain ⟨au, cu, rfl, hlu, hmu⟩ := l2.shape
  unfold maxLen at hmu
  have hDl : D.hung.length ≤ 100 := Nat.le_trans d2.ok.loose g2.ops
  go_wp2_with fail
  refine (loose_any w2 F D d2).mono ?_
  rintro e w3 ⟨rfl, rfl⟩
  go_wp2_with fail
  go_loopw [9, 10, 47, 48, 49, 50, 51, 52, 53, 54, 55, 56] (fun u i _ _ _ _ _ _ _ _ _ _ wr => ∃ k : Nat, k ≤ D.hung.length ∧ i = .int .i64 (k : Int) ∧ MineI w2.heap.size wr u ((List.range k).map fun i : Nat => (i : Int)) ∧ Below w2.heap.size w2 wr) (fun _ i _ _ _ _ _ _ _ _ _ _ _ => D.hung.length - (intOf i).toNat)
  case atStart => exact ⟨0, Nat.zero_le _, rfl, MineI.nil _ _, Below.refl _ _⟩
  case round =>
    obtain ⟨k, hk, rfl, hm, hbr⟩ := hrel
    have hsr := hbr.size
    by_cases hlt : k < D.hung.length
    · have hd : decide ((k : Int) < (D.hung.length : Int)) = true := by simpa using hlt
      have hb3 : Below wr.heap.size wr (wr.alloc (.cells #[.int .i64 (k : Int)] 3)) := (Below.refl _ _).alloc (Nat.le_refl _) _
      obtain ⟨v', w4, hr, m4, t4⟩ := MineI.snoc (ownsRow_keep hm (fun j hj _ => hb3.block j hj)) (Nat.le_trans hsr hb3.size) (by simp; omega) (k : Int) wr.heap.size (heap_alloc_new wr _)
      have m4' : MineI w2.heap.size w4 v' ((List.range (k + 1)).map fun i : Nat => (i : Int)) := by
        rw [List.range_succ, List.map_append]; exact m4
      have b4 : Below w2.heap.size w2 w4 := (hbr.trans (hb3.mono hsr)).trans (t4.below (Nat.le_trans hsr hb3.size) (fun _ h => h))
      clear hm hbr hb3 m4 t4
      go_wp2_with (at_builtin; refine wpList_append_run rfl (.tmp 53) (.tmp 55) 23 23 rfl _ _ _ rfl rfl hr ?_; clear hr)
      go_roundw
      case rel => exact ⟨k + 1, by omega, by go_num, m4', b4⟩
      case measure => simp [intOf]; omega
    · obtain rfl : k = D.hung.length := by omega
      have hd : decide ((D.hung.length : Int) < (D.hung.length : Int)) = false := by simp
      have hall : ∀ i : Nat, i < D.hung.length → (i : Int) ∈ (List.range D.hung.length).map fun i : Nat => (i : Int) := fun i hi => List.mem_map.2 ⟨i, List.mem_range.2 hi, rfl⟩
      have hia := hm.isI
      clear hm
      generalize (List.range D.hung.length).map (fun i : Nat => (i : Int)) = all at *
      have d5 := d2.below hbr
      have l5 := l2.below hbr
      have b5 := hb2'.trans (hbr.mono hs2)
      have i5 := hv1.below b5
      clear d2 l2 hbr hs2 hb2'
      go_wp2_with fail
      refine (crash_any wr F D d5 _ stay i5).mono ?_
      rintro e w6 ⟨Fx, rfl, dx6, _, hb6⟩
      have d6 := d5.below hb6
      have l6 := l5.below hb6
      have a6 := hia.below hb6
      have b6 := b5.trans (hb6.mono b5.size)
      clear d5 l5 i5 hia hb6 b5
      go_wp2_with fail
      refine (crash_any w6 F D d6 _ [] (IsI.nil _)).mono ?_
      rintro e w7 ⟨Fn, rfl, dn7, _, hb7⟩
      have d7 := d6.below hb7
      have dx7 := dx6.below hb7
      have l7 := l6.below hb7
      have a7 := a6.below hb7
      have b7 := b6.trans (hb7.mono b6.size)
      clear d6 dx6 l6 a6 hb7 b6
      go_wp2_with fail
      refine (crash_any w7 F D d7 _ all a7).mono ?_
      rintro e w8 ⟨Ff, rfl, df8, _, hb8⟩
      have d8 := d7.below hb8
      have dx8 := dx7.below hb8
      have dn8 := dn7.below hb8
      have l8 := l7.below hb8
      have b8 := b7.trans (hb8.mono b7.size)
      have i8 := hv1.below b8
      clear d7 dx7 dn7 l7 a7 hb8 b7
      go_wp2_with fail
      go_loopw [14, 15, 16, 17, 18, 19, 20, 21, 22, 23, 24, 25, 26, 75, 76, 77, 78, 79, 80, 81, 82, 83, 84, 85, 86, 87, 88, 89, 90, 91, 92, 93, 94, 95, 96, 97, 98, 99, 100, 101, 102, 103, 104, 105, 106, 107, 108, 109, 110, 111, 112, 113, 114, 115, 116, 117, 118, 119, 120, 121, 122, 123, 124, 125, 126, 127, 128, 129, 130, 131, 132, 133, 134, 135, 136, 137, 138, 139, 140, 141, 142, 143, 144, 145, 146, 147, 148, 149, 150, 151, 152, 153, 154, 155, 156, 157, 158, 159, 160, 161, 162, 163, 164, 165, 166, 167] (fun i _ _ _ _ _ _ _ _ _ _ _ _ _ _ _ _ _ _ _ _ _ _ _ _ _ _ _ _ _ _ _ _ _ _ _ _ _ _ _ _ _ _ _ _ _ _ _ _ _ _ _ _ _ _ _ _ _ _ _ _ _ _ _ _ _ _ _ _ _ _ _ _ _ _ _ _ _ _ _ _ _ _ _ _ _ _ _ _ _ _ _ _ _ _ _ _ _ _ _ _ _ _ _ _ _ wr => ∃ k : Nat, k ≤ 8 ∧ i = .int .i64 (k : Int) ∧ DkAt wr F D ∧ DkAt wr Fx (D.crash stay) ∧ DkAt wr Fn (D.crash []) ∧ DkAt wr Ff (D.crash all) ∧ LooseAt B wr (.slice au D.hung.length cu) D.hung ∧ IsI wr (.slice a1 stay.length cap1) stay ∧ Below w.heap.size w wr) (fun i _ _ _ _ _ _ _ _ _ _ _ _ _ _ _ _ _ _ _ _ _ _ _ _ _ _ _ _ _ _ _ _ _ _ _ _ _ _ _ _ _ _ _ _ _ _ _ _ _ _ _ _ _ _ _ _ _ _ _ _ _ _ _ _ _ _ _ _ _ _ _ _ _ _ _ _ _ _ _ _ _ _ _ _ _ _ _ _ _ _ _ _ _ _ _ _ _ _ _ _ _ _ _ _ _ _ => 8 - (intOf i).toNat)
      case atStart => exact ⟨0, by omega, rfl, d8, dx8, dn8, df8, l8, i8, b8⟩
      case round =>
        obtain ⟨k, hk, rfl, dr, dxr, dnr, dfr, lr, ir, hbr⟩ := hrel
        clear d8 dx8 dn8 df8 l8 i8 b8
        by_cases hlt : k < 8
        · have hd : decide ((k : Int) < 8) = true := by simp; omega
          have hkn : k < D.n := by rw [g2.n]; exact hlt
          have en : (D.crash []).read k = (sec (crashTo D stay 0) k, 0) := by
            rw [Dk.read_ok (D := D.crash []) rfl hkn]
            show (sec (crashTo D [] D.hung.length) k, _) = _
            rw [crashTo_nil]; rfl
          have ex : (D.crash stay).read k = (sec (crashTo D stay D.hung.length) k, 0) := Dk.read_ok (D := D.crash stay) rfl hkn
          have ef : (D.crash all).read k = (sec D.now k, 0) := by
            rw [Dk.read_ok (D := D.crash all) rfl hkn]
            show (sec (crashTo D all D.hung.length) k, _) = _
            rw [crashTo_all hall _ (Nat.le_refl _), List.take_length, ← g2.now]
          have ed : D.read k = (sec D.now k, 0) := Dk.read_ok g2.off hkn
          have En := Lib.hid en
          have Ex := Lib.hid ex
          have Ef := Lib.hid ef
          have Ed := Lib.hid ed
          clear en ex ef ed
          go_wp2_with fail
          refine (read_any wr Fn _ dnr k (by omega) (by omega)).mono ?_
          rintro e w3 ⟨u3, rfl, hg3⟩
          rw [En.out] at hg3 ⊢
          have hb3 := hg3.below
          have hi3 := hg3.isB
          have d3 := dr.below hb3
          have dx3 := dxr.below hb3
          have dn3 := dnr.below hb3
          have df3 := dfr.below hb3
          have l3 := lr.below hb3
          have i3 := ir.below hb3
          have b3 := hbr.trans (hb3.mono hbr.size)
          clear hg3 hb3 dr dxr dnr dfr lr ir hbr
          go_wp2_with fail
          go_loop [17, 18, 19, 20, 86, 87, 88, 89, 90, 91, 92, 93, 94, 95, 96, 97, 98, 99, 100, 101, 102, 103, 104, 105, 106, 107, 108, 109, 110, 111, 112, 113, 114, 115, 116, 117, 118, 119, 120, 121] (fun u i _ _ _ _ _ _ _ _ _ _ _ _ _ _ _ _ _ _ _ _ _ _ _ _ _ _ _ _ _ _ _ _ _ _ _ _ _ _ => ∃ j : Nat, j ≤ D.hung.length ∧ i = .int .i64 (j : Int) ∧ IsB w3 u (sec (crashTo D stay j) k)) (fun _ i _ _ _ _ _ _ _ _ _ _ _ _ _ _ _ _ _ _ _ _ _ _ _ _ _ _ _ _ _ _ _ _ _ _ _ _ _ _ => D.hung.length - (intOf i).toNat)
          case atStart => exact ⟨0, Nat.zero_le _, rfl, hi3⟩
          case round =>
            obtain ⟨j, hj, rfl, hw⟩ := hrel
            by_cases hjl : j < D.hung.length
            · have hdj : decide ((j : Int) < (D.hung.length : Int)) = true := by simpa using hjl
              have hstep := crashTo_step d3.ok stay j k hjl hkn
              obtain ⟨g, cg, hge, _, _, _, hcells⟩ : ∃ g cap, Value.slice au D.hung.length cu = .slice (some ⟨g, 0, none⟩) D.hung.length cap ∧ B ≤ g ∧ D.hung.length ≤ cap ∧ cap ≤ maxLen ∧ ∀ i (hi : i < D.hung.length), ∃ u, w3.cell? ⟨g, i * 5 + 1, none⟩ = some (.int .i64 (D.hung[i].1 : Int)) ∧ w3.cell? ⟨g, i * 5 + 3, none⟩ = some u ∧ IsB w3 u D.hung[i].2 := by
                rcases l3.at with ⟨h0, _⟩ | h
                · rw [h0] at hjl; simp at hjl
                · exact h
              simp only [Value.slice.injEq, true_and] at hge
              obtain ⟨rfl, rfl⟩ := hge
              obtain ⟨uj, c1, c3, hju⟩ := hcells j hjl
              have Hstep := Lib.hid hstep
              have Hju := Lib.hid hju
              have j0 : (0 : Int) ≤ (j : Int) := by omega
              have j1 : (j : Int) < (D.hung.length : Int) := by omega
              clear hstep hju hcells
              go_wp2_with fail
              go_loop [19, 20, 92, 93, 94, 95, 96, 97, 98, 99, 100, 101, 102, 103, 104, 105, 106] (fun b i _ _ _ _ _ _ _ _ _ _ _ _ _ _ _ => ∃ m : Nat, m ≤ stay.length ∧ i = .int .i64 (m : Int) ∧ b = .bool (decide ((j : Int) ∈ stay.take m))) (fun _ i _ _ _ _ _ _ _ _ _ _ _ _ _ _ _ => stay.length - (intOf i).toNat)
              case atStart => exact ⟨0, Nat.zero_le _, rfl, by simp⟩
              case round =>
                obtain ⟨m, hm, rfl, rfl⟩ := hrel
                by_cases hml : m < stay.length
                · have hdm : decide ((m : Int) < (stay.length : Int)) = true := by simpa using hml
                  obtain ⟨a', cap', hv', _, _, _, hc⟩ := id i3
                  simp only [Value.slice.injEq, true_and] at hv'
                  obtain ⟨rfl, rfl⟩ := hv'
                  obtain ⟨x, rfl⟩ : ∃ x, a1 = some x := by
                    cases a1 with
                    | none => have := hn1 rfl; omega
                    | some x => exact ⟨x, rfl⟩
                  obtain ⟨hsp, hcl⟩ := hc x rfl
                  obtain ⟨Bx, o, sp⟩ := x
                  obtain rfl : sp = none := hsp (by omega)
                  have c0 := hcl m hml
                  dsimp only at c0
                  have hst := index_step (j : Int) stay m hml
                  clear hc hcl hsp
                  generalize stay[m] = y at *
                  have m0 : (0 : Int) ≤ (m : Int) := by omega
                  have m1 : (m : Int) < (stay.length : Int) := by omega
                  by_cases hin : (j : Int) ∈ stay.take m
                  · have hin2 : (j : Int) ∈ stay.take (m + 1) := by
                      refine Classical.byContradiction fun h => (hst.2 h).1 hin
                    rw [decide_eq_true hin]
                    have Hin2 := Lib.hid hin2
                    clear hst hin hin2
                    go_wp2_with fail
                    go_round
                    case rel => exact ⟨m + 1, by omega, by simp, by rw [decide_eq_true Hin2.out]⟩
                    case measure => simp [intOf]; omega
                  · rw [decide_eq_false hin]
                    by_cases hy : y = (j : Int)
                    · have hin2 : (j : Int) ∈ stay.take (m + 1) := by
                        refine Classical.byContradiction fun h => (hst.2 h).2 hy
                      have hby : (y == (j : Int)) = true := by simpa using hy
                      have Hin2 := Lib.hid hin2
                      clear hst hin hin2 hy
                      go_wp2_with fail
                      go_round
                      case rel => exact ⟨m + 1, by omega, by simp, by rw [decide_eq_true Hin2.out]⟩
                      case measure => simp [intOf]; omega
                    · have hin2 : (j : Int) ∉ stay.take (m + 1) := hst.1 ⟨hin, hy⟩
                      have hby : (y == (j : Int)) = false := by simpa using hy
                      have Hin2 := Lib.hid hin2
                      clear hst hin hin2 hy
                      go_wp2_with fail
                      go_round
                      case rel => exact ⟨m + 1, by omega, by simp, by rw [decide_eq_false Hin2.out]⟩
                      case measure => simp [intOf]; omega
                · obtain rfl : m = stay.length := by omega
                  have hdm : decide ((stay.length : Int) < (stay.length : Int)) = false := by simp
                  rw [List.take_length]
                  by_cases hin : (j : Int) ∈ stay
                  · rw [decide_eq_true hin]
                    by_cases he : D.hung[j].1 = k
                    · have hw2 : IsB w3 uj (sec (crashTo D stay (j + 1)) k) := by
                        rw [Hstep.out, if_pos ⟨hin, he⟩]; exact Hju.out
                      have hbe : ((D.hung[j].1 : Int) == (k : Int)) = true := by simp [he]
                      have Hw := Lib.hid hw2
                      clear hw2 hw he
                      generalize D.hung[j].1 = yy at *
                      go_wp2_with fail
                      go_round
                      case rel => exact ⟨j + 1, by omega, by simp, Hw.out⟩
                      case measure => simp [intOf]; omega
                    · have hw2 : IsB w3 u17 (sec (crashTo D stay (j + 1)) k) := by
                        rw [Hstep.out, if_neg (fun e => he e.2)]; exact hw
                      have hbe : ((D.hung[j].1 : Int) == (k : Int)) = false := by simp; omega
                      have Hw := Lib.hid hw2
                      clear hw2 hw he
                      generalize D.hung[j].1 = yy at *
                      go_wp2_with fail
                      go_round
                      case rel => exact ⟨j + 1, by omega, by simp, Hw.out⟩
                      case measure => simp [intOf]; omega
                  · rw [decide_eq_false hin]
                    have hw2 : IsB w3 u17 (sec (crashTo D stay (j + 1)) k) := by
                      rw [Hstep.out, if_neg (fun e => hin e.1)]; exact hw
                    have Hw := Lib.hid hw2
                    clear hw2 hw
                    go_wp2_with fail
                    go_round
                    case rel => exact ⟨j + 1, by omega, by simp, Hw.out⟩
                    case measure => simp [intOf]; omega
            · obtain rfl : j = D.hung.length := by omega
              have hdj : decide ((D.hung.length : Int) < (D.hung.length : Int)) = false := by simp
              go_wp2_with fail
              refine (read_any w3 Fx _ dx3 k (by omega) (by omega)).mono ?_
              rintro e w4 ⟨u4', rfl, hg4⟩
              rw [Ex.out] at hg4 ⊢
              have hb4 := hg4.below
              have hi4 := hg4.isB
              have hw4 := hw.below hb4
              have d4 := d3.below hb4
              have dx4 := dx3.below hb4
              have dn4 := dn3.below hb4
              have df4 := df3.below hb4
              have l4 := l3.below hb4
              have i4 := i3.below hb4
              have b4 := b3.trans (hb4.mono b3.size)
              clear hg4 hb4 hw hi3 d3 dx3 dn3 df3 l3 i3 b3
              go_wp2_with fail
              refine (read_any w4 F _ d4 k (by omega) (by omega)).mono ?_
              rintro e w5 ⟨u5', rfl, hg5⟩
              rw [Ed.out] at hg5 ⊢
              have hb5 := hg5.below
              have hi5 := hg5.isB
              have hw5 := hw4.below hb5
              have hx5 := hi4.below hb5
              have d5' := d4.below hb5
              have dx5 := dx4.below hb5
              have dn5 := dn4.below hb5
              have df5 := df4.below hb5
              have l5' := l4.below hb5
              have i5' := i4.below hb5
              have b5' := b4.trans (hb5.mono b4.size)
              clear hg5 hb5 hw4 hi4 d4 dx4 dn4 df4 l4 i4 b4
              go_wp2_with fail
              refine (read_any w5 Ff _ df5 k (by omega) (by omega)).mono ?_
              rintro e w6' ⟨u6', rfl, hg6⟩
              rw [Ef.out] at hg6 ⊢
              have hb6 := hg6.below
              have hi6 := hg6.isB
              have hw6 := hw5.below hb6
              have hx6 := hx5.below hb6
              have hn6 := hi5.below hb6
              have d6' := d5'.below hb6
              have dx6' := dx5.below hb6
              have dn6 := dn5.below hb6
              have df6 := df5.below hb6
              have l6' := l5'.below hb6
              have i6 := i5'.below hb6
              have b6' := b5'.trans (hb6.mono b5'.size)
              clear hg6 hb6 hw5 hx5 hi5 d5' dx5 dn5 df5 l5' i5' b5'
              have s1 := run_str (P := Try.prog) hx6 30 9 5 Try.underlying30 Try.underlying5 Try.underlying9
              have s2 := run_str (P := Try.prog) hw6 30 9 5 Try.underlying30 Try.underlying5 Try.underlying9
              have s3 := run_str (P := Try.prog) hi6 30 9 5 Try.underlying30 Try.underlying5 Try.underlying9
              have s4 := run_str (P := Try.prog) hn6 30 9 5 Try.underlying30 Try.underlying5 Try.underlying9
              clear hi6 hw6 hx6 hn6
              generalize sec (crashTo D stay D.hung.length) k = Z1 at *
              generalize sec D.now k = Z2 at *
              go_wp2_with fail
              go_roundw
              case rel => exact ⟨k + 1, by omega, by go_num, d6', dx6', dn6, df6, l6', i6, b6'⟩
              case measure => simp [intOf]; omega
        · have hd : decide ((k : Int) < 8) = false := by simp; omega
          go_wp2_with fail
          go_ret
          exact ⟨rfl, hbr⟩
end Go.Proofs.Ytncoclbmnhbgbaa
