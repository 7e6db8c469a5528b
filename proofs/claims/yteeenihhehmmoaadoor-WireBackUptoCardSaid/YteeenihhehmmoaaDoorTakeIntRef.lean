/- The contract of the reference's TakeInt. -/
import Derived.Test.YteeenihhehmmoaaDoorTakeInt
import Derived.Test.YteeenihhehmmoaaDoorPutText
import Derived.Deep.RegionWith
import Derived.Deep.DeepCutAuto
set_option linter.unusedVariables false
set_option linter.unusedSimpArgs false
namespace Go.Proofs.YteeenihhehmmoaaDoor
open Go.RowKit

/-- bytes as a string -/
def str (l : List UInt8) : ByteArray := ⟨l.toArray⟩
/-- the end of a walk: an answer, and nothing old is another one -/
def Ends (v : Value) (B : Nat) (w0 : World) (r : Ending) (w' : World) : Prop := r = .returned v ∧ Below B w0 w'

set_option maxHeartbeats 2000000 in
theorem refTakeInt_any (v : Value) (l : List UInt8) (n : Int) (w : World) (hv : IsB w v l) (hl : l.length ≤ 140737488355328) (h1 : -9223372036854775808 ≤ n) (h2 : n ≤ 9223372036854775807) :
    Calls Tryd.prog 14 #[v, .int .i64 n] w (Ends (three (takeI l n)) w.heap.size w) := by
  have hv' := hv
  obtain ⟨a, cap, rfl, hlc, hm, hnil, hc⟩ := hv'
  unfold maxLen at hm
  clear hc
  by_cases hlo : n < 0
  · go_enter Tryd.func14, Tryd.ntmps14
    go_wp2
    go_ret3
    refine ⟨?_, Below.refl _ _⟩
    rw [takeI_out (.inl hlo)]
    rfl
  · by_cases hhi : (l.length : Int) < n
    · go_enter Tryd.func14, Tryd.ntmps14
      go_wp2
      go_ret3
      refine ⟨?_, Below.refl _ _⟩
      rw [takeI_out (.inr hhi)]
      rfl
    · obtain ⟨m, rfl⟩ := Int.eq_ofNat_of_zero_le (show 0 ≤ n by omega)
      have hml : m ≤ l.length := by omega
      have Htk := Lib.hid (takeI_in hml)
      go_enter Tryd.func14, Tryd.ntmps14
      go_wp2
      go_loopw [7] (fun i wr => ∃ k : Nat, 1 ≤ k ∧ k ≤ 11 ∧ i = .int .i64 k ∧ Below w.heap.size w wr ∧ Hid (∀ u j, dec (l.drop m) = some (u, j) → k ≤ j)) (fun i _ => 11 - (intOf i).toNat)
      case atStart => exact ⟨1, by omega, by omega, rfl, Below.refl _ _, Lib.hid fun u j h => (dec_k h).1⟩
      case round =>
        obtain ⟨k, hk1, hk11, rfl, hbl, Hno⟩ := hrel
        have hvr := hv.below hbl
        have hszr := hbl.size
        by_cases hk : k ≤ 10 ∧ (k : Int) ≤ (l.length : Int) - (m : Int)
        · obtain ⟨hk10, hkl⟩ := hk
          have hp1 : (k : Int) ≤ 10 := by omega
          obtain ⟨x, rfl⟩ : ∃ x, a = some x := by
            cases a with
            | none => have := hnil rfl; omega
            | some x => exact ⟨x, rfl⟩
          obtain ⟨_, cap', hv2, _, _, _, hc2⟩ := hvr
          simp only [Value.slice.injEq] at hv2
          obtain ⟨rfl, hbad, rfl⟩ := hv2
          clear hbad
          obtain ⟨hs, hcs⟩ := hc2 _ rfl
          obtain ⟨xb, xo, xs⟩ := x
          obtain rfl : xs = none := hs (by omega)
          clear hs
          have Hcs := Lib.hid hcs
          clear hcs hc2
          go_wp2
          go_loop [8, 9] (fun u i => ∃ j : Nat, j ≤ k ∧ i = .int .i64 j ∧ u = .int .u64 (acc7 (l.drop m) j : Nat)) (fun _ i => k - (intOf i).toNat)
          case atStart => exact ⟨0, by omega, rfl, rfl⟩
          case round =>
            obtain ⟨j, hj, rfl, rfl⟩ := hrel
            by_cases hlt : j < k
            · have hmj : m + j < l.length := by omega
              have hcell := Hcs.out (m + j) hmj
              have hU := acc7_lt (l.drop m) j
              have hstep : Hid (acc7 (l.drop m) (j + 1) = (acc7 (l.drop m) j + (l[m + j]).toNat % 128 * 2 ^ (7 * j)) % 18446744073709551616) := by
                refine Lib.hid ?_
                rw [acc7, List.getD_eq_getElem?_getD, List.getElem?_drop, List.getElem?_eq_getElem hmj, Option.getD_some]
              have hb8 : (l[m + j]).toNat < 256 := (l[m + j]).toNat_lt
              have hor := or7 (acc7 (l.drop m) j) (l[m + j]).toNat j hU hb8 (by omega)
              rw [← hstep.out] at hor
              clear hU
              generalize (l[m + j]).toNat = b at *
              generalize acc7 (l.drop m) j = U at *
              have hp : (j : Int) < (k : Int) := by omega
              have hix1 : (m : Int) + (j : Int) < (l.length : Int) := by omega
              have hj10 : j ≤ 9 := by omega
              go_wp2
              go_round
              case rel => exact ⟨j + 1, by omega, by go_num, rfl⟩
              case measure => simp [intOf]; omega
            · obtain rfl : j = k := by omega
              have hu64 := acc7_lt64 (l.drop m) j
              have hsl := fun w => run_cut_lh (P := Tryd.prog) w Tryd.underlying24 info_byte (some ⟨xb, xo, none⟩) l.length cap m (m + j) (m : Int) ((m : Int) + (j : Int)) rfl (by omega) (by omega) (by omega)
              have hcut := (hv.below hbl).cut m (m + j) (by omega) (by omega)
              rw [show m + j - m = j by omega] at hcut hsl
              rw [show (l.take (m + j)).drop m = (l.drop m).take j by rw [List.drop_take]; congr 1; omega] at hcut
              generalize cutA (some (⟨xb, xo, none⟩ : Addr)) cap m = ca at *
              have hs0 := run_str (P := Tryd.prog) (w := wr.drew) hcut.drew 24 9 5 Tryd.underlying24 Tryd.underlying5 Tryd.underlying9
              generalize hL : (l.drop m).take j = L at *
              generalize hU : acc7 (l.drop m) j = U at *
              have HL := Lib.hid hL
              have HU := Lib.hid hU
              clear hL hU
              have hyes : ∀ Z : Int, zag U = Z → (intB Z == L) = true → takeI l m = (Z, (m : Int) + (j : Int), true) := by
                intro Z hz he
                have he2 : intB Z = L := by simpa using he
                rw [← hz, intB, zig_zag, ← HU.out, ← HL.out] at he2
                rw [Htk.out, dec_acc7 he2 (by rw [List.length_drop]; omega), HU.out, pack, hz]
              have hnoe : ∀ Z : Int, zag U = Z → (intB Z == L) = false → ∀ u j', dec (l.drop m) = some (u, j') → j + 1 ≤ j' := by
                intro Z hz he u j' hd
                have h3 := Hno.out u j' hd
                by_cases h4 : j = j'
                · subst h4
                  obtain ⟨h5, h6⟩ := acc7_dec hd
                  rw [HU.out] at h5
                  rw [HL.out] at h6
                  subst h5
                  have he2 : intB Z ≠ L := by simpa using he
                  rw [← hz, intB, zig_zag] at he2
                  exact absurd h6 he2
                · omega
              have Hyes := Lib.hid hyes
              have Hnoe := Lib.hid hnoe
              clear hyes hnoe Hno HU HL Htk
              by_cases hpar : U % 2 = 1
              · have hz1 : -9223372036854775808 ≤ -((U : Int) / 2) - 1 := by omega
                have hz2 : -((U : Int) / 2) - 1 ≤ 9223372036854775807 := by omega
                have Hz : Hid (zag U = -((U : Int) / 2) - 1) := Lib.hid (by rw [zag, if_neg (by omega)]; omega)
                have hwr : IntKind.i64.wrap ((m : Int) + (j : Int)) = (m : Int) + (j : Int) := IntWalk.i64_in _ (by omega)
                go_wp2_with fail
                go_region_with (go_at_call 28; refine (refInt_any (-((U : Int) / 2) - 1) _ hz1 hz2).mono ?_; rintro e w' ⟨u, rfl, hmu, hbu⟩; have hs1 := run_str (P := Tryd.prog) hmu.isB 24 9 5 Tryd.underlying24 Tryd.underlying5 Tryd.underlying9; have hs2 := run_str (P := Tryd.prog) (hcut.drew.below hbu) 24 9 5 Tryd.underlying24 Tryd.underlying5 Tryd.underlying9)
                all_goals clear hwr
                all_goals go_wp2_with fail
                all_goals have hbw : Below w.heap.size w w' := hbl.drew.trans (hbu.mono hszr)
                all_goals first
                  | exact ⟨⟨j + 1, by omega, by omega, by go_num, hbw, Lib.hid (Hnoe.out _ Hz.out (by assumption))⟩, by simp [intOf]; omega⟩
                  | (go_ret3
                     refine ⟨?_, hbw⟩
                     rw [Hyes.out _ Hz.out (by assumption)]
                     rfl)
              · have hz1 : -9223372036854775808 ≤ (U : Int) / 2 := by omega
                have hz2 : (U : Int) / 2 ≤ 9223372036854775807 := by omega
                have Hz : Hid (zag U = (U : Int) / 2) := Lib.hid (by rw [zag, if_pos (by omega)]; omega)
                have hwr : IntKind.i64.wrap ((m : Int) + (j : Int)) = (m : Int) + (j : Int) := IntWalk.i64_in _ (by omega)
                go_wp2_with fail
                go_region_with (go_at_call 28; refine (refInt_any ((U : Int) / 2) _ hz1 hz2).mono ?_; rintro e w' ⟨u, rfl, hmu, hbu⟩; have hs1 := run_str (P := Tryd.prog) hmu.isB 24 9 5 Tryd.underlying24 Tryd.underlying5 Tryd.underlying9; have hs2 := run_str (P := Tryd.prog) (hcut.drew.below hbu) 24 9 5 Tryd.underlying24 Tryd.underlying5 Tryd.underlying9)
                all_goals clear hwr
                all_goals go_wp2_with fail
                all_goals have hbw : Below w.heap.size w w' := hbl.drew.trans (hbu.mono hszr)
                all_goals first
                  | exact ⟨⟨j + 1, by omega, by omega, by go_num, hbw, Lib.hid (Hnoe.out _ Hz.out (by assumption))⟩, by simp [intOf]; omega⟩
                  | (go_ret3
                     refine ⟨?_, hbw⟩
                     rw [Hyes.out _ Hz.out (by assumption)]
                     rfl)
        · have hnone : dec (l.drop m) = none := by
            cases hd : dec (l.drop m) with
            | none => rfl
            | some p =>
              obtain ⟨u, j'⟩ := p
              have h3 := Hno.out u j' hd
              have h4 := dec_k hd
              rw [List.length_drop] at h4
              omega
          have hex : ¬ (k : Int) ≤ 10 ∨ ((k : Int) ≤ 10 ∧ ¬ (k : Int) ≤ (l.length : Int) - (m : Int)) := by omega
          have Hnone := Lib.hid hnone
          clear hnone Hno hk
          rcases hex with h5 | ⟨h5, h6⟩
          all_goals
            go_wp2_with fail
            go_ret3
            refine ⟨?_, hbl⟩
            rw [Htk.out, Hnone.out, pack]
            rfl
end Go.Proofs.YteeenihhehmmoaaDoor
