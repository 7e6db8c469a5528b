/- The walk of DiskPlays: it answers true. -/
import Derived.Test.YtncoclbmnhbgbaaDoes0
import Derived.Test.YtncoclbmnhbgbaaDoes1
import Derived.Test.YtncoclbmnhbgbaaDoes2
import Derived.Test.YtncoclbmnhbgbaaDoes3
import Derived.Test.YtncoclbmnhbgbaaDoes4
import Derived.Test.YtncoclbmnhbgbaaDoes5
import Derived.Test.YtncoclbmnhbgbaaRefNew
import Derived.Test.YtncoclbmnhbgbaaNone
import Derived.Test.YtncoclbmnhbgbaaDkShown
set_option linter.unusedVariables false
set_option linter.unusedSimpArgs false
namespace Go.Proofs.Ytncoclbmnhbgbaa
open Go.RowKit

theorem does_any (B : Nat) (w : World) (x : Nat) (F : Ft) (p : Nat) (D : Dk) (h : BothAt B w x F p D) (lo : Low B x F) (yk ya yn : Int) (ab sa : Option Addr) (cb sc : Nat) (bl : List UInt8) (st : List Int)
    (k1 : -9223372036854775808 ≤ yk) (k2 : yk ≤ 9223372036854775807) (a1 : -9223372036854775808 ≤ ya) (a2 : ya ≤ 9223372036854775807) (n1 : -9223372036854775808 ≤ yn) (n2 : yn ≤ 9223372036854775807)
    (hib : ∀ w', Below B w w' → IsB w' (.slice ab bl.length cb) bl) (hii : ∀ w', Below B w w' → IsI w' (.slice sa st.length sc) st) (hbl : bl.length ≤ 140737488351232) (hst : st.length ≤ 17592186043904) :
    Calls Try.prog 24 #[.pointer (some ⟨x, 0, none⟩), .agg #[.int .i64 yk, .int .i64 ya, .int .i64 yn, .slice ab bl.length cb, .slice sa st.length sc]] w (DoesPost B w x) := by
  have hq := pickN_lt yk (show 0 < 6 by omega)
  rcases (show pickN yk 6 = 0 ∨ pickN yk 6 = 1 ∨ pickN yk 6 = 2 ∨ pickN yk 6 = 3 ∨ pickN yk 6 = 4 ∨ pickN yk 6 = 5 by omega) with e | e | e | e | e | e
  · exact does_0 B w x F p D h lo yk ya yn ab sa cb sc bl st k1 k2 a1 a2 n1 n2 hib hii hbl hst e
  · exact does_1 B w x F p D h lo yk ya yn ab sa cb sc bl st k1 k2 a1 a2 n1 n2 hib hii hbl hst e
  · exact does_2 B w x F p D h lo yk ya yn ab sa cb sc bl st k1 k2 a1 a2 n1 n2 hib hii hbl hst e
  · exact does_3 B w x F p D h lo yk ya yn ab sa cb sc bl st k1 k2 a1 a2 n1 n2 hib hii hbl hst e
  · exact does_4 B w x F p D h lo yk ya yn ab sa cb sc bl st k1 k2 a1 a2 n1 n2 hib hii hbl hst e
  · exact does_5 B w x F p D h lo yk ya yn ab sa cb sc bl st k1 k2 a1 a2 n1 n2 hib hii hbl hst e

set_option maxRecDepth 100000 in
set_option maxHeartbeats 16000000 in
theorem lawPlays_walk (w : World) (n : Int) (hn1 : -9223372036854775808 ≤ n) (hn2 : n ≤ 9223372036854775807) (v : Value) (L : List OpV) (hv : IsO w v L) (hlen : ∀ y ∈ L, y.b.length ≤ 140737488351232 ∧ y.stay.length ≤ 17592186043904) :
    Calls Try.prog 7 #[.int .i64 n, v] w fun e w' => e = .returned (.bool true) ∧ Below w.heap.size w w' := by
  obtain ⟨a1, cap1, rfl, hl1, hm1, hn1', hc1⟩ := id hv
  unfold maxLen at hm1
  clear hc1
  have HLEN := Lib.hid hlen
  clear hlen
  go_enter Try.func7, Try.ntmps7
  go_wp2_with fail
  refine (shown_any w).mono ?_
  rintro e w1 ⟨rfl, hb1⟩
  go_wp2_with fail
  refine (nothing_any w1).mono ?_
  rintro e w2 ⟨rfl, hb2'⟩
  have hb2 := hb1.trans (hb2'.mono hb1.size)
  clear hb1 hb2'
  go_wp2_with fail
  by_cases hin : 1 ≤ n ∧ n ≤ 16384
  · obtain ⟨m, rfl⟩ := Int.eq_ofNat_of_zero_le (show 0 ≤ n by omega)
    refine (new_some w2 m (by omega)).mono ?_
    rintro e w3 ⟨F, rfl, d3, hF, hb3'⟩
    have hb3 := hb2.trans (hb3'.mono hb2.size)
    have hF' : ∀ k, F.has k → w.heap.size ≤ k := fun k hk => Nat.le_trans hb2.size (hF k hk)
    clear hb3' hF
    go_wp2_with fail
    refine (refNew_some w3 m (by omega)).mono ?_
    rintro e w4 ⟨p, rfl, r4, hb4'⟩
    have r4 := r4.down hb3.size
    have d4 := d3.below hb4'
    have hb4 := hb3.trans (hb4'.mono hb3.size)
    clear d3 hb4' hb3 hb2
    by_cases h40 : m ≤ 40
    · have hd40 : decide (40 < (m : Int)) = false := by simp; omega
      have hx := heap_alloc_new w4 (.cells #[F.ptr, rptr p] 54)
      have hbx : Below w4.heap.size w4 (w4.alloc (.cells #[F.ptr, rptr p] 54)) := (Below.refl _ _).alloc (Nat.le_refl _) _
      have both : BothAt w.heap.size (w4.alloc (.cells #[F.ptr, rptr p] 54)) w4.heap.size F p (Dk.new m) := ⟨hx, d4.below hbx, r4.below hbx, rfl⟩
      have lo : Low w.heap.size w4.heap.size F := ⟨hF', hb4.size⟩
      have b5 := hb4.trans (hbx.mono hb4.size)
      clear hx hbx hb4 d4 r4 hF'
      go_wp2_with fail
      generalize w4.heap.size = x at *
      go_loopw [12, 13, 14, 55, 56, 57, 58, 59, 60, 61, 62, 63, 64, 65, 66, 67, 68, 69, 70, 71, 72, 73, 74, 75, 76] (fun i _ _ _ _ _ _ _ _ _ _ _ _ _ _ _ _ _ _ _ _ _ _ _ _ wr => ∃ (k : Nat) (F : Ft) (p : Nat) (D : Dk), k ≤ L.length ∧ k ≤ 200 ∧ i = .int .i64 (k : Int) ∧ BothAt w.heap.size wr x F p D ∧ Low w.heap.size x F ∧ Below w.heap.size w wr) (fun i _ _ _ _ _ _ _ _ _ _ _ _ _ _ _ _ _ _ _ _ _ _ _ _ _ => 200 - (intOf i).toNat)
      case atStart => exact ⟨0, F, p, _, Nat.zero_le _, Nat.zero_le _, rfl, both, lo, b5⟩
      case round =>
        clear both lo b5
        obtain ⟨k, F', p', D, hk1, hk2, rfl, hr, lr, hbr⟩ := hrel
        by_cases hlt : k < L.length
        · have hd : decide ((k : Int) < (L.length : Int)) = true := by simpa using hlt
          by_cases hlt2 : k < 200
          · have hd2 : decide ((k : Int) < 200) = true := by simp; omega
            obtain ⟨a', cap', hv', _, _, _, hc⟩ := id hv
            simp only [Value.slice.injEq] at hv'
            obtain ⟨rfl, _, rfl⟩ := hv'
            obtain ⟨xx, rfl⟩ : ∃ x, a1 = some x := by
              cases a1 with
              | none => have := hn1' rfl; omega
              | some x => exact ⟨x, rfl⟩
            obtain ⟨hsp, hcl⟩ := hc xx rfl
            obtain ⟨Bx, o, sp⟩ := xx
            obtain rfl : sp = none := hsp (by omega)
            obtain ⟨hcell, hxk⟩ := hcl k hlt
            have c0 := cells_below hbr _ _ (hcell 0 (by omega))
            have c1 := cells_below hbr _ _ (hcell 1 (by omega))
            have c2 := cells_below hbr _ _ (hcell 2 (by omega))
            have c3 := cells_below hbr _ _ (hcell 3 (by omega))
            have c4 := cells_below hbr _ _ (hcell 4 (by omega))
            have hly := HLEN.out L[k] (List.getElem_mem hlt)
            dsimp only [OpV.cell, Nat.add_zero] at c0 c1 c2 c3 c4
            clear hc hcl hcell hsp
            generalize L[k] = y at *
            obtain ⟨yk, ya, yn, yb, ybl, ys, yst⟩ := y
            obtain ⟨k1, k2, a1, a2, n1, n2, hib, hii⟩ := hxk
            obtain ⟨sa, sc, e2, _⟩ := id hii
            obtain ⟨ab, cb, e1, _⟩ := id hib
            dsimp only at c0 c1 c2 c3 c4 k1 k2 a1 a2 n1 n2 e1 e2 hib hii hly
            subst e1 e2
            have i0 : (0 : Int) ≤ (k : Int) := by omega
            have i1 : (k : Int) < (L.length : Int) := by omega
            have hdo := does_any w.heap.size wr x F' p' D hr lr yk ya yn ab sa cb sc ybl yst k1 k2 a1 a2 n1 n2 (fun w' hw' => hib.below (hbr.trans hw')) (fun w' hw' => hii.below (hbr.trans hw')) hly.1 hly.2
            clear hib hii hly k1 k2 a1 a2 n1 n2 hr lr
            have HD := Lib.hid hdo
            clear hdo
            go_wp2_with fail
            refine HD.out.mono ?_
            rintro e w5 ⟨F5, p5, D5, rfl, hr5, lo5, b5⟩
            have bb5 := hbr.trans b5
            clear HD c0 c1 c2 c3 c4 b5 hbr
            go_wp2_with fail
            refine (alike_any w.heap.size w5 x F5 p5 D5 hr5).mono ?_
            rintro e w6 ⟨rfl, b6⟩
            have hr6 := hr5.below b6
            have bb6 := bb5.trans (b6.mono bb5.size)
            clear hr5 bb5 b6
            go_wp2_with fail
            go_roundw
            case rel => exact ⟨k + 1, F5, p5, D5, by omega, by omega, by go_num, hr6, lo5, bb6⟩
            case measure => simp [intOf]; omega
          · have hd2 : decide ((k : Int) < 200) = false := by simp; omega
            go_wp2_with fail
            go_ret
            exact ⟨rfl, hbr⟩
        · have hd : decide ((k : Int) < (L.length : Int)) = false := by simpa using hlt
          go_wp2_with fail
          go_ret
          exact ⟨rfl, hbr⟩
    · have hd40 : decide (40 < (m : Int)) = true := by simp; omega
      go_wp2_with fail
      go_ret
      exact ⟨rfl, hb4⟩
  · refine (new_any w2 n hn1 hn2 hin).mono ?_
    rintro e w3 ⟨rfl, rfl⟩
    go_wp2_with fail
    refine (refNew_none w2 n hn1 hn2 hin).mono ?_
    rintro e w3 ⟨rfl, rfl⟩
    go_wp2_with fail
    go_ret
    exact ⟨rfl, hb2⟩
end Go.Proofs.Ytncoclbmnhbgbaa
