/- The document's disk: New. -/
import Derived.Test.YtncoclbmnhbgbaaRefOwn
import Derived.Test.YtncoclbmnhbgbaaDkNew
import Derived.Deep.RegionLaw
set_option linter.unusedVariables false
set_option linter.unusedSimpArgs false
namespace Go.Proofs.Ytncoclbmnhbgbaa
open Go.RowKit

/-- a new disk's sectors, so many of which are laid -/
def newTo (n k : Nat) : Dk := { Dk.new n with n := k }
theorem sec_zeros {n k : Nat} (h : k < n) : sec (List.replicate (n * 128) 0) k = List.replicate 128 0 := by
  unfold sec
  rw [List.drop_replicate, List.take_replicate]
  congr 1
  omega
set_option maxHeartbeats 4000000 in
theorem refNew_none (w : World) (n : Int) (h1 : -9223372036854775808 ≤ n) (h2 : n ≤ 9223372036854775807) (hn : ¬ (1 ≤ n ∧ n ≤ 16384)) :
    Calls Try.prog 23 #[.int .i64 n] w fun e w' => e = .returned (.tuple #[.pointer none, .int .i64 40]) ∧ w = w' := by
  by_cases h0 : n < 1
  · have d0 : decide (n < 1) = true := by simpa using h0
    go_enter Try.func23, Try.ntmps23
    go_wp2
    go_ret2
    exact ⟨rfl, rfl⟩
  · have d0 : decide (n < 1) = false := by simpa using h0
    have d1 : decide (16384 < n) = true := by simp; omega
    go_enter Try.func23, Try.ntmps23
    go_wp2
    go_ret2
    exact ⟨rfl, rfl⟩
set_option maxHeartbeats 8000000 in
theorem refNew_some (w : World) (n : Nat) (hn : 1 ≤ n ∧ n ≤ 16384) :
    Calls Try.prog 23 #[.int .i64 (n : Int)] w fun e w' => ∃ p, e = .returned (.tuple #[rptr p, .int .i64 0]) ∧ RefAt w.heap.size w' p (Dk.new n) ∧ Below w.heap.size w w' := by
  obtain ⟨B, hBe⟩ : ∃ B, B = w.heap.size := ⟨_, rfl⟩
  rw [← hBe]
  have hB : B ≤ w.heap.size := by omega
  have d0 : decide ((n : Int) < 1) = false := by simp; omega
  have d1 : decide ((16384 : Int) < (n : Int)) = false := by simp; omega
  obtain ⟨i, hi, hz, hs1, hb1⟩ := info_parts (P := Try.prog) (e := 5) info_byte
  have hmk : ∀ w : World, (Instr.makeSlice 30 (.int .i64 128) (.int .i64 128)).run Try.prog w = .ok (.slice (some ⟨w.heap.size, 0, none⟩) 128 128) (w.alloc (.cells (bv (List.replicate 128 0)).toArray 5)) := fun w => by
    have := run_make (P := Try.prog) w 30 5 i (.int .u8 0) Try.underlying30 hi hz .i64 .i64 128 128 (by omega) (by omega) (by rw [hb1]; omega) (by omega)
    rwa [hs1, Nat.mul_one, show (128 : Int).toNat = 128 from rfl, made_bytes] at this
  obtain ⟨R, hR⟩ : ∃ R, R = List.replicate 128 (0 : UInt8) := ⟨_, rfl⟩
  rw [← hR] at hmk
  have hRl : R.length = 128 := by rw [hR, List.length_replicate]
  have HR := Lib.hid hR
  clear hi hz hs1 hb1 hR
  obtain ⟨W1, hW1⟩ : ∃ W1, W1 = w.alloc (.cells #[.slice none 0 0, .slice none 0 0, .int .i64 0, .int .i64 (-1), .bool false] 71) := ⟨_, rfl⟩
  have hb1 : Below B w W1 := by rw [hW1, hBe]; exact (Below.refl _ _).alloc (Nat.le_refl _) _
  have hr1 : RefAt B W1 w.heap.size (newTo n 0) := by
    rw [hW1]
    exact ⟨hB, _, _, heap_alloc_new w _, ⟨[], rfl, World.ownsRow_nil _ _ _ _, fun i hi => by simp at hi⟩, ⟨[], rfl, World.ownsRow_nil _ _ _ _, fun i hi => by simp [newTo, Dk.new] at hi⟩⟩
  obtain ⟨g1, g2⟩ := hn
  have HW := Lib.hid hW1
  clear hW1
  go_enter Try.func23, Try.ntmps23
  go_wp2_with fail
  rw [← HW.out]
  obtain ⟨p, hpw⟩ : ∃ p, p = w.heap.size := ⟨_, rfl⟩
  have HP := Lib.hid hpw
  rw [← hpw] at hB hr1 ⊢
  clear hpw hBe
  go_loopw [5, 14, 15, 16, 17, 18, 19, 20, 21, 22, 23, 24, 25, 26, 27, 28] (fun i _ _ _ _ _ _ _ _ _ _ _ _ _ _ _ wr => ∃ k : Nat, k ≤ n ∧ i = .int .i64 (k : Int) ∧ RefAt B wr p (newTo n k) ∧ Below B w wr) (fun i _ _ _ _ _ _ _ _ _ _ _ _ _ _ _ _ => n - (intOf i).toNat)
  case atStart => exact ⟨0, Nat.zero_le _, rfl, hr1, hb1⟩
  case round =>
    obtain ⟨k, hk, rfl, rr, hbr⟩ := hrel
    clear hr1 hb1
    by_cases hlt : k < n
    · have hd : decide ((k : Int) < (n : Int)) = true := by simpa using hlt
      obtain ⟨aS, cS, aL, cL, hp, hS, hL⟩ := rr.cells
      have hsz : B ≤ wr.heap.size := Nat.le_of_lt (Nat.lt_of_le_of_lt rr.low (lt_of_heap hp))
      have p0 : wr.cell? ⟨p, 0, none⟩ = some (.slice aS k cS) := by rw [cell_of_row _ _ _ _ _ _ hp]; rfl
      have hlow := rr.low
      obtain ⟨W2, hW2⟩ : ∃ W2, W2 = ((wr.alloc (.cells (bv R).toArray 5)).alloc (.cells #[.slice (some ⟨wr.heap.size, 0, none⟩) 128 128] 30)).drew := ⟨_, rfl⟩
      have hba : Below wr.heap.size wr (wr.alloc (.cells (bv R).toArray 5)) := (Below.refl wr.heap.size wr).alloc (Nat.le_refl _) _
      have hs1 : (wr.alloc (.cells (bv R).toArray 5)).heap.size = wr.heap.size + 1 := by simp
      have hbb : Below wr.heap.size wr ((wr.alloc (.cells (bv R).toArray 5)).alloc (.cells #[.slice (some ⟨wr.heap.size, 0, none⟩) 128 128] 30)) := hba.alloc (by rw [hs1]; omega) _
      have hb2 : Below wr.heap.size wr W2 := by rw [hW2]; exact hbb.drew
      have hp2 : W2.heap[p]? = _ := (hb2.block p (lt_of_heap hp)).trans hp
      have rr2 := rr.below hb2
      have p1 : (wr.alloc (.cells (bv R).toArray 5)).cell? ⟨p, 0, none⟩ = some (.slice aS k cS) := by rw [cell_of_row _ _ _ _ _ _ ((hba.block p (lt_of_heap hp)).trans hp)]; rfl
      have p2 : ((wr.alloc (.cells (bv R).toArray 5)).alloc (.cells #[.slice (some ⟨wr.heap.size, 0, none⟩) 128 128] 30)).cell? ⟨p, 0, none⟩ = some (.slice aS k cS) := by rw [cell_of_row _ _ _ _ _ _ ((hbb.block p (lt_of_heap hp)).trans hp)]; rfl
      obtain ⟨a2, c2, b2, d2, hq, hS2, hL2⟩ := rr2.cells
      have hu : Mine 5 B W2 (.slice (some ⟨wr.heap.size, 0, none⟩) 128 128) (sec (newTo n (k + 1)).safe (newTo n k).n) := by
        rw [show sec (newTo n (k + 1)).safe (newTo n k).n = R from (sec_zeros hlt).trans HR.out.symm, hW2]
        have := (Mine.lit (e := 5) (base := B) (w := wr) R hsz (by rw [hRl]; decide)).alloc (.cells #[.slice (some ⟨wr.heap.size, 0, none⟩) 128 128] 30)
        rw [hRl] at this
        exact this
      have hg : W2.heap[wr.heap.size + 1]? = some (.cells #[.slice (some ⟨wr.heap.size, 0, none⟩) 128 128] 30 (0, 0)) := by
        rw [hW2, ← hs1]
        exact heap_alloc_new _ _
      obtain ⟨a', c', w', hr, ⟨c0, hc0⟩, hf0, rr', ht'⟩ := RefAt.snocSafe hlow hq hS2 hL2 (by simp [newTo]; omega) (newTo n (k + 1)) rfl (fun i hi => rfl) rfl rfl rfl rfl _ hu _ hg
      rw [hq] at hp2
      simp only [Option.some.injEq, Obj.cells.injEq, Array.mk.injEq, List.cons.injEq, Value.slice.injEq, and_true, true_and] at hp2
      obtain ⟨⟨rfl, rfl⟩, rfl, rfl⟩ := hp2
      have HR' := Lib.hid (And.intro rr' ht')
      have HB := Lib.hid hb2
      clear hu hg hS2 hL2 hq rr2 hb2 hL hS rr rr' ht' hp hba hbb hs1
      simp only [show (newTo n k).n = k from rfl] at hr HR'
      go_wp2_with fail
      rw [hW2] at hr
      go_region_law (refine step_append_run rfl (.tmp 23) (.tmp 25) 68 68 (by rfl) _ _ _ (by rfl) (by rfl) hr ?_)
      all_goals (
        obtain ⟨rr', ht'⟩ := HR'.out
        have hbb := (hbr.trans (HB.out.mono hsz)).trans (ht'.below (Nat.le_trans hsz HB.out.size) fun k hk => hk.1)
        go_wp2_with fail
        go_roundw
        case rel => exact ⟨k + 1, by omega, by simp, rr', hbb⟩
        case measure => simp [intOf]; omega)
    · obtain rfl : k = n := by omega
      have hd : decide ((k : Int) < (k : Int)) = false := by simp
      go_wp2_with fail
      go_ret2
      exact ⟨p, rfl, rr, hbr⟩
end Go.Proofs.Ytncoclbmnhbgbaa
