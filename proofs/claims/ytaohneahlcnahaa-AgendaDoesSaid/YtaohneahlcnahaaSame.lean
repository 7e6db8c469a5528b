/- Same, Ints: of two equal lists, true. -/
import Derived.Test.YtaohneahlcnahaaDue
import Derived.Test.YtaohneahlcnahaaMineI
import Derived.StillTailTactics
set_option linter.unusedVariables false
set_option linter.unusedSimpArgs false
namespace Go.Proofs.Ytaohneahlcnahaa
open Go.RowKit

theorem IsI.addr {w : World} {a : Option Addr} {n cap : Nat} {L : List Int} (h : IsI w (.slice a n cap) L) (h0 : 0 < L.length) : ∃ B o, a = some ⟨B, o, none⟩ ∧ ∀ i, (hi : i < L.length) → w.cell? ⟨B, o + i, none⟩ = some (.int .i64 L[i]) := by
  obtain ⟨a', cap', hv, hl, hm, hn, hc⟩ := h
  injection hv with e1 e2 e3
  subst e1
  cases a with
  | none => have := hn rfl; omega
  | some x =>
    obtain ⟨hs, hcl⟩ := hc x rfl
    obtain ⟨xb, xo, xs⟩ := x
    obtain rfl : xs = none := hs h0
    exact ⟨xb, xo, rfl, hcl⟩

set_option maxHeartbeats 4000000 in
theorem same_any (w : World) (v u : Value) (L : List Du) (hv : IsD w v L) (hu : IsD w u L) (hlen : L.length ≤ 1000000) :
    Calls Try.prog 9 #[v, u] w fun e w' => e = .returned (.bool true) ∧ Below w.heap.size w w' := by
  obtain ⟨a, cap, rfl, -⟩ := id hv
  obtain ⟨a2, cap2, rfl, -⟩ := id hu
  have Hv := Lib.hid hv
  have Hu := Lib.hid hu
  clear hv hu
  go_enter Try.func9, Try.ntmps9
  go_wp2_with fail
  go_loopw [5, 11, 12, 13, 14, 15, 16, 17, 18, 19, 20, 21, 22, 23, 24, 25] (fun i _ _ _ _ _ _ _ _ _ _ _ _ _ _ _ wr => ∃ k : Nat, k ≤ L.length ∧ i = .int .i64 (k : Int) ∧ Below w.heap.size w wr) (fun i _ _ _ _ _ _ _ _ _ _ _ _ _ _ _ _ => L.length - (intOf i).toNat)
  case atStart => exact ⟨0, Nat.zero_le _, rfl, Below.refl _ _⟩
  case round =>
    obtain ⟨k, hk, rfl, hbr⟩ := hrel
    by_cases hlt : k < L.length
    · have hd : decide ((k : Int) < (L.length : Int)) = true := by simpa using hlt
      have hi0 : (0 : Int) ≤ (k : Int) := by omega
      have hi1 : (k : Int) < (L.length : Int) := by omega
      obtain ⟨-, -, -, hv1⟩ := (Hv.out.below hbr.drew).addr
      obtain ⟨B1, o1, rfl, hc⟩ := hv1 (by omega)
      obtain ⟨c0, c1⟩ := hc k hlt
      obtain ⟨-, -, -, hu1⟩ := (Hu.out.below hbr.drew).addr
      obtain ⟨B2, o2, rfl, gc⟩ := hu1 (by omega)
      obtain ⟨g0, g1⟩ := gc k hlt
      clear hv1 hu1
      generalize L[k] = y at *
      have bR : Below w.heap.size w wr.drew := hbr.drew
      clear hbr hc gc
      go_wp2_with fail
      refine wp_region_still_tail 8 (by kernel_rfl) (by kernel_rfl) ?_
      simp only [List.take_succ_cons, List.take_zero, List.drop_succ_cons, List.drop_zero]
      change wpStill _ _ wr.drew (fun a' => wpList _ _ _ _ a' wr.drew) _ _
      generalize wr.drew = W1 at *
      iterate 8 still_step
      refine wpStill_nil ?_
      go_wp2_with fail
      go_roundw
      case rel => exact ⟨k + 1, by omega, by go_num, bR⟩
      case measure => simp [intOf]; omega
    · obtain rfl : k = L.length := by omega
      have hd : decide ((L.length : Int) < (L.length : Int)) = false := by simp
      go_wp2_with fail
      go_ret
      exact ⟨rfl, hbr⟩

set_option maxHeartbeats 4000000 in
theorem ints_any (w : World) (v u : Value) (L : List Int) (hv : IsI w v L) (hu : IsI w u L) (hlen : L.length ≤ 1000000) :
    Calls Try.prog 16 #[v, u] w fun e w' => e = .returned (.bool true) ∧ Below w.heap.size w w' := by
  obtain ⟨a, cap, rfl, -⟩ := id hv
  obtain ⟨a2, cap2, rfl, -⟩ := id hu
  have Hv := Lib.hid hv
  have Hu := Lib.hid hu
  clear hv hu
  go_enter Try.func16, Try.ntmps16
  go_wp2_with fail
  go_loopw [5, 11, 12, 13, 14, 15, 16, 17, 18, 19, 20, 21, 22, 23, 24, 25] (fun i _ _ _ _ _ _ _ _ _ _ _ _ _ _ _ wr => ∃ k : Nat, k ≤ L.length ∧ i = .int .i64 (k : Int) ∧ Below w.heap.size w wr) (fun i _ _ _ _ _ _ _ _ _ _ _ _ _ _ _ _ => L.length - (intOf i).toNat)
  case atStart => exact ⟨0, Nat.zero_le _, rfl, Below.refl _ _⟩
  case round =>
    obtain ⟨k, hk, rfl, hbr⟩ := hrel
    by_cases hlt : k < L.length
    · have hd : decide ((k : Int) < (L.length : Int)) = true := by simpa using hlt
      have hi0 : (0 : Int) ≤ (k : Int) := by omega
      have hi1 : (k : Int) < (L.length : Int) := by omega
      obtain ⟨B1, o1, rfl, hc⟩ := (Hv.out.below hbr.drew).addr (by omega)
      have c0 := hc k hlt
      obtain ⟨B2, o2, rfl, gc⟩ := (Hu.out.below hbr.drew).addr (by omega)
      have g0 := gc k hlt
      generalize L[k] = y at *
      have bR : Below w.heap.size w wr.drew := hbr.drew
      clear hbr hc gc
      go_wp2_with fail
      refine wp_region_still_tail 8 (by kernel_rfl) (by kernel_rfl) ?_
      simp only [List.take_succ_cons, List.take_zero, List.drop_succ_cons, List.drop_zero]
      change wpStill _ _ wr.drew (fun a' => wpList _ _ _ _ a' wr.drew) _ _
      generalize wr.drew = W1 at *
      iterate 8 still_step
      refine wpStill_nil ?_
      go_wp2_with fail
      go_roundw
      case rel => exact ⟨k + 1, by omega, by go_num, bR⟩
      case measure => simp [intOf]; omega
    · obtain rfl : k = L.length := by omega
      have hd : decide ((L.length : Int) < (L.length : Int)) = false := by simp
      go_wp2_with fail
      go_ret
      exact ⟨rfl, hbr⟩
end Go.Proofs.Ytaohneahlcnahaa
