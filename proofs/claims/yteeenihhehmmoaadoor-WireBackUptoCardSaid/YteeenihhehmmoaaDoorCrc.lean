/- The contract of wire.Crc: the sum of the parts' bytes, one behind the other. -/
import Derived.Test.YteeenihhehmmoaaDoorKit
import Derived.Test.YteeenihhehmmoaaDoorCrcLaw
set_option linter.unusedVariables false
set_option linter.unusedSimpArgs false
namespace Go.Proofs.YteeenihhehmmoaaDoor
open Go.RowKit

/-- the numbers that a round passes through, in the walk's own spelling -/
theorem crc_round (R b : Nat) (hR : R < 4294967296) (hb : b < 256) : ∃ c1 n1 t1 q1 c2 n2 t2 q2 : Nat,
    bits .xor .u32 (R : Int) (b : Int) = (c1 : Int) ∧ bits .and .u32 (c1 : Int) 15 = (n1 : Int) ∧ n1 < 16 ∧ UsCrc.nib.getD n1 0 = t1 ∧ (c1 : Int) / 16 = (q1 : Int) ∧
    bits .xor .u32 (t1 : Int) (q1 : Int) = (c2 : Int) ∧ bits .and .u32 (c2 : Int) 15 = (n2 : Int) ∧ n2 < 16 ∧ UsCrc.nib.getD n2 0 = t2 ∧ (c2 : Int) / 16 = (q2 : Int) ∧
    bits .xor .u32 (t2 : Int) (q2 : Int) = ((UsCrc.byteStep R b : Nat) : Int) := by
  have nl : ∀ i, i < 16 → UsCrc.nib.getD i 0 < 4294967296 := by decide
  have xo : ∀ x y : Nat, x < 4294967296 → y < 4294967296 → bits .xor .u32 (x : Int) (y : Int) = ((x ^^^ y : Nat) : Int) := fun x y hx hy => by
    simpa using u32_xor (x : Int) (y : Int) (by omega) (by omega) (by omega) (by omega)
  have an : ∀ x : Nat, x < 4294967296 → bits .and .u32 (x : Int) 15 = ((x % 16 : Nat) : Int) := fun x hx => by
    have h := u32_and (x : Int) 15 (by omega) (by omega) (by omega) (by omega)
    rw [h, Int.toNat_natCast, show (15 : Int).toNat = 2 ^ 4 - 1 from rfl, Nat.and_two_pow_sub_one_eq_mod]
  have h1 : R ^^^ b < 4294967296 := Nat.xor_lt_two_pow (n := 32) hR (by omega)
  have h2 : UsCrc.tab (R ^^^ b) < 4294967296 := by
    rw [UsCrc.tab_eq]; exact UsCrc.steps_lt 4 _ h1
  refine ⟨R ^^^ b, (R ^^^ b) % 16, _, (R ^^^ b) / 16, UsCrc.tab (R ^^^ b), UsCrc.tab (R ^^^ b) % 16, _, UsCrc.tab (R ^^^ b) / 16,
    xo R b hR (by omega), an _ h1, by omega, rfl, by omega, ?_, an _ h2, by omega, rfl, by omega, ?_⟩
  · exact xo _ _ (nl _ (by omega)) (by omega)
  · rw [xo _ _ (nl _ (by omega)) (by omega)]
    have e := UsCrc.tab_tab (R ^^^ b)
    rw [UsCrc.byteStep, ← e]
    rfl

set_option maxHeartbeats 1000000 in
theorem crc_parts (v : Value) (ls : List (List UInt8)) (w : World) (hv : IsBs w v ls)
   (htab : ∀ i, (h : i < 16) → w.cell? ⟨0, i, none⟩ = some (.int .u32 ((UsCrc.nib.getD i 0 : Nat) : Int))) :
    Calls Tryd.prog 11 #[v] w fun e w' => e = .returned (.int .u32 (UsCrc.crc ls.flatten)) ∧ w = w' := by
  obtain ⟨a, cap, rfl, hl, hm, hnil, hc⟩ := hv
  unfold maxLen at hm
  have Htab := Lib.hid htab
  clear htab
  have Hc := Lib.hid hc
  clear hc
  go_enter Tryd.func11, Tryd.ntmps11
  go_wp2
  go_loop [3, 10] (fun c i => ∃ k : Nat, k ≤ ls.length ∧ i = .int .i64 k ∧ c = .int .u32 (UsCrc.run UsCrc.ones (ls.take k).flatten : Nat)) (fun _ i => ls.length - (intOf i).toNat)
  case atStart => exact ⟨0, Nat.zero_le _, rfl, rfl⟩
  case round =>
    obtain ⟨k, hk, rfl, rfl⟩ := hrel
    by_cases hlt : k < ls.length
    · obtain ⟨x, rfl⟩ : ∃ x, a = some x := by
        cases a with
        | none => have := hnil rfl; omega
        | some x => exact ⟨x, rfl⟩
      obtain ⟨xb, xo, xs⟩ := x
      obtain ⟨hs, hcs⟩ := Hc.out _ rfl
      obtain rfl : xs = none := hs (by omega)
      clear hs
      obtain ⟨u, hcell, a2, cap2, rfl, hl2, hm2, hnil2, hc2⟩ := hcs k hlt
      unfold maxLen at hm2
      have Hc2 := Lib.hid hc2
      clear hc2 hcs Hc
      simp only at hcell
      have hp : (k : Int) < (ls.length : Int) := by omega
      go_wp2
      go_loop [3, 16] (fun c i => ∃ j : Nat, j ≤ ls[k].length ∧ i = .int .i64 j ∧ c = .int .u32 (UsCrc.run UsCrc.ones ((ls.take k).flatten ++ ls[k].take j) : Nat)) (fun _ i => ls[k].length - (intOf i).toNat)
      case atStart => exact ⟨0, Nat.zero_le _, rfl, by simp⟩
      case round =>
        obtain ⟨j, hj, rfl, rfl⟩ := hrel
        by_cases hlt2 : j < ls[k].length
        · obtain ⟨x, rfl⟩ : ∃ x, a2 = some x := by
            cases a2 with
            | none => have := hnil2 rfl; omega
            | some x => exact ⟨x, rfl⟩
          obtain ⟨xb2, xo2, xs2⟩ := x
          obtain ⟨hs, hcs⟩ := Hc2.out _ rfl
          obtain rfl : xs2 = none := hs (by omega)
          clear hs
          have hcell2 := hcs j hlt2
          simp only at hcell2
          clear hcs Hc2
          have hp2 : (j : Int) < (ls[k].length : Int) := by omega
          have hr := UsCrc.run_lt ((ls.take k).flatten ++ ls[k].take j) UsCrc.ones (by decide)
          generalize hR : UsCrc.run UsCrc.ones ((ls.take k).flatten ++ ls[k].take j) = R at *
          have HR := Lib.hid hR
          clear hR
          have hb8 : (ls[k][j]).toNat < 256 := (ls[k][j]).toNat_lt
          have hstep : UsCrc.run UsCrc.ones ((ls.take k).flatten ++ ls[k].take (j + 1)) = UsCrc.byteStep R (ls[k][j]).toNat := by
            rw [List.take_succ_eq_append_getElem hlt2, ← List.append_assoc, UsCrc.run_append, HR.out]; rfl
          generalize (ls[k][j]).toNat = b at *
          obtain ⟨c1, n1, t1, q1, c2, n2, t2, q2, h1, h2, h3, h4, h5, h6, h7, h8, h9, h10, h11⟩ := crc_round R b hr hb8
          have hn1 : w.cell? ⟨0, n1, none⟩ = some (.int .u32 (t1 : Int)) := h4 ▸ Htab.out n1 h3
          have hn2 : w.cell? ⟨0, n2, none⟩ = some (.int .u32 (t2 : Int)) := h9 ▸ Htab.out n2 h8
          have hm0 : (b : Int) % 4294967296 = (b : Int) := by omega
          clear h4 h9
          have Hs := Lib.hid hstep
          clear hstep
          generalize UsCrc.byteStep R b = S at *
          have h3' : (n1 : Int) < 16 := by omega
          have h8' : (n2 : Int) < 16 := by omega
          go_wp2
          go_round
          case rel => exact ⟨j + 1, by omega, by go_num, by rw [Hs.out]⟩
          case measure => simp [intOf]; omega
        · obtain rfl : j = ls[k].length := by omega
          go_wp2
          go_round
          case rel => exact ⟨k + 1, by omega, by go_num, by rw [List.take_length, List.take_succ_eq_append_getElem hlt, List.flatten_append]; simp⟩
          case measure => simp [intOf]; omega
    · obtain rfl : k = ls.length := by omega
      rw [List.take_length]
      have hr := UsCrc.run_lt ls.flatten UsCrc.ones (by decide)
      have hx : bits .xor .u32 IntKind.u32.max ((UsCrc.run UsCrc.ones ls.flatten : Nat) : Int) = ((UsCrc.crc ls.flatten : Nat) : Int) := by
        have h := u32_xor 4294967295 ((UsCrc.run UsCrc.ones ls.flatten : Nat) : Int) (by omega) (by omega) (by omega) (by omega)
        have hm : IntKind.u32.max = 4294967295 := by decide
        rw [hm, h]; rfl
      have Hx := Lib.hid hx
      clear hx
      generalize UsCrc.run UsCrc.ones ls.flatten = R at *
      go_wp2
      go_ret
      exact ⟨congrArg (fun n => Ending.returned (.int .u32 n)) Hx.out, rfl⟩
end Go.Proofs.YteeenihhehmmoaaDoor
