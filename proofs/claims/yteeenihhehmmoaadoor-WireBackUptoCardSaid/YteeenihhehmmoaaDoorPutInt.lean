/- The contract of wire.PutInt: what came in, and behind it the number's bytes; in new memory. -/
import Derived.Test.YteeenihhehmmoaaDoorKit
import Derived.Test.YteeenihhehmmoaaDoorNumLaw
import Derived.Test.YteeenihhehmmoaaDoorBitLaw
import Derived.Test.YteeenihhehmmoaaDoorClone
set_option linter.unusedVariables false
set_option linter.unusedSimpArgs false
namespace Go.Proofs.YteeenihhehmmoaaDoor
open Go.RowKit

theorem zig_pos (n : Int) (h0 : 0 ≤ n) (h2 : n ≤ 9223372036854775807) : bits .xor .u64 (n * 2) (n / 9223372036854775808) = ((zig n : Nat) : Int) := by
  rw [show n / 9223372036854775808 = 0 by omega, xor_u64_zero _ (by omega) (by omega)]
  unfold zig; rw [if_pos h0]; omega
theorem zig_neg (n : Int) (h0 : ¬ 0 ≤ n) (h1 : -9223372036854775808 ≤ n) :
    bits .xor .u64 (IntKind.u64.wrap (IntKind.u64.wrap n * 2)) (IntKind.u64.wrap (n / 9223372036854775808)) = ((zig n : Nat) : Int) := by
  rw [show n / 9223372036854775808 = -1 by omega, IntKind.wrap_u64 (-1), show (-1 : Int) % 18446744073709551616 = 18446744073709551615 from rfl]
  rw [xor_u64_ones _ (by rw [IntKind.wrap_u64]; omega) (by rw [IntKind.wrap_u64]; omega), IntKind.wrap_u64, IntKind.wrap_u64]
  unfold zig; rw [if_neg h0]; omega
/-- what the walk of PutInt ends in -/
def PutEnd (e : TypeId) (B : Nat) (w0 : World) (l : List UInt8) (r : Ending) (w' : World) : Prop := ∃ u, r = .returned u ∧ Mine e B w' u l ∧ Below B w0 w'

set_option maxHeartbeats 1000000 in
theorem putInt_any (v : Value) (l : List UInt8) (n : Int) (w : World) (hv : IsB w v l) (hl : l.length ≤ 140737488355300) (h1 : -9223372036854775808 ≤ n) (h2 : n ≤ 9223372036854775807) :
    Calls Tryd.prog 25 #[v, .int .i64 n] w (PutEnd 5 w.heap.size w (l ++ intB n)) := by
  have hz := zig_lt n h1 h2
  have hzl := uv_len10 _ hz
  have Hz : ∃ Z, Z < 18446744073709551616 ∧ Hid (zig n = Z) ∧ (uv Z).length ≤ 10 := ⟨_, hz, rfl, hzl.2⟩
  by_cases h0 : 0 ≤ n
  all_goals
    first | have hx := zig_pos n h0 h2 | have hx := zig_neg n h0 h1
    clear hz hzl
    obtain ⟨Z, hz, HZ, hzl⟩ := Hz
    rw [HZ.out] at hx
    go_enter Tryd.func25, Tryd.ntmps25
    go_wp2_with (go_at_call 33; refine (clone_any _ l _ hv (by omega)).mono ?_; rintro e w' ⟨u, rfl, hm, hb⟩)
    go_loopw [0, 5] (fun b i wr => ∃ U acc, i = .int .u64 (U : Nat) ∧ U < 18446744073709551616 ∧ Mine 5 w.heap.size wr b acc ∧ acc ++ uv U = l ++ uv Z ∧ Below w.heap.size w wr) (fun _ i _ => (intOf i).toNat)
    case atStart => exact ⟨Z, l, rfl, hz, hm, rfl, hb⟩
    case round =>
      obtain ⟨U, acc, rfl, hU, hown, heq, hbl⟩ := hrel
      have hsz := hbl.size
      have hlen := congrArg List.length heq
      simp only [List.length_append] at hlen
      have hu1 := (uv_len10 U hU).1
      have hal : acc.length ≤ 140737488355320 := by omega
      have Heq := Lib.hid heq
      clear heq hlen
      by_cases hbig : U < 128
      · have hp : ¬ (128 : Int) ≤ (U : Int) := by omega
        obtain ⟨x, Hx⟩ : ∃ x, Hid (UInt8.ofNat U = x) := ⟨_, rfl⟩
        have hib : IsB (wr.alloc (.cells #[.int .u8 (U : Int)] 5)) (.slice (some ⟨wr.heap.size, 0, none⟩) 1 1) [x] := by
          have e : (U : Int) = ((x.toNat : Nat) : Int) := by rw [← Hx.out, UInt8.toNat_ofNat']; omega
          rw [e]; exact (Mine.lit [x] (Nat.le_refl _) (by simp [maxLen])).isB
        go_wp2_with (at_builtin; refine wpList_bytes rfl (.tmp 25) (.tmp 28) 24 rfl w.heap.size 5 info_byte Tryd.underlying24 _ acc rfl (hown.alloc _) _ [x] rfl hib (by simp; omega) (by simp; omega) ?_)
        intro v' w' hm' _ hb' _ _
        go_wp2
        go_ret
        refine ⟨_, rfl, ?_, hbl.trans (((Below.refl _ _).alloc (by omega) _).trans hb')⟩
        have e : l ++ intB n = acc ++ [x] := by
          rw [intB, HZ.out, ← Heq.out, uv_small U hbig, Hx.out]
        rw [e]; exact hm'
      · have hp : (128 : Int) ≤ (U : Int) := by omega
        have hlow := or128_u8 U
        obtain ⟨x, Hx⟩ : ∃ x, Hid (UInt8.ofNat (U % 128 + 128) = x) := ⟨_, rfl⟩
        obtain ⟨D, HD⟩ : ∃ D, Hid (U / 128 = D) := ⟨_, rfl⟩
        have hd : (U : Int) / 128 = (D : Int) := by have := HD.out; omega
        rw [Hx.out] at hlow
        go_wp2_with (at_builtin; refine wpList_bytes rfl (.tmp 19) (.tmp 23) 24 rfl w.heap.size 5 info_byte Tryd.underlying24 _ acc rfl (hown.alloc _) _ [x] rfl (Mine.lit [x] (Nat.le_refl _) (by simp [maxLen])).isB (by simp; omega) (by simp; omega) ?_)
        intro v' w' hm' _ hb' _ _
        clear hown
        go_wp2
        go_roundw
        case rel =>
          refine ⟨D, acc ++ [x], rfl, by have := HD.out; omega, hm', ?_, hbl.trans (((Below.refl _ _).alloc (by omega) _).trans hb')⟩
          rw [← Heq.out, uv_big U hbig, Hx.out, HD.out]; simp
        case measure => simp [intOf]; have := HD.out; omega
end Go.Proofs.YteeenihhehmmoaaDoor
