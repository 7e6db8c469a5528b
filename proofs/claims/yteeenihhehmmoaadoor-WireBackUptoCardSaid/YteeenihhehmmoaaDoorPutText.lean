/- The contracts of wire.PutText and of the reference's Int and Text. -/
import Derived.Test.YteeenihhehmmoaaDoorPutInt
set_option linter.unusedVariables false
set_option linter.unusedSimpArgs false
namespace Go.Proofs.YteeenihhehmmoaaDoor
open Go.RowKit

/-- a text's bytes -/
def textB (s : List UInt8) : List UInt8 := intB (s.length : Int) ++ s

set_option maxHeartbeats 1000000 in
theorem putText_any (v : Value) (l : List UInt8) (s : ByteArray) (w : World) (hv : IsB w v l) (hl : l.length + s.size ≤ 140737488355300) :
    Calls Tryd.prog 26 #[v, .string s] w (PutEnd 5 w.heap.size w (l ++ textB s.data.toList)) := by
  have hib := intB_len (s.size : Int) (by omega) (by omega)
  go_enter Tryd.func26, Tryd.ntmps26
  go_wp2_with fail
  refine (putInt_any _ l _ _ hv (by omega) (by omega) (by omega)).mono ?_
  rintro e w' ⟨u, rfl, hm, hb⟩
  have hsz := hb.size
  go_wp2_with (at_builtin; refine wpList_string rfl (.tmp 8) (.tmp 9) 24 9 rfl w.heap.size 5 info_byte Tryd.underlying24 Tryd.underlying9 _ _ rfl hm s rfl (by simp only [List.length_append]; omega) (by omega) ?_)
  intro v' w2 hm' _ hb' _ _
  go_wp2
  go_ret
  refine ⟨_, rfl, ?_, hb.trans hb'⟩
  have e : (s.data.toList.length : Int) = (s.size : Int) := by rw [Array.length_toList]; rfl
  rw [textB, e]; first | exact hm' | (rw [← List.append_assoc]; exact hm')

theorem zigRef_pos (n : Int) (h0 : 0 ≤ n) (h2 : n ≤ 9223372036854775807) : n * 2 = ((zig n : Nat) : Int) := by
  unfold zig; rw [if_pos h0]; omega
theorem zigRef_neg (n : Int) (h0 : ¬ 0 ≤ n) (h1 : -9223372036854775808 ≤ n) : bits .xor .u64 IntKind.u64.max (IntKind.u64.wrap (IntKind.u64.wrap n * 2)) = ((zig n : Nat) : Int) := by
  have hm : IntKind.u64.max = 18446744073709551615 := by decide
  rw [hm]
  have e : ∀ x : Int, 0 ≤ x → x < 18446744073709551616 → bits .xor .u64 18446744073709551615 x = 18446744073709551615 - x := fun x h1 h2 => by
    obtain ⟨m, rfl⟩ := Int.eq_ofNat_of_zero_le h1
    have := xor_u64 18446744073709551615 m (by omega) (by omega)
    rw [Nat.xor_comm, xor_ones64 m (by omega)] at this
    rw [show ((18446744073709551615 : Nat) : Int) = 18446744073709551615 from rfl] at this
    rw [this]; omega
  rw [e _ (by rw [IntKind.wrap_u64]; omega) (by rw [IntKind.wrap_u64]; omega), IntKind.wrap_u64, IntKind.wrap_u64]
  unfold zig; rw [if_neg h0]; omega

set_option maxHeartbeats 1000000 in
theorem refInt_any (n : Int) (w : World) (h1 : -9223372036854775808 ≤ n) (h2 : n ≤ 9223372036854775807) :
    Calls Tryd.prog 28 #[.int .i64 n] w (PutEnd 5 w.heap.size w (intB n)) := by
  have hz := zig_lt n h1 h2
  have hzl := uv_len10 _ hz
  have Hz : ∃ Z, Z < 18446744073709551616 ∧ Hid (zig n = Z) ∧ (uv Z).length ≤ 10 := ⟨_, hz, rfl, hzl.2⟩
  by_cases h0 : 0 ≤ n
  all_goals
    first | have hx := zigRef_pos n h0 h2 | have hx := zigRef_neg n h0 h1
    clear hz hzl
    obtain ⟨Z, hz, HZ, hzl⟩ := Hz
    rw [HZ.out] at hx
    go_enter Tryd.func28, Tryd.ntmps28
    go_wp2
    go_loopw [3, 4] (fun i b wr => ∃ U acc, i = .int .u64 (U : Nat) ∧ U < 18446744073709551616 ∧ Mine 5 w.heap.size wr b acc ∧ acc ++ uv U = uv Z ∧ Below w.heap.size w wr) (fun i _ _ => (intOf i).toNat)
    case atStart => exact ⟨Z, [], rfl, hz, Mine.nil _ _ _, rfl, Below.refl _ _⟩
    case round =>
      obtain ⟨U, acc, rfl, hU, hown, heq, hbl⟩ := hrel
      have hsz := hbl.size
      have hlen := congrArg List.length heq
      simp only [List.length_append] at hlen
      have hu1 := (uv_len10 U hU).1
      have hal : acc.length ≤ 20 := by omega
      have Heq := Lib.hid heq
      clear heq hlen
      by_cases hbig : U < 128
      · have hp : ¬ (127 : Int) < (U : Int) := by omega
        obtain ⟨x, Hx⟩ : ∃ x, Hid (UInt8.ofNat U = x) := ⟨_, rfl⟩
        have hib : IsB (wr.alloc (.cells #[.int .u8 (U : Int)] 5)) (.slice (some ⟨wr.heap.size, 0, none⟩) 1 1) [x] := by
          have e : (U : Int) = ((x.toNat : Nat) : Int) := by rw [← Hx.out, UInt8.toNat_ofNat']; omega
          rw [e]; exact (Mine.lit [x] (Nat.le_refl _) (by simp [maxLen])).isB
        go_wp2_with (at_builtin; refine wpList_bytes rfl (.tmp 22) (.tmp 25) 24 rfl w.heap.size 5 info_byte Tryd.underlying24 _ acc rfl (hown.alloc _) _ [x] rfl hib (by simp; omega) (by simp; omega) ?_)
        intro v' w' hm' _ hb' _ _
        go_wp2
        go_ret
        refine ⟨_, rfl, ?_, hbl.trans (((Below.refl _ _).alloc (by omega) _).trans hb')⟩
        have e : intB n = acc ++ [x] := by
          rw [intB, HZ.out, ← Heq.out, uv_small U hbig, Hx.out]
        rw [e]; exact hm'
      · have hp : (127 : Int) < (U : Int) := by omega
        have hlow := or128_u8 U
        obtain ⟨x, Hx⟩ : ∃ x, Hid (UInt8.ofNat (U % 128 + 128) = x) := ⟨_, rfl⟩
        obtain ⟨D, HD⟩ : ∃ D, Hid (U / 128 = D) := ⟨_, rfl⟩
        have hd : (U : Int) / 128 = (D : Int) := by have := HD.out; omega
        rw [Hx.out] at hlow
        go_wp2_with (at_builtin; refine wpList_bytes rfl (.tmp 14) (.tmp 18) 24 rfl w.heap.size 5 info_byte Tryd.underlying24 _ acc rfl (hown.alloc _) _ [x] rfl (Mine.lit [x] (Nat.le_refl _) (by simp [maxLen])).isB (by simp; omega) (by simp; omega) ?_)
        intro v' w' hm' _ hb' _ _
        clear hown
        go_wp2
        go_roundw
        case rel =>
          refine ⟨D, acc ++ [x], rfl, by have := HD.out; omega, hm', ?_, hbl.trans (((Below.refl _ _).alloc (by omega) _).trans hb')⟩
          rw [← Heq.out, uv_big U hbig, Hx.out, HD.out]; simp
        case measure => simp [intOf]; have := HD.out; omega

set_option maxHeartbeats 1000000 in
theorem refText_any (s : ByteArray) (w : World) (hl : s.size ≤ 140737488355300) :
    Calls Tryd.prog 29 #[.string s] w (PutEnd 5 w.heap.size w (textB s.data.toList)) := by
  have hib := intB_len (s.size : Int) (by omega) (by omega)
  go_enter Tryd.func29, Tryd.ntmps29
  go_wp2_with fail
  refine (refInt_any _ _ (by omega) (by omega)).mono ?_
  rintro e w' ⟨u, rfl, hm, hb⟩
  have hsz := hb.size
  go_wp2_with (at_builtin; refine wpList_string rfl (.tmp 5) (.tmp 6) 24 9 rfl w.heap.size 5 info_byte Tryd.underlying24 Tryd.underlying9 _ _ rfl hm s rfl (by omega) (by omega) ?_)
  intro v' w2 hm' _ hb' _ _
  go_wp2
  go_ret
  refine ⟨_, rfl, ?_, hb.trans hb'⟩
  have e : (s.data.toList.length : Int) = (s.size : Int) := by rw [Array.length_toList]; rfl
  rw [textB, e]; exact hm'
end Go.Proofs.YteeenihhehmmoaaDoor
