/- The contract of the reference's KeyText. -/
import Derived.Test.YteeenihhehmmoaaDoorKeyText
set_option linter.unusedVariables false
set_option linter.unusedSimpArgs false
namespace Go.Proofs.YteeenihhehmmoaaDoor
open Go.RowKit

set_option maxHeartbeats 2000000 in
theorem refKeyText_any (s : ByteArray) (w : World) (hl : 2 * s.size ≤ 140737488355300) :
    Calls Tryd.prog 31 #[.string s] w (PutEnd 5 w.heap.size w (keyT s.data.toList)) := by
  have hul : s.data.toList.length = s.size := by rw [Array.length_toList]; rfl
  have Hul := Lib.hid hul
  clear hul
  have hs0 : s.size ≤ 140737488355328 := by omega
  have hga : Gath 5 w.heap.size w (.slice none 0 0) [] w (.slice none 0 0) [] := ⟨Mine.nil _ _ _, Below.refl _ _, IsB.nil _, fun k hk => by cases hk⟩
  go_enter Tryd.func31, Tryd.ntmps31
  go_wp2
  go_loopw [3, 4] (fun b i wr => ∃ k : Nat, k ≤ s.size ∧ i = .int .i64 k ∧ Gath 5 w.heap.size w (.slice none 0 0) [] wr b (esc (s.data.toList.take k))) (fun _ i _ => s.size - (intOf i).toNat)
  case atStart => exact ⟨0, by omega, rfl, by simpa [esc] using hga⟩
  case round =>
    clear hga
    obtain ⟨k, hk, rfl, hga⟩ := hrel
    have hsz := hga.below.size
    have hel := (esc_len (s.data.toList.take k)).2
    rw [List.length_take] at hel
    have hel2 : (esc (s.data.toList.take k)).length + 2 ≤ 140737488355328 := by omega
    clear hel
    by_cases hklt : k < s.size
    · have hkL : k < s.data.toList.length := by have := Hul.out; omega
      have hes := esc_take s.data.toList k hkL
      have hp : (k : Int) < (s.size : Int) := by omega
      obtain ⟨c, hsc⟩ : ∃ c, s[k] = c := ⟨_, rfl⟩
      have hLc : s.data.toList[k] = c := hsc
      rw [hLc] at hes
      clear hLc
      have hib := isB_byte wr 5 ((c.toNat : Nat) : Int) c rfl
      by_cases hc0 : c = 0
      · subst hc0
        rw [if_pos rfl] at hes
        have Hes := Lib.hid hes
        clear hes
        generalize esc (s.data.toList.take k) = acc at *
        go_wp2_with (at_builtin; refine wpList_bytes rfl (.tmp 11) (.tmp 15) 24 rfl w.heap.size 5 info_byte Tryd.underlying24 _ _ rfl (hga.mine.alloc _) _ [0] rfl hib (by simp only [List.length_cons, List.length_nil]; omega) (by simp; omega) ?_)
        intro v1 w1 hm1 hg1 hb1 _ hr1
        have hga1 := hga.app (m := [0]) (by simp) hsz hm1 hg1 hb1 hr1
        have hsz1 := hga1.below.size
        clear hga hm1 hg1 hb1 hr1 hib
        have hib := isB_byte w1 5 255 255 rfl
        go_wp2_with (at_builtin; refine wpList_bytes rfl (.tmp 21) (.tmp 22) 24 rfl w.heap.size 5 info_byte Tryd.underlying24 _ _ rfl (hga1.mine.alloc _) _ [255] rfl hib (by simp only [List.length_append, List.length_cons, List.length_nil]; omega) (by simp; omega) ?_)
        intro v2 w2 hm2 hg2 hb2 _ hr2
        have hga2 := hga1.app (m := [255]) (by simp) hsz1 hm2 hg2 hb2 hr2
        clear hga1 hm2 hg2 hb2 hr2
        go_wp2
        go_roundw
        case rel =>
          refine ⟨k + 1, by omega, by go_num, ?_⟩
          rw [Hes.out]
          simpa using hga2
        case measure => simp [intOf]; omega
      · rw [if_neg hc0] at hes
        have Hes := Lib.hid hes
        clear hes
        have hcz : (((c.toNat : Nat) : Int) == 0) = false := by
          simp; intro h; exact hc0 (UInt8.toNat_inj.1 h)
        generalize esc (s.data.toList.take k) = acc at *
        go_wp2_with (at_builtin; refine wpList_bytes rfl (.tmp 11) (.tmp 15) 24 rfl w.heap.size 5 info_byte Tryd.underlying24 _ _ rfl (hga.mine.alloc _) _ [c] rfl hib (by simp only [List.length_cons, List.length_nil]; omega) (by simp; omega) ?_)
        intro v1 w1 hm1 hg1 hb1 _ hr1
        have hga1 := hga.app (m := [c]) (by simp) hsz hm1 hg1 hb1 hr1
        clear hga hm1 hg1 hb1 hr1 hib
        go_wp2
        go_roundw
        case rel =>
          refine ⟨k + 1, by omega, by go_num, ?_⟩
          rw [Hes.out]; simpa using hga1
        case measure => simp [intOf]; omega
    · obtain rfl : k = s.size := by omega
      have hib := isB_lit (w := wr) 5 [0, 1] (by simp [maxLen])
      have hfull : s.data.toList.take s.size = s.data.toList := List.take_of_length_le (by have := Hul.out; omega)
      rw [hfull] at hga hel2
      clear hfull
      go_wp2_with (at_builtin; refine wpList_bytes rfl (.tmp 24) (.tmp 25) 24 rfl w.heap.size 5 info_byte Tryd.underlying24 _ _ rfl (hga.mine.alloc _) _ [0, 1] rfl hib (by simp only [List.length_cons, List.length_nil]; omega) (by simp; omega) ?_)
      intro v1 w1 hm1 hg1 hb1 _ hr1
      have hga1 := hga.app (m := [0, 1]) (by simp) hsz hm1 hg1 hb1 hr1
      go_wp2
      go_ret
      exact ⟨_, rfl, hga1.mine, hga1.below⟩
end Go.Proofs.YteeenihhehmmoaaDoor
