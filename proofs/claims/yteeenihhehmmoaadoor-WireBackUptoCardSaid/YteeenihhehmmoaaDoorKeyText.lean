/- The contracts of wire.KeyText and of the reference's. -/
import Derived.Test.YteeenihhehmmoaaDoorPutInt
import Derived.Test.YteeenihhehmmoaaDoorKeyInt
set_option linter.unusedVariables false
set_option linter.unusedSimpArgs false
namespace Go.Proofs.YteeenihhehmmoaaDoor
open Go.RowKit

/-- each byte, behind a byte 0 a byte 255 -/
def esc : List UInt8 → List UInt8
  | [] => []
  | c :: r => if c = 0 then 0 :: 255 :: esc r else c :: esc r
/-- a text's part of a key -/
def keyT (s : List UInt8) : List UInt8 := esc s ++ [0, 1]
theorem esc_len (s : List UInt8) : s.length ≤ (esc s).length ∧ (esc s).length ≤ 2 * s.length := by
  induction s with
  | nil => simp [esc]
  | cons c r ih => simp only [esc]; split <;> simp only [List.length_cons] <;> omega
theorem esc_append (a b : List UInt8) : esc (a ++ b) = esc a ++ esc b := by
  induction a with
  | nil => rfl
  | cons c r ih => simp only [List.cons_append, esc, ih]; split <;> simp
theorem esc_take (s : List UInt8) (k : Nat) (h : k < s.length) : esc (s.take (k + 1)) = esc (s.take k) ++ (if s[k] = 0 then [0, 255] else [s[k]]) := by
  rw [List.take_succ_eq_append_getElem h, esc_append]
  congr 1

set_option maxHeartbeats 2000000 in
theorem keyText_any (v : Value) (l : List UInt8) (s : ByteArray) (w : World) (hv : IsB w v l) (hl : l.length + 2 * s.size ≤ 140737488355300) :
    Calls Tryd.prog 22 #[v, .string s] w (PutEnd 5 w.heap.size w (l ++ keyT s.data.toList)) := by
  have hs0 : s.size ≤ 140737488355328 := by omega
  go_enter Tryd.func22, Tryd.ntmps22
  go_wp2_with (first | (go_at_call 33; refine (clone_any _ l _ hv (by omega)).mono ?_; rintro e w' ⟨u, rfl, hm, hb⟩) | ((with_reducible refine wpList_conv (.tmp 9) 9 24 5 Tryd.underlying9 Tryd.underlying24 Tryd.underlying5 s ?_ hs0 ?_); (exact rfl); intro cap w2 hc1 hc2 hib2 hb2 hlt2 hat2))
  have hul : s.data.toList.length = s.size := by rw [Array.length_toList]; rfl
  have hga : Gath 5 w.heap.size w (.slice (some ⟨w'.heap.size, 0, none⟩) s.size cap) s.data.toList w2 u l :=
    ⟨hm.below hb2, hb.trans (hb2.mono hb.size), hib2, fun k hk => by
      simp only [Value.ownBlock, Option.some.injEq] at hk
      subst hk
      exact ⟨hlt2, fun h => by have := (hm.lt _ h).2; omega⟩⟩
  have Hul := Lib.hid hul
  generalize s.data.toList = L at *
  generalize w'.heap.size = C at *
  clear hul hm hb hb2 hat2 hc2 hc1 hib2 hlt2
  go_loopw [0, 12] (fun b i wr => ∃ k : Nat, k ≤ s.size ∧ i = .int .i64 k ∧ Gath 5 w.heap.size w (.slice (some ⟨C, 0, none⟩) s.size cap) L wr b (l ++ esc (L.take k))) (fun _ i _ => s.size - (intOf i).toNat)
  case atStart => exact ⟨0, by omega, rfl, by simpa [esc] using hga⟩
  case round =>
    clear hga
    obtain ⟨k, hk, rfl, hga⟩ := hrel
    have hsz := hga.below.size
    have hel := (esc_len (L.take k)).2
    rw [List.length_take] at hel
    have hel2 : (l ++ esc (L.take k)).length + 2 ≤ 140737488355328 := by
      rw [List.length_append]; have := Hul.out; omega
    clear hel
    by_cases hklt : k < s.size
    · have hkL : k < L.length := by have := Hul.out; omega
      have hcell := isB_cell hga.srcB k hkL
      simp only [Nat.zero_add] at hcell
      have hes := esc_take L k hkL
      have hp : (k : Int) < (s.size : Int) := by omega
      generalize L[k] = c at *
      have hib := isB_byte wr 5 ((c.toNat : Nat) : Int) c rfl
      by_cases hc0 : c = 0
      · subst hc0
        rw [if_pos rfl] at hes
        have Hes := Lib.hid hes
        clear hes
        generalize hac : l ++ esc (L.take k) = acc at *
        have Hac := Lib.hid hac
        clear hac
        go_wp2_with (at_builtin; refine wpList_bytes rfl (.tmp 16) (.tmp 18) 24 rfl w.heap.size 5 info_byte Tryd.underlying24 _ _ rfl (hga.mine.alloc _) _ [0] rfl hib (by simp only [List.length_cons, List.length_nil]; omega) (by simp; omega) ?_)
        intro v1 w1 hm1 hg1 hb1 _ hr1
        have hga1 := hga.app (m := [0]) (by simp) hsz hm1 hg1 hb1 hr1
        have hsz1 := hga1.below.size
        clear hcell hga hm1 hg1 hb1 hr1 hib
        have hib := isB_byte w1 5 255 255 rfl
        go_wp2_with (at_builtin; refine wpList_bytes rfl (.tmp 22) (.tmp 23) 24 rfl w.heap.size 5 info_byte Tryd.underlying24 _ _ rfl (hga1.mine.alloc _) _ [255] rfl hib (by simp only [List.length_append, List.length_cons, List.length_nil]; omega) (by simp; omega) ?_)
        intro v2 w2 hm2 hg2 hb2 _ hr2
        have hga2 := hga1.app (m := [255]) (by simp) hsz1 hm2 hg2 hb2 hr2
        clear hga1 hm2 hg2 hb2 hr2
        go_wp2
        go_roundw
        case rel =>
          refine ⟨k + 1, by omega, by go_num, ?_⟩
          rw [Hes.out, ← List.append_assoc, Hac.out]
          simpa using hga2
        case measure => simp [intOf]; omega
      · rw [if_neg hc0] at hes
        have Hes := Lib.hid hes
        clear hes
        have hcz : (((c.toNat : Nat) : Int) == 0) = false := by
          simp; intro h; exact hc0 (UInt8.toNat_inj.1 h)
        go_wp2_with (at_builtin; refine wpList_bytes rfl (.tmp 16) (.tmp 18) 24 rfl w.heap.size 5 info_byte Tryd.underlying24 _ _ rfl (hga.mine.alloc _) _ [c] rfl hib (by simp only [List.length_cons, List.length_nil]; omega) (by simp; omega) ?_)
        intro v1 w1 hm1 hg1 hb1 _ hr1
        have hga1 := hga.app (m := [c]) (by simp) hsz hm1 hg1 hb1 hr1
        clear hcell hga hm1 hg1 hb1 hr1 hib
        go_wp2
        go_roundw
        case rel =>
          refine ⟨k + 1, by omega, by go_num, ?_⟩
          rw [Hes.out, ← List.append_assoc]; simpa using hga1
        case measure => simp [intOf]; omega
    · obtain rfl : k = s.size := by omega
      have hib := isB_lit (w := wr) 5 [0, 1] (by simp [maxLen])
      go_wp2_with (at_builtin; refine wpList_bytes rfl (.tmp 26) (.tmp 27) 24 rfl w.heap.size 5 info_byte Tryd.underlying24 _ _ rfl (hga.mine.alloc _) _ [0, 1] rfl hib (by simp only [List.length_cons, List.length_nil]; omega) (by simp; omega) ?_)
      intro v1 w1 hm1 hg1 hb1 _ hr1
      have hga1 := hga.app (m := [0, 1]) (by simp) hsz hm1 hg1 hb1 hr1
      go_wp2
      go_ret
      refine ⟨_, rfl, ?_, hga1.below⟩
      have h := hga1.mine
      rw [List.take_of_length_le (by have := Hul.out; omega), List.append_assoc] at h
      exact h
end Go.Proofs.YteeenihhehmmoaaDoor
