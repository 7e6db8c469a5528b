/- The contracts of wire.TakeKeyText and of the reference's. -/
import Derived.Test.YteeenihhehmmoaaDoorTakeText
import Derived.Test.YteeenihhehmmoaaDoorTakeIntRef
import Derived.Test.YteeenihhehmmoaaDoorKeyText
import Derived.WalkMore
set_option linter.unusedVariables false
set_option linter.unusedSimpArgs false
namespace Go.Proofs.YteeenihhehmmoaaDoor
open Go.RowKit

/-- reading on at place i, acc being read -/
def rdT (acc : List UInt8) (i : Nat) : List UInt8 → List UInt8 × Int × Bool
  | [] => ([], 0, false)
  | [_] => ([], 0, false)
  | c :: d :: r => if c ≠ 0 then rdT (acc ++ [c]) (i + 1) (d :: r) else if d = 255 then rdT (acc ++ [0]) (i + 2) r else if d = 1 then (acc, (i : Int) + 2, true) else ([], 0, false)
/-- what TakeKeyText answers -/
def takeKT (l : List UInt8) (at_ : Int) : List UInt8 × Int × Bool :=
  if at_ < 0 ∨ (l.length : Int) < at_ then ([], 0, false) else rdT [] at_.toNat (l.drop at_.toNat)
theorem takeKT_out {l : List UInt8} {n : Int} (h : n < 0 ∨ (l.length : Int) < n) : takeKT l n = ([], 0, false) := by rw [takeKT, if_pos h]
theorem takeKT_in {l : List UInt8} {m : Nat} (h : m ≤ l.length) : takeKT l m = rdT [] m (l.drop m) := by
  rw [takeKT, if_neg (by omega), Int.toNat_natCast]
theorem rdT_some (acc : List UInt8) (i : Nat) (c : UInt8) (r : List UInt8) (h : c ≠ 0) : rdT acc i (c :: r) = rdT (acc ++ [c]) (i + 1) r := by
  cases r with
  | nil => simp [rdT]
  | cons d r => rw [rdT, if_pos h]
theorem rdT_zero (acc : List UInt8) (i : Nat) (d : UInt8) (r : List UInt8) : rdT acc i (0 :: d :: r) = if d = 255 then rdT (acc ++ [0]) (i + 2) r else if d = 1 then (acc, (i : Int) + 2, true) else ([], 0, false) := by
  rw [rdT, if_neg (by simp)]
theorem byte_ne {c d : UInt8} (n : Int) (hn : n = ((d.toNat : Nat) : Int)) (h : c ≠ d) : (((c.toNat : Nat) : Int) == n) = false ∧ (((c.toNat : Nat) : Int) != n) = true := by
  have : ¬ ((c.toNat : Nat) : Int) = n := by
    rw [hn]; intro h2; exact h (UInt8.toNat_inj.1 (by omega))
  simp [this]

set_option maxHeartbeats 4000000 in
theorem takeKeyText_any (v : Value) (l : List UInt8) (n : Int) (w : World) (hv : IsB w v l) (hl : l.length ≤ 140737488355320) (h1 : -9223372036854775808 ≤ n) (h2 : n ≤ 9223372036854775807) :
    Calls Tryd.prog 19 #[v, .int .i64 n] w (Ends (threeT (takeKT l n)) w.heap.size w) := by
  have hv' := hv
  obtain ⟨a, cap, rfl, hlc, hm, hnil, hc⟩ := hv'
  unfold maxLen at hm
  clear hc
  by_cases hlo : n < 0
  · go_enter Tryd.func19, Tryd.ntmps19
    go_wp2
    go_step3
    go_wp2
    rw [Exit.noGoto_ret]
    go_ret3
    refine ⟨?_, Below.refl _ _⟩
    rw [takeKT_out (.inl hlo)]
    rfl
  · by_cases hhi : (l.length : Int) < n
    · go_enter Tryd.func19, Tryd.ntmps19
      go_wp2
      go_step3
      go_wp2
      rw [Exit.noGoto_ret]
      go_ret3
      refine ⟨?_, Below.refl _ _⟩
      rw [takeKT_out (.inr hhi)]
      rfl
    · obtain ⟨m, rfl⟩ := Int.eq_ofNat_of_zero_le (show 0 ≤ n by omega)
      have hml : m ≤ l.length := by omega
      have Htk := Lib.hid (takeKT_in hml)
      have hd0 : decide ((m : Int) < 0) = false := by simp
      have hd1 : decide (l.length < m) = false := by simp; omega
      go_enter Tryd.func19, Tryd.ntmps19
      go_wp2
      go_step3
      go_wp2
      go_step3
      go_wp2
      go_loopw [7, 8] (fun b i wr => ∃ (k : Nat) (acc : List UInt8), m ≤ k ∧ k ≤ l.length ∧ i = .int .i64 k ∧ Mine 5 w.heap.size wr b acc ∧ Below w.heap.size w wr ∧ acc.length ≤ k ∧ Hid (rdT [] m (l.drop m) = rdT acc k (l.drop k))) (fun _ i _ => l.length - (intOf i).toNat)
      case atStart => exact ⟨m, [], by omega, by omega, rfl, Mine.nil _ _ _, Below.refl _ _, by simp, Lib.hid rfl⟩
      case round =>
        obtain ⟨k, acc, hmk, hk, rfl, hown, hbl, hacc, Heq⟩ := hrel
        have hsz := hbl.size
        have hvr := hv.below hbl
        by_cases hlt : k < l.length
        · have hp : (k : Int) < (l.length : Int) := by omega
          obtain ⟨x, rfl⟩ : ∃ x, a = some x := by
            cases a with
            | none => have := hnil rfl; omega
            | some x => exact ⟨x, rfl⟩
          obtain ⟨_, cap', hv2, _, _, _, hc2⟩ := hvr
          simp only [Value.slice.injEq] at hv2
          obtain ⟨rfl, hbad, rfl⟩ := hv2
          clear hbad
          obtain ⟨hs, hcs⟩ := hc2 _ rfl
          obtain ⟨xb, xo, xs⟩ := x
          obtain rfl : xs = none := hs (by omega)
          clear hs
          have hcell := hcs k hlt
          simp only at hcell
          have hdrop := List.drop_eq_getElem_cons hlt
          obtain ⟨c, Hc⟩ : ∃ c, Hid (l[k] = c) := ⟨l[k], Lib.hid rfl⟩
          rw [Hc.out] at hcell hdrop
          have Hdr := Lib.hid hdrop
          clear hdrop
          by_cases hc0 : c = 0
          · subst hc0
            by_cases hlt1 : k + 1 < l.length
            · have hp1 : (k : Int) + 1 < (l.length : Int) := by omega
              have hcell1 := hcs (k + 1) hlt1
              simp only at hcell1
              have hdrop := List.drop_eq_getElem_cons hlt1
              obtain ⟨d, Hd⟩ : ∃ d, Hid (l[k + 1] = d) := ⟨l[k + 1], Lib.hid rfl⟩
              rw [Hd.out] at hcell1 hdrop
              have Hdr1 := Lib.hid hdrop
              clear hdrop hcs hc2
              have hstep := Heq.out
              rw [Hdr.out, Hdr1.out, rdT_zero] at hstep
              have Hst := Lib.hid hstep
              clear hstep
              by_cases h255 : d = 255
              · subst h255
                have hib := isB_byte wr 5 0 0 rfl
                go_wp2_with (at_builtin; refine wpList_bytes rfl (.tmp 51) (.tmp 52) 24 rfl w.heap.size 5 info_byte Tryd.underlying24 _ _ rfl (hown.alloc _) _ [0] rfl hib (by simp only [List.length_cons, List.length_nil]; omega) (by simp; omega) ?_)
                intro v1 w1 hm1 hg1 hb1 _ hr1
                have hbl1 := hbl.trans (((Below.refl _ _).alloc hsz _).trans hb1)
                clear hown hbl hib hg1 hb1 hr1 hcell hcell1
                go_wp2
                go_roundw
                case rel =>
                  refine ⟨k + 2, acc ++ [0], by omega, by omega, by go_num, hm1, hbl1, by simp; omega, ?_⟩
                  refine Lib.hid ?_
                  have := Hst.out
                  simpa using this
                case measure => simp [intOf]; omega
              · have h255b := (byte_ne 255 rfl h255).1
                by_cases h1' : d = 1
                · subst h1'
                  have hs := run_str (P := Tryd.prog) hown.isB 24 9 5 Tryd.underlying24 Tryd.underlying5 Tryd.underlying9
                  go_wp2
                  go_ret3
                  refine ⟨?_, hbl⟩
                  have h5 := Hst.out
                  simp only [if_neg h255, if_true] at h5
                  rw [Htk.out, h5]
                  rfl
                · have h1b := (byte_ne 1 rfl h1').1
                  go_wp2
                  go_ret3
                  refine ⟨?_, hbl⟩
                  have h5 := Hst.out
                  rw [if_neg h255, if_neg h1'] at h5
                  rw [Htk.out, h5]
                  rfl
            · have hp1 : ¬ (k : Int) + 1 < (l.length : Int) := by omega
              have hd1 : l.drop (k + 1) = [] := List.drop_of_length_le (by omega)
              have hstep := Heq.out
              rw [Hdr.out, hd1, rdT] at hstep
              have Hst := Lib.hid hstep
              clear hstep hd1 hcs hc2
              go_wp2
              go_ret3
              refine ⟨?_, hbl⟩
              rw [Htk.out, Hst.out]
              rfl
          · have hcz := (byte_ne 0 rfl hc0).2
            have hstep := Heq.out
            rw [Hdr.out, rdT_some _ _ _ _ hc0] at hstep
            have Hst := Lib.hid hstep
            clear hstep hcs hc2
            have hib := isB_byte wr 5 ((c.toNat : Nat) : Int) c rfl
            go_wp2_with (at_builtin; refine wpList_bytes rfl (.tmp 30) (.tmp 35) 24 rfl w.heap.size 5 info_byte Tryd.underlying24 _ _ rfl (hown.alloc _) _ [c] rfl hib (by simp only [List.length_cons, List.length_nil]; omega) (by simp; omega) ?_)
            intro v1 w1 hm1 hg1 hb1 _ hr1
            have hbl1 := hbl.trans (((Below.refl _ _).alloc hsz _).trans hb1)
            clear hown hbl hib hg1 hb1 hr1 hcell
            go_wp2
            go_roundw
            case rel => exact ⟨k + 1, acc ++ [c], by omega, by omega, by go_num, hm1, hbl1, by simp; omega, Hst⟩
            case measure => simp [intOf]; omega
        · obtain rfl : k = l.length := by omega
          go_wp2
          go_ret3
          refine ⟨?_, hbl⟩
          rw [Htk.out, Heq.out, List.drop_length, rdT]
          rfl
end Go.Proofs.YteeenihhehmmoaaDoor
