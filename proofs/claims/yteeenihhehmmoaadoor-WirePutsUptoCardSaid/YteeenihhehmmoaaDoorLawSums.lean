/- The walk of WireSums: it answers true. -/
import Derived.Test.YteeenihhehmmoaaDoorShown
import Derived.Test.YteeenihhehmmoaaDoorCrcRef
namespace Go.Proofs.YteeenihhehmmoaaDoor
open Go.RowKit

theorem xor_byte (x y : UInt8) : bits .xor .u8 (x.toNat : Int) (y.toNat : Int) = (((x ^^^ y).toNat : Nat) : Int) := by
  have hx := x.toNat_lt
  have hy := y.toNat_lt
  rw [u8_xor_nat x.toNat y.toNat (by omega) (by omega), UInt8.toNat_xor]
theorem Mine.inBlock {e : TypeId} {base : Nat} {w : World} {v : Value} {l : List UInt8} (h : Mine e base w v l) (hl : l ≠ []) :
    ∃ g cap, v = .slice (some ⟨g, 0, none⟩) l.length cap ∧ base ≤ g ∧ g < w.heap.size := by
  rcases h.2 with ⟨_, hn⟩ | ⟨g, cap, cur, hv, hg, hh, _⟩
  · exact absurd (List.eq_nil_of_length_eq_zero hn) hl
  · exact ⟨g, cap, hv, hg, (Array.getElem?_eq_some_iff.1 hh).1⟩
theorem Mine.stored {e : TypeId} {base : Nat} {w : World} {g cap : Nat} {l : List UInt8} (h : Mine e base w (.slice (some ⟨g, 0, none⟩) l.length cap) l) (j : Nat) (x : UInt8) :
    Mine e base (w.setCell ⟨g, j, none⟩ (.int .u8 (x.toNat : Int))) (.slice (some ⟨g, 0, none⟩) (l.set j x).length cap) (l.set j x) := by
  have h2 := (World.ownsRow.stored h j (.int .u8 (x.toNat : Int))).1
  have e1 : (bv l).set j (.int .u8 (x.toNat : Int)) = bv (l.set j x) := by simp [bv, List.map_set]
  rw [e1] at h2
  rw [List.length_set]
  simpa [Mine] using h2

set_option maxHeartbeats 4000000 in
theorem lawSums_walk (v : Value) (ls : List (List UInt8)) (at_ : Int) (by_ : UInt8) (w : World) (hv : IsBs w v ls) (hl : ls.flatten.length ≤ 4194304) (hll : ls.length ≤ 4194304)
    (h1 : -9223372036854775808 ≤ at_) (h2 : at_ ≤ 9223372036854775807) (hn : Nib w) :
    Calls Tryd.prog 3 #[v, .int .i64 at_, .int .u8 (by_.toNat : Int)] w (Ends (.bool true) w.heap.size w) := by
  go_enter Tryd.func3, Tryd.ntmps3
  go_wp2_with fail
  refine (shown_any w hn).mono ?_
  rintro e w1 ⟨rfl, hb1⟩
  have hv1 := hv.below hb1
  have hn1 := hn.below hb1
  have hsz1 := hb1.size
  have hv1' := hv1
  obtain ⟨a, cap, rfl, hlc, hm, hnil, hc⟩ := hv1'
  unfold maxLen at hm
  have Hc := Lib.hid hc
  clear hc hv
  have Hn := Lib.hid hn
  clear hn
  go_wp2_with fail
  go_loopw [8, 9] (fun b i wr => ∃ k : Nat, k ≤ ls.length ∧ i = .int .i64 k ∧ Mine 5 w1.heap.size wr b (ls.take k).flatten ∧ Below w1.heap.size w1 wr) (fun _ i _ => ls.length - (intOf i).toNat)
  case atStart => exact ⟨0, by omega, rfl, Mine.nil _ _ _, Below.refl _ _⟩
  case round =>
    obtain ⟨k, hk, rfl, hown, hbl⟩ := hrel
    have hsz := hbl.size
    by_cases hlt : k < ls.length
    · obtain ⟨x, rfl⟩ : ∃ x, a = some x := by
        cases a with
        | none => have := hnil rfl; omega
        | some x => exact ⟨x, rfl⟩
      obtain ⟨xb, xo, xs⟩ := x
      obtain ⟨hs, hcs⟩ := Hc.out _ rfl
      obtain rfl : xs = none := hs (by omega)
      clear hs
      obtain ⟨u, hcell, hib⟩ := hcs k hlt
      have hcell2 := cells_below hbl _ _ hcell
      have hib2 := hib.below hbl
      simp only at hcell2
      clear hcs Hc hcell hib
      have hp : (k : Int) < (ls.length : Int) := by omega
      have hst : (ls.take (k + 1)).flatten = (ls.take k).flatten ++ ls[k] := by rw [List.take_succ_eq_append_getElem hlt, List.flatten_append]; simp
      have hlen : (ls.take k).flatten.length + ls[k].length ≤ 4194304 := by
        have h3 : (ls.take (k + 1)).flatten.length ≤ ls.flatten.length := by
          conv => rhs; rw [← List.take_append_drop (k + 1) ls, List.flatten_append, List.length_append]
          omega
        rw [hst, List.length_append] at h3
        omega
      have Hst := Lib.hid hst
      clear hst
      generalize ls[k] = lk at *
      generalize hF : (ls.take k).flatten = F at *
      have HF := Lib.hid hF
      clear hF
      go_wp2_with (at_builtin; refine wpList_bytes rfl (.tmp 19) (.tmp 23) 24 rfl w1.heap.size 5 info_byte Tryd.underlying24 _ _ rfl hown _ lk rfl hib2 (by omega) (by omega) ?_)
      intro v1 w2 hm1 hg1 hb2 _ hr1
      have hbl2 := hbl.trans hb2
      clear hown hbl hib2 hg1 hb2 hr1 hcell2
      go_wp2_with fail
      go_roundw
      case rel => exact ⟨k + 1, by omega, by go_num, by rw [Hst.out]; exact hm1, hbl2⟩
      case measure => simp [intOf]; omega
    · obtain rfl : k = ls.length := by omega
      rw [List.take_length] at hown
      have hvr := hv1.below hbl
      have hnr := hn1.below hbl
      clear Hc hv1 hn1
      generalize hF : ls.flatten = F at *
      go_wp2_with fail
      refine (crc_parts _ ls _ hvr hnr).mono ?_
      rintro e w2 ⟨rfl, rfl⟩
      rw [hF]
      clear hF
      have hibF := hown.isB
      have hibF' := hibF
      obtain ⟨a2, cap2, rfl, hlc2, hm2, hnil2, _⟩ := hibF'
      have hszr := hbl.size
      have hone : ∀ W (l : List UInt8) (a : Option Addr) (n c : Nat), IsB W (.slice a n c) l → IsBs (W.alloc (.cells #[.slice a n c] 24)) (.slice (some ⟨W.heap.size, 0, none⟩) 1 1) [l] := fun W l a n c h =>
        isBs_lit 24 [.slice a n c] [l] (by simp [maxLen]) (fun i hi => by
          match i, hi with
          | 0, _ => exact ⟨_, rfl, h⟩)
      have Hone := Lib.hid hone
      clear hone
      go_wp2_with fail
      refine (crcRef_any _ F _ hibF).mono ?_
      rintro e w2 ⟨rfl, rfl⟩
      have hal : Below wr.heap.size wr (wr.alloc (.cells #[.slice a2 F.length cap2] 24)) := (Below.refl _ _).alloc (Nat.le_refl _) _
      have hcall := crc_parts _ _ _ (Hone.out wr F a2 F.length cap2 hibF) (hnr.below hal)
      rw [show [F].flatten = F by simp] at hcall
      go_wp2_with fail
      refine hcall.mono ?_
      rintro e w2 ⟨rfl, rfl⟩
      clear hcall
      have hbA : Below w.heap.size w (wr.alloc (.cells #[.slice a2 F.length cap2] 24)) := (hb1.trans (hbl.mono hsz1)).trans (hal.mono (by omega))
      by_cases hF0 : F = []
      · subst hF0
        go_wp2_with fail
        go_ret
        exact ⟨rfl, hbA⟩
      · have hFl : 0 < F.length := List.length_pos_iff.2 hF0
        have hFz : ((F.length : Int) == 0) = false := by simp; omega
        by_cases hby : by_ = 0
        · subst hby
          go_wp2_with fail
          go_ret
          exact ⟨rfl, hbA⟩
        · have hbyz : ((by_.toNat : Int) == 0) = false := (byte_ne 0 rfl hby).1
          obtain ⟨m, hm3⟩ : ∃ m : Nat, Hid ((if at_ < 0 then -(at_ + 1) else at_) = (m : Int)) := by
            refine ⟨(if at_ < 0 then -(at_ + 1) else at_).toNat, Lib.hid ?_⟩
            split <;> omega
          obtain ⟨g, cap3, hb3, hg1, hg2⟩ := hown.inBlock hF0
          simp only [Value.slice.injEq, true_and] at hb3
          obtain ⟨rfl, rfl⟩ := hb3
          have hownA := hown.alloc (.cells #[.slice (some ⟨g, 0, none⟩) F.length cap2] 24)
          have hjl : m % F.length < F.length := Nat.mod_lt _ hFl
          have hmod : (m : Int) % (F.length : Int) = ((m % F.length : Nat) : Int) := by omega
          generalize m % F.length = j at *
          have hcell : (wr.alloc (.cells #[.slice (some ⟨g, 0, none⟩) F.length cap2] 24)).cell? ⟨g, j, none⟩ = some (.int .u8 ((F[j]).toNat : Int)) := by
            have h := World.ownsRow.cellAt hownA j (by omega)
            rw [h, bv_get F j hjl]
          have hfro := World.ownsRow.frozenAt hownA j
          have hxb := xor_byte F[j] by_
          have hownS := hown.stored j (F[j] ^^^ by_)
          rw [List.length_set] at hownS
          have hdiff : UsCrc.crc (F.set j (F[j] ^^^ by_)) ≠ UsCrc.crc F := by
            intro h
            have e1 : F = F.take j ++ F[j] :: F.drop (j + 1) := by simp
            have e2 : F.set j (F[j] ^^^ by_) = F.take j ++ (F[j] ^^^ by_) :: F.drop (j + 1) := by
              rw [List.set_eq_take_append_cons_drop, if_pos hjl]
            rw [e2] at h
            have h3 := UsCrc.crc_differs _ _ _ _ (h.trans (congrArg UsCrc.crc e1))
            have h4 : (F[j] ^^^ by_) ^^^ F[j] = F[j] ^^^ F[j] := by rw [h3]
            rw [UInt8.xor_comm, ← UInt8.xor_assoc, UInt8.xor_self, UInt8.zero_xor] at h4
            exact hby h4
          have Hdiff := Lib.hid hdiff
          clear hdiff
          have hbS : Below w.heap.size w ((((wr.setCell ⟨g, j, none⟩ (.int .u8 ((F[j] ^^^ by_).toNat : Int))).alloc (.cells #[.slice (some ⟨g, 0, none⟩) F.length cap2] 24)).alloc (.cells #[.slice (some ⟨g, 0, none⟩) F.length cap2] 24))) :=
            ((((hb1.trans (hbl.mono hsz1)).setCell (p := ⟨g, j, none⟩) (by simp only; omega) _).alloc (by simp; omega) _).alloc (by simp; omega) _)
          have hcall := crc_parts _ _ _ (Hone.out _ _ (some ⟨g, 0, none⟩) F.length cap2 (hownS.isB.alloc (.cells #[.slice (some ⟨g, 0, none⟩) F.length cap2] 24))) (Hn.out.below hbS)
          rw [show [F.set j (F[j] ^^^ by_)].flatten = F.set j (F[j] ^^^ by_) by simp] at hcall
          simp only [World.size_alloc, World.size_setCell] at hcall
          have Hcall := Lib.hid hcall
          clear hcall hownS
          generalize hS : F.set j (F[j] ^^^ by_) = S at *
          generalize hy : F[j] ^^^ by_ = y at *
          generalize F[j] = x at *
          clear hy hS hown hibF hvr
          have hneq : ((UsCrc.crc S : Nat) : Int) ≠ ((UsCrc.crc F : Nat) : Int) := by have := Hdiff.out; omega
          have hne2 : (((UsCrc.crc S : Nat) : Int) != ((UsCrc.crc F : Nat) : Int)) = true := by rw [bne_iff_ne]; exact hneq
          clear hneq
          by_cases hneg : at_ < 0
          · have hA : -(at_ + 1) = (m : Int) := by have := hm3.out; rw [if_pos hneg] at this; exact this
            clear hm3
            go_wp2_with fail
            refine Hcall.out.mono ?_
            rintro e w2 ⟨rfl, rfl⟩
            go_wp2_with fail
            go_ret
            exact ⟨rfl, hbS⟩
          · obtain rfl : at_ = (m : Int) := by have := hm3.out; rw [if_neg hneg] at this; exact this
            clear hm3
            go_wp2_with fail
            refine Hcall.out.mono ?_
            rintro e w2 ⟨rfl, rfl⟩
            go_wp2_with fail
            go_ret
            exact ⟨rfl, hbS⟩
end Go.Proofs.YteeenihhehmmoaaDoor
