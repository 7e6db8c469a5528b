/- Contracts of the functions that the statements of this seat reach, part 2: each says what the call answers and what it leaves of the memory. -/
import Derived.Test.YtbmmcaoifkboiaaDoorBase1
import Derived.Great.BuildSlice
import Derived.IntWalk
import Derived.LoopTactic
import Derived.Deep.Onto
import Derived.Laws.MakeOwn
import Derived.Deep.RegionLaw
import Derived.StillTailTactics
import Derived.Deep.Cut
import Derived.Deep.DeepCutAuto
/- spread: noted blocks laid where they belong. -/
set_option linter.unusedVariables false
set_option linter.unusedSimpArgs false
set_option maxRecDepth 100000
namespace Go.Proofs.YtbmmcaoifkboiaaDoor
open Go.RowKit

theorem Dk.write_n (D : Dk) (k : Int) (l : List UInt8) : (D.write k l).2.n = D.n := by
  unfold Dk.write
  repeat' split
  all_goals rfl
theorem Dk.flush_n (D : Dk) : D.flush.2.n = D.n := by
  unfold Dk.flush
  repeat' split
  all_goals rfl
theorem Jn.lay_n (J : Jn) (k : Nat) (L : List UInt8) : (J.lay k L).D.n = J.D.n := by
  unfold Jn.lay
  split
  · exact Dk.write_n _ _ _
  · rfl
theorem Jn.flush_n (J : Jn) : J.flush.D.n = J.D.n := by
  unfold Jn.flush
  split
  · exact Dk.flush_n _
  · rfl
/-- a noted block laid where it belongs -/
def Jn.spStep (J : Jn) (f : List UInt8) : Jn := J.lay (J.D.home (fplace f)) (mkF (fwrite f) (3 * 16777216 + fplace f) (fbytes f))
def Jn.spreads (J : Jn) (Ls : List (List UInt8)) : Jn := Ls.foldl Jn.spStep J
def Jn.spread (J : Jn) (Ls : List (List UInt8)) : Jn := (J.spreads Ls).flush
theorem Jn.spreads_n (J : Jn) (Ls : List (List UInt8)) : (J.spreads Ls).D.n = J.D.n := by
  unfold Jn.spreads
  induction Ls generalizing J with
  | nil => rfl
  | cons f r ih => rw [List.foldl_cons, ih, Jn.spStep, Jn.lay_n]
theorem Jn.spreads_snoc (J : Jn) (Ls : List (List UInt8)) (k : Nat) (hk : k < Ls.length) : J.spreads (Ls.take (k + 1)) = (J.spreads (Ls.take k)).spStep Ls[k] := by
  rw [List.take_succ_eq_append_getElem hk, Jn.spreads, List.foldl_append]
  rfl

set_option maxHeartbeats 8000000 in
theorem spread_any (w : World) (F : Ft) (p : Nat) (J : Jn) (h : JAt w F p J) (hn : Nib w) (hn2 : 2 ≤ J.D.n) (B : Nat) (v : Value) (Ls : List (List UInt8)) (hm : MineF B w v Ls) (hap : ∀ k, JT F p k → k < B) :
    Calls Tryd.prog 65 #[jptr p, v] w fun e w' => e = .returned (.tuple #[]) ∧ JAt w' F p (J.spread Ls) ∧ Turned (JT F p) w w' := by
  have Hhap := Lib.hid hap
  have hlen := hm.range
  have Hm := Lib.hid hm
  obtain ⟨a, cap, hv, hcap, hmx⟩ : ∃ a cap, v = .slice a Ls.length cap ∧ Ls.length ≤ cap ∧ cap ≤ maxLen := by
    rcases hlen with ⟨rfl, rfl⟩ | ⟨g, cap, rfl, h1, h2, _⟩
    · exact ⟨none, 0, rfl, Nat.le_refl _, by simp [maxLen]⟩
    · exact ⟨_, cap, rfl, h1, h2⟩
  unfold maxLen at hmx
  clear hlen hm hap
  rw [hv]
  have Hv := Lib.hid hv
  clear hv
  go_enter Tryd.func65, Tryd.ntmps65
  go_wp2_with fail
  go_loopw [8] (fun i wr => ∃ k : Nat, k ≤ Ls.length ∧ i = .int .i64 (k : Int) ∧ JAt wr F p (J.spreads (Ls.take k)) ∧ Nib wr ∧ Turned (JT F p) w wr) (fun i _ => Ls.length - (intOf i).toNat)
  case atStart => exact ⟨0, Nat.zero_le _, rfl, h, hn, Turned.refl _ _⟩
  case round =>
    obtain ⟨k, hk, rfl, hj, hnb, ht⟩ := hrel
    clear h hn
    by_cases hlt : k < Ls.length
    · have hd : decide ((k : Int) < (Ls.length : Int)) = true := by simpa using hlt
      have hm := Hm.out.turned ht Hhap.out
      obtain ⟨g0, rfl, hrg⟩ : ∃ g0, a = some ⟨g0, 0, none⟩ ∧ wr.rangeAt g0 (k * 128) (bv Ls[k]) := by
        rcases hm.range with ⟨_, h2⟩ | ⟨g, c, h1, _, _, _, h3⟩
        · rw [h2] at hlt; simp at hlt
        · have h4 := Hv.out
          rw [h1] at h4
          simp only [Value.slice.injEq] at h4
          exact ⟨g, h4.1.symm, h3 k hlt⟩
      have hl := hm.lens Ls[k] (List.getElem_mem hlt)
      have hsn := Jn.spreads_snoc J Ls k hlt
      have hnn : (J.spreads (Ls.take k)).D.n = J.D.n := Jn.spreads_n _ _
      have Hsn := Lib.hid hsn
      rw [← hnn] at hn2
      clear hsn hm hnn
      generalize J.spreads (Ls.take k) = Jk at *
      generalize Ls[k] = L at *
      have hlb : (bv L).length = 128 := by rw [bv_length, hl]
      have hlz : (bv z128).length = 128 := by rw [bv_length, z128_length]
      go_upto_region 3 with (first | (refine wpList_alloc_frame rfl rfl ?_) | (refine wpList_load_mid rfl 100 (.tmp 10) rfl g0 (k * 128) rfl (bv L) _ hrg Tryd.underlying100 rfl (by rw [info_frame, hlb]) ?_) | (refine wpList_store_last 100 (.tmp 5) (.tmp 11) rfl _ (bv L).toArray rfl rfl rfl (by rw [info_frame, List.size_toArray, hlb]) (by rw [List.size_toArray, List.size_toArray, hlb, hlz]) (all_oneCell_toArray (bv_oneCell L)) ?_))
      obtain ⟨W3, hW3⟩ : ∃ W3, W3 = wr.alloc (.cells (bv L).toArray 100) := ⟨_, rfl⟩
      have hr3 : RowB W3 wr.heap.size 100 L := by rw [hW3]; exact RowB.alloc wr 100 L
      have hb3 : Below wr.heap.size wr W3 := by rw [hW3]; exact (Below.refl _ _).alloc (Nat.le_refl _) _
      have hj3 := (hj.below hb3).drew
      have hn3 : Nib W3.drew := hnb.below hb3.drew
      have ht3 := (ht.trans (Turned.of_below (T := JT F p) hb3)).drew
      rw [← hW3]
      have hH0 : RowB W3.drew wr.heap.size 100 L := hr3
      have hgn : ∀ k, JT F p k → k < wr.heap.size := fun k hk => hj.lt hk
      have hpl := fplace_lt L
      have hwl := fwrite_lt L hl
      clear hW3 hr3 hb3 hj hnb ht hrg
      generalize wr.heap.size = g at *
      refine wp_region_noPanic ?_
      refine wp_region_held_drew (S := (fun W => RowB W g 100 L)) (by kernel_rfl) hH0 (fun hH => ?_)
      refine take_at (i := 0) (v := ?_) rfl (by kernel_rfl) (by kernel_rfl) (by kernel_rfl) (fun _ _ _ h => h) (Or.inl ⟨by rfl, ?_⟩) hH ?_
      rotate_left
      · (intro w hSw; skip; go_simp; try with_reducible rfl)
      try simp only [Act.put, List.setIfInBounds_toArray, List.set_cons_zero, List.set_cons_succ]
      refine take_at (i := 1) (v := ?_) rfl (by kernel_rfl) (by kernel_rfl) (by kernel_rfl) (fun _ _ _ h => h) (Or.inl ⟨by rfl, ?_⟩) hH ?_
      rotate_left
      · (intro w hSw; skip; go_simp; try with_reducible rfl)
      try simp only [Act.put, List.setIfInBounds_toArray, List.set_cons_zero, List.set_cons_succ]
      refine take_at (i := 2) (v := .agg (bv L).toArray) rfl (by kernel_rfl) (by kernel_rfl) (by kernel_rfl) (fun _ _ _ h => h) (yieldsIf_load_mid rfl 100 (.tmp 5) rfl g 0 rfl (bv L) _ (fun W hW => RowB.range hW) Tryd.underlying100 rfl (by rw [info_frame, bv_length, hl])) hH ?_
      try simp only [Act.put, List.setIfInBounds_toArray, List.set_cons_zero, List.set_cons_succ]
      refine take_at (i := 5) (v := .agg (bv L).toArray) rfl (by kernel_rfl) (by kernel_rfl) (by kernel_rfl) (fun _ _ _ h => h) (yieldsIf_load_mid rfl 100 (.tmp 5) rfl g 0 rfl (bv L) _ (fun W hW => RowB.range hW) Tryd.underlying100 rfl (by rw [info_frame, bv_length, hl])) hH ?_
      try simp only [Act.put, List.setIfInBounds_toArray, List.set_cons_zero, List.set_cons_succ]
      refine take_at (i := 7) (v := .agg (bv L).toArray) rfl (by kernel_rfl) (by kernel_rfl) (by kernel_rfl) (fun _ _ _ h => h) (yieldsIf_load_mid rfl 100 (.tmp 5) rfl g 0 rfl (bv L) _ (fun W hW => RowB.range hW) Tryd.underlying100 rfl (by rw [info_frame, bv_length, hl])) hH ?_
      try simp only [Act.put, List.setIfInBounds_toArray, List.set_cons_zero, List.set_cons_succ]
      refine take_at (i := 9) (v := .agg (bv L).toArray) rfl (by kernel_rfl) (by kernel_rfl) (by kernel_rfl) (fun _ _ _ h => h) (yieldsIf_load_mid rfl 100 (.tmp 5) rfl g 0 rfl (bv L) _ (fun W hW => RowB.range hW) Tryd.underlying100 rfl (by rw [info_frame, bv_length, hl])) hH ?_
      try simp only [Act.put, List.setIfInBounds_toArray, List.set_cons_zero, List.set_cons_succ]
      refine wpAnyH_ready (rs := [3]) (by kernel_rfl) (by simp) ?_
      refine ready_at rfl (fun K hK => ?_) AllReadyH.nil
      go_simp
      refine (fplace_any _ L hl).mono ?_
      rintro e W4 ⟨rfl, hb⟩
      have hHn := RowB.below hH hb
      replace hj3 := hj3.below hb
      replace hn3 := hn3.below hb
      replace ht3 := ht3.trans (Turned.of_below (T := JT F p) hb)
      clear hb hH
      go_wp2_with fail
      refine hK.out _ _ hHn (fun hH => ?_)
      clear hHn
      clear hK K
      try simp only [Act.put, List.setIfInBounds_toArray, List.set_cons_zero, List.set_cons_succ]
      refine wpAnyH_ready (rs := [4]) (by kernel_rfl) (by simp) ?_
      refine ready_at rfl (fun K hK => ?_) AllReadyH.nil
      go_simp
      refine (home_any _ F p Jk hj3 hn2 (fplace L) (by omega)).mono ?_
      rintro e w' ⟨rfl, rfl⟩
      go_wp2_with fail
      refine hK.out _ _ hH (fun hH => ?_)
      clear hK K
      try simp only [Act.put, List.setIfInBounds_toArray, List.set_cons_zero, List.set_cons_succ]
      refine wpAnyH_ready (rs := [6]) (by kernel_rfl) (by simp) ?_
      refine ready_at rfl (fun K hK => ?_) AllReadyH.nil
      go_simp
      refine (fwrite_any _ L hl).mono ?_
      rintro e W5 ⟨rfl, hb⟩
      have hHn := RowB.below hH hb
      replace hj3 := hj3.below hb
      replace hn3 := hn3.below hb
      replace ht3 := ht3.trans (Turned.of_below (T := JT F p) hb)
      clear hb hH
      go_wp2_with fail
      refine hK.out _ _ hHn (fun hH => ?_)
      clear hHn
      clear hK K
      try simp only [Act.put, List.setIfInBounds_toArray, List.set_cons_zero, List.set_cons_succ]
      refine wpAnyH_ready (rs := [8]) (by kernel_rfl) (by simp) ?_
      refine ready_at rfl (fun K hK => ?_) AllReadyH.nil
      go_simp
      refine (fplace_any _ L hl).mono ?_
      rintro e W6 ⟨rfl, hb⟩
      have hHn := RowB.below hH hb
      replace hj3 := hj3.below hb
      replace hn3 := hn3.below hb
      replace ht3 := ht3.trans (Turned.of_below (T := JT F p) hb)
      clear hb hH
      go_wp2_with fail
      refine hK.out _ _ hHn (fun hH => ?_)
      clear hHn
      clear hK K
      try simp only [Act.put, List.setIfInBounds_toArray, List.set_cons_zero, List.set_cons_succ]
      refine wpAnyH_ready (rs := [10]) (by kernel_rfl) (by simp) ?_
      refine ready_at rfl (fun K hK => ?_) AllReadyH.nil
      go_simp
      refine (fbytes_any W6 L hl).mono ?_
      rintro e W7 ⟨rfl, hw7⟩
      have hb : Below W6.heap.size W6 W7 := by rw [hw7]; exact (Below.refl _ _).alloc (Nat.le_refl _) _
      have hi7 : IsB W7 (.slice (some ⟨W6.heap.size, 16, none⟩) 112 112) (fbytes L) := by
        have := (RowB.alloc W6 100 L).isB 16 112 112 (by omega) (by omega) (by simp [maxLen])
        rw [← hw7, List.take_of_length_le (by simp [hl])] at this
        exact this
      clear hw7
      have hHn := RowB.below hH hb
      replace hj3 := hj3.below hb
      replace hn3 := hn3.below hb
      replace ht3 := ht3.trans (Turned.of_below (T := JT F p) hb)
      clear hb hH
      go_wp2_with fail
      refine hK.out _ _ hHn (fun hH => ?_)
      clear hHn
      clear hK K
      try simp only [Act.put, List.setIfInBounds_toArray, List.set_cons_zero, List.set_cons_succ]
      refine wpAnyH_ready (rs := [11]) (by kernel_rfl) (by simp) ?_
      refine ready_at rfl (fun K hK => ?_) AllReadyH.nil
      go_simp
      refine (framed_any W7 (fwrite L) 3 (fplace L) _ (fbytes L) hwl (by omega) hpl hi7 hn3).mono ?_
      rintro e W8 ⟨rfl, hb⟩
      have hHn := RowB.below hH hb
      replace hj3 := hj3.below hb
      replace hn3 := hn3.below hb
      replace ht3 := ht3.trans (Turned.of_below (T := JT F p) hb)
      clear hi7
      clear hb hH
      go_wp2_with fail
      refine hK.out _ _ hHn (fun hH => ?_)
      clear hHn
      clear hK K
      try simp only [Act.put, List.setIfInBounds_toArray, List.set_cons_zero, List.set_cons_succ]
      refine wpAnyH_ready (rs := [12]) (by kernel_rfl) (by simp) ?_
      refine ready_at rfl (fun K hK => ?_) AllReadyH.nil
      go_simp
      have hle := hj3.disk.ok.nm
      have hhm : Jk.D.home (fplace L) ≤ 33554432 := by unfold Dk.home Dk.blocks; omega
      refine (lay_any W8 F p Jk hj3 (Jk.D.home (fplace L)) hhm _ (mkF_length _ _ _)).mono ?_
      rintro e W9 ⟨rfl, hj9, ht9⟩
      have hn9 := hn3.turned hj3 ht9
      have ht10 := ht3.trans ht9
      have hHn : RowB W9 g 100 L := RowB.turned hH ht9 (fun e => Nat.lt_irrefl _ (hgn _ e))
      clear hH hj3 hn3 ht3 ht9 hle hhm
      go_wp2_with fail
      refine hK.out _ _ hHn (fun hH => ?_)
      clear hHn
      clear hK K
      try simp only [Act.put, List.setIfInBounds_toArray, List.set_cons_zero, List.set_cons_succ]
      refine wpAnyH_done (by kernel_rfl) ?_ _
      refine NoPanic.normal ?_
      go_wp2_with fail
      go_roundw
      case rel => exact ⟨k + 1, by omega, by go_num, by rw [Hsn.out]; exact hj9, hn9, ht10⟩
      case measure => simp [intOf]; omega
    · obtain rfl : k = Ls.length := by omega
      have hd : decide ((Ls.length : Int) < (Ls.length : Int)) = false := by simp
      rw [List.take_length] at hj
      go_wp2_with fail
      refine (jflush_any wr F p _ hj).mono ?_
      rintro e w1 ⟨rfl, hj1, ht1⟩
      go_wp2_with fail
      go_end0
      exact ⟨rfl, hj1, ht.trans ht1⟩
end Go.Proofs.YtbmmcaoifkboiaaDoor

/- right: may blocks be written? -/
set_option linter.unusedVariables false
set_option linter.unusedSimpArgs false
set_option maxRecDepth 100000
namespace Go.Proofs.YtbmmcaoifkboiaaDoor
open Go.RowKit

def rightGo (nb : Nat) (met : List Int) : List Int → List (List UInt8) → Bool
  | n :: r, b :: s => (decide (0 ≤ n) && decide (n < (nb : Int)) && !decide (n ∈ met) && decide (b.length = 112)) && rightGo nb (met ++ [n]) r s
  | _, _ => true
/-- may these blocks be written at these places? -/
def rightW (nb : Nat) (zs : List Int) (ls : List (List UInt8)) : Bool := decide (zs.length = ls.length) && rightGo nb [] zs ls
theorem rightGo_step {nb : Nat} {met zs : List Int} {ls : List (List UInt8)} {k : Nat} (h1 : k < zs.length) (h2 : k < ls.length) :
    rightGo nb met (zs.drop k) (ls.drop k) = ((decide (0 ≤ zs[k]) && decide (zs[k] < (nb : Int)) && !decide (zs[k] ∈ met) && decide (ls[k].length = 112)) && rightGo nb (met ++ [zs[k]]) (zs.drop (k + 1)) (ls.drop (k + 1))) := by
  rw [List.drop_eq_getElem_cons h1, List.drop_eq_getElem_cons h2, rightGo]
theorem isI_at {w : World} {a : Option Addr} {n cap : Nat} {zs : List Int} (h : IsI w (.slice a n cap) zs) (i : Nat) (hi : i < zs.length) : ∃ b o, a = some ⟨b, o, none⟩ ∧ w.cell? ⟨b, o + i, none⟩ = some (.int .i64 zs[i]) := by
  obtain ⟨a', cap', hv, hl, hm, hn, hc⟩ := h
  simp only [Value.slice.injEq] at hv
  obtain ⟨rfl, rfl, rfl⟩ := hv
  cases a with
  | none => have := hn rfl; omega
  | some x =>
    obtain ⟨b, o, s⟩ := x
    obtain ⟨hs, hc⟩ := hc _ rfl
    obtain rfl : s = none := hs (by omega)
    exact ⟨b, o, rfl, hc i hi⟩
theorem isBs_at {w : World} {a : Option Addr} {n cap : Nat} {ls : List (List UInt8)} (h : IsBs w (.slice a n cap) ls) (i : Nat) (hi : i < ls.length) : ∃ b o u, a = some ⟨b, o, none⟩ ∧ w.cell? ⟨b, o + i, none⟩ = some u ∧ IsB w u ls[i] := by
  obtain ⟨a', cap', hv, hl, hm, hn, hc⟩ := h
  simp only [Value.slice.injEq] at hv
  obtain ⟨rfl, rfl, rfl⟩ := hv
  cases a with
  | none => have := hn rfl; omega
  | some x =>
    obtain ⟨b, o, s⟩ := x
    obtain ⟨hs, hc⟩ := hc _ rfl
    obtain rfl : s = none := hs (by omega)
    obtain ⟨u, h1, h2⟩ := hc i hi
    exact ⟨b, o, u, rfl, h1, h2⟩
theorem IsI.form {w : World} {v : Value} {zs : List Int} (h : IsI w v zs) : ∃ a cap, v = .slice a zs.length cap ∧ zs.length ≤ cap ∧ cap ≤ maxLen := by
  obtain ⟨a, cap, hv, hl, hm, _⟩ := h
  exact ⟨a, cap, hv, hl, hm⟩
theorem IsBs.form {w : World} {v : Value} {ls : List (List UInt8)} (h : IsBs w v ls) : ∃ a cap, v = .slice a ls.length cap ∧ ls.length ≤ cap ∧ cap ≤ maxLen := by
  obtain ⟨a, cap, hv, hl, hm, _⟩ := h
  exact ⟨a, cap, hv, hl, hm⟩
theorem IsB.form {w : World} {v : Value} {l : List UInt8} (h : IsB w v l) : ∃ a cap, v = .slice a l.length cap ∧ l.length ≤ cap ∧ cap ≤ maxLen := by
  obtain ⟨a, cap, hv, hl, hm, _⟩ := h
  exact ⟨a, cap, hv, hl, hm⟩

theorem zero_int (w : World) : (zeroValue 3).run Tryd.prog w = .ok (.int .i64 0) w := by kernel_rfl
set_option maxHeartbeats 8000000 in
theorem right_any (w : World) (F : Ft) (p : Nat) (J : Jn) (h : JAt w F p J) (hn2 : 2 ≤ J.D.n) (u : Value) (zs : List Int) (hu : IsI w u zs) (v : Value) (ls : List (List UInt8)) (hv : IsBs w v ls)
    (hzs : ∀ n ∈ zs, -9223372036854775808 ≤ n ∧ n ≤ 9223372036854775807) :
    Calls Tryd.prog 69 #[jptr p, u, v] w fun e w' => e = .returned (.bool (rightW J.D.blocks zs ls)) ∧ Below w.heap.size w w' := by
  have hnm := h.disk.ok.nm
  obtain ⟨au, cu, rfl, hcu, hmu⟩ := hu.form
  obtain ⟨av, cv, rfl, hcv, hmv⟩ := hv.form
  unfold maxLen at hmu hmv
  have hb8 : J.D.blocks ≤ 8191 := by unfold Dk.blocks; omega
  have Hzs := Lib.hid hzs
  clear hzs
  have hmm := fun w => run_makeMap (P := Tryd.prog) 130 w
  by_cases hlen : zs.length = ls.length
  case neg =>
    have e1 : rightW J.D.blocks zs ls = false := by rw [rightW, decide_eq_false hlen, Bool.false_and]
    rw [e1]
    have hd : ((zs.length : Int) != (ls.length : Int)) = true := by simp; omega
    clear e1 h hu hv
    go_enter Tryd.func69, Tryd.ntmps69
    go_wp2_with fail
    go_ret
    exact ⟨rfl, Below.refl _ _⟩
  generalize hbb : J.D.blocks = b at *
  have Hbb := Lib.hid hbb
  clear hbb
  have e1 : rightW b zs ls = rightGo b [] zs ls := by rw [rightW, decide_eq_true hlen, Bool.true_and]
  rw [e1]
  have hd : ((zs.length : Int) != (ls.length : Int)) = false := by simp; omega
  have Hlen := Lib.hid hlen
  have Hu := Lib.hid hu
  have Hv := Lib.hid hv
  have HJ := Lib.hid h
  have hb1 : Below w.heap.size w (w.alloc (.map #[] 0)) := (Below.refl _ _).alloc (Nat.le_refl _) _
  have hk1 : KMap (w.alloc (.map #[] 0)) w.heap.size (([] : List Int).map fun x => (x, .int .i64 1)) := KMap.made w
  clear e1 h hu hv hlen
  go_enter Tryd.func69, Tryd.ntmps69
  go_wp2_with fail
  generalize w.alloc (.map #[] 0) = w1 at *
  go_loopw [18] (fun i wr => ∃ k : Nat, k ≤ zs.length ∧ i = .int .i64 (k : Int) ∧ KMap wr w.heap.size ((zs.take k).map fun x => (x, .int .i64 1)) ∧ Below w.heap.size w wr ∧ Hid (rightGo b [] zs ls = rightGo b (zs.take k) (zs.drop k) (ls.drop k))) (fun i _ => zs.length - (intOf i).toNat)
  case atStart => exact ⟨0, Nat.zero_le _, rfl, hk1, hb1, Lib.hid rfl⟩
  case round =>
    obtain ⟨k, hk, rfl, hkm, hbr, Hr⟩ := hrel
    clear hk1 hb1
    by_cases hlt : k < zs.length
    · have hlt2 : k < ls.length := by have := Hlen.out; omega
      have hd1 : decide ((k : Int) < (zs.length : Int)) = true := by simpa using hlt
      have hd1b : decide ((k : Int) < (ls.length : Int)) = true := by simpa using hlt2
      obtain ⟨ub, uo, rfl, hcu1⟩ := isI_at (Hu.out.below hbr) k hlt
      obtain ⟨vb, vo, x, rfl, hcv1, hx⟩ := isBs_at (Hv.out.below hbr) k hlt2
      have hlen8 : ls[k].length ≤ 9223372036854775807 := by
        obtain ⟨a, c, _, h1, h2⟩ := hx.form
        unfold maxLen at h2
        omega
      have hrs := rightGo_step (nb := b) (met := zs.take k) hlt hlt2
      have hzb := Hzs.out zs[k] (List.getElem_mem hlt)
      have hts : zs.take (k + 1) = zs.take k ++ [zs[k]] := List.take_succ_eq_append_getElem hlt
      have Hts := Lib.hid hts
      have Hrs := Lib.hid (Hr.out.trans hrs)
      have hj := HJ.out.below hbr
      have hB := blocks_any wr F p J hj hn2
      rw [Hbb.out] at hB
      have HB := Lib.hid hB
      clear hB
      have hlook := hkm.run_look Tryd.underlying130 Tryd.underlying3 (.int .i64 0) zero_int zs[k]
      have Hnone : Hid (zs[k] ∉ zs.take k → kLook ((zs.take k).map fun x => (x, Value.int .i64 1)) zs[k] = none) := Lib.hid (fun hni => by rw [kLook_const, if_neg hni])
      rw [kLook_const] at hlook
      obtain ⟨ax, cx, rfl, _, _⟩ := hx.form
      obtain ⟨hz1, hz2⟩ := hzb
      clear hrs hts hj hx
      generalize zs[k] = z at *
      generalize ls[k].length = xl at *
      have hp : ∀ (c : Bool), c = false → (decide (0 ≤ z) && decide (z < (b : Int)) && !decide (z ∈ zs.take k) && decide (xl = 112)) = c → rightGo b [] zs ls = false := fun c hc h2 => by
        rw [Hrs.out, h2, hc, Bool.false_and]
      have Hp := Lib.hid hp
      clear hp
      by_cases c1 : 0 ≤ z
      case neg =>
        have d1 : decide (z < 0) = true := by simp; omega
        have Hf := Lib.hid (Hp.out false rfl (by simp [c1]))
        go_wp2_with fail
        go_ret
        exact ⟨by rw [Hf.out]; rfl, hbr⟩
      have d1 : decide (z < 0) = false := by simp; omega
      by_cases c2 : z < (b : Int)
      case neg =>
        have d2 : decide ((b : Int) ≤ z) = true := by simp; omega
        have Hf := Lib.hid (Hp.out false rfl (by simp [c2]))
        clear Hp
        go_wp2_with fail
        refine HB.out.mono ?_
        rintro e w2 ⟨rfl, rfl⟩
        go_wp2_with fail
        go_ret
        exact ⟨by rw [Hf.out]; rfl, hbr⟩
      have d2 : decide ((b : Int) ≤ z) = false := by simp; omega
      by_cases c3 : z ∈ zs.take k
      case pos =>
        have Hf := Lib.hid (Hp.out false rfl (by simp [c3]))
        rw [if_pos c3] at hlook
        clear Hp c3
        go_wp2_with fail
        refine HB.out.mono ?_
        rintro e w2 ⟨rfl, rfl⟩
        go_wp2_with fail
        go_ret
        exact ⟨by rw [Hf.out]; rfl, hbr⟩
      rw [if_neg c3] at hlook
      by_cases c4 : xl = 112
      case neg =>
        have Hf := Lib.hid (Hp.out false rfl (by simp [c4]))
        have d4 : ((xl : Int) != 112) = true := by simp; omega
        clear Hp c3 c4
        go_wp2_with fail
        refine HB.out.mono ?_
        rintro e w2 ⟨rfl, rfl⟩
        go_wp2_with fail
        go_ret
        exact ⟨by rw [Hf.out]; rfl, hbr⟩
      obtain ⟨w3, hnew, hkm3, ht3⟩ := hkm.run_new Tryd.underlying130 Tryd.underlying3 z (.int .i64 1) (Hnone.out c3)
      have hb3 : Below w.heap.size w w3 := hbr.trans (ht3.below hbr.size (fun j hj => by omega))
      have Hr3 : Hid (rightGo b [] zs ls = rightGo b (zs.take (k + 1)) (zs.drop (k + 1)) (ls.drop (k + 1))) := by
        show rightGo b [] zs ls = _
        rw [Hrs.out, Hts.out, decide_eq_true c1, decide_eq_true c2, decide_eq_false c3, decide_eq_true c4]
        rfl
      have hkm4 : KMap w3 w.heap.size ((zs.take (k + 1)).map fun x => (x, .int .i64 1)) := by rw [Hts.out, List.map_append]; exact hkm3
      have d4 : ((xl : Int) != 112) = false := by simp; omega
      clear hkm hkm3 ht3 Hp c3 c4
      go_wp2_with fail
      refine HB.out.mono ?_
      rintro e w2 ⟨rfl, rfl⟩
      go_wp2_with fail
      go_roundw
      case rel => exact ⟨k + 1, by omega, by go_num, hkm4, hb3, Hr3⟩
      case measure => simp [intOf]; omega
    · obtain rfl : k = zs.length := by omega
      have hd1 : decide ((zs.length : Int) < (zs.length : Int)) = false := by simp
      have Hr2 : Hid (rightGo b [] zs ls = true) := by
        show _ = true
        rw [Hr.out, List.drop_length]
        rfl
      go_wp2_with fail
      go_ret
      exact ⟨by rw [Hr2.out]; rfl, hbr⟩
end Go.Proofs.YtbmmcaoifkboiaaDoor

/- Arms for held regions: an operation whose run is known; a slice of one frame built; an append whose run is known. -/
set_option linter.unusedVariables false
set_option linter.unusedSimpArgs false
set_option maxRecDepth 100000
namespace Go.Proofs.YtbmmcaoifkboiaaDoor
open Go.RowKit

section
variable {o : Oper} {y : Nat → Option Bool} {a : Act} {w w' : World} {K : Act → World → Prop} {Q : Exit → Act → World → Prop} {X : Prop}
theorem arm_value {v : Value} (hw : Region.wanted o y = true) (he : (execOp a.eval o).run Tryd.prog w = .ok (.value v) w') (h : K (a.put o.dst v) w') : if Region.wanted o y = true then Oper.wp Tryd.prog o a w K Q else X := by
  rw [if_pos hw]
  unfold Oper.wp
  rw [he]
  exact h
theorem run_build_one (w : World) (L : List UInt8) (hl : L.length = 128) : (Instr.buildSlice 109 1 #[(0, .agg (bv L).toArray)]).run Tryd.prog w = .ok (.slice (some ⟨w.heap.size, 0, none⟩) 1 1) (w.alloc (.cells (bv L).toArray 100)) := by
  obtain ⟨i, hi, hz, hs, hb⟩ := info_parts (P := Tryd.prog) (e := 100) info_frame3
  have hlb : (bv L).length = 128 := by rw [bv_length, hl]
  refine run_buildSlice w _ _ 1 _ _ i _ Tryd.underlying109 hi hz (by rw [hs]; decide) (by rw [hs]; decide) ?_
  rw [hs]
  generalize hB : ((Array.range (1 * 128)).map fun k => (Value.agg (bv z128).toArray).cells[k % (Value.agg (bv z128).toArray).cells.size]!) = base
  have hbs : base.size = 128 := by rw [← hB]; simp
  have hf := fill_at (fun _ _ => undef) (bv L) base 0 0 (by rw [hlb, hbs]; omega)
  simp only [Nat.zero_add, List.take_zero, List.nil_append] at hf
  rw [List.drop_of_length_le (by rw [Array.length_toList, hbs, hlb]; omega), List.append_nil] at hf
  simp only [Instr.fill, Value.cells, Nat.zero_mul, List.size_toArray, hlb, hbs]
  simp only [Nat.zero_add]
  simp
  apply Array.ext'
  rw [List.toList_toArray]
  exact hf
theorem arm_build_one (hw : Region.wanted o y = true) (x : Operand) (ho : o.op = .buildSlice 109 1 #[(0, x)]) (L : List UInt8) (hl : L.length = 128) (hx : a.eval x = .agg (bv L).toArray)
    (h : K (a.put o.dst (.slice (some ⟨w.heap.size, 0, none⟩) 1 1)) (w.alloc (.cells (bv L).toArray 100))) : if Region.wanted o y = true then Oper.wp Tryd.prog o a w K Q else X := by
  refine arm_value hw ?_ h
  unfold execOp
  simp only [ho, List.map_toArray, List.map_cons, List.map_nil, hx, Sem.run_bind, run_build_one w L hl, Result.andThen_ok]
  rfl
theorem arm_append (hw : Region.wanted o y = true) (s x : Operand) (t t' : TypeId) (ho : o.op = .call { callee := .builtin .append, args := #[s, x], argTypes := #[t, t'] }) (u v r : Value)
    (hs : a.eval s = u) (hx : a.eval x = v) (hr : (Builtin.append_ #[t, t'] o.type #[u, v]).run Tryd.prog w = .ok r w') (h : K (a.put o.dst r) w') : if Region.wanted o y = true then Oper.wp Tryd.prog o a w K Q else X := by
  refine arm_value hw ?_ h
  unfold execOp
  simp only [ho, resolve, invoke, builtin, Sem.run_bind, Sem.run_pure, Result.andThen_ok, List.map_toArray, List.map_cons, List.map_nil, hs, hx, hr]
end
/-- a load of many cells behind a guard that is open -/
theorem wpList_load_open {P : Program} {ops : Array Oper} {rest : List Oper} {op : Oper} {a : Act} {w : World} {Q : Exit → Act → World → Prop} (hw : Region.wanted op (yielded ops a.tmps) = true) (ty : TypeId) (x : Operand) (ho : op.op = .load ty x)
    (b o : Nat) (hx : a.eval x = .pointer (some ⟨b, o, none⟩)) (cs : List Value) (d : TypeDesc) (hc : w.rangeAt b o cs)
    (hu : P.underlying ty = some d) (hd : d.isRow = true) (hi : (P.info? ty).map (·.size) = some cs.length)
    (h : wpList P ops Q rest (a.put op.dst (.agg cs.toArray)) w) : wpList P ops Q (op :: rest) a w :=
  wpList_step fun K hK => by
    rw [if_pos hw]
    exact wp_load_mid ty x ho b o hx cs d hc hu hd hi (hK _ _ h)
end Go.Proofs.YtbmmcaoifkboiaaDoor

/- Write: blocks written, all of them or none. -/
set_option linter.unusedVariables false
set_option linter.unusedSimpArgs false
set_option maxRecDepth 100000
namespace Go.Proofs.YtbmmcaoifkboiaaDoor
open Go.RowKit

/-- the notes of a write -/
def noteFs (write : Nat) (zs : List Int) (ls : List (List UInt8)) : List (List UInt8) := (zs.zip ls).map fun x => mkF write (2 * 16777216 + x.1.toNat) x.2
/-- the first k notes laid -/
def Jn.layTo (J : Jn) (fs : List (List UInt8)) : Nat → Jn
  | 0 => J
  | k + 1 => (J.layTo fs k).lay (2 + k) (fs.getD k [])
/-- a write that is not refused -/
def Jn.writes (J : Jn) (zs : List Int) (ls : List (List UInt8)) : Jn :=
  let fs := noteFs (J.last + 1) zs ls
  let J6 := ((((({ J with last := J.last + 1 } : Jn).layTo fs zs.length).flush).lay ((J.last + 1) % 2) (markF (J.last + 1) zs.length (J.seq + 1))).flush).spread fs
  if J6.off = 0 then { J6 with seq := J.seq + 1 } else J6
/-- Write: what it answers, and the journal behind it -/
def Jn.write (J : Jn) (zs : List Int) (ls : List (List UInt8)) : Int × Jn :=
  if J.off ≠ 0 then (J.off, J) else if rightW J.D.blocks zs ls = false then (2, J) else if zs.length = 0 then (0, J) else ((J.writes zs ls).off, J.writes zs ls)
theorem Jn.layTo_n (J : Jn) (fs : List (List UInt8)) (k : Nat) : (J.layTo fs k).D.n = J.D.n := by
  induction k with
  | zero => rfl
  | succ k ih => rw [Jn.layTo, Jn.lay_n, ih]
theorem Jn.lay_last (J : Jn) (k : Nat) (L : List UInt8) : (J.lay k L).last = J.last := by
  unfold Jn.lay
  split <;> rfl
theorem Jn.flush_last (J : Jn) : J.flush.last = J.last := by
  unfold Jn.flush
  split <;> rfl
theorem Jn.lay_seq (J : Jn) (k : Nat) (L : List UInt8) : (J.lay k L).seq = J.seq := by
  unfold Jn.lay
  split <;> rfl
theorem Jn.flush_seq (J : Jn) : J.flush.seq = J.seq := by
  unfold Jn.flush
  split <;> rfl
theorem Jn.layTo_last (J : Jn) (fs : List (List UInt8)) (k : Nat) : (J.layTo fs k).last = J.last := by
  induction k with
  | zero => rfl
  | succ k ih => rw [Jn.layTo, Jn.lay_last, ih]
theorem Jn.layTo_seq (J : Jn) (fs : List (List UInt8)) (k : Nat) : (J.layTo fs k).seq = J.seq := by
  induction k with
  | zero => rfl
  | succ k ih => rw [Jn.layTo, Jn.lay_seq, ih]
theorem Jn.spreads_last (J : Jn) (Ls : List (List UInt8)) : (J.spreads Ls).last = J.last := by
  unfold Jn.spreads
  induction Ls generalizing J with
  | nil => rfl
  | cons f r ih => rw [List.foldl_cons, ih, Jn.spStep, Jn.lay_last]
theorem Jn.spreads_seq (J : Jn) (Ls : List (List UInt8)) : (J.spreads Ls).seq = J.seq := by
  unfold Jn.spreads
  induction Ls generalizing J with
  | nil => rfl
  | cons f r ih => rw [List.foldl_cons, ih, Jn.spStep, Jn.lay_seq]
theorem rightGo_spec {nb : Nat} : ∀ (zs met : List Int) (ls : List (List UInt8)), rightGo nb met zs ls = true → zs.length = ls.length →
    ∀ k (h : k < zs.length) (h2 : k < ls.length), 0 ≤ zs[k] ∧ zs[k] < (nb : Int) ∧ ls[k].length = 112 ∧ zs[k] ∉ met ++ zs.take k
  | [], _, _, _, _, k, h, _ => by simp at h
  | n :: r, met, [], _, hl, _, _, _ => by simp at hl
  | n :: r, met, b :: s, hr, hl, k, h, h2 => by
    simp only [rightGo, Bool.and_eq_true, decide_eq_true_eq, Bool.not_eq_true', decide_eq_false_iff_not] at hr
    obtain ⟨⟨⟨⟨a1, a2⟩, a3⟩, a4⟩, a5⟩ := hr
    cases k with
    | zero => simpa using ⟨a1, a2, a4, a3⟩
    | succ k =>
      have ih := rightGo_spec r (met ++ [n]) s a5 (by simpa using hl) k (by simpa using h) (by simpa using h2)
      simpa using ih
theorem rightW_spec {nb : Nat} {zs : List Int} {ls : List (List UInt8)} (h : rightW nb zs ls = true) : zs.length = ls.length ∧
    ∀ k (h : k < zs.length) (h2 : k < ls.length), 0 ≤ zs[k] ∧ zs[k] < (nb : Int) ∧ ls[k].length = 112 ∧ zs[k] ∉ zs.take k := by
  simp only [rightW, Bool.and_eq_true, decide_eq_true_eq] at h
  exact ⟨h.1, fun k h1 h2 => by simpa using rightGo_spec zs [] ls h.2 h.1 k h1 h2⟩
theorem nodup_bound : ∀ (n : Nat) (l : List Nat), l.Nodup → (∀ x ∈ l, x < n) → l.length ≤ n
  | 0, [], _, _ => Nat.le_refl _
  | 0, x :: r, _, h => by have := h x (List.mem_cons_self ..); omega
  | n + 1, l, hn, h => by
    have ih := nodup_bound n (l.erase n) (hn.erase n) (fun x hx => by
      have h1 := (hn.mem_erase_iff).1 hx
      have := h x h1.2
      omega)
    have h2 : l.length ≤ (l.erase n).length + 1 := by
      rw [List.length_erase]
      split <;> omega
    omega
theorem rightW_few {nb : Nat} {zs : List Int} {ls : List (List UInt8)} (h : rightW nb zs ls = true) : zs.length ≤ nb := by
  obtain ⟨hl, hs⟩ := rightW_spec h
  have h1 : (zs.map Int.toNat).Nodup := by
    rw [List.Nodup, List.pairwise_iff_getElem]
    intro i j hi hj hij
    simp only [List.length_map] at hi hj
    simp only [List.getElem_map]
    intro e
    obtain ⟨a1, _, _, _⟩ := hs i hi (by omega)
    obtain ⟨b1, _, _, b4⟩ := hs j hj (by omega)
    apply b4
    have e2 : zs[i] = zs[j] := by omega
    rw [← e2, List.mem_take_iff_getElem]
    exact ⟨i, by omega, rfl⟩
  have := nodup_bound nb (zs.map Int.toNat) h1 (fun x hx => by
    obtain ⟨y, hy, rfl⟩ := List.mem_map.1 hx
    obtain ⟨i, hi, rfl⟩ := List.getElem_of_mem hy
    obtain ⟨a1, a2, _, _⟩ := hs i hi (by omega)
    omega)
  simpa using this
theorem noteFs_length {write : Nat} {zs : List Int} {ls : List (List UInt8)} (h : zs.length = ls.length) : (noteFs write zs ls).length = zs.length := by
  simp [noteFs, h]
theorem noteFs_get {write : Nat} {zs : List Int} {ls : List (List UInt8)} (h : zs.length = ls.length) (k : Nat) (hk : k < zs.length) (hk2 : k < ls.length) (hk3 : k < (noteFs write zs ls).length) :
    (noteFs write zs ls)[k] = mkF write (2 * 16777216 + zs[k].toNat) ls[k] := by
  simp [noteFs]
theorem cell_keep {w w' : World} {T : Nat → Prop} {a : Addr} {u : Value} (h : w.cell? a = some u) (ht : Turned T w w') (hT : ¬ T a.block) : w'.cell? a = some u := by
  rw [← h]
  exact World.cell?_of_block (ht.block _ (World.block_lt_of_cell? w a h) hT)

/-- what is held through the note's making -/
def WrHeld (p vb o : Nat) (n : Int) (x : Value) (W : World) : Prop := W.cell? ⟨p, 1, none⟩ = some (.int .u64 n) ∧ W.cell? ⟨vb, o, none⟩ = some x
theorem WrHeld.below {p vb o : Nat} {n : Int} {x : Value} {W W' : World} (h : WrHeld p vb o n x W) (hb : Below W.heap.size W W') : WrHeld p vb o n x W' := ⟨cells_below hb _ _ h.1, cells_below hb _ _ h.2⟩
theorem WrHeld.turned {p vb o : Nat} {n : Int} {x : Value} {W W' : World} {T : Nat → Prop} (h : WrHeld p vb o n x W) (ht : Turned T W W') (h1 : ¬ T p) (h2 : ¬ T vb) : WrHeld p vb o n x W' := ⟨cell_keep h.1 ht h1, cell_keep h.2 ht h2⟩
/-- what is held through the mark's making -/
def MkHeld (p : Nat) (n s : Int) (W : World) : Prop := W.cell? ⟨p, 1, none⟩ = some (.int .u64 n) ∧ W.cell? ⟨p, 2, none⟩ = some (.int .i64 s)
theorem MkHeld.below {p : Nat} {n s : Int} {W W' : World} (h : MkHeld p n s W) (hb : Below W.heap.size W W') : MkHeld p n s W' := ⟨cells_below hb _ _ h.1, cells_below hb _ _ h.2⟩

set_option maxHeartbeats 8000000 in
theorem jwrite_any (w : World) (F : Ft) (p : Nat) (J : Jn) (h : JAt w F p J) (hn : Nib w) (hn2 : 2 ≤ J.D.n) (u : Value) (zs : List Int) (hku : ∀ w', Turned (JT F p) w w' → IsI w' u zs) (v : Value) (ls : List (List UInt8)) (hkv : ∀ w', Turned (JT F p) w w' → IsBs w' v ls)
    (hzs : ∀ n ∈ zs, -9223372036854775808 ≤ n ∧ n ≤ 9223372036854775807) (hlast : J.last + 1 < 18446744073709551616) (hs1 : -9223372036854775808 ≤ J.seq) (hs2 : J.seq < 9223372036854775807) :
    Calls Tryd.prog 39 #[jptr p, u, v] w fun e w' => e = .returned (.int .i64 (J.write zs ls).1) ∧ JAt w' F p (J.write zs ls).2 ∧ Turned (JT F p) w w' := by
  obtain ⟨c0, c1, c2, c3⟩ := h.cells
  have hnm := h.disk.ok.nm
  by_cases h0 : J.off = 0
  case neg =>
    have e1 : J.write zs ls = (J.off, J) := by rw [Jn.write, if_pos h0]
    rw [e1]
    have hd : (J.off == 0) = false := by simpa using h0
    have hd2 : (J.off != 0) = true := by simpa using h0
    have HJ := Lib.hid h
    clear e1 h h0
    clear hku hkv
    generalize J.off = o at *
    go_enter Tryd.func39, Tryd.ntmps39
    go_wp2_with fail
    go_ret
    exact ⟨rfl, HJ.out, Turned.refl _ w⟩
  rw [h0] at c3
  have hu := hku w (Turned.refl _ w)
  have hv := hkv w (Turned.refl _ w)
  have Hu := Lib.hid hku
  have Hv := Lib.hid hkv
  clear hku hkv
  obtain ⟨au, cu, rfl, hcu, hmu⟩ := hu.form
  obtain ⟨av, cv, rfl, hcv, hmv⟩ := hv.form
  unfold maxLen at hmu hmv
  have HR := Lib.hid (right_any w F p J h hn2 _ zs hu _ ls hv hzs)
  cases hr : rightW J.D.blocks zs ls with
  | false =>
    have e1 : J.write zs ls = (2, J) := by rw [Jn.write, if_neg (by simpa using h0), if_pos hr]
    rw [e1]
    rw [hr] at HR
    have HJ := Lib.hid h
    clear e1 h h0 hu hv hzs hr
    go_enter Tryd.func39, Tryd.ntmps39
    go_wp2_with fail
    refine HR.out.mono ?_
    rintro e w1 ⟨rfl, hb1⟩
    go_wp2_with fail
    go_ret
    exact ⟨rfl, HJ.out.below hb1, Turned.of_below hb1⟩
  | true =>
  rw [hr] at HR
  obtain ⟨hlen, hsp⟩ := rightW_spec hr
  have hfew := rightW_few hr
  by_cases hz0 : zs.length = 0
  case pos =>
    have e1 : J.write zs ls = (0, J) := by rw [Jn.write, if_neg (by simpa using h0), if_neg (by simp [hr]), if_pos hz0]
    rw [e1]
    have HJ := Lib.hid h
    have hd : ((zs.length : Int) == 0) = true := by simp [hz0]
    clear e1 h h0 hu hv hzs hr hsp hlen hz0
    go_enter Tryd.func39, Tryd.ntmps39
    go_wp2_with fail
    refine HR.out.mono ?_
    rintro e w1 ⟨rfl, hb1⟩
    go_wp2_with fail
    go_ret
    exact ⟨rfl, HJ.out.below hb1, Turned.of_below hb1⟩
  have e1 : J.write zs ls = ((J.writes zs ls).off, J.writes zs ls) := by rw [Jn.write, if_neg (by simpa using h0), if_neg (by simp [hr]), if_neg hz0]
  rw [e1]
  have hd : ((zs.length : Int) == 0) = false := by rw [beq_eq_false_iff_ne]; omega
  have hfl : (noteFs (J.last + 1) zs ls).length = zs.length := noteFs_length hlen
  have Hfg : Hid (∀ k (h1 : k < zs.length) (h2 : k < ls.length) (h3 : k < (noteFs (J.last + 1) zs ls).length), (noteFs (J.last + 1) zs ls)[k] = mkF (J.last + 1) (2 * 16777216 + zs[k].toNat) ls[k]) := Lib.hid (fun k h1 h2 h3 => noteFs_get hlen k h1 h2 h3)
  have Hw : Hid (J.writes zs ls = if (((((({ J with last := J.last + 1 } : Jn).layTo (noteFs (J.last + 1) zs ls) zs.length).flush).lay ((J.last + 1) % 2) (markF (J.last + 1) zs.length (J.seq + 1))).flush).spread (noteFs (J.last + 1) zs ls)).off = 0
    then { ((((({ J with last := J.last + 1 } : Jn).layTo (noteFs (J.last + 1) zs ls) zs.length).flush).lay ((J.last + 1) % 2) (markF (J.last + 1) zs.length (J.seq + 1))).flush).spread (noteFs (J.last + 1) zs ls) with seq := J.seq + 1 }
    else ((((({ J with last := J.last + 1 } : Jn).layTo (noteFs (J.last + 1) zs ls) zs.length).flush).lay ((J.last + 1) % 2) (markF (J.last + 1) zs.length (J.seq + 1))).flush).spread (noteFs (J.last + 1) zs ls)) := Lib.hid rfl
  have Hz0 := Lib.hid hz0
  have Hlen := Lib.hid hlen
  have Hsp := Lib.hid hsp
  have Hfl := Lib.hid hfl
  have HJ := Lib.hid h
  have hap : ∀ k, JT F p k → k < w.heap.size := fun k hk => h.lt hk
  have Hap := Lib.hid hap
  have Hn := Lib.hid hn
  have hb8 : J.D.blocks ≤ 8191 := by unfold Dk.blocks; omega
  have hlast2 : (J.last : Int) + 1 ≤ 18446744073709551615 := by omega
  have hseq1 : J.seq + 1 ≤ 9223372036854775807 := by omega
  have hseq2 : -9223372036854775808 ≤ J.seq + 1 := by omega
  clear e1 hu hv hzs hr hlen hsp hz0 h hap hn hfl c0 c1 c2 h0
  generalize hfse : noteFs (J.last + 1) zs ls = fs at *
  clear hfse
  go_enter Tryd.func39, Tryd.ntmps39
  go_wp2_with fail
  refine HR.out.mono ?_
  rintro e w1 ⟨rfl, hb1⟩
  have hj1 := HJ.out.below hb1
  have hn1 := Hn.out.below hb1
  obtain ⟨c0, c1, c2, c3⟩ := hj1.cells
  have f1 := frozen_p hj1.head 1
  have hj2 := hj1.put_last (J.last + 1)
  have ht2 := (Turned.of_below (T := JT F p) hb1).trans ((turned_one w1 p 1 (.int .u64 ((J.last + 1 : Nat) : Int))).jp F)
  have hn2' := hn1.turned hj1 ((turned_one w1 p 1 (.int .u64 ((J.last + 1 : Nat) : Int))).jp F)
  rw [show ((J.last + 1 : Nat) : Int) = (J.last : Int) + 1 by omega] at hj2 ht2 hn2'
  have hsz2 : w.heap.size ≤ (w1.setCell ⟨p, 1, none⟩ (.int .u64 ((J.last : Int) + 1))).heap.size := ht2.size
  clear hj1 hn1 hb1 HR
  go_upto_region 10 with fail
  generalize w1.setCell ⟨p, 1, none⟩ (.int .u64 ((J.last : Int) + 1)) = w2 at *
  have HJ1 : Hid (({ J with last := J.last + 1 } : Jn).last = J.last + 1 ∧ ({ J with last := J.last + 1 } : Jn).seq = J.seq ∧ ({ J with last := J.last + 1 } : Jn).D.n = J.D.n) := Lib.hid ⟨rfl, rfl, rfl⟩
  generalize ({ J with last := J.last + 1 } : Jn) = J1 at *
  clear c0 c1 c2 c3 f1
  have HW := Lib.hid Hw.out
  clear Hw
  go_wp2_with fail
  have hmF := MineF.nil w.heap.size w2
  go_loopw [7, 42] (fun x i wr => ∃ k : Nat, k ≤ zs.length ∧ i = .int .i64 (k : Int) ∧ MineF w.heap.size wr x (fs.take k) ∧ JAt wr F p (J1.layTo fs k) ∧ Nib wr ∧ Turned (JT F p) w wr) (fun _ i _ => zs.length - (intOf i).toNat)
  case atStart => exact ⟨0, Nat.zero_le _, rfl, hmF, hj2, hn2', ht2⟩
  case round =>
    obtain ⟨k, hk, rfl, hmr, hjr, hnr, htr⟩ := hrel
    clear hmF hj2 hn2' ht2 hsz2
    have hszr := htr.size
    by_cases hlt : k < zs.length
    · have hlt2 : k < ls.length := by have := Hlen.out; omega
      have hlt3 : k < fs.length := by have := Hfl.out; omega
      have hd1 : decide ((k : Int) < (zs.length : Int)) = true := by simpa using hlt
      have hd1b : decide ((k : Int) < (ls.length : Int)) = true := by simpa using hlt2
      obtain ⟨ub, uo, rfl, hcu1⟩ := isI_at (Hu.out wr htr) k hlt
      obtain ⟨vb, vo, x, rfl, hcv1, hx⟩ := isBs_at (Hv.out wr htr) k hlt2
      have Hnv : Hid (¬ w.heap.size ≤ vb) := by
        obtain ⟨vb', vo', x', e', hc', _⟩ := isBs_at (Hv.out w (Turned.refl _ w)) k hlt2
        simp only [Option.some.injEq, Addr.mk.injEq] at e'
        have := World.block_lt_of_cell? w _ hc'
        show ¬ w.heap.size ≤ vb
        rw [e'.1]
        exact Nat.not_le.2 this
      have Hnn : Hid (¬ w.heap.size ≤ 0) := Nat.not_le.2 (World.block_lt_of_cell? w _ (Hn.out 0 (by omega)))
      have hsp := Hsp.out k hlt hlt2
      have hfk := Hfg.out k hlt hlt2 hlt3
      have hts : fs.take (k + 1) = fs.take k ++ [fs[k]] := List.take_succ_eq_append_getElem hlt3
      have hst : J1.layTo fs (k + 1) = (J1.layTo fs k).lay (2 + k) fs[k] := by rw [Jn.layTo, List.getD_eq_getElem?_getD, List.getElem?_eq_getElem hlt3]; rfl
      have hl1 : (J1.layTo fs k).last = J.last + 1 := by rw [Jn.layTo_last]; exact HJ1.out.1
      obtain ⟨m, hm⟩ := Int.eq_ofNat_of_zero_le hsp.1
      have hm8 : m < 16777216 := by have := hsp.2.1; omega
      rw [hm, Int.toNat_natCast] at hfk
      rw [hm] at hcu1
      rw [hfk] at hts hst
      have hbl := hsp.2.2.1
      have htkl : (fs.take k).length = k := by rw [List.length_take]; omega
      have Hts := Lib.hid hts
      have Hst := Lib.hid hst
      have Htkl := Lib.hid htkl
      clear hsp hfk hts hst hm htkl
      generalize ls[k] = b at *
      generalize J1.layTo fs k = Jk at *
      obtain ⟨q0, q1, q2, q3⟩ := hjr.cells
      rw [hl1, show ((J.last + 1 : Nat) : Int) = (J.last : Int) + 1 by omega] at q1
      have hml : (mkF (J.last + 1) (2 * 16777216 + m) b).length = 128 := mkF_length _ _ _
      have Hfr := fun (W : World) (hb : IsB W x b) (hn : Nib W) => framed_any W (J.last + 1) 2 m x b hlast (by omega) hm8 hb hn
      rw [show ((J.last + 1 : Nat) : Int) = (J.last : Int) + 1 by omega] at Hfr
      have HFR := Lib.hid Hfr
      clear Hfr hl1
      generalize mkF (J.last + 1) (2 * 16777216 + m) b = L at *
      go_upto_region 14 with fail
      have hvb : vb < wr.heap.size := World.block_lt_of_cell? wr _ hcv1
      have hpb : p < wr.heap.size := World.block_lt_of_cell? wr _ q1
      have hS0 : WrHeld p vb (vo + k) ((J.last : Int) + 1) x wr.drew := ⟨q1, hcv1⟩
      have hm3 := hmr.drew
      have hj3 := hjr.drew
      have hn3 : Nib wr.drew := hnr.below (Below.refl _ wr).drew
      have ht3 := htr.drew
      have hx3 := hx.drew
      have hsz3 : w.heap.size ≤ wr.drew.heap.size := hszr
      clear hmr hjr hnr htr hx q0 q1 q2 q3 hcu1 hcv1 hszr
      refine wp_region_noPanic ?_
      refine wp_region_held_drew (S := (WrHeld p vb (vo + k) ((J.last : Int) + 1) x)) (by kernel_rfl) hS0 (fun hH => ?_)
      refine take_at (i := 0) (v := ?_) rfl (by kernel_rfl) (by kernel_rfl) (by kernel_rfl) (fun _ _ _ h => h) (Or.inl ⟨by rfl, ?_⟩) hH ?_
      rotate_left
      · (intro w hSw; obtain ⟨r1, r2⟩ := hSw; go_simp; try with_reducible rfl)
      try simp only [Act.put, List.setIfInBounds_toArray, List.set_cons_zero, List.set_cons_succ]
      refine take_at (i := 1) (v := ?_) rfl (by kernel_rfl) (by kernel_rfl) (by kernel_rfl) (fun _ _ _ h => h) (Or.inl ⟨by rfl, ?_⟩) hH ?_
      rotate_left
      · (intro w hSw; obtain ⟨r1, r2⟩ := hSw; go_simp; try with_reducible rfl)
      try simp only [Act.put, List.setIfInBounds_toArray, List.set_cons_zero, List.set_cons_succ]
      refine take_at (i := 2) (v := ?_) rfl (by kernel_rfl) (by kernel_rfl) (by kernel_rfl) (fun _ _ _ h => h) (Or.inl ⟨by rfl, ?_⟩) hH ?_
      rotate_left
      · (intro w hSw; obtain ⟨r1, r2⟩ := hSw; go_simp; try with_reducible rfl)
      try simp only [Act.put, List.setIfInBounds_toArray, List.set_cons_zero, List.set_cons_succ]
      refine take_at (i := 3) (v := ?_) rfl (by kernel_rfl) (by kernel_rfl) (by kernel_rfl) (fun _ _ _ h => h) (Or.inl ⟨by rfl, ?_⟩) hH ?_
      rotate_left
      · (intro w hSw; obtain ⟨r1, r2⟩ := hSw; go_simp; try with_reducible rfl)
      try simp only [Act.put, List.setIfInBounds_toArray, List.set_cons_zero, List.set_cons_succ]
      refine take_at (i := 4) (v := ?_) rfl (by kernel_rfl) (by kernel_rfl) (by kernel_rfl) (fun _ _ _ h => h) (Or.inl ⟨by rfl, ?_⟩) hH ?_
      rotate_left
      · (intro w hSw; obtain ⟨r1, r2⟩ := hSw; go_simp; try with_reducible rfl)
      try simp only [Act.put, List.setIfInBounds_toArray, List.set_cons_zero, List.set_cons_succ]
      refine take_at (i := 5) (v := ?_) rfl (by kernel_rfl) (by kernel_rfl) (by kernel_rfl) (fun _ _ _ h => h) (Or.inl ⟨by rfl, ?_⟩) hH ?_
      rotate_left
      · (intro w hSw; obtain ⟨r1, r2⟩ := hSw; go_simp; try with_reducible rfl)
      try simp only [Act.put, List.setIfInBounds_toArray, List.set_cons_zero, List.set_cons_succ]
      refine take_at (i := 6) (v := ?_) rfl (by kernel_rfl) (by kernel_rfl) (by kernel_rfl) (fun _ _ _ h => h) (Or.inl ⟨by rfl, ?_⟩) hH ?_
      rotate_left
      · (intro w hSw; obtain ⟨r1, r2⟩ := hSw; go_simp; try with_reducible rfl)
      try simp only [Act.put, List.setIfInBounds_toArray, List.set_cons_zero, List.set_cons_succ]
      refine take_at (i := 7) (v := ?_) rfl (by kernel_rfl) (by kernel_rfl) (by kernel_rfl) (fun _ _ _ h => h) (Or.inl ⟨by rfl, ?_⟩) hH ?_
      rotate_left
      · (intro w hSw; obtain ⟨r1, r2⟩ := hSw; go_simp; try with_reducible rfl)
      try simp only [Act.put, List.setIfInBounds_toArray, List.set_cons_zero, List.set_cons_succ]
      refine take_at (i := 8) (v := ?_) rfl (by kernel_rfl) (by kernel_rfl) (by kernel_rfl) (fun _ _ _ h => h) (Or.inl ⟨by rfl, ?_⟩) hH ?_
      rotate_left
      · (intro w hSw; obtain ⟨r1, r2⟩ := hSw; go_simp; try with_reducible rfl)
      try simp only [Act.put, List.setIfInBounds_toArray, List.set_cons_zero, List.set_cons_succ]
      refine take_at (i := 9) (v := ?_) rfl (by kernel_rfl) (by kernel_rfl) (by kernel_rfl) (fun _ _ _ h => h) (Or.inl ⟨by rfl, ?_⟩) hH ?_
      rotate_left
      · (intro w hSw; obtain ⟨r1, r2⟩ := hSw; go_simp; try with_reducible rfl)
      try simp only [Act.put, List.setIfInBounds_toArray, List.set_cons_zero, List.set_cons_succ]
      refine wpAnyH_ready (rs := [10]) (by kernel_rfl) (by simp) ?_
      refine ready_at rfl (fun K hK => ?_) AllReadyH.nil
      go_simp
      refine (HFR.out _ hx3 hn3).mono ?_
      rintro e W3 ⟨rfl, hb⟩
      have hHn := hH.below hb
      replace hj3 := hj3.below hb
      replace hn3 := hn3.below hb
      replace ht3 := ht3.trans (Turned.of_below (T := JT F p) hb)
      replace hm3 := hm3.below hb
      replace hsz3 := Nat.le_trans hsz3 hb.size
      clear hb hH hx3
      go_wp2_with fail
      refine hK.out _ _ hHn (fun hH => ?_)
      clear hHn
      clear hK K
      try simp only [Act.put, List.setIfInBounds_toArray, List.set_cons_zero, List.set_cons_succ]
      refine wpAnyH_ready (rs := [11]) (by kernel_rfl) (by simp) ?_
      refine ready_at rfl (fun K hK => ?_) AllReadyH.nil
      refine arm_build_one (by rfl) (.tmp 57) rfl L hml rfl ?_
      have hb : Below W3.heap.size W3 (W3.alloc (.cells (bv L).toArray 100)) := (Below.refl _ _).alloc (Nat.le_refl _) _
      have hr4 := RowB.alloc W3 100 L
      have hHn := hH.below hb
      replace hj3 := hj3.below hb
      replace hn3 := hn3.below hb
      replace ht3 := ht3.trans (Turned.of_below (T := JT F p) hb)
      replace hm3 := hm3.below hb
      replace hsz3 := Nat.le_trans hsz3 hb.size
      clear hb hH
      generalize W3.alloc (.cells (bv L).toArray 100) = W4 at *
      generalize W3.heap.size = g4 at *
      refine hK.out _ _ hHn (fun hH => ?_)
      clear hHn
      clear hK K
      try simp only [Act.put, List.setIfInBounds_toArray, List.set_cons_zero, List.set_cons_succ]
      refine wpAnyH_ready (rs := [12]) (by kernel_rfl) (by simp) ?_
      refine ready_at rfl (fun K hK => ?_) AllReadyH.nil
      obtain ⟨v5, W5, hr5, hm5, ht45⟩ := hm3.snoc hsz3 (by rw [Htkl.out]; omega) L hml g4 hr4
      have hHn := hH.turned ht45 (fun e => by have := Hap.out p (.inr rfl); omega) (fun e => Hnv.out e)
      have hj5 := hj3.turned ht45 (fun j hj e => by have := Hap.out j hj; omega)
      have hn5 := hn3.of_turned ht45 (fun e => Hnn.out e)
      have ht5 := ht3.then ht45 (fun i hi e => by omega)
      refine arm_append (by rfl) (.tmp 47) (.tmp 58) 109 109 rfl _ _ _ rfl rfl hr5 ?_
      clear hj3 hn3 ht3 hm3 hr4 ht45 hr5 hH
      refine hK.out _ _ hHn (fun hH => ?_)
      clear hHn
      clear hK K
      try simp only [Act.put, List.setIfInBounds_toArray, List.set_cons_zero, List.set_cons_succ]
      refine take_at (i := 13) (v := ?_) rfl (by kernel_rfl) (by kernel_rfl) (by kernel_rfl) (fun _ _ _ h => h) (Or.inl ⟨by rfl, ?_⟩) hH ?_
      rotate_left
      · (intro w hSw; obtain ⟨r1, r2⟩ := hSw; go_simp; try with_reducible rfl)
      try simp only [Act.put, List.setIfInBounds_toArray, List.set_cons_zero, List.set_cons_succ]
      refine wpAnyH_done (by kernel_rfl) ?_ _
      refine NoPanic.normal ?_
      clear hH
      have hapx : MineF w.heap.size W5 v5 (fs.take (k + 1)) := by rw [Hts.out]; exact hm5
      obtain ⟨g5, c5, hv5, hrg5⟩ : ∃ g5 c5, v5 = .slice (some ⟨g5, 0, none⟩) (k + 1) c5 ∧ W5.rangeAt g5 (k * 128) (bv L) := by
        have hlen5 : (fs.take (k + 1)).length = k + 1 := by rw [List.length_take]; omega
        rcases hapx.range with ⟨_, h2⟩ | ⟨g, c, h1, _, _, _, h3⟩
        · rw [h2] at hlen5; simp at hlen5
        · refine ⟨g, c, by rw [h1, hlen5], ?_⟩
          have h4 := h3 k (by omega)
          have h5 : (fs.take (k + 1))[k]'(by omega) = L := by
            have h6 : (fs.take (k + 1))[k]? = some L := by rw [Hts.out, List.getElem?_append_right (by rw [Htkl.out]; exact Nat.le_refl _), Htkl.out, Nat.sub_self]; rfl
            exact (List.getElem?_eq_some_iff.1 h6).2
          rw [h5] at h4
          exact h4
      subst hv5
      have hlb : (bv L).length = 128 := by rw [bv_length, hml]
      have hd5 : decide ((k : Int) < ((k + 1 : Nat) : Int)) = true := by rw [decide_eq_true_eq]; omega
      go_wp2_with (refine wpList_load_mid rfl 100 (.tmp 65) rfl g5 (k * 128) rfl (bv L) _ hrg5 Tryd.underlying100 rfl (by rw [info_frame, hlb]) ?_)
      have hly := lay_any W5 F p Jk hj5 (2 + k) (by omega) L hml
      rw [show ((2 + k : Nat) : Int) = 2 + (k : Int) by omega] at hly
      refine hly.mono ?_
      rintro e W6 ⟨rfl, hj6, ht6⟩
      have hm6 := hapx.turned ht6 Hap.out
      have hn6 := hn5.turned hj5 ht6
      have ht6' := ht5.trans ht6
      clear hly hm5 hapx hj5 hn5 ht5 ht6 hrg5
      go_wp2_with fail
      go_roundw
      case rel => exact ⟨k + 1, by omega, by go_num, hm6, by rw [Hst.out]; exact hj6, hn6, ht6'⟩
      case measure => simp [intOf]; omega
    · obtain rfl : k = zs.length := by omega
      have hdz : decide ((zs.length : Int) < (zs.length : Int)) = false := by simp
      have hl2 : (J1.layTo fs zs.length).last = J.last + 1 := by rw [Jn.layTo_last]; exact HJ1.out.1
      have hs2b : (J1.layTo fs zs.length).seq = J.seq := by rw [Jn.layTo_seq]; exact HJ1.out.2.1
      have hn2b : (J1.layTo fs zs.length).D.n = J.D.n := by rw [Jn.layTo_n]; exact HJ1.out.2.2
      have HL2 := Lib.hid (And.intro hl2 (And.intro hs2b hn2b))
      rw [List.take_of_length_le (by rw [Hfl.out]; exact Nat.le_refl _)] at hmr
      clear hl2 hs2b hn2b
      generalize J1.layTo fs zs.length = J2 at *
      go_wp2_with fail
      refine (jflush_any wr F p J2 hjr).mono ?_
      rintro e W3 ⟨rfl, hj3, ht3⟩
      have hm3 := hmr.turned ht3 Hap.out
      have hn3 := hnr.turned hjr ht3
      replace ht3 := htr.trans ht3
      have HL3 : Hid (J2.flush.last = J.last + 1 ∧ J2.flush.seq = J.seq ∧ J2.flush.D.n = J.D.n) := by
        show _ ∧ _ ∧ _
        rw [Jn.flush_last, Jn.flush_seq, Jn.flush_n]
        exact HL2.out
      clear hmr hjr hnr htr HL2 hszr
      generalize J2.flush = J3 at *
      obtain ⟨g5, c5, hv5⟩ : ∃ g5 c5, u7 = .slice (some ⟨g5, 0, none⟩) zs.length c5 := by
        rcases hm3.range with ⟨_, h2⟩ | ⟨g, c, h1, _, _, _, h3⟩
        · have h4 := Hfl.out
          rw [h2] at h4
          exact absurd h4.symm Hz0.out
        · exact ⟨g, c, by rw [h1, Hfl.out]⟩
      subst hv5
      obtain ⟨q0, q1, q2, q3⟩ := hj3.cells
      rw [HL3.out.1, show ((J.last + 1 : Nat) : Int) = (J.last : Int) + 1 by omega] at q1
      rw [HL3.out.2.1] at q2
      have hS0 : MkHeld p ((J.last : Int) + 1) J.seq W3.drew := ⟨q1, q2⟩
      replace hm3 := hm3.drew
      replace hj3 := hj3.drew
      replace hn3 : Nib W3.drew := hn3.below (Below.refl _ W3).drew
      replace ht3 := ht3.drew
      have Hmk := fun (W : World) (hn : Nib W) => marked_any W (J.last + 1) zs.length (J.seq + 1) hlast (by omega) hn
      rw [show ((J.last + 1 : Nat) : Int) = (J.last : Int) + 1 by omega] at Hmk
      have HMK := Lib.hid Hmk
      have hml : (markF (J.last + 1) zs.length (J.seq + 1)).length = 128 := mkF_length _ _ _
      have hws : IntKind.i64.wrap (J.seq + 1) = J.seq + 1 := IntWalk.i64_in _ (by omega)
      have hHm : IntKind.i64.wrap (((J.last : Int) + 1).tmod 2) = (((J.last + 1) % 2 : Nat) : Int) := by
        rw [Int.tmod_eq_emod_of_nonneg (by omega), IntWalk.i64_in _ (by omega)]
        omega
      have HHm := Lib.hid hHm
      clear q0 q1 q2 q3 Hmk hHm
      generalize markF (J.last + 1) zs.length (J.seq + 1) = M at *
      go_wp2_with fail
      refine wp_region_noPanic ?_
      refine wp_region_held_drew (S := (MkHeld p ((J.last : Int) + 1) J.seq)) (by kernel_rfl) hS0 (fun hH => ?_)
      refine take_at (i := 0) (v := ?_) rfl (by kernel_rfl) (by kernel_rfl) (by kernel_rfl) (fun _ _ _ h => h) (Or.inl ⟨by rfl, ?_⟩) hH ?_
      rotate_left
      · (intro w hSw; obtain ⟨r1, r2⟩ := hSw; go_simp; try with_reducible rfl)
      try simp only [Act.put, List.setIfInBounds_toArray, List.set_cons_zero, List.set_cons_succ]
      refine take_at (i := 1) (v := ?_) rfl (by kernel_rfl) (by kernel_rfl) (by kernel_rfl) (fun _ _ _ h => h) (Or.inl ⟨by rfl, ?_⟩) hH ?_
      rotate_left
      · (intro w hSw; obtain ⟨r1, r2⟩ := hSw; go_simp; try with_reducible rfl)
      try simp only [Act.put, List.setIfInBounds_toArray, List.set_cons_zero, List.set_cons_succ]
      refine take_at (i := 2) (v := ?_) rfl (by kernel_rfl) (by kernel_rfl) (by kernel_rfl) (fun _ _ _ h => h) (Or.inl ⟨by rfl, ?_⟩) hH ?_
      rotate_left
      · (intro w hSw; obtain ⟨r1, r2⟩ := hSw; go_simp; try with_reducible rfl)
      try simp only [Act.put, List.setIfInBounds_toArray, List.set_cons_zero, List.set_cons_succ]
      refine take_at (i := 3) (v := ?_) rfl (by kernel_rfl) (by kernel_rfl) (by kernel_rfl) (fun _ _ _ h => h) (Or.inl ⟨by rfl, ?_⟩) hH ?_
      rotate_left
      · (intro w hSw; obtain ⟨r1, r2⟩ := hSw; go_simp; try with_reducible rfl)
      try simp only [Act.put, List.setIfInBounds_toArray, List.set_cons_zero, List.set_cons_succ]
      refine take_at (i := 4) (v := ?_) rfl (by kernel_rfl) (by kernel_rfl) (by kernel_rfl) (fun _ _ _ h => h) (Or.inl ⟨by rfl, ?_⟩) hH ?_
      rotate_left
      · (intro w hSw; obtain ⟨r1, r2⟩ := hSw; go_simp; try with_reducible rfl)
      try simp only [Act.put, List.setIfInBounds_toArray, List.set_cons_zero, List.set_cons_succ]
      refine take_at (i := 5) (v := ?_) rfl (by kernel_rfl) (by kernel_rfl) (by kernel_rfl) (fun _ _ _ h => h) (Or.inl ⟨by rfl, ?_⟩) hH ?_
      rotate_left
      · (intro w hSw; obtain ⟨r1, r2⟩ := hSw; go_simp; try with_reducible rfl)
      try simp only [Act.put, List.setIfInBounds_toArray, List.set_cons_zero, List.set_cons_succ]
      refine take_at (i := 6) (v := ?_) rfl (by kernel_rfl) (by kernel_rfl) (by kernel_rfl) (fun _ _ _ h => h) (Or.inl ⟨by rfl, ?_⟩) hH ?_
      rotate_left
      · (intro w hSw; obtain ⟨r1, r2⟩ := hSw; go_simp; try with_reducible rfl)
      try simp only [Act.put, List.setIfInBounds_toArray, List.set_cons_zero, List.set_cons_succ]
      refine take_at (i := 7) (v := ?_) rfl (by kernel_rfl) (by kernel_rfl) (by kernel_rfl) (fun _ _ _ h => h) (Or.inl ⟨by rfl, ?_⟩) hH ?_
      rotate_left
      · (intro w hSw; obtain ⟨r1, r2⟩ := hSw; go_simp; try with_reducible rfl)
      try simp only [Act.put, List.setIfInBounds_toArray, List.set_cons_zero, List.set_cons_succ]
      refine take_at (i := 8) (v := ?_) rfl (by kernel_rfl) (by kernel_rfl) (by kernel_rfl) (fun _ _ _ h => h) (Or.inl ⟨by rfl, ?_⟩) hH ?_
      rotate_left
      · (intro w hSw; obtain ⟨r1, r2⟩ := hSw; go_simp; try with_reducible rfl)
      try simp only [Act.put, List.setIfInBounds_toArray, List.set_cons_zero, List.set_cons_succ]
      refine take_at (i := 9) (v := ?_) rfl (by kernel_rfl) (by kernel_rfl) (by kernel_rfl) (fun _ _ _ h => h) (Or.inl ⟨by rfl, ?_⟩) hH ?_
      rotate_left
      · (intro w hSw; obtain ⟨r1, r2⟩ := hSw; go_simp; try with_reducible rfl)
      try simp only [Act.put, List.setIfInBounds_toArray, List.set_cons_zero, List.set_cons_succ]
      refine take_at (i := 10) (v := ?_) rfl (by kernel_rfl) (by kernel_rfl) (by kernel_rfl) (fun _ _ _ h => h) (Or.inl ⟨by rfl, ?_⟩) hH ?_
      rotate_left
      · (intro w hSw; obtain ⟨r1, r2⟩ := hSw; go_simp; try with_reducible rfl)
      try simp only [Act.put, List.setIfInBounds_toArray, List.set_cons_zero, List.set_cons_succ]
      refine take_at (i := 11) (v := ?_) rfl (by kernel_rfl) (by kernel_rfl) (by kernel_rfl) (fun _ _ _ h => h) (Or.inl ⟨by rfl, ?_⟩) hH ?_
      rotate_left
      · (intro w hSw; obtain ⟨r1, r2⟩ := hSw; go_simp; try with_reducible rfl)
      try simp only [Act.put, List.setIfInBounds_toArray, List.set_cons_zero, List.set_cons_succ]
      refine take_at (i := 12) (v := ?_) rfl (by kernel_rfl) (by kernel_rfl) (by kernel_rfl) (fun _ _ _ h => h) (Or.inl ⟨by rfl, ?_⟩) hH ?_
      rotate_left
      · (intro w hSw; obtain ⟨r1, r2⟩ := hSw; go_simp; try with_reducible rfl)
      try simp only [Act.put, List.setIfInBounds_toArray, List.set_cons_zero, List.set_cons_succ]
      refine take_at (i := 13) (v := ?_) rfl (by kernel_rfl) (by kernel_rfl) (by kernel_rfl) (fun _ _ _ h => h) (Or.inl ⟨by rfl, ?_⟩) hH ?_
      rotate_left
      · (intro w hSw; obtain ⟨r1, r2⟩ := hSw; go_simp; try with_reducible rfl)
      try simp only [Act.put, List.setIfInBounds_toArray, List.set_cons_zero, List.set_cons_succ]
      refine take_at (i := 14) (v := ?_) rfl (by kernel_rfl) (by kernel_rfl) (by kernel_rfl) (fun _ _ _ h => h) (Or.inl ⟨by rfl, ?_⟩) hH ?_
      rotate_left
      · (intro w hSw; obtain ⟨r1, r2⟩ := hSw; go_simp; try with_reducible rfl)
      try simp only [Act.put, List.setIfInBounds_toArray, List.set_cons_zero, List.set_cons_succ]
      refine take_at (i := 15) (v := ?_) rfl (by kernel_rfl) (by kernel_rfl) (by kernel_rfl) (fun _ _ _ h => h) (Or.inl ⟨by rfl, ?_⟩) hH ?_
      rotate_left
      · (intro w hSw; obtain ⟨r1, r2⟩ := hSw; go_simp; try with_reducible rfl)
      try simp only [Act.put, List.setIfInBounds_toArray, List.set_cons_zero, List.set_cons_succ]
      refine take_at (i := 16) (v := ?_) rfl (by kernel_rfl) (by kernel_rfl) (by kernel_rfl) (fun _ _ _ h => h) (Or.inl ⟨by rfl, ?_⟩) hH ?_
      rotate_left
      · (intro w hSw; obtain ⟨r1, r2⟩ := hSw; go_simp; try with_reducible rfl)
      try simp only [Act.put, List.setIfInBounds_toArray, List.set_cons_zero, List.set_cons_succ]
      refine take_at (i := 17) (v := ?_) rfl (by kernel_rfl) (by kernel_rfl) (by kernel_rfl) (fun _ _ _ h => h) (Or.inl ⟨by rfl, ?_⟩) hH ?_
      rotate_left
      · (intro w hSw; obtain ⟨r1, r2⟩ := hSw; go_simp; try with_reducible rfl)
      try simp only [Act.put, List.setIfInBounds_toArray, List.set_cons_zero, List.set_cons_succ]
      refine wpAnyH_ready (rs := [18]) (by kernel_rfl) (by simp) ?_
      refine ready_at rfl (fun K hK => ?_) AllReadyH.nil
      go_simp
      refine (HMK.out _ hn3).mono ?_
      rintro e W4 ⟨rfl, hb⟩
      have hHn := hH.below hb
      replace hj3 := hj3.below hb
      replace hn3 := hn3.below hb
      replace ht3 := ht3.trans (Turned.of_below (T := JT F p) hb)
      replace hm3 := hm3.below hb
      clear hb hH
      go_wp2_with fail
      refine hK.out _ _ hHn (fun hH => ?_)
      clear hHn
      clear hK K
      try simp only [Act.put, List.setIfInBounds_toArray, List.set_cons_zero, List.set_cons_succ]
      refine wpAnyH_ready (rs := [19]) (by kernel_rfl) (by simp) ?_
      refine ready_at rfl (fun K hK => ?_) AllReadyH.nil
      go_simp
      rw [HHm.out]
      have hly := lay_any W4 F p J3 hj3 ((J.last + 1) % 2) (by omega) M hml
      refine hly.mono ?_
      rintro e W5 ⟨rfl, hj5, ht45⟩
      have hm5 := hm3.turned ht45 Hap.out
      have hn5 := hn3.turned hj3 ht45
      have ht5 := ht3.trans ht45
      have hHn : MkHeld p ((J.last : Int) + 1) J.seq W5 := by
        obtain ⟨_, r1, r2, _⟩ := hj5.cells
        rw [Jn.lay_last, HL3.out.1, show ((J.last + 1 : Nat) : Int) = (J.last : Int) + 1 by omega] at r1
        rw [Jn.lay_seq, HL3.out.2.1] at r2
        exact ⟨r1, r2⟩
      clear hly hm3 hj3 hn3 ht3 ht45 hH
      go_wp2_with fail
      refine hK.out _ _ hHn (fun hH => ?_)
      clear hHn
      clear hK K
      try simp only [Act.put, List.setIfInBounds_toArray, List.set_cons_zero, List.set_cons_succ]
      refine wpAnyH_done (by kernel_rfl) ?_ _
      refine NoPanic.normal ?_
      have HJ5 : Hid ((J3.lay ((J.last + 1) % 2) M).D.n = J.D.n ∧ (J3.lay ((J.last + 1) % 2) M).seq = J.seq) := by
        show _ ∧ _
        rw [Jn.lay_n, Jn.lay_seq]
        exact ⟨HL3.out.2.2, HL3.out.2.1⟩
      clear hH
      generalize J3.lay ((J.last + 1) % 2) M = J5 at *
      go_wp2_with fail
      refine (jflush_any W5 F p J5 hj5).mono ?_
      rintro e W6 ⟨rfl, hj6, ht6⟩
      have hm6 := hm5.turned ht6 Hap.out
      have hn6 := hn5.turned hj5 ht6
      replace ht6 := ht5.trans ht6
      have hn6b : 2 ≤ J5.flush.D.n := by rw [Jn.flush_n, HJ5.out.1]; exact hn2
      have HS6 : Hid (J5.flush.seq = J.seq) := by
        show _ = _
        rw [Jn.flush_seq]
        exact HJ5.out.2
      clear hm5 hj5 hn5 ht5
      generalize J5.flush = J6 at *
      go_wp2_with fail
      refine (spread_any W6 F p J6 hj6 hn6 hn6b w.heap.size _ fs hm6 Hap.out).mono ?_
      rintro e W7 ⟨rfl, hj7, ht7⟩
      replace ht7 := ht6.trans ht7
      clear hm6 hj6 hn6 ht6 hn6b
      have hs7 : (J6.spread fs).seq = J.seq := by rw [Jn.spread, Jn.flush_seq, Jn.spreads_seq]; exact HS6.out
      generalize J6.spread fs = J7 at *
      obtain ⟨q0, q1, q2, q3⟩ := hj7.cells
      rw [hs7] at q2
      by_cases h7 : J7.off = 0
      · have hw7 := HW.out
        rw [if_pos h7] at hw7
        have HW7 := Lib.hid hw7
        rw [h7] at q3
        have f2 := frozen_p hj7.head 2
        have hj8 := hj7.put_seq (J.seq + 1)
        have ht8 := ht7.trans ((turned_one W7 p 2 (.int .i64 (J.seq + 1))).jp F)
        obtain ⟨r0, r1, r2, r3⟩ := hj8.cells
        rw [show ({ J7 with seq := J.seq + 1 } : Jn).off = 0 from h7] at r3
        have HF := Lib.hid (And.intro hj8 ht8)
        have H7 := Lib.hid h7
        clear hj7 ht7 hj8 ht8 h7 hw7 HW q0 q1 r0 r1 r2
        go_wp2_with fail
        go_ret
        rw [HW7.out]
        exact ⟨by show Ending.returned (.int .i64 0) = .returned (.int .i64 J7.off); rw [H7.out], HF.out⟩
      · have hw7 := HW.out
        rw [if_neg h7] at hw7
        have HW7 := Lib.hid hw7
        have hd7 : (J7.off == 0) = false := by simpa using h7
        have HF := Lib.hid (And.intro hj7 ht7)
        clear hj7 ht7 h7 hw7 HW q0 q1 q2
        go_wp2_with fail
        go_ret
        rw [HW7.out]
        exact ⟨rfl, HF.out⟩
end Go.Proofs.YtbmmcaoifkboiaaDoor

/- take: a frame read, and looked at. -/
set_option linter.unusedVariables false
set_option linter.unusedSimpArgs false
set_option maxRecDepth 100000
namespace Go.Proofs.YtbmmcaoifkboiaaDoor
open Go.RowKit

/-- take: the frame, is it right and of that kind, and the error -/
def Dk.take (D : Dk) (k kind : Nat) : List UInt8 × Bool × Int :=
  if D.off then (z128, false, 43) else (sec D.now k, (fright (sec D.now k) && decide (fkind (sec D.now k) = kind)), 0)
theorem run_arrayAt_frame (W : World) (a : Option Addr) (cap : Nat) : (Instr.arrayAt 100 (.slice a 128 cap)).run Tryd.prog W = .ok (.pointer a) W := by
  unfold Instr.arrayAt
  simp only [Sem.run_bind, run_underlying Tryd.underlying100, Result.andThen]
  rfl
/-- block g is a row of n bytes -/
def RowN (w : World) (g : Nat) (T : TypeId) (n : Nat) : Prop := ∃ R, RowB w g T R ∧ R.length = n
theorem RowB.rowN {w : World} {g : Nat} {T : TypeId} {L : List UInt8} (h : RowB w g T L) {n : Nat} (hl : L.length = n) : RowN w g T n := ⟨L, h, hl⟩
theorem RowN.below {w w' : World} {g : Nat} {T : TypeId} {n : Nat} (h : RowN w g T n) (hb : Below w.heap.size w w') : RowN w' g T n := by
  obtain ⟨R, h1, h2⟩ := h
  exact ⟨R, h1.below hb, h2⟩
theorem RowN.run_store {w : World} {g : Nat} {T : TypeId} {n : Nat} (h : RowN w g T n) {l : List UInt8} (hl : l.length = n) : (storeCells ⟨g, 0, none⟩ (bv l)).run Tryd.prog w = .ok () (w.setCells g 0 (bv l)) := by
  obtain ⟨R, h1, h2⟩ := h
  exact h1.run_store (by omega)
theorem RowN.store {w : World} {g : Nat} {T : TypeId} {n : Nat} (h : RowN w g T n) {l : List UInt8} (hl : l.length = n) : RowB (w.setCells g 0 (bv l)) g T l := by
  obtain ⟨R, h1, h2⟩ := h
  exact h1.store (by omega)
/-- what is held through the last statement -/
def TkHeld (T : TypeId) (g r : Nat) (L : List UInt8) (B : Nat) (w0 W : World) : Prop := RowB W g T L ∧ RowN W r T 128 ∧ Below B w0 W
theorem tk_keep {T : TypeId} {g r : Nat} {L : List UInt8} {w0 W W' : World} (h : TkHeld T g r L w0.heap.size w0 W) (hb : Below W.heap.size W W') : TkHeld T g r L w0.heap.size w0 W' :=
  ⟨h.1.below hb, h.2.1.below hb, h.2.2.trans (hb.mono h.2.2.size)⟩
theorem tk_store {T : TypeId} {g r : Nat} {L : List UInt8} {w0 W : World} (h : TkHeld T g r L w0.heap.size w0 W) (hl : L.length = 128) (hne : r ≠ g) (hr : w0.heap.size ≤ r) :
    TkHeld T g r L w0.heap.size w0 (W.setCells r 0 (bv L)) ∧ (storeCells ⟨r, 0, none⟩ (bv L)).run Tryd.prog W = .ok () (W.setCells r 0 (bv L)) ∧ RowB (W.setCells r 0 (bv L)) r T L := by
  have hT := turned_cells W r 0 (bv L)
  have hs := h.2.1.store hl
  exact ⟨⟨h.1.turned hT (fun e => hne e.symm), hs.rowN hl, h.2.2.trans (hT.below h.2.2.size (fun k hk => by omega))⟩, h.2.1.run_store hl, hs⟩
theorem cell_frame {w : World} {B o : Nat} {L : List UInt8} (h : IsB w (.slice (some ⟨B, o, none⟩) 128 128) L) (hl : L.length = 128) : w.rangeAt B o (bv L) := fun j v hj => by
  have hjl : j < L.length := by
    have := (List.getElem?_eq_some_iff.1 hj).1
    simpa [bv] using this
  rw [bv_get L j hjl] at hj
  rw [isB_cell h j hjl]
  exact hj

set_option maxHeartbeats 8000000 in
theorem take_any (w : World) (F : Ft) (p : Nat) (J : Jn) (h : JAt w F p J) (hn : Nib w) (k kind : Nat) (hk : k < J.D.n) (hkd : kind ≤ 3) :
    Calls Tryd.prog 60 #[jptr p, .int .i64 (k : Int), .int .i64 (kind : Int)] w fun e w' =>
      e = .returned (.tuple #[.agg (bv (J.D.take k kind).1).toArray, .bool (J.D.take k kind).2.1, .int .i64 (J.D.take k kind).2.2]) ∧ Below w.heap.size w w' := by
  have hnm := h.disk.ok.nm
  obtain ⟨W1, hW1⟩ : ∃ W1, W1 = w.alloc (.cells (bv z128).toArray 100) := ⟨_, rfl⟩
  have hr1 : RowB W1 w.heap.size 100 z128 := by rw [hW1]; exact RowB.alloc w 100 z128
  have hB1 : Below w.heap.size w W1 := by rw [hW1]; exact (Below.refl _ _).alloc (Nat.le_refl _) _
  have h1 := h.below hB1
  have hz1 : W1.heap.size = w.heap.size + 1 := by rw [hW1]; simp
  obtain ⟨c0, c1, c2, c3⟩ := h1.cells
  have HR := Lib.hid (read_any W1 F J.D h1.disk k (by omega) (by omega))
  cases ho : J.D.off with
  | true =>
    have e1 : J.D.take k kind = (z128, false, 43) := by simp [Dk.take, ho]
    have e2 : J.D.read k = ([], 43) := by simp [Dk.read, ho]
    rw [e1]
    rw [e2] at HR
    clear e1 e2 h1 h ho c1 c2 c3
    go_enter Tryd.func60, Tryd.ntmps60
    go_upto_region 1 with (refine wpList_alloc_frame rfl rfl ?_)
    rw [← hW1]
    clear hW1
    go_wp2_with fail
    refine HR.out.mono ?_
    rintro e W2 ⟨v, rfl, hg⟩
    have hb2 := hg.below
    have hr2 := hr1.below hb2
    have hB2 := hB1.trans (hb2.mono hB1.size)
    have hbf := fun W => zero_frame W
    have hst := hr2.run_store (l := z128) rfl
    have hr3 := hr2.store (l := z128) rfl
    have hB3 := hB2.trans ((turned_cells W2 w.heap.size 0 (bv z128)).below (B := w.heap.size) hB2.size (fun k hk => by omega))
    have hv := hr3.run_load z128_length
    have hlb : (bv z128).length = 128 := by rw [bv_length, z128_length]
    generalize W2.setCells w.heap.size 0 (bv z128) = W3 at *
    clear hr1 hr2 hr3 hB1 hB2 hb2 hg HR c0
    go_wp2_with fail
    exact bodyPost_ret (results_cell_two Tryd.results60 rfl hv) rfl ⟨rfl, hB3⟩
  | false =>
    have e1 : J.D.take k kind = (sec J.D.now k, (fright (sec J.D.now k) && decide (fkind (sec J.D.now k) = kind)), 0) := by simp [Dk.take, ho]
    have e2 : J.D.read k = (sec J.D.now k, 0) := by simp [Dk.read, ho, hk]
    rw [e1]
    rw [e2] at HR
    have hl := sec_length h.disk.ok.now hk
    generalize sec J.D.now k = L at *
    clear e1 e2 h1 h ho c1 c2 c3
    go_enter Tryd.func60, Tryd.ntmps60
    go_upto_region 1 with (refine wpList_alloc_frame rfl rfl ?_)
    rw [← hW1]
    clear hW1
    go_wp2_with fail
    refine HR.out.mono ?_
    rintro e W2 ⟨v, rfl, hg⟩
    have hb2 := hg.below
    have hr2 := hr1.below hb2
    have hB2 := hB1.trans (hb2.mono hB1.size)
    have hi2 := hg.isB
    have hv : v = .slice (some ⟨W1.heap.size, 0, none⟩) 128 128 := by
      rcases hg with ⟨rfl, _⟩ | ⟨_, rfl, _⟩
      · simp at hl
      · rfl
    subst hv
    have hrg := cell_frame hi2 hl
    have hlb : (bv L).length = 128 := by rw [bv_length, hl]
    have hlz : (bv z128).length = 128 := by rw [bv_length, z128_length]
    have hat := fun W => run_arrayAt_frame W (some ⟨W1.heap.size, 0, none⟩) 128
    clear hr1 hB1 hb2 hg HR c0 hi2 hz1
    go_upto_region 5 with (first | (refine wpList_alloc_frame rfl rfl ?_) | (refine wpList_load_mid rfl 100 (.tmp 26) rfl W1.heap.size 0 rfl (bv L) _ hrg Tryd.underlying100 rfl (by rw [info_frame, hlb]) ?_) | (refine wpList_store_last 100 (.tmp 11) (.tmp 27) rfl _ (bv L).toArray rfl rfl rfl (by rw [info_frame, List.size_toArray, hlb]) (by rw [List.size_toArray, List.size_toArray, hlb, hlz]) (all_oneCell_toArray (bv_oneCell L)) ?_))
    obtain ⟨W3, hW3⟩ : ∃ W3, W3 = W2.alloc (.cells (bv L).toArray 100) := ⟨_, rfl⟩
    have hr3 : RowB W3 W2.heap.size 100 L := by rw [hW3]; exact RowB.alloc W2 100 L
    have hb3 : Below W2.heap.size W2 W3 := by rw [hW3]; exact (Below.refl _ _).alloc (Nat.le_refl _) _
    have hB3 := hB2.trans (hb3.mono hB2.size)
    have hR3 := hr2.below hb3
    have hne : w.heap.size ≠ W2.heap.size := by have := hr2.lt; omega
    rw [← hW3]
    have hH0 : TkHeld 100 W2.heap.size w.heap.size L w.heap.size w W3.drew := ⟨hr3, hR3.rowN z128_length, hB3.drew⟩
    clear hW3 hr3 hb3 hB3 hR3 hr2 hB2 hrg hat
    generalize W2.heap.size = g at *
    cases hf : fright L with
    | false =>
      refine wp_region_noPanic ?_
      refine wp_region_held_drew (S := (TkHeld 100 g w.heap.size L w.heap.size w)) (by kernel_rfl) hH0 (fun hH => ?_)
      refine take_at (i := 0) (v := .agg (bv L).toArray) rfl (by kernel_rfl) (by kernel_rfl) (by kernel_rfl) (fun _ _ _ h => h) (yieldsIf_load_mid rfl 100 (.tmp 11) rfl g 0 rfl (bv L) _ (fun W hW => hW.1.range) Tryd.underlying100 rfl (by rw [info_frame, bv_length, hl])) hH ?_
      try simp only [Act.put, List.setIfInBounds_toArray, List.set_cons_zero, List.set_cons_succ]
      refine take_at (i := 1) (v := .agg (bv L).toArray) rfl (by kernel_rfl) (by kernel_rfl) (by kernel_rfl) (fun _ _ _ h => h) (yieldsIf_load_mid rfl 100 (.tmp 11) rfl g 0 rfl (bv L) _ (fun W hW => hW.1.range) Tryd.underlying100 rfl (by rw [info_frame, bv_length, hl])) hH ?_
      try simp only [Act.put, List.setIfInBounds_toArray, List.set_cons_zero, List.set_cons_succ]
      refine wpAnyH_ready (rs := [2]) (by kernel_rfl) (by simp) ?_
      refine ready_at rfl (fun K hK => ?_) AllReadyH.nil
      go_simp
      refine (fright_any _ L hl (hn.below hH.2.2)).mono ?_
      rintro e W4 ⟨rfl, hb4⟩
      rw [hf]
      have hH4 := tk_keep hH hb4
      clear hb4 hH
      go_wp2_with fail
      refine hK.out _ _ hH4 (fun hH => ?_)
      clear hH4
      clear hK K
      try simp only [Act.put, List.setIfInBounds_toArray, List.set_cons_zero, List.set_cons_succ]
      refine take_at (i := 3) (v := ?_) rfl (by kernel_rfl) (by kernel_rfl) (by kernel_rfl) (fun _ _ _ h => h) (Or.inl ⟨by rfl, ?_⟩) hH ?_
      rotate_left
      · (intro w hSw; skip; go_simp; try with_reducible rfl)
      try simp only [Act.put, List.setIfInBounds_toArray, List.set_cons_zero, List.set_cons_succ]
      refine take_at (i := 4) (v := undef) rfl (by kernel_rfl) (by kernel_rfl) (by kernel_rfl) (fun _ _ _ h => h) (Or.inr ⟨by rfl, rfl⟩) hH ?_
      try simp only [Act.put, List.setIfInBounds_toArray, List.set_cons_zero, List.set_cons_succ]
      refine take_at (i := 5) (v := undef) rfl (by kernel_rfl) (by kernel_rfl) (by kernel_rfl) (fun _ _ _ h => h) (Or.inr ⟨by rfl, rfl⟩) hH ?_
      try simp only [Act.put, List.setIfInBounds_toArray, List.set_cons_zero, List.set_cons_succ]
      refine take_at (i := 6) (v := undef) rfl (by kernel_rfl) (by kernel_rfl) (by kernel_rfl) (fun _ _ _ h => h) (Or.inr ⟨by rfl, rfl⟩) hH ?_
      try simp only [Act.put, List.setIfInBounds_toArray, List.set_cons_zero, List.set_cons_succ]
      refine take_at (i := 7) (v := undef) rfl (by kernel_rfl) (by kernel_rfl) (by kernel_rfl) (fun _ _ _ h => h) (Or.inr ⟨by rfl, rfl⟩) hH ?_
      try simp only [Act.put, List.setIfInBounds_toArray, List.set_cons_zero, List.set_cons_succ]
      refine take_at (i := 8) (v := ?_) rfl (by kernel_rfl) (by kernel_rfl) (by kernel_rfl) (fun _ _ _ h => h) (Or.inl ⟨by rfl, ?_⟩) hH ?_
      rotate_left
      · (intro w hSw; skip; go_simp; try with_reducible rfl)
      try simp only [Act.put, List.setIfInBounds_toArray, List.set_cons_zero, List.set_cons_succ]
      refine wpAnyH_ready (rs := [9]) (by kernel_rfl) (by simp) ?_
      refine ready_at rfl (fun K hK => ?_) AllReadyH.nil
      have hS9 := tk_store hH hl hne (Nat.le_refl _)
      generalize W4.setCells w.heap.size 0 (bv L) = W9 at hS9
      have hv := hS9.2.2.run_load hl
      have hst := hS9.2.1
      have hH9 := hS9.1
      clear hS9 hH
      go_simp
      refine hK.out _ _ hH9 (fun hH => ?_)
      clear hst
      clear hK K
      try simp only [Act.put, List.setIfInBounds_toArray, List.set_cons_zero, List.set_cons_succ]
      refine take_at (i := 10) (v := ?_) rfl (by kernel_rfl) (by kernel_rfl) (by kernel_rfl) (fun _ _ _ h => h) (Or.inl ⟨by rfl, ?_⟩) hH ?_
      rotate_left
      · (intro w hSw; skip; go_simp; try with_reducible rfl)
      try simp only [Act.put, List.setIfInBounds_toArray, List.set_cons_zero, List.set_cons_succ]
      refine take_at (i := 11) (v := ?_) rfl (by kernel_rfl) (by kernel_rfl) (by kernel_rfl) (fun _ _ _ h => h) (Or.inl ⟨by rfl, ?_⟩) hH ?_
      rotate_left
      · (intro w hSw; skip; go_simp; try with_reducible rfl)
      try simp only [Act.put, List.setIfInBounds_toArray, List.set_cons_zero, List.set_cons_succ]
      refine wpAnyH_done (by kernel_rfl) ?_ _
      refine NoPanic.normal ?_
      go_wp2_with fail
      exact bodyPost_ret (results_cell_two Tryd.results60 rfl hv) rfl ⟨by rw [hf]; first | rfl | (rw [Bool.true_and]; rfl) | (rw [Bool.true_and, ← hd]; rfl), hH.2.2⟩
    | true =>
      have hd : (((fkind L : Nat) : Int) == (kind : Int)) = decide (fkind L = kind) := int_beq _ _
      refine wp_region_noPanic ?_
      refine wp_region_held_drew (S := (TkHeld 100 g w.heap.size L w.heap.size w)) (by kernel_rfl) hH0 (fun hH => ?_)
      refine take_at (i := 0) (v := .agg (bv L).toArray) rfl (by kernel_rfl) (by kernel_rfl) (by kernel_rfl) (fun _ _ _ h => h) (yieldsIf_load_mid rfl 100 (.tmp 11) rfl g 0 rfl (bv L) _ (fun W hW => hW.1.range) Tryd.underlying100 rfl (by rw [info_frame, bv_length, hl])) hH ?_
      try simp only [Act.put, List.setIfInBounds_toArray, List.set_cons_zero, List.set_cons_succ]
      refine take_at (i := 1) (v := .agg (bv L).toArray) rfl (by kernel_rfl) (by kernel_rfl) (by kernel_rfl) (fun _ _ _ h => h) (yieldsIf_load_mid rfl 100 (.tmp 11) rfl g 0 rfl (bv L) _ (fun W hW => hW.1.range) Tryd.underlying100 rfl (by rw [info_frame, bv_length, hl])) hH ?_
      try simp only [Act.put, List.setIfInBounds_toArray, List.set_cons_zero, List.set_cons_succ]
      refine wpAnyH_ready (rs := [2]) (by kernel_rfl) (by simp) ?_
      refine ready_at rfl (fun K hK => ?_) AllReadyH.nil
      go_simp
      refine (fright_any _ L hl (hn.below hH.2.2)).mono ?_
      rintro e W4 ⟨rfl, hb4⟩
      rw [hf]
      have hH4 := tk_keep hH hb4
      clear hb4 hH
      go_wp2_with fail
      refine hK.out _ _ hH4 (fun hH => ?_)
      clear hH4
      clear hK K
      try simp only [Act.put, List.setIfInBounds_toArray, List.set_cons_zero, List.set_cons_succ]
      refine take_at (i := 3) (v := ?_) rfl (by kernel_rfl) (by kernel_rfl) (by kernel_rfl) (fun _ _ _ h => h) (Or.inl ⟨by rfl, ?_⟩) hH ?_
      rotate_left
      · (intro w hSw; skip; go_simp; try with_reducible rfl)
      try simp only [Act.put, List.setIfInBounds_toArray, List.set_cons_zero, List.set_cons_succ]
      refine take_at (i := 4) (v := .agg (bv L).toArray) rfl (by kernel_rfl) (by kernel_rfl) (by kernel_rfl) (fun _ _ _ h => h) (yieldsIf_load_mid rfl 100 (.tmp 11) rfl g 0 rfl (bv L) _ (fun W hW => hW.1.range) Tryd.underlying100 rfl (by rw [info_frame, bv_length, hl])) hH ?_
      try simp only [Act.put, List.setIfInBounds_toArray, List.set_cons_zero, List.set_cons_succ]
      refine take_at (i := 6) (v := ?_) rfl (by kernel_rfl) (by kernel_rfl) (by kernel_rfl) (fun _ _ _ h => h) (Or.inl ⟨by rfl, ?_⟩) hH ?_
      rotate_left
      · (intro w hSw; skip; go_simp; try with_reducible rfl)
      try simp only [Act.put, List.setIfInBounds_toArray, List.set_cons_zero, List.set_cons_succ]
      refine wpAnyH_ready (rs := [5]) (by kernel_rfl) (by simp) ?_
      refine ready_at rfl (fun K hK => ?_) AllReadyH.nil
      go_simp
      refine (fkind_any _ L hl).mono ?_
      rintro e W5 ⟨rfl, hb5⟩
      have hH5 := tk_keep hH hb5
      clear hb5 hH
      go_wp2_with fail
      refine hK.out _ _ hH5 (fun hH => ?_)
      clear hH5
      clear hK K
      try simp only [Act.put, List.setIfInBounds_toArray, List.set_cons_zero, List.set_cons_succ]
      refine take_at (i := 7) (v := ?_) rfl (by kernel_rfl) (by kernel_rfl) (by kernel_rfl) (fun _ _ _ h => h) (Or.inl ⟨by rfl, ?_⟩) hH ?_
      rotate_left
      · (intro w hSw; skip; go_simp; try with_reducible rfl)
      try simp only [Act.put, List.setIfInBounds_toArray, List.set_cons_zero, List.set_cons_succ]
      refine take_at (i := 8) (v := ?_) rfl (by kernel_rfl) (by kernel_rfl) (by kernel_rfl) (fun _ _ _ h => h) (Or.inl ⟨by rfl, ?_⟩) hH ?_
      rotate_left
      · (intro w hSw; skip; go_simp; try with_reducible rfl)
      try simp only [Act.put, List.setIfInBounds_toArray, List.set_cons_zero, List.set_cons_succ]
      refine wpAnyH_ready (rs := [9]) (by kernel_rfl) (by simp) ?_
      refine ready_at rfl (fun K hK => ?_) AllReadyH.nil
      have hS9 := tk_store hH hl hne (Nat.le_refl _)
      generalize W5.setCells w.heap.size 0 (bv L) = W9 at hS9
      have hv := hS9.2.2.run_load hl
      have hst := hS9.2.1
      have hH9 := hS9.1
      clear hS9 hH
      go_simp
      refine hK.out _ _ hH9 (fun hH => ?_)
      clear hst
      clear hK K
      try simp only [Act.put, List.setIfInBounds_toArray, List.set_cons_zero, List.set_cons_succ]
      refine take_at (i := 10) (v := ?_) rfl (by kernel_rfl) (by kernel_rfl) (by kernel_rfl) (fun _ _ _ h => h) (Or.inl ⟨by rfl, ?_⟩) hH ?_
      rotate_left
      · (intro w hSw; skip; go_simp; try with_reducible rfl)
      try simp only [Act.put, List.setIfInBounds_toArray, List.set_cons_zero, List.set_cons_succ]
      refine take_at (i := 11) (v := ?_) rfl (by kernel_rfl) (by kernel_rfl) (by kernel_rfl) (fun _ _ _ h => h) (Or.inl ⟨by rfl, ?_⟩) hH ?_
      rotate_left
      · (intro w hSw; skip; go_simp; try with_reducible rfl)
      try simp only [Act.put, List.setIfInBounds_toArray, List.set_cons_zero, List.set_cons_succ]
      refine wpAnyH_done (by kernel_rfl) ?_ _
      refine NoPanic.normal ?_
      go_wp2_with fail
      exact bodyPost_ret (results_cell_two Tryd.results60 rfl hv) rfl ⟨by rw [hf]; first | rfl | (rw [Bool.true_and]; rfl) | (rw [Bool.true_and, ← hd]; rfl), hH.2.2⟩
end Go.Proofs.YtbmmcaoifkboiaaDoor

/- Read: a block's bytes. -/
set_option linter.unusedVariables false
set_option linter.unusedSimpArgs false
set_option maxRecDepth 100000
namespace Go.Proofs.YtbmmcaoifkboiaaDoor
open Go.RowKit

/-- Read: the bytes, the error, the journal behind it -/
def Jn.read (J : Jn) (at_ : Int) : List UInt8 × Int × Jn :=
  if J.off ≠ 0 then ([], J.off, J)
  else if ¬ (0 ≤ at_ ∧ at_ < J.D.blocks) then ([], 2, J)
  else if J.D.off then ([], 43, { J with off := 43 })
  else if fright (sec J.D.now (J.D.home at_.toNat)) && decide (fkind (sec J.D.now (J.D.home at_.toNat)) = 3) && decide ((fplace (sec J.D.now (J.D.home at_.toNat)) : Int) = at_) then (fbytes (sec J.D.now (J.D.home at_.toNat)), 0, J)
  else ([], 62, J)
theorem Dk.home_lt {D : Dk} {i : Nat} (h : i < D.blocks) : D.home i < D.n := by unfold Dk.home; unfold Dk.blocks at *; omega

set_option maxHeartbeats 8000000 in
theorem jread_any (w : World) (F : Ft) (p : Nat) (J : Jn) (h : JAt w F p J) (hn : Nib w) (hn2 : 2 ≤ J.D.n) (at_ : Int) (h1 : -9223372036854775808 ≤ at_) (h2 : at_ ≤ 9223372036854775807) :
    Calls Tryd.prog 43 #[jptr p, .int .i64 at_] w fun e w' =>
      ∃ v, e = .returned (.tuple #[v, .int .i64 (J.read at_).2.1]) ∧ Held w.heap.size w' (fun w => IsB w v (J.read at_).1) ∧ JAt w' F p (J.read at_).2.2 ∧ Turned (JT F p) w w' := by
  obtain ⟨c0, c1, c2, c3⟩ := h.cells
  have hnm := h.disk.ok.nm
  by_cases h0 : J.off = 0
  case neg =>
    have e1 : J.read at_ = ([], J.off, J) := by rw [Jn.read, if_pos h0]
    rw [e1]
    have hd : (J.off == 0) = false := by simpa using h0
    have hd2 : (J.off != 0) = true := by simpa using h0
    have HJ := Lib.hid h.drew
    clear e1 h h0
    generalize J.off = o at *
    go_enter Tryd.func43, Tryd.ntmps43
    go_wp2_with fail
    go_region
    go_wp2_with fail
    go_ret2
    exact ⟨_, rfl, (fun _ _ => IsB.nil _), HJ.out, (Turned.refl _ w).drew⟩
  rw [h0] at c3
  have HB := Lib.hid (blocks_any w F p J h hn2)
  have hb8 : J.D.blocks ≤ 8191 := by unfold Dk.blocks; omega
  by_cases hin : 0 ≤ at_ ∧ at_ < (J.D.blocks : Int)
  case neg =>
    have e1 : J.read at_ = ([], 2, J) := by rw [Jn.read, if_neg (by simpa using h0), if_pos hin]
    rw [e1]
    have HJ := Lib.hid h
    clear e1 h c0 c1 c2 h0
    by_cases hlt : at_ < 0
    · have hd : decide (at_ < 0) = true := by simpa using hlt
      go_enter Tryd.func43, Tryd.ntmps43
      go_wp2_with fail
      go_ret2
      exact ⟨_, rfl, (fun _ _ => IsB.nil _), HJ.out, Turned.refl _ w⟩
    · have hd : decide (at_ < 0) = false := by simpa using hlt
      have hd2 : decide ((J.D.blocks : Int) ≤ at_) = true := by simp; omega
      generalize J.D.blocks = b at *
      go_enter Tryd.func43, Tryd.ntmps43
      go_wp2_with fail
      refine HB.out.mono ?_
      rintro e w1 ⟨rfl, rfl⟩
      go_wp2_with fail
      go_ret2
      exact ⟨_, rfl, (fun _ _ => IsB.nil _), HJ.out, Turned.refl _ w⟩
  obtain ⟨k, rfl⟩ := Int.eq_ofNat_of_zero_le hin.1
  have hk : k < J.D.blocks := by omega
  have hd : decide ((k : Int) < 0) = false := by simp
  have hd2 : decide ((J.D.blocks : Int) ≤ (k : Int)) = false := by simp; omega
  have HH := Lib.hid (home_any w F p J h hn2 k (by omega))
  have HK := Lib.hid (take_any w F p J h hn (J.D.home k) 3 (Dk.home_lt hk) (by omega))
  cases ho : J.D.off with
  | true =>
    have e1 : J.read k = ([], 43, { J with off := 43 }) := by rw [Jn.read, if_neg (by simpa using h0), if_neg (by simpa using hk), if_pos ho]
    have e2 : J.D.take (J.D.home k) 3 = (z128, false, 43) := by rw [Dk.take, if_pos ho]
    rw [e1]
    rw [e2] at HK
    have HJ := Lib.hid h
    clear e1 e2 h c1 c2 h0 ho hin
    generalize J.D.blocks = b at *
    generalize J.D.home k = hm at *
    have hlz : (bv z128).length = 128 := by rw [bv_length, z128_length]
    go_enter Tryd.func43, Tryd.ntmps43
    go_wp2_with fail
    refine HB.out.mono ?_
    rintro e w1 ⟨rfl, rfl⟩
    go_wp2_with fail
    refine HH.out.mono ?_
    rintro e w1 ⟨rfl, rfl⟩
    go_wp2_with fail
    refine HK.out.mono ?_
    rintro e w1 ⟨rfl, hb1⟩
    have hj1 := HJ.out.below hb1
    have hb2 : Below w1.heap.size w1 (w1.alloc (.cells (bv z128).toArray 100)) := (Below.refl _ _).alloc (Nat.le_refl _) _
    have hj2 := hj1.below hb2
    have ht2 := (Turned.of_below (T := JT F p) hb1).trans (Turned.of_below (T := JT F p) hb2)
    go_upto_region 8 with (first | (refine wpList_alloc_frame rfl rfl ?_) | (refine wpList_store_last 100 (.tmp 6) (.tmp 37) rfl _ (bv z128).toArray rfl rfl rfl (by rw [info_frame, List.size_toArray, hlz]) (by rw [List.size_toArray, hlz]) (all_oneCell_toArray (bv_oneCell z128)) ?_))
    generalize w1.alloc (.cells (bv z128).toArray 100) = w2 at *
    obtain ⟨g0, g1, g2, g3⟩ := hj2.cells
    have f3 := frozen_p hj2.head 3
    have HF := Lib.hid (And.intro (hj2.put_off 43) (ht2.trans ((turned_one w2 p 3 (.int .i64 43)).jp F)))
    clear hj1 hj2 ht2 hb1 hb2 c0
    go_wp2_with fail
    go_ret2
    exact ⟨_, rfl, (fun _ _ => IsB.nil _), HF.out⟩
  | false =>
    have hl := sec_length h.disk.ok.now (Dk.home_lt hk)
    have e2 : J.D.take (J.D.home k) 3 = (sec J.D.now (J.D.home k), (fright (sec J.D.now (J.D.home k)) && decide (fkind (sec J.D.now (J.D.home k)) = 3)), 0) := by rw [Dk.take, ho]; rfl
    have e1 : J.read k = if fright (sec J.D.now (J.D.home k)) && decide (fkind (sec J.D.now (J.D.home k)) = 3) && decide ((fplace (sec J.D.now (J.D.home k)) : Int) = (k : Int)) then (fbytes (sec J.D.now (J.D.home k)), 0, J) else ([], 62, J) := by
      rw [Jn.read, if_neg (by simpa using h0), if_neg (by simpa using hk), if_neg (by simp [ho]), Int.toNat_natCast]
    rw [e1]
    rw [e2] at HK
    have HJ := Lib.hid h
    clear e1 e2 h c0 c1 c2 h0 ho hin
    generalize J.D.blocks = b at *
    generalize J.D.home k = hm at *
    generalize sec J.D.now hm = L at *
    generalize (fright L && decide (fkind L = 3)) = ok at *
    have hlb : (bv L).length = 128 := by rw [bv_length, hl]
    have hlz : (bv z128).length = 128 := by rw [bv_length, z128_length]
    cases ok with
    | false =>
      rw [Bool.false_and, if_neg (by simp)]
      go_enter Tryd.func43, Tryd.ntmps43
      go_wp2_with fail
      refine HB.out.mono ?_
      rintro e w1 ⟨rfl, rfl⟩
      go_wp2_with fail
      refine HH.out.mono ?_
      rintro e w1 ⟨rfl, rfl⟩
      go_wp2_with fail
      refine HK.out.mono ?_
      rintro e w1 ⟨rfl, hb1⟩
      have hj1 := HJ.out.below hb1
      have hb2 : Below w1.heap.size w1 (w1.alloc (.cells (bv L).toArray 100)) := (Below.refl _ _).alloc (Nat.le_refl _) _
      have HF := Lib.hid (And.intro (hj1.below hb2) ((Turned.of_below (T := JT F p) hb1).trans (Turned.of_below (T := JT F p) hb2)))
      clear hj1 hb1 hb2
      go_upto_region 8 with (first | (refine wpList_alloc_frame rfl rfl ?_) | (refine wpList_store_last 100 (.tmp 6) (.tmp 37) rfl _ (bv L).toArray rfl rfl rfl (by rw [info_frame, List.size_toArray, hlb]) (by rw [List.size_toArray, List.size_toArray, hlz, hlb]) (all_oneCell_toArray (bv_oneCell L)) ?_))
      generalize w1.alloc (.cells (bv L).toArray 100) = w2 at *
      go_wp2_with fail
      go_ret2
      exact ⟨_, rfl, (fun _ _ => IsB.nil _), HF.out⟩
    | true =>
      rw [Bool.true_and]
      generalize hR : (if decide ((fplace L : Int) = (k : Int)) = true then (fbytes L, (0 : Int), J) else ([], 62, J)) = R
      have HR := Lib.hid hR
      clear hR
      have hne : (((fplace L : Nat) : Int) != (k : Int)) = !decide ((fplace L : Int) = (k : Int)) := by
        rw [bne, Bool.beq_eq_decide_eq]
      go_enter Tryd.func43, Tryd.ntmps43
      go_wp2_with fail
      refine HB.out.mono ?_
      rintro e w1 ⟨rfl, rfl⟩
      go_wp2_with fail
      refine HH.out.mono ?_
      rintro e w1 ⟨rfl, rfl⟩
      go_wp2_with fail
      refine HK.out.mono ?_
      rintro e w1 ⟨rfl, hb1⟩
      have hj1 := HJ.out.below hb1
      have hb2 : Below w1.heap.size w1 (w1.alloc (.cells (bv L).toArray 100)) := (Below.refl _ _).alloc (Nat.le_refl _) _
      have hj2 := hj1.below hb2
      have ht2 := (Turned.of_below (T := JT F p) hb1).trans (Turned.of_below (T := JT F p) hb2)
      have hr2 : RowB (w1.alloc (.cells (bv L).toArray 100)) w1.heap.size 100 L := RowB.alloc w1 _ L
      clear hj1 hb1 hb2
      go_upto_region 8 with (first | (refine wpList_alloc_frame rfl rfl ?_) | (refine wpList_store_last 100 (.tmp 6) (.tmp 37) rfl _ (bv L).toArray rfl rfl rfl (by rw [info_frame, List.size_toArray, hlb]) (by rw [List.size_toArray, List.size_toArray, hlz, hlb]) (all_oneCell_toArray (bv_oneCell L)) ?_))
      generalize w1.alloc (.cells (bv L).toArray 100) = w2 at *
      generalize w1.heap.size = g at *
      have hrg := hr2.range
      have HL := Lib.hid (fplace_any w2 L hl)
      go_wp2_with fail
      refine wp_load_mid 100 (.tmp 6) rfl g 0 rfl (bv L) _ hrg Tryd.underlying100 rfl (by rw [info_frame, hlb]) ?_
      go_wp2_with fail
      refine HL.out.mono ?_
      rintro e w3 ⟨rfl, hb3⟩
      have hj3 := hj2.below hb3
      have ht3 := ht2.trans (Turned.of_below (T := JT F p) hb3)
      have hr3 := hr2.below hb3
      have hrg3 := hr3.range
      clear hj2 ht2 hb3 hr2 hrg HL
      by_cases hpl : (fplace L : Int) = (k : Int)
      · have e5 := HR.out
        rw [if_pos (by simpa using hpl)] at e5
        subst e5
        rw [decide_eq_true hpl] at hne
        have HB4 := Lib.hid (fbytes_any w3 L hl)
        go_wp2_with (refine wpList_load_mid rfl 100 (.tmp 6) rfl g 0 rfl (bv L) _ hrg3 Tryd.underlying100 rfl (by rw [info_frame, hlb]) ?_)
        refine HB4.out.mono ?_
        rintro e w4 ⟨rfl, hw4⟩
        have hb4 : Below w3.heap.size w3 w4 := by rw [hw4]; exact (Below.refl _ _).alloc (Nat.le_refl _) _
        have hi4 : IsB w4 (.slice (some ⟨w3.heap.size, 16, none⟩) 112 112) (fbytes L) := by
          have := (RowB.alloc w3 100 L).isB 16 112 112 (by omega) (by omega) (by simp [maxLen])
          rw [← hw4, List.take_of_length_le (by simp [hl])] at this
          exact this
        have hr4 : RowB w4 w3.heap.size 100 L := by rw [hw4]; exact RowB.alloc w3 100 L
        have hH4 : Held w.heap.size w4 (fun w => IsB w (.slice (some ⟨w3.heap.size, 16, none⟩) 112 112) (fbytes L)) := fun W hW => by
          have := (hr4.keep (hW w3.heap.size ht3.size hr4.lt)).isB 16 112 112 (by omega) (by omega) (by simp [maxLen])
          rw [List.take_of_length_le (by simp [hl])] at this
          exact this
        have HF := Lib.hid (And.intro hH4 (And.intro (hj3.below hb4) (ht3.trans (Turned.of_below (T := JT F p) hb4))))
        clear hw4 hb4 hi4 hr4 hH4 hj3 ht3 hr3 hrg3
        go_wp2_with fail
        go_ret2
        exact ⟨_, rfl, HF.out⟩
      · have e5 := HR.out
        rw [if_neg (by simpa using hpl)] at e5
        subst e5
        rw [decide_eq_false hpl] at hne
        have HF := Lib.hid (And.intro hj3 ht3)
        clear hj3 ht3 hr3 hrg3
        go_wp2_with fail
        go_ret2
        exact ⟨_, rfl, (fun _ _ => IsB.nil _), HF.out⟩
end Go.Proofs.YtbmmcaoifkboiaaDoor

/- The pager in plain lists: what each call answers, and what is behind it. -/
set_option linter.unusedVariables false
set_option linter.unusedSimpArgs false
set_option maxRecDepth 100000
namespace Go.Proofs.YtbmmcaoifkboiaaDoor
open Go.RowKit

/-- a pager: its journal; which pages are taken, and the root: as the change has it, as it was; the change's pages; is there a change; why it is off -/
structure Pg where
  J : Jn
  now : List Bool
  root : Int
  was : List Bool
  wroot : Int
  own : List (Int × List UInt8)
  change : Bool
  off : Int
def z896 : List UInt8 := List.replicate 896 0
theorem z896_length : z896.length = 896 := by simp [z896]
/-- a table: the value under a key; a value put; a key taken away -/
def oLook (o : List (Int × List UInt8)) (k : Int) : Option (List UInt8) := (o.find? fun x => x.1 == k).map (·.2)
def oPut (o : List (Int × List UInt8)) (k : Int) (b : List UInt8) : List (Int × List UInt8) := if (oLook o k).isSome then o.map fun x => if x.1 = k then (k, b) else x else o ++ [(k, b)]
def oDel (o : List (Int × List UInt8)) (k : Int) : List (Int × List UInt8) := o.filter fun x => x.1 != k
def Pg.fails (P : Pg) (page : Int) : Int := if P.off ≠ 0 then P.off else if (P.now.length : Int) ≤ page ∨ page < -1 ∨ (0 ≤ page ∧ P.now.getD page.toNat false = false) then 81 else 0
def Pg.must (P : Pg) (page : Int) : Int := if P.fails page ≠ 0 ∨ page ≠ -1 then P.fails page else 81
/-- the first free page -/
def freeAt (t : List Bool) : Option Nat := t.findIdx? fun b => !b
def Pg.alloc (P : Pg) : (Int × Int) × Pg :=
  if P.fails (-1) ≠ 0 then ((0, P.fails (-1)), P) else match freeAt P.now with
  | none => ((0, 80), P)
  | some k => ((k, 0), { P with now := P.now.set k true, own := oPut P.own k z896, change := true })
def Pg.free (P : Pg) (page : Int) : Int × Pg :=
  if P.must page ≠ 0 then (P.must page, P) else if page = P.root then (2, P) else (0, { P with now := P.now.set page.toNat false, own := oDel P.own page, change := true })
/-- what an error of the journal's is to a pager -/
def heardOff (off e : Int) : Int := if e = 43 ∨ e = 44 then e else off
/-- the blocks from one on, one behind the other: bytes, the error, the journal behind it -/
def Jn.reads (J : Jn) (from_ : Int) : Nat → List UInt8 × Int × Jn
  | 0 => ([], 0, J)
  | k + 1 => let r := J.reads from_ k; if r.2.1 ≠ 0 then r else let s := r.2.2.read (from_ + k); if s.2.1 ≠ 0 then ([], s.2.1, s.2.2) else (r.1 ++ s.1, 0, s.2.2)
def Pg.read (P : Pg) (page : Int) : List UInt8 × Int × Pg :=
  if P.must page ≠ 0 then ([], P.must page, P) else match oLook P.own page with
  | some b => (b, 0, P)
  | none => let r := P.J.reads (2 + page * 8) 8; if r.2.1 ≠ 0 then ([], r.2.1, { P with J := r.2.2, off := heardOff P.off r.2.1 }) else (r.1, 0, { P with J := r.2.2 })
def Pg.write (P : Pg) (page : Int) (b : List UInt8) : Int × Pg :=
  if P.must page ≠ 0 then (P.must page, P) else if b.length ≠ 896 then (2, P) else (0, { P with own := oPut P.own page b, change := true })
def Pg.setRoot (P : Pg) (page : Int) : Int × Pg := if P.fails page ≠ 0 then (P.fails page, P) else (0, { P with root := page, change := true })
/-- bytes as blocks -/
def chunks : Nat → List UInt8 → List (List UInt8)
  | 0, _ => []
  | k + 1, b => b.take 112 :: chunks k (b.drop 112)
def placesFrom (from_ : Int) (k : Nat) : List Int := (List.range k).map fun (i : Nat) => from_ + (i : Int)
/-- the table's keys, rising -/
def keysOf (o : List (Int × List UInt8)) : List Int := (o.map (·.1)).mergeSort fun x y => decide (x ≤ y)
/-- what a Commit writes: places, blocks -/
def Pg.places (P : Pg) : List Int := placesFrom 0 2 ++ (keysOf P.own).flatMap fun k => placesFrom (2 + k * 8) 8
def Pg.blocks (P : Pg) : List (List UInt8) := chunks 2 (planB P.now P.root) ++ (keysOf P.own).flatMap fun k => chunks 8 ((oLook P.own k).getD [])
def Pg.commit (P : Pg) : Int × Pg :=
  if P.fails (-1) ≠ 0 then (P.fails (-1), P) else if P.change = false then (0, P) else
  let r := P.J.write P.places P.blocks
  if r.1 ≠ 0 then (r.1, { P with J := r.2, off := heardOff P.off r.1 }) else (0, { P with J := r.2, was := P.now, wroot := P.root, own := [], change := false })
def Pg.abort (P : Pg) : Pg := if P.fails (-1) = 0 then { P with now := P.was, root := P.wroot, own := [], change := false } else P
def Jn.pages (J : Jn) : Nat := (J.D.blocks - 2) / 8
/-- Format of a journal -/
def Jn.pformat (J : Jn) : Int × Jn := J.write (placesFrom 0 2) (chunks 2 (planB (List.replicate J.pages false) (-1)))
/-- Open of a journal: the error, the journal behind it, the pager -/
def Jn.popen (J : Jn) : Int × Jn × Option Pg :=
  let r := J.reads 0 2
  if r.2.1 ≠ 0 then (r.2.1, r.2.2, none) else if planOk r.1 r.2.2.pages = false then (82, r.2.2, none)
  else (0, r.2.2, some ⟨r.2.2, takenOf r.1 r.2.2.pages, rootOf r.1, takenOf r.1 r.2.2.pages, rootOf r.1, [], false, 0⟩)
end Go.Proofs.YtbmmcaoifkboiaaDoor

/- An append whose run is known. -/
set_option linter.unusedVariables false
set_option linter.unusedSimpArgs false
set_option maxRecDepth 100000
namespace Go.Proofs.YtbmmcaoifkboiaaDoor
open Go.RowKit

theorem wpList_append_run {ops : Array Oper} {w w' : World} {Q : Exit → Act → World → Prop} {a : Act} {o : Oper} {rest : List Oper} (hg : o.guard = none) (s x : Operand) (t t' : TypeId) (ho : o.op = .call { callee := .builtin .append, args := #[s, x], argTypes := #[t, t'] }) (u v r : Value)
    (hs : a.eval s = u) (hx : a.eval x = v) (hr : (Builtin.append_ #[t, t'] o.type #[u, v]).run Tryd.prog w = .ok r w') (h : wpList Tryd.prog ops Q rest (a.put o.dst r) w') : wpList Tryd.prog ops Q (o :: rest) a w := by
  refine wpList_plain hg fun K hK => ?_
  unfold Oper.wp execOp
  simp only [ho, resolve, invoke, builtin, Sem.run_bind, Sem.run_pure, Result.andThen_ok, List.map_toArray, List.map_cons, List.map_nil, hs, hx, hr]
  exact hK _ _ h

end Go.Proofs.YtbmmcaoifkboiaaDoor

/- A table's keys, rising. -/
set_option linter.unusedVariables false
set_option linter.unusedSimpArgs false
set_option maxRecDepth 100000
namespace Go.Proofs.YtbmmcaoifkboiaaDoor
open Go.RowKit

theorem upI_perm {a b : List Int} (h : a.Perm b) : upI a = upI b := by
  have tr : ∀ a b c : Int, decide (a ≤ b) = true → decide (b ≤ c) = true → decide (a ≤ c) = true := by
    intro a b c h1 h2
    simp only [decide_eq_true_eq] at *
    omega
  have to : ∀ a b : Int, (decide (a ≤ b) || decide (b ≤ a)) = true := by
    intro a b
    simp only [Bool.or_eq_true, decide_eq_true_eq]
    omega
  refine List.Perm.eq_of_pairwise (le := fun a b => decide (a ≤ b) = true) (fun a b _ _ h1 h2 => by simp only [decide_eq_true_eq] at h1 h2; omega) (List.pairwise_mergeSort tr to a) (List.pairwise_mergeSort tr to b) (((List.mergeSort_perm a _).trans h).trans (List.mergeSort_perm b _).symm)
def slen : Value → Nat | .slice _ n _ => n | _ => 0
theorem MineI.form {B : Nat} {w : World} {v : Value} {zs : List Int} (h : MineI B w v zs) : ∃ a cap, v = .slice a zs.length cap ∧ zs.length ≤ cap ∧ cap ≤ maxLen := by
  obtain ⟨a, c, h1, h2, h3, _⟩ := h.isI
  exact ⟨a, c, h1, h2, h3⟩
set_option maxHeartbeats 2000000 in
theorem keys_any (w : World) (M : Nat) (kv : List (Int × Value)) (h : OTab w M kv) (hl : kv.length ≤ 100000) :
    Calls Tryd.prog 38 #[.map (some M)] w fun e w' => ∃ v, e = .returned v ∧ MineI w.heap.size w' v (upI (kv.map (·.1))) ∧ Below w.heap.size w w' := by
  obtain ⟨W1, hrr, hI, hb1⟩ := h.run_range (P := Tryd.prog) (T := 66) Tryd.underlying66
  have hlt := h.lt
  have hs1 : w.heap.size + 1 ≤ W1.heap.size := by have := hI.lt.2; omega
  clear h
  go_enter Tryd.func38, Tryd.ntmps38
  go_wp2
  go_loopw [3, 4] (fun v _ wr => ∃ done : List Int, done.length ≤ kv.length ∧ ITab wr M w.heap.size kv done ∧ MineI (w.heap.size + 1) wr v done ∧ Below w.heap.size w wr ∧ w.heap.size + 1 ≤ wr.heap.size) (fun v _ _ => kv.length - slen v)
  case atStart => exact ⟨[], by simp, hI, MineI.nil _ _, hb1, hs1⟩
  case round =>
    obtain ⟨done, hdl, hit, hmi, hbr, hsr⟩ := hrel
    clear hI hb1 hs1 hrr
    obtain ⟨a, c, rfl, hc1, hc2⟩ := hmi.form
    rcases hit.run_next (P := Tryd.prog) 0 with ⟨hp, hr⟩ | ⟨n, x, w2, hn, hx, hlt2, hr, hit2, ht2, hre⟩
    · have HS := Lib.hid (sortMine_any wr (w.heap.size + 1) _ done hmi (by omega))
      have HP := Lib.hid (upI_perm hp)
      clear hp hit hmi
      go_wp2_with (go_at_call 68; refine HS.out.mono ?_; rintro e w3 ⟨rfl, hmi3, ht3⟩)
      go_ret
      refine ⟨_, rfl, ?_, hbr.trans (ht3.below (B := w.heap.size) hbr.size fun k hk => by omega)⟩
      rw [← HP.out]
      exact World.ownsRow.mono hmi3 (by omega)
    · have hs2 := ht2.size
      have hmi2 := hmi.keep (w' := w2) fun k h1 h2 => ht2.block k h2 (by omega)
      have hmi3 := hmi2.below ((Below.refl w2.heap.size w2).alloc (Nat.le_refl _) (.cells #[.int .i64 n] 3))
      have hit3 := hit2.keep (w' := w2.alloc (.cells #[.int .i64 n] 3)) (((Below.refl w2.heap.size w2).alloc (Nat.le_refl _) _).block _ hit2.lt.1) (((Below.refl w2.heap.size w2).alloc (Nat.le_refl _) _).block _ hit2.lt.2)
      have hb3 : Below w.heap.size w (w2.alloc (.cells #[.int .i64 n] 3)) := (hbr.trans (ht2.below (B := w.heap.size) hbr.size fun k hk => by omega)).alloc (by omega) _
      have hs3 : w.heap.size + 1 ≤ (w2.alloc (.cells #[.int .i64 n] 3)).heap.size := by simp; omega
      obtain ⟨v6, w5, hr6, hmi5, hg5⟩ := hmi3.grow hs3 (by omega) n w2.heap.size (heap_alloc_new _ _)
      have ht5 := grown_turned hmi3 hg5
      have hb5 : Below w.heap.size w w5 := hb3.trans (ht5.below (B := w.heap.size) hb3.size fun k hk => by omega)
      have hs5 : w.heap.size + 1 ≤ w5.heap.size := Nat.le_trans hs3 ht5.size
      have hit5 : ITab w5 M w.heap.size kv (done ++ [n]) := hit3.keep (ht5.block _ hit3.lt.1 (by omega)) (ht5.block _ hit3.lt.2 (by omega))
      obtain ⟨a6, c6, rfl, hc61, hc62⟩ := hmi5.form
      have hl6 : (done ++ [n]).length = done.length + 1 := by simp
      clear hit hmi hit2 hmi2 hb3 hg5 hn hx hit3 hmi3 ht5
      go_wp2_with (at_builtin; refine wpList_append_run rfl (.tmp 11) (.tmp 13) 30 30 rfl _ _ _ rfl rfl hr6 ?_; clear hr6)
      go_roundw
      case rel => exact ⟨done ++ [n], by omega, hit5, by rw [hl6] at hmi5; exact hmi5, hb5, hs5⟩
      case measure => simp only [slen, hl6]; omega
end Go.Proofs.YtbmmcaoifkboiaaDoor

/- slices.Collect of slices.Chunk; parts: bytes as blocks, and their places. -/
set_option linter.unusedVariables false
set_option linter.unusedSimpArgs false
set_option maxRecDepth 100000
namespace Go.Proofs.YtbmmcaoifkboiaaDoor
open Go.RowKit Go.Shelf
attribute [local go_sem] Oper.semAt_some

def chunkVals (g : Nat) (l : List Nat) : List Value := l.map (chunkVal g)
theorem RowV.grow2 {B : Nat} {w : World} {v : Value} {us : List Value} (h : RowV B w v us) (hB : B ≤ w.heap.size) (hL : us.length ≤ 1000000) (u : Value) (hu : u.oneCell' = true) (g : Nat) (hg : w.heap[g]? = some (.cells #[u] 42 (0, 0))) :
    ∃ v' w', (Builtin.append_ #[70, 70] 70 #[v, .slice (some ⟨g, 0, none⟩) 1 1]).run Tryd.prog w = .ok v' w' ∧ RowV B w' v' (us ++ [u]) ∧ w.grownBy w' v.ownBlock ∧ (v'.ownBlock = v.ownBlock ∨ v'.ownBlock = some w.heap.size) := by
  obtain ⟨i, hi, hz, hs, hb⟩ := info_parts (P := Tryd.prog) (e := 42) info_bytes2
  have hcell : ∀ w' : World, w'.heap = w.heap → ∀ j c, ([u] : List Value)[j]? = some c → w'.cell? ((⟨g, 0, none⟩ : Addr).add j) = some c := fun w' hw j c hj => by
    rw [Addr.add_mid, Nat.zero_add, cell_of_row w' _ _ _ _ _ (by rw [hw]; exact hg)]
    simpa using hj
  obtain ⟨v', w', hr, ho, hgr, _, hown⟩ := run_app (P := Tryd.prog) w B 70 70 70 42 i _ 1 24 _ Tryd.underlying70 Tryd.underlying70 (.inl rfl) hi hz hs hb rfl (by decide) v us.length us h
    (.slice (some ⟨g, 0, none⟩) 1 1) 1 [u] (fun w' => rfl) rfl (fun w' hw => run_firstCells_some (P := Tryd.prog) w' 1 1 ⟨g, 0, none⟩ 1 1 [u] rfl (hcell w' hw)) (by
      intro c hc
      rw [List.mem_singleton.1 hc, hu]) (by simp [maxLen]; omega) (by omega) hB
  refine ⟨v', w', hr, ?_, hgr, hown⟩
  unfold RowV
  rw [List.length_append]
  exact ho
set_option maxRecDepth 100000 in
set_option maxHeartbeats 4000000 in
theorem appendSeq_any (w : World) (bb bn g c m : Nat) (hbb : w.heap[bb]? = some (.cells #[.slice (some ⟨g, 0, none⟩) (112 * m) c] 42 (0, 0))) (hbn : w.heap[bn]? = some (.cells #[.int .i64 112] 3 (0, 0)))
    (hc : 112 * m ≤ c) (hm : m ≤ 10000) :
    Calls Tryd.prog 81 #[.slice none 0 0, .func (.func 82) #[] #[.pointer (some ⟨bb, 0, none⟩), .pointer (some ⟨bn, 0, none⟩)]] w fun e w' => ∃ v, e = .returned v ∧ RowV w.heap.size w' v (chunkVals g (List.range m)) ∧ Below w.heap.size w w' := by
  refine callsIn_wide (n := 3).1 ?_
  have bO := Boxed.new w 70 (.slice none 0 0)
  have hB0 : Below w.heap.size w (w.alloc (.cells #[.slice none 0 0] 70)) := (Below.refl _ w).alloc (Nat.le_refl _) _
  have hsz : (w.alloc (.cells #[.slice none 0 0] 70)).heap.size = w.heap.size + 1 := by simp
  have hlb := lt_of_heap hbb
  have hln := lt_of_heap hbn
  refine callsIn_of_wp_marks Tryd.func81 rfl trivial ?_ rfl
  simp only [Tryd.ntmps81, List.size_toArray, List.length_cons, List.length_nil, Nat.reduceAdd, Nat.reduceSub, Array.replicate_succ, Array.replicate_zero, List.push_toArray, List.append_toArray, List.nil_append, List.cons_append]
  gi_wp2_with fail
  obtain ⟨W0, hW0⟩ : ∃ W0, w.alloc (.cells #[.slice none 0 0] 70) = W0 := ⟨_, rfl⟩
  rw [hW0] at bO hB0 hsz ⊢
  clear hW0
  refine wpIn_rangeFunc_ownF (F := Fence.wide) rfl (by omega) (gf := 82) (lb := #[.pointer (some ⟨bb, 0, none⟩), .pointer (some ⟨bn, 0, none⟩)]) rfl trivial (enters_of Tryd.func82 (by kernel_rfl) rfl)
    (chunk_stops 2 (by omega) w.heap.size bb bn g c m W0 ((hB0.block _ hlb).trans hbb) ((hB0.block _ hln).trans hbn) hc hm bO.cell (by omega) (by omega)) KeptV.trans (fun W l o o' hl h1 h2 _ => KeptV.put W l o o' h1 h2 (by omega)) (Below.refl _ _) (fun _ => rfl)
    (fun pre W => (∃ v, Boxed W w.heap.size 70 v ∧ W.ownsRow w.heap.size 42 1 v pre.length (chunkVals g pre) ∧ True) ∧ Below w.heap.size w W)
    (fun _ _ _ => False)
    (OwnFrom.and (Own.from (holdsRow_own w.heap.size w.heap.size 70 42 1 (fun pre : List Nat => pre.length) (fun pre => chunkVals g pre) (fun _ _ => True)) _) (ownFrom_below (Nat.le_refl _) (by omega)))
    (fun _ => ownFrom_pure _ (fun _ : List Nat => False))
    ⟨⟨_, bO, World.ownsRow_nil _ _ _ _, trivial⟩, hB0⟩
    (fun x => { tmps := #[.slice none 0 0, .func (.func 82) #[] #[.pointer (some ⟨bb, 0, none⟩), .pointer (some ⟨bn, 0, none⟩)], .pointer (some ⟨w.heap.size, 0, none⟩), undef, .slice none 0 0, chunkVal g x, .func (.func 82) #[] #[.pointer (some ⟨bb, 0, none⟩), .pointer (some ⟨bn, 0, none⟩)], chunkVal g x, undef, undef, undef, undef, undef], defers := [] })
    ?assign ?body ?done ?stop
  case assign =>
    intro l x W K hK
    gi_wp2
    exact hK
  case body =>
    rintro l pre x W ⟨⟨v, bv, rv, _⟩, hb⟩ hlt
    have hsz2 := hb.size
    have bt : Below W.heap.size W (W.alloc (.cells #[chunkVal g x] 42)) := (Below.refl _ W).alloc (Nat.le_refl _) _
    have rv1 : RowV w.heap.size (W.alloc (.cells #[chunkVal g x] 42)) v (chunkVals g pre) := by
      have : (chunkVals g pre).length = pre.length := by simp [chunkVals]
      unfold RowV
      rw [this]
      exact World.ownsRow.alloc rv _
    obtain ⟨v', w1, hr1, m1, hg1, hown⟩ := rv1.grow2 (by simp; omega) (by simp [chunkVals]; omega) (chunkVal g x) rfl W.heap.size (heap_alloc_new _ _)
    have e1 : chunkVals g pre ++ [chunkVal g x] = chunkVals g (pre ++ [x]) := by simp [chunkVals]
    have e2 : (chunkVals g (pre ++ [x])).length = pre.length + 1 := by simp [chunkVals]
    rw [e1] at m1
    unfold RowV at m1
    rw [e2] at m1
    obtain ⟨bv1, bv2, r2, k2, b2⟩ := bv.appended (by decide) rv hb.size (by omega) m1 hg1
    have kv := KeptV.appended bv bv2 rv r2 hg1 hown
    have bb2 := hb.trans b2
    obtain ⟨a4, N, k4, rfl, hN⟩ : ∃ a n k, v' = .slice a n k ∧ n = pre.length + 1 := by
      have m1' : RowV w.heap.size w1 v' (chunkVals g (pre ++ [x])) := by unfold RowV; rw [e2]; exact m1
      obtain ⟨a, k, h, _⟩ := m1'.form
      exact ⟨a, _, k, h, e2⟩
    obtain ⟨a3, N3, k3, rfl, hN3⟩ : ∃ a n k, v = .slice a n k ∧ n = pre.length := by
      rcases rv.2 with ⟨rfl, hn⟩ | ⟨g', cap, cur, rfl, _⟩
      · exact ⟨none, 0, 0, rfl, hn.symm⟩
      · exact ⟨_, _, cap, rfl, rfl⟩
    have cv := bv.cell
    have cv1 := bv1.cell
    have fv1 := bv1.frozen
    have HF := Lib.hid (show ∃ v, Boxed (w1.setCell ⟨w.heap.size, 0, none⟩ (.slice a4 N k4)) w.heap.size 70 v ∧ (w1.setCell ⟨w.heap.size, 0, none⟩ (.slice a4 N k4)).ownsRow w.heap.size 42 1 v (pre ++ [x]).length (chunkVals g (pre ++ [x])) ∧ True from ⟨_, bv2, by simpa using r2, trivial⟩)
    have HK := Lib.hid k2
    have HKV := Lib.hid kv
    have HBB := Lib.hid bb2
    clear k2 kv bb2 bv bv1 bv2 rv r2 m1 hg1 hown b2 hb e1 e2 rv1 bt hN hN3
    gi_wp2_with (gi_at_builtin; refine wpListIn_append_run rfl (.tmp 8) (.tmp 10) 70 70 rfl _ _ rfl rfl hr1 ?_; clear hr1)
    exact ⟨HK.out, HKV.out, HF.out, HBB.out⟩
  case done =>
    rintro D ys W hD rfl ⟨⟨v, bv, rv, _⟩, hb⟩ hK
    have hc := bv.cell
    have RV := Lib.hid rv
    clear rv
    gi_wp2
    refine ⟨by simp, .inl ⟨_, _, rfl, run_takeDeferred hK, ?_⟩⟩
    refine ⟨_, results_tmp rfl _ _ _, v, rfl, ?_, hb.trans (belowK_b (w := w) (Nat.le_refl _) W D _ _ (by omega) hK rfl rfl)⟩
    unfold RowV
    rw [show (chunkVals g (List.range m)).length = (List.range m).length by simp [chunkVals]]
    exact ownsRow_putObj RV.out _ hK rfl
  case stop =>
    intro D c pre W hD hpre hF
    exact hF.elim
abbrev chunkF (bb bn : Nat) : Value := .func (.func 82) #[] #[.pointer (some ⟨bb, 0, none⟩), .pointer (some ⟨bn, 0, none⟩)]
theorem chunk_any (w : World) (va : Option Addr) (vn vc : Nat) : Calls Tryd.prog 67 #[.slice va vn vc, .int .i64 112] w fun e w' => e = .returned (chunkF w.heap.size (w.heap.size + 1)) ∧ w'.heap[w.heap.size]? = some (.cells #[.slice va vn vc] 42 (0, 0)) ∧ w'.heap[w.heap.size + 1]? = some (.cells #[.int .i64 112] 3 (0, 0)) ∧ Below w.heap.size w w' := by
  have HX : Hid (((w.alloc (.cells #[.slice va vn vc] 42)).alloc (.cells #[.int .i64 112] 3)).heap[w.heap.size]? = some (.cells #[.slice va vn vc] 42 (0, 0)) ∧ ((w.alloc (.cells #[.slice va vn vc] 42)).alloc (.cells #[.int .i64 112] 3)).heap[w.heap.size + 1]? = some (.cells #[.int .i64 112] 3 (0, 0)) ∧ Below w.heap.size w ((w.alloc (.cells #[.slice va vn vc] 42)).alloc (.cells #[.int .i64 112] 3))) := Lib.hid (by
    have h1 := heap_alloc_new w (.cells #[.slice va vn vc] 42)
    have h2 := heap_alloc_new (w.alloc (.cells #[.slice va vn vc] 42)) (.cells #[.int .i64 112] 3)
    have hs : (w.alloc (.cells #[.slice va vn vc] 42)).heap.size = w.heap.size + 1 := by simp
    rw [hs] at h2
    have hb := (Below.refl (w.alloc (.cells #[.slice va vn vc] 42)).heap.size (w.alloc (.cells #[.slice va vn vc] 42))).alloc (Nat.le_refl _) (.cells #[.int .i64 112] 3)
    exact ⟨(hb.block _ (by omega)).trans h1, h2, ((Below.refl _ _).alloc (Nat.le_refl _) _).alloc (by omega) _⟩)
  have c1 : ((w.alloc (.cells #[.slice va vn vc] 42)).alloc (.cells #[.int .i64 112] 3)).cell? ⟨w.heap.size + 1, 0, none⟩ = some (.int .i64 112) := by rw [cell_of_row _ _ _ _ _ _ HX.out.2.1]; rfl
  go_enter Tryd.func67, Tryd.ntmps67
  go_wp2
  go_ret
  exact ⟨rfl, HX.out⟩
theorem collect_any (w : World) (bb bn g c m : Nat) (hbb : w.heap[bb]? = some (.cells #[.slice (some ⟨g, 0, none⟩) (112 * m) c] 42 (0, 0))) (hbn : w.heap[bn]? = some (.cells #[.int .i64 112] 3 (0, 0)))
    (hc : 112 * m ≤ c) (hm : m ≤ 10000) :
    Calls Tryd.prog 66 #[chunkF bb bn] w fun e w' => ∃ v, e = .returned v ∧ RowV w.heap.size w' v (chunkVals g (List.range m)) ∧ Below w.heap.size w w' := by
  have HA := Lib.hid (appendSeq_any w bb bn g c m hbb hbn hc hm)
  clear hbb hbn
  go_enter Tryd.func66, Tryd.ntmps66
  go_wp2_with fail
  refine HA.out.mono ?_
  rintro e w2 ⟨v, rfl, hv, hb⟩
  go_wp2_with fail
  go_ret
  exact ⟨_, rfl, hv, hb⟩
theorem placesFrom_succ (from_ : Int) (k : Nat) : placesFrom from_ (k + 1) = placesFrom from_ k ++ [from_ + (k : Int)] := by simp [placesFrom, List.range_succ]
theorem placesFrom_length (from_ : Int) (k : Nat) : (placesFrom from_ k).length = k := by simp [placesFrom]
theorem chunkVals_length (g : Nat) (l : List Nat) : (chunkVals g l).length = l.length := by simp [chunkVals]
set_option maxHeartbeats 4000000 in
theorem parts_any (w : World) (from_ : Int) (g c m N : Nat) (hN : N = 112 * m) (hc : N ≤ c) (hm : m ≤ 10000) (h1 : 0 ≤ from_) (h2 : from_ ≤ 1000000) :
    Calls Tryd.prog 36 #[.int .i64 from_, .slice (some ⟨g, 0, none⟩) N c] w fun e w' => ∃ u v, e = .returned (.tuple #[u, v]) ∧ MineI w.heap.size w' u (placesFrom from_ m) ∧ RowV w.heap.size w' v (chunkVals g (List.range m)) ∧ Below w.heap.size w w' := by
  have HC := Lib.hid (chunk_any w (some ⟨g, 0, none⟩) N c)
  have HNN := Lib.hid hN
  clear hN
  go_enter Tryd.func36, Tryd.ntmps36
  go_wp2_with fail
  refine HC.out.mono ?_
  rintro e w1 ⟨rfl, hbb, hbn, hb1⟩
  rw [HNN.out] at hbb
  have HD := Lib.hid (collect_any w1 _ _ g c m hbb hbn (by have := HNN.out; omega) hm)
  have hs1 := hb1.size
  clear hbb hbn
  go_wp2_with fail
  refine HD.out.mono ?_
  rintro e w2 ⟨v, rfl, hv, hb2⟩
  have hv2 : RowV w.heap.size w2 v (chunkVals g (List.range m)) := World.ownsRow.mono hv hs1
  obtain ⟨va, vc, rfl, _, _⟩ := hv2.form
  rw [chunkVals_length, List.length_range] at *
  have hb3 := hb1.trans (hb2.mono hs1)
  have hs2 := hb3.size
  have HV := Lib.hid hv2
  clear hv hv2 hb1 hb2
  go_wp2_with fail
  go_loopw [7, 14] (fun u x wr => ∃ k : Nat, k ≤ m ∧ x = .int .i64 (k : Int) ∧ MineI w.heap.size wr u (placesFrom from_ k) ∧ RowV w.heap.size wr (.slice va m vc) (chunkVals g (List.range m)) ∧ Below w.heap.size w wr) (fun _ x _ => m - (intOf x).toNat)
  case atStart => exact ⟨0, Nat.zero_le _, rfl, MineI.nil _ _, HV.out, hb3⟩
  case round =>
    clear hb3 hs2
    obtain ⟨k, hk, rfl, hmi, hrv, hbr⟩ := hrel
    obtain ⟨a, cu, rfl, hc1, hc2⟩ := hmi.form
    have hlp := placesFrom_length from_ k
    by_cases hlt : k < m
    · have hd : decide ((k : Int) < (m : Int)) = true := decide_eq_true (by omega)
      have hw1 : IntKind.i64.wrap (from_ + (k : Int)) = from_ + (k : Int) := IntWalk.i64_in _ (by omega)
      have hsr := hbr.size
      have bt : Below wr.heap.size wr (wr.alloc (.cells #[.int .i64 (from_ + (k : Int))] 3)) := (Below.refl _ _).alloc (Nat.le_refl _) _
      have hmi2 := hmi.below bt
      have hrv2 := hrv.below bt
      obtain ⟨v6, w5, hr6, hmi5, hg5⟩ := hmi2.grow (by simp; omega) (by omega) (from_ + (k : Int)) wr.heap.size (heap_alloc_new _ _)
      have hrv5 : RowV w.heap.size w5 (.slice va m vc) (chunkVals g (List.range m)) := own_other hrv2 hmi2 (by decide) hg5
      have ht5 := grown_turned hmi2 hg5
      have hb5 : Below w.heap.size w w5 := (hbr.trans (bt.mono hsr)).trans (ht5.below (B := w.heap.size) (by simp; omega) fun k hk => by omega)
      rw [← placesFrom_succ] at hmi5
      obtain ⟨a6, c6, rfl, hc61, hc62⟩ := hmi5.form
      have HM := Lib.hid hmi5
      have HR := Lib.hid hrv5
      have HB := Lib.hid hb5
      clear hmi hrv hbr bt hmi2 hrv2 hmi5 hg5 hrv5 ht5 hb5
      go_wp2_with (at_builtin; refine wpList_append_run rfl (.tmp 17) (.tmp 21) 30 30 rfl _ _ _ rfl rfl hr6 ?_; clear hr6)
      go_roundw
      case rel => exact ⟨k + 1, hlt, by go_num, HM.out, HR.out, HB.out⟩
      case measure => simp [intOf]; omega
    · obtain rfl : k = m := by omega
      have hdz : decide ((k : Int) < (k : Int)) = false := by simp
      have HM := Lib.hid hmi
      have HR := Lib.hid hrv
      have HB := Lib.hid hbr
      clear hmi hrv hbr
      go_wp2_with fail
      go_ret2
      exact ⟨_, _, rfl, HM.out, HR.out, HB.out⟩
end Go.Proofs.YtbmmcaoifkboiaaDoor

/- Which of n things a raw number speaks of; bytes of one's own. -/
set_option linter.unusedVariables false
set_option linter.unusedSimpArgs false
set_option maxRecDepth 100000
namespace Go.Proofs.YtbmmcaoifkboiaaDoor
open Go.RowKit

theorem info_byte : (Tryd.prog.info? 5).map (fun i => (i.zero, i.size, i.bytes)) = some (some (.int .u8 0), 1, 1) := by kernel_rfl
/-- which of n things the raw number c speaks of -/
def pickN (c : Int) (n : Nat) : Nat := (if c < 0 then -(c + 1) else c).toNat % n
theorem pickN_lt (c : Int) {n : Nat} (h : 0 < n) : pickN c n < n := Nat.mod_lt _ h
theorem Mine.stored {e : TypeId} {base : Nat} {w : World} {g cap : Nat} {l : List UInt8} (h : Mine e base w (.slice (some ⟨g, 0, none⟩) l.length cap) l) (j : Nat) (x : UInt8) :
    Mine e base (w.setCell ⟨g, j, none⟩ (.int .u8 (x.toNat : Int))) (.slice (some ⟨g, 0, none⟩) (l.set j x).length cap) (l.set j x) := by
  have h2 := (World.ownsRow.stored h j (.int .u8 (x.toNat : Int))).1
  have e1 : (bv l).set j (.int .u8 (x.toNat : Int)) = bv (l.set j x) := by simp [bv, List.map_set]
  rw [e1] at h2
  rw [List.length_set]
  simpa [Mine] using h2
theorem made_bytes (N : Nat) : madeCells (Value.cells (.int .u8 0)) N = (bv (List.replicate N 0)).toArray := by
  apply Array.ext
  · simp [madeCells, bv]
  · intro i h1 h2
    simp [madeCells, bv, Value.cells, Nat.mod_one]
theorem mineI_range (c : Int) (n : Nat) (h : 0 < n) : 0 ≤ (pickN c n : Int) ∧ (pickN c n : Int) < (n : Int) := ⟨by omega, by have := pickN_lt c h; omega⟩
end Go.Proofs.YtbmmcaoifkboiaaDoor

/- Rows of bools; bytes stored one by one; a word copied. -/
set_option linter.unusedVariables false
set_option linter.unusedSimpArgs false
set_option maxRecDepth 100000
namespace Go.Proofs.YtbmmcaoifkboiaaDoor
open Go.RowKit

theorem info_bool : (Tryd.prog.info? 4).map (fun i => (i.zero, i.size, i.bytes)) = some (some (.bool false), 1, 1) := by kernel_rfl
def bov (t : List Bool) : List Value := t.map fun b => .bool b
theorem bov_get (t : List Bool) (i : Nat) (h : i < t.length) : (bov t)[i]? = some (.bool t[i]) := by simp [bov, h]
theorem bov_length (t : List Bool) : (bov t).length = t.length := by simp [bov]
/-- a row of bools, of blocks from B on -/
def MineO (B : Nat) (w : World) (v : Value) (t : List Bool) : Prop := w.ownsRow B 4 1 v t.length (bov t)
theorem MineO.form {B : Nat} {w : World} {v : Value} {t : List Bool} (h : MineO B w v t) : ∃ a cap, v = .slice a t.length cap ∧ t.length ≤ cap ∧ cap ≤ maxLen := by
  rcases h.2 with ⟨rfl, hn⟩ | ⟨g, cap, cur, rfl, hb, hg, hn, hc, hs, htake⟩
  · exact ⟨none, 0, by rw [hn], by omega, by simp [maxLen]⟩
  · exact ⟨_, cap, rfl, hn, hc⟩
theorem MineO.cell {B : Nat} {w : World} {v : Value} {t : List Bool} (h : MineO B w v t) (h0 : t ≠ []) : ∃ g cap, v = .slice (some ⟨g, 0, none⟩) t.length cap ∧ t.length ≤ cap ∧ cap ≤ maxLen ∧ ∀ i (hi : i < t.length), w.cell? ⟨g, i, none⟩ = some (.bool t[i]) := by
  rcases h.2 with ⟨rfl, hn⟩ | ⟨g, cap, cur, rfl, hb, hg, hnc, hcm, hcs, htake⟩
  · exact absurd (List.eq_nil_of_length_eq_zero hn) h0
  · refine ⟨g, cap, rfl, hnc, hcm, fun i hi => ?_⟩
    rw [cell_of_row _ _ _ _ _ _ hg]
    have e : (bov t)[i]? = some (.bool t[i]) := bov_get t i hi
    rw [← htake, List.getElem?_take, if_pos (by omega)] at e
    simpa using e
theorem MineO.keep {B : Nat} {w w' : World} {v : Value} {t : List Bool} (h : MineO B w v t) (hw : ∀ k, B ≤ k → k < w.heap.size → w'.heap[k]? = w.heap[k]?) : MineO B w' v t := own_keep h hw
theorem MineO.below {B : Nat} {w w' : World} {v : Value} {t : List Bool} (h : MineO B w v t) (hb : Below w.heap.size w w') : MineO B w' v t := h.keep fun k _ hl => hb.block k hl
theorem RowB.set {w : World} {g : Nat} {T : TypeId} {L : List UInt8} (h : RowB w g T L) (j : Nat) (x : UInt8) : RowB (w.setCell ⟨g, j, none⟩ (.int .u8 (x.toNat : Int))) g T (L.set j x) := by
  have := head_setCell (i := j) h (.int .u8 (x.toNat : Int))
  unfold RowB
  rw [this]
  congr 2
  apply Array.ext'
  simp [bv, List.map_set]
theorem RowB.frozen {w : World} {g : Nat} {T : TypeId} {L : List UInt8} (h : RowB w g T L) (j : Nat) : w.frozen? ⟨g, j, none⟩ = false := frozen_p h j
theorem run_make224 (w : World) : (Instr.makeSlice 42 (.int .i64 224) (.int .i64 224)).run Tryd.prog w = .ok (.slice (some ⟨w.heap.size, 0, none⟩) 224 224) (w.alloc (.cells (bv (List.replicate 224 0)).toArray 5)) := by kernel_rfl
theorem run_copy_word {w : World} {g : Nat} {L : List UInt8} (h : RowB w g 5 L) (hl : L.length = 224) (ty : TypeId) :
    (Builtin.copy_ #[42, 9] ty #[.slice (some ⟨g, 0, none⟩) 224 224, .string ⟨#[85, 80, 71, 49]⟩]).run Tryd.prog w = .ok (.int .i64 4) (w.setCells g 0 (bv [85, 80, 71, 49])) := by
  obtain ⟨i, hi, hz, hs1, hb1⟩ := info_parts (P := Tryd.prog) (e := 5) info_byte
  have hsz : ∀ w, (sizeOf 5).run Tryd.prog w = .ok 1 w := fun w => by simp [sizeOf, typeInfo, hi, hs1]
  have hst := run_storeCells_cells (P := Tryd.prog) g 0 (bv [85, 80, 71, 49]) 0 w (fun j hj => (h.there 0 4 (by omega) j (by simpa [bv] using hj)).1) (fun j hj => (h.there 0 4 (by omega) j (by simpa [bv] using hj)).2) (bv_oneCell _)
  simp only [Nat.add_zero] at hst
  have hfc : (Builtin.firstCells 1 4 (.string ⟨#[85, 80, 71, 49]⟩)).run Tryd.prog w = .ok (bv [85, 80, 71, 49]).toArray w := by kernel_rfl
  have hlen : (Builtin.lenOf (.string ⟨#[85, 80, 71, 49]⟩)).run Tryd.prog w = .ok 4 w := by kernel_rfl
  unfold Builtin.copy_
  simp [run_underlying Tryd.underlying42, hsz, hlen, hst, goInt, hfc]
end Go.Proofs.YtbmmcaoifkboiaaDoor

/- Rows of strings of one's own; an append whose run is known. -/
set_option linter.unusedVariables false
set_option linter.unusedSimpArgs false
set_option maxRecDepth 100000
namespace Go.Proofs.YtbmmcaoifkboiaaDoor
open Go.RowKit

theorem info_str : (Tryd.prog.info? 9).map (fun i => (i.zero, i.size, i.bytes)) = some (some (.string ⟨#[]⟩), 1, 16) := by kernel_rfl
def sv (ls : List (List UInt8)) : List Value := ls.map fun l => .string ⟨l.toArray⟩
def MineS (base : Nat) (w : World) (v : Value) (ls : List (List UInt8)) : Prop := w.ownsRow base 9 1 v ls.length (sv ls)
theorem MineS.nil (base : Nat) (w : World) : MineS base w (.slice none 0 0) [] := World.ownsRow_nil w base 9 1
theorem MineS.at {base : Nat} {w : World} {v : Value} {ls : List (List UInt8)} (h : MineS base w v ls) (h0 : ls ≠ []) : ∃ g cap, v = .slice (some ⟨g, 0, none⟩) ls.length cap ∧ ls.length ≤ cap ∧ cap ≤ maxLen ∧ ∀ i (hi : i < ls.length), w.cell? ⟨g, i, none⟩ = some (.string ⟨ls[i].toArray⟩) := by
  rcases h.2 with ⟨rfl, hn⟩ | ⟨g, cap, cur, rfl, hb, hg, hnc, hcm, hcs, htake⟩
  · exact absurd (List.eq_nil_of_length_eq_zero hn) h0
  · refine ⟨g, cap, rfl, hnc, hcm, fun i hi => ?_⟩
    rw [cell_of_row _ _ _ _ _ _ hg]
    have e : (sv ls)[i]? = some (.string ⟨ls[i].toArray⟩) := by simp [sv, hi]
    rw [← htake, List.getElem?_take, if_pos (by simpa [sv] using hi)] at e
    simpa using e
theorem MineS.keep {B : Nat} {w w' : World} {v : Value} {ls : List (List UInt8)} (h : MineS B w v ls) (hw : ∀ k, B ≤ k → k < w.heap.size → w'.heap[k]? = w.heap[k]?) : MineS B w' v ls := own_keep h hw
theorem MineS.below {B : Nat} {w w' : World} {v : Value} {ls : List (List UInt8)} (h : MineS B w v ls) (hb : Below w.heap.size w w') : MineS B w' v ls := h.keep fun k _ hl => hb.block k hl
theorem MineS.grow {B : Nat} {w : World} {v : Value} {zs : List (List UInt8)} (h : MineS B w v zs) (hB : B ≤ w.heap.size) (hL : zs.length ≤ 1000000) (z : List UInt8) (g : Nat) (hg : w.heap[g]? = some (.cells #[.string ⟨z.toArray⟩] 9 (0, 0))) :
    ∃ v' w', (Builtin.append_ #[59, 59] 59 #[v, .slice (some ⟨g, 0, none⟩) 1 1]).run Tryd.prog w = .ok v' w' ∧ MineS B w' v' (zs ++ [z]) ∧ w.grownBy w' v.ownBlock := by
  obtain ⟨i, hi, hz, hs, hb⟩ := info_parts (P := Tryd.prog) (e := 9) info_str
  have hcell : ∀ w' : World, w'.heap = w.heap → ∀ j c, ([.string ⟨z.toArray⟩] : List Value)[j]? = some c → w'.cell? ((⟨g, 0, none⟩ : Addr).add j) = some c := fun w' hw j c hj => by
    rw [Addr.add_mid, Nat.zero_add, cell_of_row w' _ _ _ _ _ (by rw [hw]; exact hg)]
    simpa using hj
  obtain ⟨v', w', hr, ho, hgr, _, _⟩ := run_app (P := Tryd.prog) w B 59 59 59 9 i _ 1 16 _ Tryd.underlying59 Tryd.underlying59 (.inl rfl) hi hz hs hb rfl (by decide) v zs.length (sv zs) h
    (.slice (some ⟨g, 0, none⟩) 1 1) 1 [.string ⟨z.toArray⟩] (fun w' => rfl) rfl (fun w' hw => run_firstCells_some (P := Tryd.prog) w' 1 1 ⟨g, 0, none⟩ 1 1 [.string ⟨z.toArray⟩] rfl (hcell w' hw)) (by
      intro c hc
      rw [List.mem_singleton.1 hc]; rfl) (by simp [maxLen]; omega) (by omega) hB
  refine ⟨v', w', hr, ?_, hgr⟩
  unfold MineS
  rw [show sv (zs ++ [z]) = sv zs ++ [.string ⟨z.toArray⟩] by simp [sv], List.length_append]
  exact ho
theorem step_append_run6 {ops : Array Oper} {w w' : World} {K : Act → World → Prop} {Q : Exit → Act → World → Prop} {a : Act} {o : Oper} {E : Prop} (hg : o.guard = none) (s x : Operand) (t t' : TypeId) (ho : o.op = .call { callee := .builtin .append, args := #[s, x], argTypes := #[t, t'] }) (u v r : Value)
    (hs : a.eval s = u) (hx : a.eval x = v) (hr : (Builtin.append_ #[t, t'] o.type #[u, v]).run Tryd.prog w = .ok r w') (h : K (a.put o.dst r) w') : if Region.wanted o (yielded ops a.tmps) = true then Oper.wp Tryd.prog o a w K Q else E := by
  rw [if_pos (by simp [Region.wanted, hg])]
  unfold Oper.wp execOp
  simp only [ho, resolve, invoke, builtin, Sem.run_bind, Sem.run_pure, Result.andThen_ok, List.map_toArray, List.map_cons, List.map_nil, hs, hx, hr]
  exact h
theorem run_firstCells_own {P : Program} {B : Nat} {e : TypeId} {w : World} {v : Value} {n : Nat} {xs : List Value} (h : w.ownsRow B e 1 v n xs) : ∀ w' : World, w'.heap = w.heap → (Builtin.firstCells 1 n v).run P w' = .ok xs.toArray w' := by
  intro w' hw
  obtain ⟨hl, h2⟩ := h
  rw [Nat.mul_one] at hl
  rcases h2 with ⟨rfl, hn⟩ | ⟨g, cap, cur, rfl, hb, hg, hn, hc, hs, htake⟩
  · subst hn
    obtain rfl : xs = [] := List.eq_nil_of_length_eq_zero hl
    simp [Builtin.firstCells]
  · by_cases h0 : n = 0
    · subst h0
      obtain rfl : xs = [] := List.eq_nil_of_length_eq_zero hl
      simp [Builtin.firstCells, loadCells, loadCellsFrom]
    refine run_firstCells_some (P := P) w' 1 n _ _ _ xs (by simp [hl]) ?_
    intro j u hj
    have hlt : j < n := by have := (List.getElem?_eq_some_iff.1 hj).1; omega
    rw [Addr.add_mid, Nat.zero_add, cell_of_row w' _ _ _ _ _ (by rw [hw]; exact hg)]
    have e1 : (cur.toList.take (n * 1))[j]? = some u := by rw [htake]; exact hj
    rw [List.getElem?_take, if_pos (by omega)] at e1
    simpa using e1
theorem own_lenOf {P : Program} {B : Nat} {e : TypeId} {w : World} {v : Value} {n : Nat} {xs : List Value} (h : w.ownsRow B e 1 v n xs) : ∀ w' : World, (Builtin.lenOf v).run P w' = .ok n w' := by
  intro w'
  rcases h.2 with ⟨rfl, hn⟩ | ⟨g, cap, cur, rfl, _⟩
  · subst hn; simp [Builtin.lenOf]
  · simp [Builtin.lenOf]
end Go.Proofs.YtbmmcaoifkboiaaDoor

/- slices.Clone and slices.Index of bools, slices.Equal of bytes. -/
set_option linter.unusedVariables false
set_option linter.unusedSimpArgs false
set_option maxRecDepth 100000
namespace Go.Proofs.YtbmmcaoifkboiaaDoor
open Go.RowKit

theorem isB_at {w : World} {a : Option Addr} {n cap : Nat} {l : List UInt8} (h : IsB w (.slice a n cap) l) (i : Nat) (hi : i < l.length) : ∃ b o, a = some ⟨b, o, none⟩ ∧ w.cell? ⟨b, o + i, none⟩ = some (.int .u8 (l[i].toNat : Int)) := by
  obtain ⟨a', cap', hv, hl, hm, hn, hc⟩ := h
  simp only [Value.slice.injEq] at hv
  obtain ⟨rfl, rfl, rfl⟩ := hv
  cases a with
  | none => have := hn rfl; omega
  | some x =>
    obtain ⟨b, o, s⟩ := x
    obtain ⟨hs, hc⟩ := hc _ rfl
    obtain rfl : s = none := hs (by omega)
    exact ⟨b, o, rfl, hc i hi⟩
theorem bov_oneCell (t : List Bool) : ∀ u ∈ bov t, u.oneCell' = true := by
  intro u hu
  obtain ⟨_, _, rfl⟩ := List.mem_map.1 hu
  rfl
set_option maxHeartbeats 4000000 in
theorem cloneO_any (w : World) (B : Nat) (v : Value) (t : List Bool) (hv : MineO B w v t) (ht : t.length ≤ 1000000) :
    Calls Tryd.prog 70 #[v] w fun e w' => ∃ u, e = .returned u ∧ MineO w.heap.size w' u t ∧ Below w.heap.size w w' := by
  have hnl := fun (w : World) (a : Option Addr) (n c : Nat) => Lib.run_eql_slice_nil (P := Tryd.prog) w 62 4 a n c 0 0 Tryd.underlying62
  have hbs : ∀ w : World, (Instr.buildSlice 62 0 #[]).run Tryd.prog w = .ok (.slice (some ⟨w.heap.size, 0, none⟩) 0 0) (w.alloc (.cells #[] 4)) := fun w => by kernel_rfl
  rcases id hv.2 with ⟨rfl, hn⟩ | ⟨g, cap, cur, hvv, hb, hg, hn, hc, hs, htake⟩
  · obtain rfl : t = [] := List.eq_nil_of_length_eq_zero hn
    clear hv hn
    go_enter Tryd.func70, Tryd.ntmps70
    go_wp2
    go_ret
    exact ⟨_, rfl, World.ownsRow_nil _ _ _ _, Below.refl _ _⟩
  · obtain ⟨i, hi, hz, hs1, hb1⟩ := info_parts (P := Tryd.prog) (e := 4) info_bool
    obtain ⟨W1, hW1⟩ : ∃ W1, W1 = w.alloc (.cells #[] 4) := ⟨_, rfl⟩
    have hown : W1.ownsRow w.heap.size 4 1 (.slice (some ⟨w.heap.size, 0, none⟩) 0 0) 0 [] := by
      rw [hW1]
      exact ⟨rfl, .inr ⟨w.heap.size, 0, #[], rfl, Nat.le_refl _, heap_alloc_new w _, Nat.le_refl _, by simp [maxLen], rfl, rfl⟩⟩
    have hbw : Below w.heap.size w W1 := by rw [hW1]; exact (Below.refl _ _).alloc (Nat.le_refl _) _
    have hv1 : MineO B W1 v t := hv.below hbw
    obtain ⟨v', w', hr, ho, hgr, _, _⟩ := run_app (P := Tryd.prog) W1 w.heap.size 62 62 62 4 i _ 1 1 _ Tryd.underlying62 Tryd.underlying62 (.inl rfl) hi hz hs1 hb1 rfl (by decide) _ 0 [] hown
      v t.length (bov t) (own_lenOf hv1) (by simp [bov]) (run_firstCells_own hv1) (bov_oneCell t) (by simp [maxLen]; omega) (by omega) hbw.size
    have HF : Hid (MineO w.heap.size w' v' t ∧ Below w.heap.size w w') := Lib.hid ⟨by
      unfold MineO
      rw [List.nil_append, Nat.zero_add] at ho
      exact ho, hbw.grown hgr hbw.size fun k hk => by
        simp only [Value.ownBlock, Option.some.injEq] at hk
        omega⟩
    obtain ⟨a', c', hv', _, _⟩ := HF.out.1.form
    clear hown hv1 ho hgr hv hbw hs htake hg hb hn hc hs1 hz hb1 hi
    subst hvv hv'
    rw [hW1] at hr
    clear hW1
    go_enter Tryd.func70, Tryd.ntmps70
    go_wp2_with (at_builtin; refine wpList_append_run rfl (.tmp 5) (.tmp 6) 62 62 rfl _ _ _ rfl rfl hr ?_; clear hr)
    go_ret
    exact ⟨_, rfl, HF.out⟩
def idxB (t : List Bool) (b : Bool) : Int := match t.findIdx? (· == b) with | some k => (k : Int) | none => -1
theorem idxB_at {t : List Bool} {b : Bool} {k : Nat} (h : k < t.length) (h1 : t[k] = b) (h2 : ∀ j (hj : j < k), t[j]'(by omega) ≠ b) : idxB t b = (k : Int) := by
  have : t.findIdx? (· == b) = some k := List.findIdx?_eq_some_iff_getElem.2 ⟨h, by simpa using h1, fun j hj => by simpa using h2 j hj⟩
  rw [idxB, this]
theorem idxB_none {t : List Bool} {b : Bool} (h : ∀ j (hj : j < t.length), t[j] ≠ b) : idxB t b = -1 := by
  have : t.findIdx? (· == b) = none := List.findIdx?_eq_none_iff.2 fun x hx => by
    obtain ⟨j, hj, rfl⟩ := List.getElem_of_mem hx
    simpa using h j hj
  rw [idxB, this]
set_option maxHeartbeats 4000000 in
theorem indexO_any (w : World) (B : Nat) (v : Value) (t : List Bool) (b : Bool) (hv : MineO B w v t) (ht : t.length ≤ 1000000) :
    Calls Tryd.prog 34 #[v, .bool b] w fun e w' => e = .returned (.int .i64 (idxB t b)) ∧ w = w' := by
  obtain ⟨a, c, rfl, hc1, hc2⟩ := hv.form
  have HV := Lib.hid hv
  obtain ⟨n, hn⟩ : ∃ n, n = t.length := ⟨_, rfl⟩
  have Hn := Lib.hid hn
  rw [← hn] at ht HV hc1 ⊢
  clear hv hn
  go_enter Tryd.func34, Tryd.ntmps34
  go_wp2
  go_loop [8] (fun x => ∃ k : Nat, k ≤ n ∧ x = .int .i64 (k : Int) ∧ ∀ j (hj : j < k) (h : j < t.length), t[j] ≠ b) (fun x => n - (intOf x).toNat)
  case atStart => exact ⟨0, Nat.zero_le _, rfl, fun j hj => by omega⟩
  case round =>
    obtain ⟨k, hk, rfl, hall⟩ := hrel
    by_cases hlt : k < n
    · have hkt : k < t.length := by rw [← Hn.out]; exact hlt
      have hd : decide ((k : Int) < (n : Int)) = true := decide_eq_true (by omega)
      obtain ⟨g0, cc, hv, _, _, hcs⟩ := HV.out.cell (fun e => by rw [e] at hkt; simp at hkt)
      simp only [Value.slice.injEq] at hv
      have hav := hv.1
      clear hv
      subst hav
      have hc := hcs k hkt
      by_cases hx : t[k] = b
      · have HE := Lib.hid (idxB_at hkt hx fun j hj => hall j hj (by omega))
        rw [hx] at hc
        clear hcs hall hx
        go_wp2
        go_ret
        rw [HE.out]
        exact ⟨rfl, rfl⟩
      · have HA : Hid (∀ j (hj : j < k + 1) (h : j < t.length), t[j] ≠ b) := Lib.hid fun j hj h => by
          by_cases e : j = k
          · subst e; exact hx
          · exact hall j (by omega) h
        have hbe : (b == t[k]) = false := by simpa using fun e => hx e.symm
        clear hcs hall hx
        generalize t[k] = x at *
        go_wp2
        go_round
        case rel => exact ⟨k + 1, by omega, by go_num, HA.out⟩
        case measure => simp [intOf]; omega
    · obtain rfl : k = n := by omega
      have HE := Lib.hid (idxB_none fun j hj => hall j (by rw [Hn.out]; exact hj) hj)
      have hdz : decide ((k : Int) < (k : Int)) = false := by simp
      clear hall
      go_wp2
      go_ret
      rw [HE.out]
      exact ⟨rfl, rfl⟩
section
attribute [local irreducible] wpStill
set_option maxHeartbeats 4000000 in
theorem equalB_any (w : World) (u v : Value) (l m : List UInt8) (hu : IsB w u l) (hv : IsB w v m) (hl : l.length ≤ 1000000) :
    Calls Tryd.prog 71 #[u, v] w fun e w' => e = .returned (.bool (l == m)) ∧ Below w.heap.size w w' := by
  obtain ⟨a1, c1, rfl, _, hm1⟩ := hu.form
  obtain ⟨a2, c2, rfl, _, hm2⟩ := hv.form
  unfold maxLen at hm1 hm2
  by_cases hlm : l.length = m.length
  case neg =>
    have hd : ((l.length : Int) != (m.length : Int)) = true := by rw [bne_iff_ne]; omega
    have HE : Hid ((l == m) = false) := Lib.hid (by rw [beq_eq_false_iff_ne]; intro e; exact hlm (by rw [e]))
    clear hlm hu hv
    go_enter Tryd.func71, Tryd.ntmps71
    go_wp2
    go_ret
    rw [HE.out]
    exact ⟨rfl, Below.refl _ _⟩
  have HU := Lib.hid hu
  have HV := Lib.hid hv
  have Hlm := Lib.hid hlm
  rw [← hlm] at HV ⊢
  have hd : ((l.length : Int) != (l.length : Int)) = false := by simp
  obtain ⟨n, hn⟩ : ∃ n, n = l.length := ⟨_, rfl⟩
  have Hn := Lib.hid hn
  rw [← hn] at HU HV hl hd ⊢
  clear hu hv hlm hn
  go_enter Tryd.func71, Tryd.ntmps71
  go_wp2
  go_loopw [13] (fun x wr => ∃ k : Nat, k ≤ n ∧ x = .int .i64 (k : Int) ∧ Below w.heap.size w wr ∧ ∀ j (hj : j < k) (h : j < l.length) (h2 : j < m.length), l[j] = m[j]) (fun x _ => n - (intOf x).toNat)
  case atStart => exact ⟨0, Nat.zero_le _, rfl, Below.refl _ _, fun j hj => by omega⟩
  case round =>
    obtain ⟨k, hk, rfl, hb, hall⟩ := hrel
    by_cases hlt : k < n
    · have hk1 : k < l.length := by rw [← Hn.out]; exact hlt
      have hk2 : k < m.length := by rw [← Hlm.out]; exact hk1
      have hd1 : decide ((k : Int) < (n : Int)) = true := decide_eq_true (by omega)
      obtain ⟨b1, o1, rfl, e1⟩ := isB_at HU.out k hk1
      obtain ⟨b2, o2, rfl, e2⟩ := isB_at HV.out k hk2
      have f1 : wr.drew.cell? _ = _ := cells_below hb _ _ e1
      have f2 : wr.drew.cell? _ = _ := cells_below hb _ _ e2
      have hbd : Below w.heap.size w wr.drew := hb.drew
      by_cases hx : l[k] = m[k]
      · have HA : Hid (∀ j (hj : j < k + 1) (h : j < l.length) (h2 : j < m.length), l[j] = m[j]) := Lib.hid fun j hj h h2 => by
          by_cases e : j = k
          · subst e; exact hx
          · exact hall j (by omega) h h2
        rw [← hx] at f2
        clear hall hx e1 e2 hb
        go_upto_region 6 with fail
        refine wp_region_still_tail 8 (by kernel_rfl) (by kernel_rfl) ?_
        simp only [List.take_succ_cons, List.take_zero, List.drop_succ_cons, List.drop_zero]
        change wpStill _ _ wr.drew (fun a' => wpList _ _ _ _ a' wr.drew) _ _
        generalize wr.drew = W1 at *
        iterate 8 still_step
        refine wpStill_nil ?_
        go_wp2_with fail
        go_roundw
        case rel => exact ⟨k + 1, by omega, by go_num, hbd, HA.out⟩
        case measure => simp [intOf]; omega
      · have HE : Hid ((l == m) = false) := Lib.hid (by
          rw [beq_eq_false_iff_ne]
          intro e
          subst e
          exact hx rfl)
        have hne : (((l[k].toNat : Nat) : Int) != ((m[k].toNat : Nat) : Int)) = true := by
          rw [bne_iff_ne]
          intro e
          exact hx (UInt8.toNat_inj.1 (by omega))
        clear hall hx e1 e2 hb
        go_upto_region 6 with fail
        refine wp_region_still_tail 8 (by kernel_rfl) (by kernel_rfl) ?_
        simp only [List.take_succ_cons, List.take_zero, List.drop_succ_cons, List.drop_zero]
        change wpStill _ _ wr.drew (fun a' => wpList _ _ _ _ a' wr.drew) _ _
        generalize wr.drew = W1 at *
        iterate 8 still_step
        refine wpStill_nil ?_
        go_wp2_with fail
        go_ret
        rw [HE.out]
        exact ⟨rfl, hbd⟩
    · obtain rfl : k = n := by omega
      have HE : Hid ((l == m) = true) := Lib.hid (by
        rw [beq_iff_eq]
        exact List.ext_getElem Hlm.out fun j h1 h2 => hall j (by rw [Hn.out]; exact h1) h1 h2)
      have hdz : decide ((k : Int) < (k : Int)) = false := by simp
      clear hall
      go_wp2
      go_ret
      rw [HE.out]
      exact ⟨rfl, hb⟩
end
end Go.Proofs.YtbmmcaoifkboiaaDoor

/- A plan copied. -/
set_option linter.unusedVariables false
set_option linter.unusedSimpArgs false
set_option maxRecDepth 100000
namespace Go.Proofs.YtbmmcaoifkboiaaDoor
open Go.RowKit

theorem info_plan : (Tryd.prog.info? 64).map (·.size) = some 2 := by kernel_rfl
abbrev planRow (v : Value) (r : Int) : Obj := .cells #[v, .int .i64 r] 64 (0, 0)
theorem plan_cells {W : World} {g : Nat} {v : Value} {r : Int} (h : W.heap[g]? = some (planRow v r)) : W.cell? ⟨g, 0, none⟩ = some v ∧ W.cell? ⟨g, 1, none⟩ = some (.int .i64 r) := by
  refine ⟨?_, ?_⟩ <;> · rw [cell_of_row _ _ _ _ _ _ h]; rfl
set_option maxHeartbeats 4000000 in
theorem pclone_any (w : World) (B : Nat) (v : Value) (t : List Bool) (r : Int) (hv : MineO B w v t) (ht : t.length ≤ 1000000) :
    Calls Tryd.prog 41 #[.agg #[v, .int .i64 r]] w fun e w' => ∃ u, e = .returned (.agg #[u, .int .i64 r]) ∧ MineO w.heap.size w' u t ∧ Below w.heap.size w w' := by
  obtain ⟨W1, hW1⟩ : ∃ W1, W1 = w.alloc (.cells #[v, .int .i64 r] 64) := ⟨_, rfl⟩
  have hp1 : W1.heap[w.heap.size]? = some (planRow v r) := by rw [hW1]; exact heap_alloc_new w _
  have hb1 : Below w.heap.size w W1 := by rw [hW1]; exact (Below.refl _ _).alloc (Nat.le_refl _) _
  obtain ⟨W2, hW2⟩ : ∃ W2, W2 = W1.alloc (.cells #[.slice none 0 0, .int .i64 0] 64) := ⟨_, rfl⟩
  have hq2 : W2.heap[W1.heap.size]? = some (planRow (.slice none 0 0) 0) := by rw [hW2]; exact heap_alloc_new W1 _
  have hb12 : Below W1.heap.size W1 W2 := by rw [hW2]; exact (Below.refl _ _).alloc (Nat.le_refl _) _
  have hp2 := (hb12.block _ (lt_of_heap hp1)).trans hp1
  have hb2 := hb1.trans (hb12.mono hb1.size)
  have hs1 : W1.heap.size = w.heap.size + 1 := by rw [hW1]; simp
  rw [hs1] at hq2
  have hv2 : MineO B W2.drew v t := (hv.below hb2).below (Below.refl _ _).drew
  obtain ⟨a, c, rfl, _, _⟩ := hv.form
  have HCL := Lib.hid (cloneO_any W2.drew B _ t hv2 ht)
  clear hb1 hb12 hp1 hv hv2
  have HW1 := Lib.hid hW1
  have HW2 := Lib.hid hW2
  clear hW1 hW2
  go_enter Tryd.func41, Tryd.ntmps41
  go_upto_region 1 with fail
  rw [← HW1.out, ← HW2.out]
  clear HW1 HW2 hs1
  have hS0 : (fun W : World => W.heap[w.heap.size]? = some (planRow (.slice a t.length c) r)) W2.drew := hp2
  replace hq2 : W2.drew.heap[w.heap.size + 1]? = _ := hq2
  replace hb2 := hb2.drew
  refine wp_region_noPanic ?_
  refine wp_region_held_drew (S := (fun W : World => W.heap[w.heap.size]? = some (planRow (.slice a t.length c) r))) (by kernel_rfl) hS0 (fun hH => ?_)
  refine take_at (i := 0) (v := ?_) rfl (by kernel_rfl) (by kernel_rfl) (by kernel_rfl) (fun _ _ _ h => h) (Or.inl ⟨by rfl, ?_⟩) hH ?_
  rotate_left
  · (intro w hSw; obtain ⟨q0, q1⟩ := plan_cells hSw; go_simp; try with_reducible rfl)
  try simp only [Act.put, List.setIfInBounds_toArray, List.set_cons_zero, List.set_cons_succ]
  refine take_at (i := 1) (v := ?_) rfl (by kernel_rfl) (by kernel_rfl) (by kernel_rfl) (fun _ _ _ h => h) (Or.inl ⟨by rfl, ?_⟩) hH ?_
  rotate_left
  · (intro w hSw; obtain ⟨q0, q1⟩ := plan_cells hSw; go_simp; try with_reducible rfl)
  try simp only [Act.put, List.setIfInBounds_toArray, List.set_cons_zero, List.set_cons_succ]
  refine take_at (i := 3) (v := ?_) rfl (by kernel_rfl) (by kernel_rfl) (by kernel_rfl) (fun _ _ _ h => h) (Or.inl ⟨by rfl, ?_⟩) hH ?_
  rotate_left
  · (intro w hSw; obtain ⟨q0, q1⟩ := plan_cells hSw; go_simp; try with_reducible rfl)
  try simp only [Act.put, List.setIfInBounds_toArray, List.set_cons_zero, List.set_cons_succ]
  refine take_at (i := 4) (v := ?_) rfl (by kernel_rfl) (by kernel_rfl) (by kernel_rfl) (fun _ _ _ h => h) (Or.inl ⟨by rfl, ?_⟩) hH ?_
  rotate_left
  · (intro w hSw; obtain ⟨q0, q1⟩ := plan_cells hSw; go_simp; try with_reducible rfl)
  try simp only [Act.put, List.setIfInBounds_toArray, List.set_cons_zero, List.set_cons_succ]
  refine wpAnyH_ready (rs := [2]) (by kernel_rfl) (by simp) ?_
  refine ready_at rfl (fun K hK => ?_) AllReadyH.nil
  go_simp
  refine HCL.out.mono ?_
  rintro e W3 ⟨u, rfl, hm3, hb3⟩
  obtain ⟨au, cu, rfl, _, _⟩ := hm3.form
  have hHn := (hb3.block _ (lt_of_heap hH)).trans hH
  have hq3 := (hb3.block _ (lt_of_heap hq2)).trans hq2
  have hb23 := hb2.trans (hb3.mono hb2.size)
  clear hH
  go_wp2_with fail
  refine hK.out _ _ hHn (fun hH => ?_)
  clear hHn
  clear hK K
  try simp only [Act.put, List.setIfInBounds_toArray, List.set_cons_zero, List.set_cons_succ]
  refine take_at (i := 5) (v := ?_) rfl (by kernel_rfl) (by kernel_rfl) (by kernel_rfl) (fun _ _ _ h => h) (Or.inl ⟨by rfl, ?_⟩) hH ?_
  rotate_left
  · (intro w hSw; obtain ⟨q0, q1⟩ := plan_cells hSw; go_simp; try with_reducible rfl)
  try simp only [Act.put, List.setIfInBounds_toArray, List.set_cons_zero, List.set_cons_succ]
  refine wpAnyH_ready (rs := [6]) (by kernel_rfl) (by simp) ?_
  refine ready_at rfl (fun K hK => ?_) AllReadyH.nil
  go_simp
  obtain ⟨g00, g01⟩ := plan_cells hq3
  have f0 : W3.frozen? ⟨w.heap.size + 1, 0, none⟩ = false := frozen_p hq3 0
  have f1 : W3.frozen? ⟨w.heap.size + 1, 1, none⟩ = false := frozen_p hq3 1
  have ht4 := (turned_one W3 (w.heap.size + 1) 0 (.slice au t.length cu)).trans (turned_one (W3.setCell ⟨w.heap.size + 1, 0, none⟩ (.slice au t.length cu)) (w.heap.size + 1) 1 (.int .i64 r))
  have hq4 := head_setCell (head_setCell hq3 (i := 0) (.slice au t.length cu)) (i := 1) (.int .i64 r)
  go_wp2_with fail
  · rename_i h
    exact absurd h (by rw [f0]; decide)
  rename_i hnf
  clear hnf
  generalize (W3.setCell ⟨w.heap.size + 1, 0, none⟩ (.slice au t.length cu)).setCell ⟨w.heap.size + 1, 1, none⟩ (.int .i64 r) = W4 at *
  have hHn := (ht4.block _ (lt_of_heap hH) (by omega)).trans hH
  clear hH f0 f1 g00 g01
  refine hK.out _ _ hHn (fun hH => ?_)
  clear hHn
  clear hK K
  try simp only [Act.put, List.setIfInBounds_toArray, List.set_cons_zero, List.set_cons_succ]
  refine wpAnyH_done (by kernel_rfl) ?_ _
  refine NoPanic.normal ?_
  clear hH
  replace hq4 : W4.heap[w.heap.size + 1]? = some (planRow (.slice au t.length cu) r) := hq4
  have hv := run_loadVar_row (P := Tryd.prog) W4 (w.heap.size + 1) 64 64 _ (0, 0) _ hq4 Tryd.underlying64 rfl (by rw [info_plan]; rfl)
  have hm4 : MineO w.heap.size W4 (.slice au t.length cu) t := World.ownsRow.mono (hm3.keep fun k hk hl => ht4.block k hl (by have := lt_of_heap hq2; omega)) hb2.size
  go_wp2
  refine bodyPost_ret (v := .agg #[.slice au t.length cu, .int .i64 r]) (results_cell Tryd.results41 rfl hv) rfl ⟨_, rfl, hm4, ?_⟩
  exact hb23.trans (ht4.below (B := w.heap.size) hb23.size fun k hk => by omega)
end Go.Proofs.YtbmmcaoifkboiaaDoor

/- What Open comes to, in plain lists. -/
set_option linter.unusedVariables false
set_option linter.unusedSimpArgs false
set_option maxRecDepth 100000
namespace Go.Proofs.YtbmmcaoifkboiaaDoor
open Go.RowKit

/-- is sector i a right mark of its place? -/
def Dk.markOk (D : Dk) (i : Nat) : Bool := (fright (sec D.now i) && decide (fkind (sec D.now i) = 1)) && decide (fwrite (sec D.now i) % 2 = i) && decide (fplace (sec D.now i) ≤ D.blocks)
/-- is note i right? -/
def Dk.noteOk (D : Dk) (i : Nat) : Bool := (fright (sec D.now (2 + i)) && decide (fkind (sec D.now (2 + i)) = 2)) && decide (fplace (sec D.now (2 + i)) < D.blocks)
/-- the greater mark -/
def Dk.mark (D : Dk) : List UInt8 := if fwrite (sec D.now 0) < fwrite (sec D.now 1) then sec D.now 1 else sec D.now 0
def Dk.lastTo (D : Dk) (m : List UInt8) : Nat → Nat
  | 0 => fwrite m
  | k + 1 => max (D.lastTo m k) (fwrite (sec D.now (2 + k)))
def Dk.againTo (D : Dk) (m : List UInt8) : Nat → List (List UInt8)
  | 0 => []
  | k + 1 => if k < fplace m ∧ fwrite (sec D.now (2 + k)) = fwrite m then D.againTo m k ++ [sec D.now (2 + k)] else D.againTo m k
def toI64 (n : Nat) : Int := if n < 9223372036854775808 then n else (n : Int) - 18446744073709551616
def mseq (m : List UInt8) : Int := toI64 (leR ((fbytes m).take 8))
/-- the journal that an opening finds, ahead of what is laid again -/
def Dk.found (D : Dk) : Jn := ⟨D, D.lastTo D.mark D.blocks, mseq D.mark, 0⟩
/-- Open: the error, the journal -/
def Dk.openJ (D : Dk) : Int × Jn :=
  if D.n < 32 then (60, ⟨D, 0, 0, 0⟩) else if D.off then (43, ⟨D, 0, 0, 0⟩)
  else if D.markOk 0 = false ∧ D.markOk 1 = false then (60, ⟨D, 0, 0, 0⟩)
  else if D.markOk 0 = false ∨ D.markOk 1 = false then (62, ⟨D, 0, 0, 0⟩)
  else if ∃ i, i < D.blocks ∧ D.noteOk i = false then (62, ⟨D, 0, 0, 0⟩)
  else if (D.againTo D.mark D.blocks).length = fplace D.mark ∧ 0 < (D.againTo D.mark D.blocks).length
    then ((D.found.spread (D.againTo D.mark D.blocks)).off, D.found.spread (D.againTo D.mark D.blocks)) else (0, D.found)
end Go.Proofs.YtbmmcaoifkboiaaDoor

/- Format: an empty journal made. -/
set_option linter.unusedVariables false
set_option linter.unusedSimpArgs false
set_option maxRecDepth 100000
namespace Go.Proofs.YtbmmcaoifkboiaaDoor
open Go.RowKit

/-- the first i notes and blocks laid -/
def Jn.fmtTo (J : Jn) : Nat → Jn
  | 0 => J
  | i + 1 => ((J.fmtTo i).lay (2 + i) (mkF 0 (2 * 16777216 + 0) [])).lay (J.D.home i) (mkF 0 (3 * 16777216 + i) [])
/-- the first i marks laid -/
def Jn.fmtMarks (J : Jn) : Nat → Jn
  | 0 => J
  | i + 1 => (J.fmtMarks i).lay i (markF i 0 0)
/-- Format: what it answers, and the disk behind it -/
def Jn.format (J : Jn) : Jn := (((J.fmtTo J.D.blocks).flush).fmtMarks 2).flush
def Dk.format (D : Dk) : Int × Dk := if D.n < 32 then (60, D) else ((Jn.format ⟨D, 0, 0, 0⟩).off, (Jn.format ⟨D, 0, 0, 0⟩).D)
theorem Jn.fmtTo_n (J : Jn) (i : Nat) : (J.fmtTo i).D.n = J.D.n := by
  induction i with
  | zero => rfl
  | succ i ih => rw [Jn.fmtTo, Jn.lay_n, Jn.lay_n, ih]
theorem Jn.fmtMarks_n (J : Jn) (i : Nat) : (J.fmtMarks i).D.n = J.D.n := by
  induction i with
  | zero => rfl
  | succ i ih => rw [Jn.fmtMarks, Jn.lay_n, ih]
theorem Dk.home_n {D D' : Dk} (h : D.n = D'.n) (i : Nat) : D.home i = D'.home i := by unfold Dk.home Dk.blocks; rw [h]
theorem Dk.blocks_n {D D' : Dk} (h : D.n = D'.n) : D.blocks = D'.blocks := by unfold Dk.blocks; rw [h]

theorem run_build_journal (W : World) (F : Ft) : (Instr.build 97 #[(0, F.ptr)]).run Tryd.prog W = .ok (.agg #[F.ptr, .int .u64 0, .int .i64 0, .int .i64 0]) W := by kernel_rfl
set_option maxHeartbeats 8000000 in
theorem format_any (w : World) (F : Ft) (D : Dk) (h : DkAt w F D) (hn : Nib w) :
    Calls Tryd.prog 26 #[F.ptr] w fun e w' => e = .returned (.int .i64 D.format.1) ∧ DkAt w' F D.format.2 ∧ Turned F.has w w' := by
  have hnm := h.ok.nm
  have HS := Lib.hid (sectors_any w F D h)
  by_cases h32 : D.n < 32
  · have e1 : D.format = (60, D) := by rw [Dk.format, if_pos h32]
    rw [e1]
    have HD := Lib.hid h
    have hd : decide ((D.n : Int) < 32) = true := by simp; omega
    clear e1 h
    go_enter Tryd.func26, Tryd.ntmps26
    go_wp2_with fail
    refine HS.out.mono ?_
    rintro e w1 ⟨rfl, rfl⟩
    go_wp2_with fail
    go_ret
    exact ⟨rfl, HD.out, Turned.refl _ _⟩
  · have e1 : D.format = ((Jn.format ⟨D, 0, 0, 0⟩).off, (Jn.format ⟨D, 0, 0, 0⟩).D) := by rw [Dk.format, if_neg h32]
    rw [e1]
    have hd : decide ((D.n : Int) < 32) = false := by simp; omega
    have hj0 : JAt (w.alloc (.cells #[F.ptr, .int .u64 0, .int .i64 0, .int .i64 0] 97)) F w.heap.size ⟨D, 0, 0, 0⟩ :=
      ⟨fun hk => Nat.lt_irrefl _ (h.lt hk), heap_alloc_new w _, h.below ((Below.refl _ _).alloc (Nat.le_refl _) _)⟩
    have hn0 : Nib (w.alloc (.cells #[F.ptr, .int .u64 0, .int .i64 0, .int .i64 0] 97)) := hn.below ((Below.refl _ _).alloc (Nat.le_refl _) _)
    have ht0 : Turned (JT F w.heap.size) w (w.alloc (.cells #[F.ptr, .int .u64 0, .int .i64 0, .int .i64 0] 97)) := Turned.of_below ((Below.refl _ _).alloc (Nat.le_refl _) _)
    have HT : Hid (∀ w', Turned (JT F w.heap.size) w w' → Turned F.has w w') := Lib.hid (fun w' ht => ht.mono fun k hk hT => by
      rcases hT with hT | hT
      · exact hT
      · omega)
    have Hf : Hid (Jn.format ⟨D, 0, 0, 0⟩ = ((((⟨D, 0, 0, 0⟩ : Jn).fmtTo D.blocks).flush).fmtMarks 2).flush) := Lib.hid rfl
    obtain ⟨J0, hJ0⟩ : ∃ J0 : Jn, J0 = ⟨D, 0, 0, 0⟩ := ⟨_, rfl⟩
    have hJD : J0.D.n = D.n := by rw [hJ0]
    have hJB : J0.D.blocks = D.blocks := by rw [hJ0]
    rw [← hJ0] at hj0
    rw [← hJ0] at Hf
    have h32b : 32 ≤ D.n := by omega
    clear h hn e1 h32
    go_enter Tryd.func26, Tryd.ntmps26
    rw [← hJ0]
    clear hJ0
    go_wp2_with fail
    refine HS.out.mono ?_
    rintro e w1 ⟨rfl, rfl⟩
    go_wp2_with fail
    generalize w.alloc (.cells #[F.ptr, .int .u64 0, .int .i64 0, .int .i64 0] 97) = W0 at *
    generalize w.heap.size = p at *
    have HJD := Lib.hid hJD
    have HJB := Lib.hid hJB
    have hb8 : J0.D.blocks ≤ 8191 := by unfold Dk.blocks; omega
    refine (blocks_any W0 F p J0 hj0 (by omega)).mono ?_
    rintro e w1 ⟨rfl, rfl⟩
    have hn2 : 2 ≤ J0.D.n := by omega
    clear hJD hJB hd
    go_wp2_with fail
    have Hn2 := Lib.hid hn2
    generalize hbl : J0.D.blocks = b at *
    have Hbl := Lib.hid hbl
    clear hbl hn2
    go_loopw [18] (fun i wr => ∃ k : Nat, k ≤ b ∧ i = .int .i64 (k : Int) ∧ JAt wr F p (J0.fmtTo k) ∧ Nib wr ∧ Turned (JT F p) w wr) (fun i _ => b - (intOf i).toNat)
    case atStart => exact ⟨0, Nat.zero_le _, rfl, hj0, hn0, ht0⟩
    case round =>
      obtain ⟨k, hk, rfl, hj, hnb, ht⟩ := hrel
      clear hj0 hn0 ht0
      by_cases hlt : k < b
      · have hd : decide ((k : Int) < (b : Int)) = true := by simpa using hlt
        have hHn : 2 ≤ (J0.fmtTo k).D.n := by rw [Jn.fmtTo_n]; exact Hn2.out
        have Hst : Hid (J0.fmtTo (k + 1) = ((J0.fmtTo k).lay (2 + k) (mkF 0 (2 * 16777216 + 0) [])).lay ((J0.fmtTo k).D.home k) (mkF 0 (3 * 16777216 + k) [])) := by
          show J0.fmtTo (k + 1) = _
          rw [Jn.fmtTo, Dk.home_n (Jn.fmtTo_n J0 k)]
        generalize J0.fmtTo k = Jk at *
        go_wp2_with fail
        refine (framed_any wr 0 2 0 (.slice none 0 0) [] (by omega) (by omega) (by omega) (IsB.nil _) hnb).mono ?_
        rintro e w3 ⟨rfl, hb3⟩
        have hj3 := hj.below hb3
        have hn3 := hnb.below hb3
        have ht3 := ht.trans (Turned.of_below (T := JT F p) hb3)
        clear hj hnb ht hb3
        go_wp2_with fail
        have hl4 := lay_any w3 F p Jk hj3 (2 + k) (by omega) (mkF 0 (2 * 16777216 + 0) []) (mkF_length _ _ _)
        rw [show ((2 + k : Nat) : Int) = 2 + (k : Int) by omega] at hl4
        refine hl4.mono ?_
        rintro e w4 ⟨rfl, hj4, ht4⟩
        have hn4 := hn3.turned hj3 ht4
        have ht4' := ht3.trans ht4
        have hhm : Jk.D.home k = (Jk.lay (2 + k) (mkF 0 (2 * 16777216 + 0) [])).D.home k := Dk.home_n (Jn.lay_n _ _ _).symm k
        have hHn4 : 2 ≤ (Jk.lay (2 + k) (mkF 0 (2 * 16777216 + 0) [])).D.n := by rw [Jn.lay_n]; exact hHn
        have Hhm := Lib.hid hhm
        clear hl4 hj3 hn3 ht3 ht4 hhm
        generalize Jk.lay (2 + k) (mkF 0 (2 * 16777216 + 0) []) = J4 at *
        go_wp2_with fail
        refine (home_any w4 F p J4 hj4 hHn4 k (by omega)).mono ?_
        rintro e w5 ⟨rfl, rfl⟩
        go_wp2_with fail
        refine (framed_any w4 0 3 k (.slice none 0 0) [] (by omega) (by omega) (by omega) (IsB.nil _) hn4).mono ?_
        rintro e w6 ⟨rfl, hb6⟩
        have hj6 := hj4.below hb6
        have hn6 := hn4.below hb6
        have ht6 := ht4'.trans (Turned.of_below (T := JT F p) hb6)
        have hnm6 := hj6.disk.ok.nm
        have hhb : J4.D.home k ≤ 33554432 := by unfold Dk.home Dk.blocks; omega
        clear hj4 hn4 ht4' hb6
        go_wp2_with fail
        refine (lay_any w6 F p J4 hj6 (J4.D.home k) hhb (mkF 0 (3 * 16777216 + k) []) (mkF_length _ _ _)).mono ?_
        rintro e w7 ⟨rfl, hj7, ht7⟩
        have hn7 := hn6.turned hj6 ht7
        have ht7' := ht6.trans ht7
        clear hj6 hn6 ht6 ht7 hnm6 hhb
        go_wp2_with fail
        go_roundw
        case rel => exact ⟨k + 1, by omega, by go_num, by rw [Hst.out, Hhm.out]; exact hj7, hn7, ht7'⟩
        case measure => simp [intOf]; omega
      · obtain rfl : k = b := by omega
        have hd : decide ((k : Int) < (k : Int)) = false := by simp
        have Hf2 : Hid (J0.format = (((J0.fmtTo k).flush).fmtMarks 2).flush) := by
          have := Hf.out
          rw [← HJB.out] at this
          exact this
        generalize J0.fmtTo k = Jk at *
        go_wp2_with fail
        refine (jflush_any wr F p Jk hj).mono ?_
        rintro e w8 ⟨rfl, hj8, ht8⟩
        have hn8 := hnb.turned hj ht8
        have ht8' := ht.trans ht8
        clear hj hnb ht ht8
        generalize Jk.flush = J8 at *
        go_wp2_with fail
        go_loopw [36] (fun i wr => ∃ m : Nat, m ≤ 2 ∧ i = .int .i64 (m : Int) ∧ JAt wr F p (J8.fmtMarks m) ∧ Nib wr ∧ Turned (JT F p) w wr) (fun i _ => 2 - (intOf i).toNat)
        case atStart => exact ⟨0, Nat.zero_le _, rfl, hj8, hn8, ht8'⟩
        case round =>
          obtain ⟨m, hm, rfl, hj, hnb, ht⟩ := hrel
          clear hj8 hn8 ht8'
          by_cases hlt2 : m < 2
          · have hd2 : decide ((m : Int) < 2) = true := by simp; omega
            have Hst : Hid (J8.fmtMarks (m + 1) = (J8.fmtMarks m).lay m (markF m 0 0)) := Lib.hid rfl
            generalize J8.fmtMarks m = Jm at *
            have hmm : IntKind.u64.wrap (m : Int) = (m : Int) := by rw [wrap_u64_nat, Nat.mod_eq_of_lt (by omega)]
            go_wp2_with fail
            refine (marked_any wr m 0 0 (by omega) (by omega) hnb).mono ?_
            rintro e w9 ⟨rfl, hb9⟩
            have hj9 := hj.below hb9
            have hn9 := hnb.below hb9
            have ht9 := ht.trans (Turned.of_below (T := JT F p) hb9)
            clear hj hnb ht hb9
            go_wp2_with fail
            refine (lay_any w9 F p Jm hj9 m (by omega) (markF m 0 0) (mkF_length _ _ _)).mono ?_
            rintro e w10 ⟨rfl, hj10, ht10⟩
            have hn10 := hn9.turned hj9 ht10
            have ht10' := ht9.trans ht10
            clear hj9 hn9 ht9 ht10 hmm
            go_wp2_with fail
            go_roundw
            case rel => exact ⟨m + 1, by omega, by go_num, by rw [Hst.out]; exact hj10, hn10, ht10'⟩
            case measure => simp [intOf]; omega
          · obtain rfl : m = 2 := by omega
            generalize J8.fmtMarks 2 = Jm at *
            go_wp2_with fail
            refine (jflush_any wr F p Jm hj).mono ?_
            rintro e w11 ⟨rfl, hj11, ht11⟩
            have ht11' := ht.trans ht11
            have HF := Lib.hid (And.intro hj11.disk (HT.out _ ht11'))
            obtain ⟨c0, c1, c2, c3⟩ := hj11.cells
            have Hf3 := Lib.hid Hf2.out
            clear hj hnb ht ht11 ht11' hj11
            generalize Jm.flush = Jf at *
            go_wp2_with fail
            go_ret
            rw [Hf3.out]
            exact ⟨rfl, HF.out⟩
end Go.Proofs.YtbmmcaoifkboiaaDoor

/- Open: a journal opened. -/
set_option linter.unusedVariables false
set_option linter.unusedSimpArgs false
set_option maxRecDepth 100000
namespace Go.Proofs.YtbmmcaoifkboiaaDoor
open Go.RowKit

/-- how it ends -/
def OpenEnd (F : Ft) (D : Dk) (w : World) (e : Ending) (w' : World) : Prop :=
  (if D.openJ.1 = 0 then ∃ p, e = .returned (.tuple #[jptr p, .int .i64 0]) ∧ JAt w' F p D.openJ.2 ∧ w.heap.size ≤ p else e = .returned (.tuple #[.pointer none, .int .i64 D.openJ.1]) ∧ DkAt w' F D.openJ.2.D) ∧ Turned F.has w w'
theorem OpenEnd.bad {F : Ft} {D : Dk} {w w' : World} {c : Int} (he : D.openJ = (c, ⟨D, 0, 0, 0⟩)) (hc : c ≠ 0) (hd : DkAt w F D) (hb : Below w.heap.size w w') : OpenEnd F D w (.returned (.tuple #[.pointer none, .int .i64 c])) w' := by
  unfold OpenEnd
  rw [he, if_neg hc]
  exact ⟨⟨rfl, hd.below hb⟩, Turned.of_below hb⟩

theorem OpenEnd.ok {F : Ft} {D : Dk} {w w' : World} {p : Nat} {J : Jn} (he : D.openJ = (0, J)) (hj : JAt w' F p J) (hp : w.heap.size ≤ p) (ht : Turned F.has w w') : OpenEnd F D w (.returned (.tuple #[jptr p, .int .i64 0])) w' := by
  unfold OpenEnd
  rw [he, if_pos rfl]
  exact ⟨⟨p, rfl, hj, hp⟩, ht⟩
theorem OpenEnd.away {F : Ft} {D : Dk} {w w' : World} {J : Jn} {o c : Int} (he : D.openJ = (c, J)) (ho : c = o) (hc : ¬ o = 0) (hd : DkAt w' F J.D) (ht : Turned F.has w w') : OpenEnd F D w (.returned (.tuple #[.pointer none, .int .i64 o])) w' := by
  subst ho
  unfold OpenEnd
  rw [he, if_neg hc]
  exact ⟨⟨rfl, hd⟩, ht⟩

/-- what the two marks' variable holds behind k rounds -/
def mkAt (D : Dk) (k i : Nat) : List UInt8 := if i < k ∧ D.markOk i = true then sec D.now i else z128
def mkCount (D : Dk) (k : Nat) : Nat := (if 0 < k ∧ D.markOk 0 = true then 1 else 0) + (if 1 < k ∧ D.markOk 1 = true then 1 else 0)
theorem mkAt_length {D : Dk} (h : D.Ok) (h2 : 2 ≤ D.n) (k i : Nat) (hi : i < 2) : (mkAt D k i).length = 128 := by
  unfold mkAt
  split
  · exact sec_length h.now (by omega)
  · exact z128_length
theorem mkAt_step {D : Dk} (h : D.Ok) (h2 : 2 ≤ D.n) (k : Nat) (hk : k < 2) (ho : D.markOk k = true) :
    layB (mkAt D k 0 ++ mkAt D k 1) (k * 128) (sec D.now k) = mkAt D (k + 1) 0 ++ mkAt D (k + 1) 1 ∧ mkCount D (k + 1) = mkCount D k + 1 := by
  have hl : (sec D.now k).length = 128 := sec_length h.now (by omega)
  have l0 := mkAt_length h h2 k 0 (by omega)
  have l1 := mkAt_length h h2 k 1 (by omega)
  rcases (show k = 0 ∨ k = 1 by omega) with rfl | rfl
  · have e0 : mkAt D 1 0 = sec D.now 0 := by simp [mkAt, ho]
    have e1 : mkAt D 1 1 = mkAt D 0 1 := by simp [mkAt]
    constructor
    · rw [e0, e1, Nat.zero_mul]
      have := layB_mid (a := []) (m := mkAt D 0 0) (r := mkAt D 0 1) (v := sec D.now 0) (o := 0) rfl (by omega)
      simpa using this
    · simp [mkCount, ho]
  · have e0 : mkAt D 2 0 = mkAt D 1 0 := by simp [mkAt]
    have e1 : mkAt D 2 1 = sec D.now 1 := by simp [mkAt, ho]
    constructor
    · rw [e0, e1, Nat.one_mul]
      have := layB_mid (a := mkAt D 1 0) (m := mkAt D 1 1) (r := []) (v := sec D.now 1) (o := 128) l0 (by omega)
      simpa using this
    · simp [mkCount, ho]
theorem mkAt_skip {D : Dk} (k : Nat) (hk : k < 2) (ho : D.markOk k = false) : mkAt D (k + 1) 0 ++ mkAt D (k + 1) 1 = mkAt D k 0 ++ mkAt D k 1 ∧ mkCount D (k + 1) = mkCount D k := by
  rcases (show k = 0 ∨ k = 1 by omega) with rfl | rfl <;> simp [mkAt, mkCount, ho]
theorem zero_marks (w : World) : (zeroValue 104).run Tryd.prog w = .ok (.agg (bv (z128 ++ z128)).toArray) w := by kernel_rfl
theorem info_marks : (Tryd.prog.info? 104).map (·.size) = some 256 := by kernel_rfl
section
variable {ops : Array Oper} {w : World} {Q : Exit → Act → World → Prop} {a : Act} {o : Oper} {rest : List Oper}
theorem wpList_alloc_marks (hg : o.guard = none) (ho : o.op = .alloc 104)
    (h : wpList Tryd.prog ops Q rest (a.put o.dst (.pointer (some ⟨w.heap.size, 0, none⟩))) (w.alloc (.cells (bv (z128 ++ z128)).toArray 104))) : wpList Tryd.prog ops Q (o :: rest) a w := by
  refine wpList_val _ _ hg ?_ h
  unfold execOp
  simp only [ho, Instr.alloc, Sem.run_bind, zero_marks, Result.andThen_ok]
  rfl
end
section
variable {ops : Array Oper} {w : World} {Q : Exit → Act → World → Prop} {a : Act} {o : Oper} {rest : List Oper}
theorem wpList_build_one (hg : o.guard = none) (x : Operand) (ho : o.op = .buildSlice 109 1 #[(0, x)]) (L : List UInt8) (hl : L.length = 128) (hx : a.eval x = .agg (bv L).toArray)
    (h : wpList Tryd.prog ops Q rest (a.put o.dst (.slice (some ⟨w.heap.size, 0, none⟩) 1 1)) (w.alloc (.cells (bv L).toArray 100))) : wpList Tryd.prog ops Q (o :: rest) a w := by
  refine wpList_val _ _ hg ?_ h
  unfold execOp
  simp only [ho, List.map_toArray, List.map_cons, List.map_nil, hx, Sem.run_bind, run_build_one w L hl, Result.andThen_ok]
  rfl
end
theorem RowB.run_store_at {w : World} {g : Nat} {T : TypeId} {L : List UInt8} (h : RowB w g T L) (o : Nat) {l : List UInt8} (hl : o + l.length ≤ L.length) : (storeCells ⟨g, o, none⟩ (bv l)).run Tryd.prog w = .ok () (w.setCells g o (bv l)) := by
  have hst := run_storeCells_cells (P := Tryd.prog) g o (bv l) 0 w (fun j hj => (h.there o l.length hl j (by rw [bv_length] at hj; omega)).1) (fun j hj => (h.there o l.length hl j (by rw [bv_length] at hj; omega)).2) (bv_oneCell l)
  simpa using hst
theorem RowB.range_at {w : World} {g : Nat} {T : TypeId} {L : List UInt8} (h : RowB w g T L) (o n : Nat) (hn : o + n ≤ L.length) : w.rangeAt g o (bv ((L.drop o).take n)) := fun j v hj => by
  have hl : j < ((L.drop o).take n).length := by have := (List.getElem?_eq_some_iff.1 hj).1; simpa [bv] using this
  have hl2 := hl
  simp only [List.length_take, List.length_drop] at hl2
  rw [bv_get _ j hl] at hj
  rw [h.cell (o + j) (by omega)]
  rw [← hj]
  simp

set_option maxHeartbeats 8000000 in
theorem open_bad (w : World) (F : Ft) (D : Dk) (h : DkAt w F D) (hn : Nib w) (hbad : D.n < 32 ∨ D.off = true) :
    Calls Tryd.prog 27 #[F.ptr] w (OpenEnd F D w) := by
  have hnm := h.ok.nm
  have HS := Lib.hid (sectors_any w F D h)
  have HD := Lib.hid h
  by_cases h32 : D.n < 32
  · have he : D.openJ = (60, ⟨D, 0, 0, 0⟩) := by rw [Dk.openJ, if_pos h32]
    have HE := Lib.hid he
    have hd : decide ((D.n : Int) < 32) = true := by simp; omega
    clear h he hbad
    go_enter Tryd.func27, Tryd.ntmps27
    go_wp2_with fail
    refine HS.out.mono ?_
    rintro e w1 ⟨rfl, rfl⟩
    go_wp2_with fail
    go_ret2
    exact OpenEnd.bad HE.out (by decide) HD.out (Below.refl _ _)
  · have ho : D.off = true := hbad.resolve_left h32
    have he : D.openJ = (43, ⟨D, 0, 0, 0⟩) := by rw [Dk.openJ, if_neg h32, if_pos ho]
    have HE := Lib.hid he
    have hd : decide ((D.n : Int) < 32) = false := by simp; omega
    obtain ⟨W0, hW0⟩ : ∃ W0, W0 = (w.alloc (.cells #[F.ptr, .int .u64 0, .int .i64 0, .int .i64 0] 97)).alloc (.cells (bv (z128 ++ z128)).toArray 104) := ⟨_, rfl⟩
    have hb0 : Below w.heap.size w W0 := by rw [hW0]; exact ((Below.refl _ _).alloc (Nat.le_refl _) _).alloc (by simp) _
    have hj0 : JAt W0 F w.heap.size ⟨D, 0, 0, 0⟩ := by
      refine ⟨fun hk => Nat.lt_irrefl _ (h.lt hk), ?_, h.below hb0⟩
      rw [hW0, Below.heap_alloc _ _ _ (by simp)]
      exact heap_alloc_new w _
    have ht : (⟨D, 0, 0, 0⟩ : Jn).D.take 0 1 = (z128, false, 43) := by rw [Dk.take, if_pos ho]
    have HT := take_any W0 F w.heap.size _ hj0 (hn.below hb0) 0 1 (by show 0 < D.n; omega) (by omega)
    rw [ht] at HT
    have HT := Lib.hid HT
    have hlz : (bv z128).length = 128 := by rw [bv_length, z128_length]
    clear h he hbad ho ht hj0 h32
    go_enter Tryd.func27, Tryd.ntmps27
    go_wp2_with fail
    refine HS.out.mono ?_
    rintro e w1 ⟨rfl, rfl⟩
    go_upto_region 7 with (refine wpList_alloc_marks rfl rfl ?_)
    rw [← hW0]
    clear hW0
    go_wp2_with fail
    go_loopw [27] (fun i wr => i = .int .i64 0 ∧ wr = W0) (fun i _ => 0)
    case atStart => exact ⟨rfl, rfl⟩
    case round =>
      obtain ⟨rfl, rfl⟩ := hrel
      go_wp2_with fail
      refine HT.out.mono ?_
      rintro e w2 ⟨rfl, hb2⟩
      have hb3 := (hb0.trans (hb2.mono hb0.size)).alloc (Nat.le_trans hb0.size hb2.size) (.cells (bv z128).toArray 100)
      clear hb2
      go_wp2_with (first | (refine wpList_alloc_frame rfl rfl ?_) | (refine wpList_store_last 100 (.tmp 8) (.tmp 34) rfl _ (bv z128).toArray rfl rfl rfl (by rw [info_frame, List.size_toArray, hlz]) (by rw [List.size_toArray, hlz]) (all_oneCell_toArray (bv_oneCell z128)) ?_))
      go_ret2
      exact OpenEnd.bad HE.out (by decide) HD.out hb3

/-- what is known of a world on the way through Open -/
structure OpAt (w W : World) (F : Ft) (p B : Nat) (J : Jn) : Prop where
  jat : JAt W F p J
  nib : Nib W
  below : Below w.heap.size w W
  pB : p < B
  wp : w.heap.size ≤ p
  base : B ≤ W.heap.size
  nw : 0 < w.heap.size
  fw : ∀ k, F.has k → k < w.heap.size
theorem OpAt.step {w W W' : World} {F : Ft} {p B : Nat} {J : Jn} (h : OpAt w W F p B J) (hb : Below W.heap.size W W') : OpAt w W' F p B J :=
  ⟨h.jat.below hb, h.nib.below hb, h.below.trans (hb.mono h.below.size), h.pB, h.wp, Nat.le_trans h.base hb.size, h.nw, h.fw⟩
/-- a store into blocks of one's own that are none of the journal's -/
theorem OpAt.own {w W W' : World} {F : Ft} {p B : Nat} {J : Jn} (h : OpAt w W F p B J) {T : Nat → Prop} (hg : ∀ g, T g → w.heap.size ≤ g ∧ g ≠ p) (ht : Turned T W W') : OpAt w W' F p B J := by
  refine ⟨h.jat.turned ht (fun k hk e => ?_), h.nib.of_turned ht (fun e => ?_), h.below.trans (ht.below h.below.size (fun k hk => (hg k hk).1)), h.pB, h.wp, Nat.le_trans h.base ht.size, h.nw, h.fw⟩
  · have h1 := hg k e
    rcases hk with hk | hk
    · have := h.fw k hk; omega
    · exact h1.2 hk
  · have h1 := hg _ e
    have := h.nw
    omega
theorem OpAt.put_last {w W : World} {F : Ft} {p B : Nat} {J : Jn} (h : OpAt w W F p B J) (n : Nat) : OpAt w (W.setCell ⟨p, 1, none⟩ (.int .u64 (n : Int))) F p B { J with last := n } := by
  have ht := turned_one W p 1 (.int .u64 (n : Int))
  exact ⟨h.jat.put_last n, h.nib.of_turned ht (fun e => by have := h.nw; have := h.wp; omega), h.below.trans (ht.below h.below.size (fun k hk => by have := h.wp; omega)), h.pB, h.wp, Nat.le_trans h.base ht.size, h.nw, h.fw⟩
theorem OpAt.put_seq {w W : World} {F : Ft} {p B : Nat} {J : Jn} (h : OpAt w W F p B J) (n : Int) : OpAt w (W.setCell ⟨p, 2, none⟩ (.int .i64 n)) F p B { J with seq := n } := by
  have ht := turned_one W p 2 (.int .i64 n)
  exact ⟨h.jat.put_seq n, h.nib.of_turned ht (fun e => by have := h.nw; have := h.wp; omega), h.below.trans (ht.below h.below.size (fun k hk => by have := h.wp; omega)), h.pB, h.wp, Nat.le_trans h.base ht.size, h.nw, h.fw⟩
theorem OpAt.rebase {w W : World} {F : Ft} {p B B' : Nat} {J : Jn} (h : OpAt w W F p B J) (h1 : p < B') (h2 : B' ≤ W.heap.size) : OpAt w W F p B' J := ⟨h.jat, h.nib, h.below, h1, h.wp, h2, h.nw, h.fw⟩
theorem wrap_toI64 {n : Nat} (h : n < 18446744073709551616) : IntKind.i64.wrap (n : Int) = toI64 n := by
  rw [IntKind.wrap_i64, toI64]
  split <;> omega
theorem blocks_n0 (D : Dk) : (⟨D, 0, 0, 0⟩ : Jn).D.blocks = D.blocks := rfl
theorem mod2_walk (n k : Nat) (hk : k < 2) : (((n : Int).tmod 2) == (k : Int)) = decide (n % 2 = k) := by
  rw [Int.tmod_eq_emod_of_nonneg (by omega), Bool.eq_iff_iff]
  simp
  omega
theorem mod2_walk2 (n k : Nat) (hk : k < 2) : (((n : Int) % 2) == (k : Int)) = decide (n % 2 = k) := by
  rw [Bool.eq_iff_iff]
  simp
  omega

set_option maxHeartbeats 16000000 in
theorem open_rest (w : World) (F : Ft) (D : Dk) (h : DkAt w F D) (hn : Nib w) (h32 : ¬ D.n < 32) (ho : D.off = false) :
    Calls Tryd.prog 27 #[F.ptr] w (OpenEnd F D w) := by
  have hnm := h.ok.nm
  have HS := Lib.hid (sectors_any w F D h)
  have HD := Lib.hid h
  have hd : decide ((D.n : Int) < 32) = false := by simp; omega
  obtain ⟨W0, hW0⟩ : ∃ W0, W0 = (w.alloc (.cells #[F.ptr, .int .u64 0, .int .i64 0, .int .i64 0] 97)).alloc (.cells (bv (z128 ++ z128)).toArray 104) := ⟨_, rfl⟩
  have hb0 : Below w.heap.size w W0 := by rw [hW0]; exact ((Below.refl _ _).alloc (Nat.le_refl _) _).alloc (by simp) _
  have hj0 : JAt W0 F w.heap.size ⟨D, 0, 0, 0⟩ := by
    refine ⟨fun hk => Nat.lt_irrefl _ (h.lt hk), ?_, h.below hb0⟩
    rw [hW0, Below.heap_alloc _ _ _ (by simp)]
    exact heap_alloc_new w _
  have hr0 : RowB W0 (w.heap.size + 1) 104 (z128 ++ z128) := by
    rw [hW0]
    have := RowB.alloc (w.alloc (.cells #[F.ptr, .int .u64 0, .int .i64 0, .int .i64 0] 97)) 104 (z128 ++ z128)
    simpa using this
  have hop0 : OpAt w W0 F w.heap.size (w.heap.size + 2) ⟨D, 0, 0, 0⟩ :=
    ⟨hj0, hn.below hb0, hb0, by omega, Nat.le_refl _, by rw [hW0]; simp, World.block_lt_of_cell? w _ (hn 0 (by omega)), fun k hk => h.lt hk⟩
  have hlz : (bv z128).length = 128 := by rw [bv_length, z128_length]
  have hDok := h.ok
  have Hoff := Lib.hid ho
  have hb8 : D.blocks ≤ 8191 := by unfold Dk.blocks; omega
  have h32b : 32 ≤ D.n := by omega
  clear h hj0 hb0 ho h32
  go_enter Tryd.func27, Tryd.ntmps27
  go_wp2_with fail
  refine HS.out.mono ?_
  rintro e w1 ⟨rfl, rfl⟩
  go_upto_region 7 with (refine wpList_alloc_marks rfl rfl ?_)
  rw [← hW0]
  clear hW0
  generalize hpp : w.heap.size = p at *
  have Hpp := Lib.hid hpp
  clear hpp
  go_wp2_with fail
  go_loopw [6, 27] (fun r i wr => ∃ k : Nat, k ≤ 2 ∧ i = .int .i64 (k : Int) ∧ r = .int .i64 ((mkCount D k : Nat) : Int) ∧ OpAt w wr F p (p + 2) ⟨D, 0, 0, 0⟩ ∧ RowB wr (p + 1) 104 (mkAt D k 0 ++ mkAt D k 1)) (fun _ i _ => 2 - (intOf i).toNat)
  case atStart => exact ⟨0, by omega, rfl, rfl, hop0, by simpa [mkAt] using hr0⟩
  case round =>
    obtain ⟨k, hk, rfl, rfl, hop, hrw⟩ := hrel
    clear hop0 hr0
    by_cases hlt : k < 2
    · have hl : (sec D.now k).length = 128 := sec_length hDok.now (by omega)
      have ht := take_any wr F p _ hop.jat hop.nib k 1 (by show k < D.n; omega) (by omega)
      rw [show (⟨D, 0, 0, 0⟩ : Jn).D.take k 1 = (sec D.now k, (fright (sec D.now k) && decide (fkind (sec D.now k) = 1)), 0) by rw [Dk.take, if_neg (by simp [Hoff.out])]] at ht
      have HT := Lib.hid ht
      have Hmk : Hid (D.markOk k = ((fright (sec D.now k) && decide (fkind (sec D.now k) = 1)) && decide (fwrite (sec D.now k) % 2 = k) && decide (fplace (sec D.now k) ≤ D.blocks))) := Lib.hid rfl
      have Hst : Hid (D.markOk k = true → layB (mkAt D k 0 ++ mkAt D k 1) (k * 128) (sec D.now k) = mkAt D (k + 1) 0 ++ mkAt D (k + 1) 1 ∧ mkCount D (k + 1) = mkCount D k + 1) := Lib.hid (mkAt_step hDok (by omega) k hlt)
      have Hsk : Hid (D.markOk k = false → mkAt D (k + 1) 0 ++ mkAt D (k + 1) 1 = mkAt D k 0 ++ mkAt D k 1 ∧ mkCount D (k + 1) = mkCount D k) := Lib.hid (mkAt_skip k hlt)
      have hml : (mkAt D k 0 ++ mkAt D k 1).length = 256 := by rw [List.length_append, mkAt_length hDok (by omega) k 0 (by omega), mkAt_length hDok (by omega) k 1 (by omega)]
      have hcnt : mkCount D k ≤ 2 := by unfold mkCount; split <;> split <;> omega
      have hd2 : decide ((k : Int) < 2) = true := by simp; omega
      clear ht
      generalize sec D.now k = L at *
      generalize mkAt D k 0 ++ mkAt D k 1 = M at *
      generalize mkCount D k = c at *
      have hlb : (bv L).length = 128 := by rw [bv_length, hl]
      generalize hok : (fright L && decide (fkind L = 1)) = ok1 at *
      clear hok
      go_wp2_with fail
      refine HT.out.mono ?_
      rintro e w2 ⟨rfl, hb2⟩
      have hop2 := hop.step hb2
      have hrw2 := hrw.below hb2
      clear hop hrw hb2 HT
      go_upto_region 14 with (first | (refine wpList_alloc_frame rfl rfl ?_) | (refine wpList_store_last 100 (.tmp 8) (.tmp 34) rfl _ (bv L).toArray rfl rfl rfl (by rw [info_frame, List.size_toArray, hlb]) (by rw [List.size_toArray, List.size_toArray, hlz, hlb]) (all_oneCell_toArray (bv_oneCell L)) ?_))
      have hb3 : Below w2.heap.size w2 (w2.alloc (.cells (bv L).toArray 100)) := (Below.refl _ _).alloc (Nat.le_refl _) _
      have hop3 := hop2.step hb3
      have hrw3 := hrw2.below hb3
      have hr3 := RowB.alloc w2 100 L
      clear hop2 hrw2 hb3
      generalize w2.alloc (.cells (bv L).toArray 100) = w3 at *
      generalize w2.heap.size = g8 at *
      cases ok1 with
      | false =>
        obtain ⟨e1, e2⟩ := Hsk.out (by rw [Hmk.out]; rfl)
        have E1 := Lib.hid e1
        have E2 := Lib.hid e2
        clear e1 e2
        go_wp2_with fail
        go_roundw
        case rel => exact ⟨k + 1, by omega, by go_num, by rw [E2.out], hop3, by rw [E1.out]; exact hrw3⟩
        case measure => simp [intOf]; omega
      | true =>
        have hrg := hr3.range
        have hkw : IntKind.u64.wrap (k : Int) = (k : Int) := by rw [wrap_u64_nat, Nat.mod_eq_of_lt (by omega)]
        go_wp2_with (refine wpList_load_open (by rfl) 100 (.tmp 8) rfl g8 0 rfl (bv L) _ hrg Tryd.underlying100 rfl (by rw [info_frame, hlb]) ?_)
        refine (fwrite_any w3 L hl).mono ?_
        rintro e w4 ⟨rfl, hb4⟩
        have hop4 := hop3.step hb4
        have hrw4 := hrw3.below hb4
        have hr4 := hr3.below hb4
        have hrg4 := hr4.range
        clear hop3 hrw3 hr3 hrg hb4
        have hm2 := mod2_walk (fwrite L) k hlt
        have hm3 := mod2_walk2 (fwrite L) k hlt
        have hbl0 := blocks_n0 D
        by_cases hw2 : fwrite L % 2 = k
        case neg =>
          rw [decide_eq_false hw2] at hm2 hm3
          obtain ⟨e1, e2⟩ := Hsk.out (by rw [Hmk.out, decide_eq_false hw2]; rfl)
          have E1 := Lib.hid e1
          have E2 := Lib.hid e2
          clear e1 e2 hw2
          go_wp2_with fail
          go_roundw
          case rel => exact ⟨k + 1, by omega, by go_num, by rw [E2.out], hop4, by rw [E1.out]; exact hrw4⟩
          case measure => simp [intOf]; omega
        rw [decide_eq_true hw2] at hm2 hm3
        have Hw2 := Lib.hid hw2
        clear hw2
        go_wp2_with (refine wpList_load_open (by rfl) 100 (.tmp 8) rfl g8 0 rfl (bv L) _ hrg4 Tryd.underlying100 rfl (by rw [info_frame, hlb]) ?_)
        refine (fplace_any w4 L hl).mono ?_
        rintro e w5 ⟨rfl, hb5⟩
        have hop5 := hop4.step hb5
        have hrw5 := hrw4.below hb5
        have hr5 := hr4.below hb5
        have hrg5 := hr5.range
        clear hop4 hrw4 hr4 hrg4 hb5
        have hpl := fplace_lt L
        go_wp2_with fail
        refine (blocks_any w5 F p _ hop5.jat (by show 2 ≤ D.n; omega)).mono ?_
        rintro e w6 ⟨rfl, rfl⟩
        by_cases hp2 : fplace L ≤ D.blocks
        case neg =>
          have hd5 : decide (((fplace L : Nat) : Int) ≤ (D.blocks : Int)) = false := by simp; omega
          have hd6 : decide (fplace L ≤ D.blocks) = false := decide_eq_false hp2
          obtain ⟨e1, e2⟩ := Hsk.out (by rw [Hmk.out, decide_eq_false hp2, Bool.and_false])
          have E1 := Lib.hid e1
          have E2 := Lib.hid e2
          clear e1 e2 hp2
          go_wp2_with fail
          go_roundw
          case rel => exact ⟨k + 1, by omega, by go_num, by rw [E2.out], hop5, by rw [E1.out]; exact hrw5⟩
          case measure => simp [intOf]; omega
        have hd5 : decide (((fplace L : Nat) : Int) ≤ (D.blocks : Int)) = true := by simp; omega
        have hd6 : decide (fplace L ≤ D.blocks) = true := decide_eq_true hp2
        obtain ⟨e1, e2⟩ := Hst.out (by rw [Hmk.out, decide_eq_true Hw2.out, decide_eq_true hp2]; rfl)
        have E1 := Lib.hid e1
        have E2 := Lib.hid e2
        have hst := hrw5.run_store_at (k * 128) (l := L) (by rw [hml, hl]; omega)
        have hrw7 := hrw5.lay (k * 128) L (by rw [hml, hl]; omega)
        have hop7 := hop5.own (T := (· = p + 1)) (fun g hg => by have := Hpp.out; omega) (turned_cells w5 (p + 1) (k * 128) (bv L))
        rw [e1] at hrw7
        clear e1 e2 hp2 hop5 hrw5 hr5
        generalize w5.setCells (p + 1) (k * 128) (bv L) = w7 at *
        rw [← Hpp.out] at hst
        go_wp2_with (refine wpList_load_mid rfl 100 (.tmp 8) rfl g8 0 rfl (bv L) _ hrg5 Tryd.underlying100 rfl (by rw [info_frame, hlb]) ?_)
        go_roundw
        case rel => exact ⟨k + 1, by omega, by go_num, by rw [E2.out]; first | rfl | go_num, hop7, hrw7⟩
        case measure => simp [intOf]; omega
    · obtain rfl : k = 2 := by omega
      clear hlt hk
      by_cases hm0 : D.markOk 0 = true
      case neg =>
        by_cases hm1 : D.markOk 1 = true
        case neg =>
          have hc : ((mkCount D 2 : Nat) : Int) = 0 := by simp [mkCount, hm0, hm1]
          have he : D.openJ = (60, ⟨D, 0, 0, 0⟩) := by rw [Dk.openJ, if_neg (by omega), if_neg (by simp [Hoff.out]), if_pos ⟨by simpa using hm0, by simpa using hm1⟩]
          have HE := Lib.hid he
          rw [hc]
          clear he hc hm0 hm1 hrw
          go_wp2_with fail
          go_ret2
          exact OpenEnd.bad HE.out (by decide) HD.out hop.below
        have hc : ((mkCount D 2 : Nat) : Int) = 1 := by simp [mkCount, hm0, hm1]
        have he : D.openJ = (62, ⟨D, 0, 0, 0⟩) := by rw [Dk.openJ, if_neg (by omega), if_neg (by simp [Hoff.out]), if_neg (by simp [hm1]), if_pos (.inl (by simpa using hm0))]
        have HE := Lib.hid he
        rw [hc]
        clear he hc hm0 hm1 hrw
        go_wp2_with fail
        go_ret2
        exact OpenEnd.bad HE.out (by decide) HD.out hop.below
      by_cases hm1 : D.markOk 1 = true
      case neg =>
        have hc : ((mkCount D 2 : Nat) : Int) = 1 := by simp [mkCount, hm0, hm1]
        have he : D.openJ = (62, ⟨D, 0, 0, 0⟩) := by rw [Dk.openJ, if_neg (by omega), if_neg (by simp [Hoff.out]), if_neg (by simp [hm0]), if_pos (.inr (by simpa using hm1))]
        have HE := Lib.hid he
        rw [hc]
        clear he hc hm0 hm1 hrw
        go_wp2_with fail
        go_ret2
        exact OpenEnd.bad HE.out (by decide) HD.out hop.below
      have hc : ((mkCount D 2 : Nat) : Int) = 2 := by simp [mkCount, hm0, hm1]
      have e0 : mkAt D 2 0 = sec D.now 0 := by simp [mkAt, hm0]
      have e1 : mkAt D 2 1 = sec D.now 1 := by simp [mkAt, hm1]
      rw [hc]
      rw [e0, e1] at hrw
      have Hm0 := Lib.hid hm0
      have Hm1 := Lib.hid hm1
      have hl0 : (sec D.now 0).length = 128 := sec_length hDok.now (by omega)
      have hl1 : (sec D.now 1).length = 128 := sec_length hDok.now (by omega)
      have Hmk : Hid (D.mark = if fwrite (sec D.now 0) < fwrite (sec D.now 1) then sec D.now 1 else sec D.now 0) := Lib.hid rfl
      rw [Hpp.out]
      clear hc e0 e1 hm0 hm1
      generalize sec D.now 0 = L0 at *
      generalize sec D.now 1 = L1 at *
      have hb0 : (bv L0).length = 128 := by rw [bv_length, hl0]
      have hb1 : (bv L1).length = 128 := by rw [bv_length, hl1]
      have hM : (L0 ++ L1).length = 256 := by rw [List.length_append, hl0, hl1]
      have HR0 : Hid (∀ W, RowB W (p + 1) 104 (L0 ++ L1) → W.rangeAt (p + 1) 0 (bv L0)) := Lib.hid (fun W h => by
        have := h.range_at 0 128 (by omega)
        rwa [List.drop_zero, List.take_left' hl0] at this)
      have HR1 : Hid (∀ W, RowB W (p + 1) 104 (L0 ++ L1) → W.rangeAt (p + 1) 128 (bv L1)) := Lib.hid (fun W h => by
        have := h.range_at 128 128 (by omega)
        rwa [List.drop_left' hl0, List.take_of_length_le (by omega)] at this)
      have hrg := HR0.out _ hrw
      go_upto_region 24 with (first | (refine wpList_alloc_frame rfl rfl ?_) | (refine wpList_load_mid rfl 100 (.tmp 67) rfl (p + 1) 0 rfl (bv L0) _ hrg Tryd.underlying100 rfl (by rw [info_frame, hb0]) ?_) | (refine wpList_store_last 100 (.tmp 11) (.tmp 68) rfl _ (bv L0).toArray rfl rfl rfl (by rw [info_frame, List.size_toArray, hb0]) (by rw [List.size_toArray, List.size_toArray, hb0, hlz]) (all_oneCell_toArray (bv_oneCell L0)) ?_))
      have hb3 : Below wr.heap.size wr (wr.alloc (.cells (bv L0).toArray 100)) := (Below.refl _ _).alloc (Nat.le_refl _) _
      have hj3 := (hop.step hb3).step (Below.refl _ _).drew
      have hr3 := RowB.alloc wr 100 L0
      have hS0 : (fun W => RowB W (p + 1) 104 (L0 ++ L1) ∧ RowB W wr.heap.size 100 L0) (wr.alloc (.cells (bv L0).toArray 100)).drew := ⟨hrw.below hb3.drew, hr3⟩
      have hgp : p + 2 ≤ wr.heap.size := hop.base
      have hgb : wr.heap.size < (wr.alloc (.cells (bv L0).toArray 100)).drew.heap.size := hr3.lt
      clear hop hrw hrg hb3 hr3
      generalize wr.alloc (.cells (bv L0).toArray 100) = w3 at *
      generalize wr.heap.size = g at *
      refine wp_region_noPanic ?_
      refine wp_region_held_drew (S := (fun W => RowB W (p + 1) 104 (L0 ++ L1) ∧ RowB W g 100 L0)) (by kernel_rfl) hS0 (fun hH => ?_)
      refine take_at (i := 0) (v := ?_) rfl (by kernel_rfl) (by kernel_rfl) (by kernel_rfl) (fun _ _ _ h => h) (Or.inl ⟨by rfl, ?_⟩) hH ?_
      rotate_left
      · (intro w hSw; skip; go_simp; try with_reducible rfl)
      try simp only [Act.put, List.setIfInBounds_toArray, List.set_cons_zero, List.set_cons_succ]
      refine take_at (i := 1) (v := .agg (bv L1).toArray) rfl (by kernel_rfl) (by kernel_rfl) (by kernel_rfl) (fun _ _ _ h => h) (yieldsIf_load_mid rfl 100 (.tmp 69) rfl (p + 1) 128 rfl (bv L1) _ (fun W hW => HR1.out W hW.1) Tryd.underlying100 rfl (by rw [info_frame, hb1])) hH ?_
      try simp only [Act.put, List.setIfInBounds_toArray, List.set_cons_zero, List.set_cons_succ]
      refine take_at (i := 3) (v := .agg (bv L0).toArray) rfl (by kernel_rfl) (by kernel_rfl) (by kernel_rfl) (fun _ _ _ h => h) (yieldsIf_load_mid rfl 100 (.tmp 11) rfl g 0 rfl (bv L0) _ (fun W hW => RowB.range hW.2) Tryd.underlying100 rfl (by rw [info_frame, hb0])) hH ?_
      try simp only [Act.put, List.setIfInBounds_toArray, List.set_cons_zero, List.set_cons_succ]
      refine wpAnyH_ready (rs := [2]) (by kernel_rfl) (by simp) ?_
      refine ready_at rfl (fun K hK => ?_) AllReadyH.nil
      go_simp
      refine (fwrite_any _ L1 hl1).mono ?_
      rintro e W5 ⟨rfl, hb⟩
      have hHn := show (fun W => RowB W (p + 1) 104 (L0 ++ L1) ∧ RowB W g 100 L0) _ from ⟨RowB.below hH.1 hb, RowB.below hH.2 hb⟩
      replace hj3 := hj3.step hb
      replace hgb := Nat.lt_of_lt_of_le hgb hb.size
      clear hb hH
      go_wp2_with fail
      refine hK.out _ _ hHn (fun hH => ?_)
      clear hHn
      clear hK K
      try simp only [Act.put, List.setIfInBounds_toArray, List.set_cons_zero, List.set_cons_succ]
      refine wpAnyH_ready (rs := [4]) (by kernel_rfl) (by simp) ?_
      refine ready_at rfl (fun K hK => ?_) AllReadyH.nil
      go_simp
      refine (fwrite_any _ L0 hl0).mono ?_
      rintro e W6 ⟨rfl, hb⟩
      have hHn := show (fun W => RowB W (p + 1) 104 (L0 ++ L1) ∧ RowB W g 100 L0) _ from ⟨RowB.below hH.1 hb, RowB.below hH.2 hb⟩
      replace hj3 := hj3.step hb
      replace hgb := Nat.lt_of_lt_of_le hgb hb.size
      clear hb hH
      go_wp2_with fail
      refine hK.out _ _ hHn (fun hH => ?_)
      clear hHn
      clear hK K
      try simp only [Act.put, List.setIfInBounds_toArray, List.set_cons_zero, List.set_cons_succ]
      refine take_at (i := 5) (v := ?_) rfl (by kernel_rfl) (by kernel_rfl) (by kernel_rfl) (fun _ _ _ h => h) (Or.inl ⟨by rfl, ?_⟩) hH ?_
      rotate_left
      · (intro w hSw; skip; go_simp; try with_reducible rfl)
      try simp only [Act.put, List.setIfInBounds_toArray, List.set_cons_zero, List.set_cons_succ]
      refine wpAnyH_done (by kernel_rfl) ?_ _
      refine NoPanic.normal ?_
      clear hS0
      have hd7 := hlz
      have hH0 := hH.1
      have hH1 := hH.2
      clear hH
      go_upto_if 74 with fail
      go_cut [] (fun wx => OpAt w wx F p (p + 2) ⟨D, 0, 0, 0⟩ ∧ RowB wx g 100 D.mark)
      case first =>
        by_cases hgt : fwrite L0 < fwrite L1
        · have hd8 : decide (fwrite L0 < fwrite L1) = true := decide_eq_true hgt
          have hmk : D.mark = L1 := by rw [Hmk.out, if_pos hgt]
          have HMK := Lib.hid hmk
          have hrg := HR1.out _ hH0
          have hst := hH1.run_store_at 0 (l := L1) (by omega)
          have hH2 := hH1.lay 0 L1 (by omega)
          rw [layB_all (by omega)] at hH2
          have hj4 := hj3.own (T := (· = g)) (fun k hk => by have := Hpp.out; omega) (turned_cells W6 g 0 (bv L1))
          rw [hd8]
          clear hj3 hH0 hH1 hgt hmk hd8 hd7
          generalize W6.setCells g 0 (bv L1) = w4 at *
          go_wp2_with (refine wpList_load_mid rfl 100 (.tmp 75) rfl (p + 1) 128 rfl (bv L1) _ hrg Tryd.underlying100 rfl (by rw [info_frame, hb1]) ?_)
          go_meet
          exact ⟨hj4, by rw [HMK.out]; exact hH2⟩
        · have hd8 : decide (fwrite L0 < fwrite L1) = false := decide_eq_false hgt
          have hmk : D.mark = L0 := by rw [Hmk.out, if_neg hgt]
          rw [hd8]
          clear hgt hd8 hd7
          go_wp2_with fail
          go_meet
          exact ⟨hj3, by rw [hmk]; exact hH1⟩
      case rest =>
        obtain ⟨hop, hrm⟩ := hcut
        have hlm : D.mark.length = 128 := by rw [Hmk.out]; split <;> assumption
        clear hj3 hH0 hH1 Hmk HR0 HR1 hM hb0 hb1 hl0 hl1 hd7 hgb
        generalize hmm : D.mark = m at *
        have HMm := Lib.hid hmm
        clear hmm
        have hbm : (bv m).length = 128 := by rw [bv_length, hlm]
        have hrg := hrm.range
        go_wp2_with (refine wpList_load_mid rfl 100 (.tmp 11) rfl g 0 rfl (bv m) _ hrg Tryd.underlying100 rfl (by rw [info_frame, hbm]) ?_)
        refine (fwrite_any wc m hlm).mono ?_
        rintro e w5 ⟨rfl, hb5⟩
        have hop5 := hop.step hb5
        have hrm5 := hrm.below hb5
        have q1 := hop5.jat.cells.2.1
        have f1 := frozen_p hop5.jat.head 1
        have hop6 := hop5.put_last (fwrite m)
        have hrm6 := hrm5.turned (turned_one w5 p 1 (.int .u64 ((fwrite m : Nat) : Int))) (by omega)
        clear hop hrm hb5 hrg hop5 hrm5
        go_upto_region 27 with fail
        clear q1 f1
        generalize w5.setCell ⟨p, 1, none⟩ (.int .u64 ((fwrite m : Nat) : Int)) = w6 at *
        have hrg := hrm6.range
        go_wp2_with (refine wpList_load_mid rfl 100 (.tmp 11) rfl g 0 rfl (bv m) _ hrg Tryd.underlying100 rfl (by rw [info_frame, hbm]) ?_)
        refine (fbytes_any w6 m hlm).mono ?_
        rintro e w7 ⟨rfl, hw7⟩
        have hb7 : Below w6.heap.size w6 w7 := by rw [hw7]; exact (Below.refl _ _).alloc (Nat.le_refl _) _
        have hi7 : IsB w7 (.slice (some ⟨w6.heap.size, 16, none⟩) 8 112) ((fbytes m).take 8) := by
          have := (RowB.alloc w6 100 m).isB 16 8 112 (by omega) (by omega) (by simp [maxLen])
          rw [← hw7] at this
          exact this
        have hop7 := hop6.step hb7
        have hrm7 := hrm6.below hb7
        have hcv : IntKind.i64.wrap ((leR ((fbytes m).take 8) : Nat) : Int) = mseq m := wrap_toI64 (by
          have := leR_lt ((fbytes m).take 8)
          rw [show ((fbytes m).take 8).length = 8 by simp [fbytes, hlm]] at this
          omega)
        have HT := Lib.hid (told_any w7 _ _ hi7 (by simp; omega))
        clear hop6 hrm6 hb7 hw7 hrg hi7
        go_wp2_with fail
        refine HT.out.mono ?_
        rintro e w8 ⟨rfl, rfl⟩
        have q2 := hop7.jat.cells.2.2.1
        have f2 := frozen_p hop7.jat.head 2
        have hop8 := hop7.put_seq (mseq m)
        have hrm8 := hrm7.turned (turned_one w7 p 2 (.int .i64 (mseq m))) (by omega)
        clear hop7 hrm7 HT
        generalize leR ((fbytes m).take 8) = tn at *
        generalize hsq : mseq m = sq at *
        have Hsq := Lib.hid hsq
        clear hsq
        go_upto_region 28 with fail
        clear q2 f2 hcv
        generalize w7.setCell ⟨p, 2, none⟩ (.int .i64 sq) = w9 at *
        have hgl : g < w9.heap.size := hrm8.lt
        have hop9 := hop8.rebase (B' := g + 1) (by omega) hgl
        have hmF := MineF.nil (g + 1) w9
        have HB := blocks_any w9 F p _ hop9.jat (by show 2 ≤ D.n; omega)
        dsimp only at HB
        go_wp2_with fail
        refine HB.mono ?_
        rintro e w10 ⟨rfl, rfl⟩
        clear HB hop8
        go_wp2_with fail
        go_loopw [12, 92] (fun x i wr => ∃ k : Nat, k ≤ D.blocks ∧ (∀ j, j < k → D.noteOk j = true) ∧ i = .int .i64 (k : Int) ∧ OpAt w wr F p (g + 1) ⟨D, D.lastTo m k, sq, 0⟩ ∧ RowB wr g 100 m ∧ MineF (g + 1) wr x (D.againTo m k)) (fun _ i _ => D.blocks - (intOf i).toNat)
        case atStart => exact ⟨0, Nat.zero_le _, fun j hj => by omega, rfl, hop9, hrm8, hmF⟩
        case round =>
          obtain ⟨k, hk, hall, rfl, hop, hrm, hmr⟩ := hrel
          have Hall := Lib.hid hall
          clear hop9 hrm8 hmF hgl hall
          by_cases hlt : k < D.blocks
          · have hd9 : decide ((k : Int) < (D.blocks : Int)) = true := by simpa using hlt
            have hkn : 2 + k < D.n := by unfold Dk.blocks at hlt; omega
            have hl : (sec D.now (2 + k)).length = 128 := sec_length hDok.now hkn
            have ht := take_any wr F p _ hop.jat hop.nib (2 + k) 2 hkn (by omega)
            rw [show (⟨D, D.lastTo m k, sq, 0⟩ : Jn).D.take (2 + k) 2 = (sec D.now (2 + k), (fright (sec D.now (2 + k)) && decide (fkind (sec D.now (2 + k)) = 2)), 0) by rw [Dk.take, if_neg (by simp [Hoff.out])], show ((2 + k : Nat) : Int) = 2 + (k : Int) by omega] at ht
            have HT := Lib.hid ht
            have Hno : Hid (D.noteOk k = ((fright (sec D.now (2 + k)) && decide (fkind (sec D.now (2 + k)) = 2)) && decide (fplace (sec D.now (2 + k)) < D.blocks))) := Lib.hid rfl
            have Hla : Hid (D.lastTo m (k + 1) = max (D.lastTo m k) (fwrite (sec D.now (2 + k)))) := Lib.hid rfl
            have Hag : Hid (D.againTo m (k + 1) = if k < fplace m ∧ fwrite (sec D.now (2 + k)) = fwrite m then D.againTo m k ++ [sec D.now (2 + k)] else D.againTo m k) := Lib.hid rfl
            have Hbad : Hid (D.noteOk k = false → D.openJ = (62, ⟨D, 0, 0, 0⟩)) := Lib.hid (fun h => by rw [Dk.openJ, if_neg (by omega), if_neg (by simp [Hoff.out]), if_neg (by simp [Hm0.out]), if_neg (by simp [Hm0.out, Hm1.out]), if_pos ⟨k, hlt, h⟩])
            have Hal : Hid ((D.againTo m k).length ≤ 8191) := Lib.hid (by
              have : ∀ j, (D.againTo m j).length ≤ j := fun j => by
                induction j with
                | zero => exact Nat.le_refl _
                | succ j ih =>
                  rw [Dk.againTo]
                  split
                  · rw [List.length_append, List.length_singleton]; omega
                  · omega
              have := this k
              omega)
            clear ht hkn
            generalize sec D.now (2 + k) = L at *
            generalize D.lastTo m k = la at *
            generalize D.againTo m k = ag at *
            have hlb : (bv L).length = 128 := by rw [bv_length, hl]
            generalize hok : (fright L && decide (fkind L = 2)) = ok1 at *
            clear hok
            go_wp2_with fail
            refine HT.out.mono ?_
            rintro e w2 ⟨rfl, hb2⟩
            have hop2 := hop.step hb2
            have hrm2 := hrm.below hb2
            have hmr2 := hmr.below hb2
            clear hop hrm hmr hb2 HT
            go_upto_region 33 with (first | (refine wpList_alloc_frame rfl rfl ?_) | (refine wpList_store_last 100 (.tmp 14) (.tmp 100) rfl _ (bv L).toArray rfl rfl rfl (by rw [info_frame, List.size_toArray, hlb]) (by rw [List.size_toArray, List.size_toArray, hlz, hlb]) (all_oneCell_toArray (bv_oneCell L)) ?_))
            have hb3 : Below w2.heap.size w2 (w2.alloc (.cells (bv L).toArray 100)) := (Below.refl _ _).alloc (Nat.le_refl _) _
            have hop3 := hop2.step hb3
            have hrm3 := hrm2.below hb3
            have hmr3 := hmr2.below hb3
            have hr3 := RowB.alloc w2 100 L
            have hg8 : g + 1 ≤ w2.heap.size := hop2.base
            clear hop2 hrm2 hmr2 hb3
            generalize w2.alloc (.cells (bv L).toArray 100) = w3 at *
            generalize w2.heap.size = g8 at *
            cases ok1 with
            | false =>
              have he := Hbad.out (by rw [Hno.out]; rfl)
              have HE := Lib.hid he
              clear he
              go_wp2_with fail
              go_ret2
              exact OpenEnd.bad HE.out (by decide) HD.out hop3.below
            | true =>
              have hrg := hr3.range
              go_wp2_with (refine wpList_load_open (by rfl) 100 (.tmp 14) rfl g8 0 rfl (bv L) _ hrg Tryd.underlying100 rfl (by rw [info_frame, hlb]) ?_)
              refine (fplace_any w3 L hl).mono ?_
              rintro e w4 ⟨rfl, hb4⟩
              have hop4 := hop3.step hb4
              have hrm4 := hrm3.below hb4
              have hmr4 := hmr3.below hb4
              have hr4 := hr3.below hb4
              clear hop3 hrm3 hmr3 hr3 hrg hb4
              have HB := blocks_any w4 F p _ hop4.jat (by show 2 ≤ D.n; omega)
              dsimp only at HB
              have hpl := fplace_lt L
              go_wp2_with fail
              refine HB.mono ?_
              rintro e w5 ⟨rfl, rfl⟩
              clear HB
              by_cases hp2 : fplace L < D.blocks
              case neg =>
                have he := Hbad.out (by rw [Hno.out, decide_eq_false hp2]; rfl)
                have HE := Lib.hid he
                have hd5 : decide ((D.blocks : Int) ≤ ((fplace L : Nat) : Int)) = true := by simp; omega
                have hd6 : decide (D.blocks ≤ fplace L) = true := decide_eq_true (by omega)
                clear he hp2
                go_wp2_with fail
                go_ret2
                exact OpenEnd.bad HE.out (by decide) HD.out hop4.below
              have hd5 : decide ((D.blocks : Int) ≤ ((fplace L : Nat) : Int)) = false := by simp; omega
              have hd6 : decide (D.blocks ≤ fplace L) = false := decide_eq_false (by omega)
              have hnk : D.noteOk k = true := by rw [Hno.out, decide_eq_true hp2]; rfl
              have Hnk := Lib.hid hnk
              clear hnk hp2
              go_upto_region 37 with fail
              have hj3 := hop4.step (Below.refl _ _).drew
              have hm3 := hmr4.drew
              have ho3 : RowB w4.drew g 100 m := hrm4.below (Below.refl _ w4).drew
              have hS0 : (fun W => RowB W g8 100 L) w4.drew := hr4.below (Below.refl _ w4).drew
              clear hop4 hrm4 hmr4 hr4
              refine wp_region_noPanic ?_
              refine wp_region_held_drew (S := (fun W => RowB W g8 100 L)) (by kernel_rfl) hS0 (fun hH => ?_)
              refine take_at (i := 0) (v := ?_) rfl (by kernel_rfl) (by kernel_rfl) (by kernel_rfl) (fun _ _ _ h => h) (Or.inl ⟨by rfl, ?_⟩) hH ?_
              rotate_left
              · (intro w hSw; skip; go_simp; try with_reducible rfl)
              try simp only [Act.put, List.setIfInBounds_toArray, List.set_cons_zero, List.set_cons_succ]
              refine take_at (i := 1) (v := ?_) rfl (by kernel_rfl) (by kernel_rfl) (by kernel_rfl) (fun _ _ _ h => h) (Or.inl ⟨by rfl, ?_⟩) hH ?_
              rotate_left
              · (intro w hSw; skip; go_simp; try with_reducible rfl)
              try simp only [Act.put, List.setIfInBounds_toArray, List.set_cons_zero, List.set_cons_succ]
              refine take_at (i := 2) (v := ?_) rfl (by kernel_rfl) (by kernel_rfl) (by kernel_rfl) (fun _ _ _ h => h) (Or.inl ⟨by rfl, ?_⟩) hH ?_
              rotate_left
              · (intro w hSw; skip; go_simp; try with_reducible rfl)
              try simp only [Act.put, List.setIfInBounds_toArray, List.set_cons_zero, List.set_cons_succ]
              refine take_at (i := 3) (v := ?_) rfl (by kernel_rfl) (by kernel_rfl) (by kernel_rfl) (fun _ _ _ h => h) (Or.inl ⟨by rfl, ?_⟩) hH ?_
              rotate_left
              · (intro w hSw; skip; go_simp; try with_reducible rfl)
              try simp only [Act.put, List.setIfInBounds_toArray, List.set_cons_zero, List.set_cons_succ]
              refine take_at (i := 5) (v := .agg (bv L).toArray) rfl (by kernel_rfl) (by kernel_rfl) (by kernel_rfl) (fun _ _ _ h => h) (yieldsIf_load_mid rfl 100 (.tmp 14) rfl g8 0 rfl (bv L) _ (fun W hW => RowB.range hW) Tryd.underlying100 rfl (by rw [info_frame, hlb])) hH ?_
              try simp only [Act.put, List.setIfInBounds_toArray, List.set_cons_zero, List.set_cons_succ]
              refine wpAnyH_ready (rs := [4, 6]) (by kernel_rfl) (by simp) ?_
              refine ready_at rfl (fun K hK => ?_) ?_
              · have q1 := hj3.jat.cells.2.1
                dsimp only at q1
                go_simp
                refine hK.out _ _ hH (fun _ => ?_)
                clear q1
                clear hK K
                try simp only [Act.put, List.setIfInBounds_toArray, List.set_cons_zero, List.set_cons_succ]
                refine wpAnyH_ready (rs := [6]) (by kernel_rfl) (by simp) ?_
                refine ready_at rfl (fun K hK => ?_) AllReadyH.nil
                go_simp
                refine (fwrite_any _ L hl).mono ?_
                rintro e W5 ⟨rfl, hb⟩
                have hHn := RowB.below hH hb
                replace hj3 := hj3.step hb
                replace hm3 := hm3.below hb
                replace ho3 := ho3.below hb
                clear hb hH
                go_wp2_with fail
                refine hK.out _ _ hHn (fun hH => ?_)
                clear hHn
                clear hK K
                try simp only [Act.put, List.setIfInBounds_toArray, List.set_cons_zero, List.set_cons_succ]
                refine wpAnyH_ready (rs := [7]) (by kernel_rfl) (by simp) ?_
                refine ready_at rfl (fun K hK => ?_) AllReadyH.nil
                go_simp
                refine hK.out _ _ hH (fun _ => ?_)
                clear hK K
                try simp only [Act.put, List.setIfInBounds_toArray, List.set_cons_zero, List.set_cons_succ]
                refine take_at (i := 8) (v := ?_) rfl (by kernel_rfl) (by kernel_rfl) (by kernel_rfl) (fun _ _ _ h => h) (Or.inl ⟨by rfl, ?_⟩) hH ?_
                rotate_left
                · (intro w hSw; skip; go_simp; try with_reducible rfl)
                try simp only [Act.put, List.setIfInBounds_toArray, List.set_cons_zero, List.set_cons_succ]
                refine take_at (i := 9) (v := ?_) rfl (by kernel_rfl) (by kernel_rfl) (by kernel_rfl) (fun _ _ _ h => h) (Or.inl ⟨by rfl, ?_⟩) hH ?_
                rotate_left
                · (intro w hSw; skip; go_simp; try with_reducible rfl)
                try simp only [Act.put, List.setIfInBounds_toArray, List.set_cons_zero, List.set_cons_succ]
                refine wpAnyH_ready (rs := [10]) (by kernel_rfl) (by simp) ?_
                refine ready_at rfl (fun K hK => ?_) AllReadyH.nil
                have q1 := hj3.jat.cells.2.1
                have f1 := frozen_p hj3.jat.head 1
                go_simp
                have hmx : (if la < fwrite L then ((fwrite L : Nat) : Int) else (la : Int)) = ((max la (fwrite L) : Nat) : Int) := by split <;> omega
                rw [hmx]
                have hHn : RowB (W5.setCell ⟨p, 1, none⟩ (.int .u64 ((max la (fwrite L) : Nat) : Int))) g8 100 L := RowB.turned hH (turned_one W5 p 1 _) (by omega)
                have hop6 := hj3.put_last (max la (fwrite L))
                have hm6 := hm3.turned (turned_one W5 p 1 (.int .u64 ((max la (fwrite L) : Nat) : Int))) (fun k hk => by omega)
                have ho6 := ho3.turned (turned_one W5 p 1 (.int .u64 ((max la (fwrite L) : Nat) : Int))) (by omega)
                clear hj3 hm3 ho3 q1 f1 hmx hH
                generalize W5.setCell ⟨p, 1, none⟩ (.int .u64 ((max la (fwrite L) : Nat) : Int)) = W6 at *
                refine hK.out _ _ hHn (fun hH => ?_)
                clear hHn
                clear hK K
                try simp only [Act.put, List.setIfInBounds_toArray, List.set_cons_zero, List.set_cons_succ]
                refine wpAnyH_done (by kernel_rfl) ?_ _
                refine NoPanic.normal ?_
                have hr6 := hH
                clear hH
                by_cases hkm : k < fplace m
                · have hd10 : decide ((k : Int) < ((fplace m : Nat) : Int)) = true := by simpa using hkm
                  have hd11 : decide (k < fplace m) = true := decide_eq_true hkm
                  have Hkm := Lib.hid hkm
                  by_cases hww : fwrite L = fwrite m
                  · have hq1 : (((fwrite L : Nat) : Int) == ((fwrite m : Nat) : Int)) = true := by rw [beq_iff_eq]; omega
                    have hq2 : (fwrite L == fwrite m) = true := by simpa using hww
                    have hq3 : decide (fwrite L = fwrite m) = true := decide_eq_true hww
                    have Hww := Lib.hid hww
                    clear hww hkm
                    go_upto_region 38 with fail
                    replace hop6 := hop6.step (Below.refl _ _).drew
                    replace hm6 := hm6.drew
                    have hS1 : (fun W => RowB W g8 100 L ∧ RowB W g 100 m) W6.drew := ⟨hr6.below (Below.refl _ W6).drew, ho6.below (Below.refl _ W6).drew⟩
                    clear hr6 ho6
                    refine wp_region_noPanic ?_
                    refine wp_region_held_drew (S := (fun W => RowB W g8 100 L ∧ RowB W g 100 m)) (by kernel_rfl) hS1 (fun hH => ?_)
                    refine take_at (i := 0) (v := ?_) rfl (by kernel_rfl) (by kernel_rfl) (by kernel_rfl) (fun _ _ _ h => h) (Or.inl ⟨by rfl, ?_⟩) hH ?_
                    rotate_left
                    · (intro w hSw; skip; go_simp; try with_reducible rfl)
                    try simp only [Act.put, List.setIfInBounds_toArray, List.set_cons_zero, List.set_cons_succ]
                    refine take_at (i := 1) (v := .agg (bv m).toArray) rfl (by kernel_rfl) (by kernel_rfl) (by kernel_rfl) (fun _ _ _ h => h) (yieldsIf_load_mid rfl 100 (.tmp 11) rfl g 0 rfl (bv m) _ (fun W hW => RowB.range hW.2) Tryd.underlying100 rfl (by rw [info_frame, hbm])) hH ?_
                    try simp only [Act.put, List.setIfInBounds_toArray, List.set_cons_zero, List.set_cons_succ]
                    refine wpAnyH_ready (rs := [2]) (by kernel_rfl) (by simp) ?_
                    refine ready_at rfl (fun K hK => ?_) AllReadyH.nil
                    go_simp
                    refine (fplace_any _ m hlm).mono ?_
                    rintro e W7 ⟨rfl, hb⟩
                    have hHn := show (fun W => RowB W g8 100 L ∧ RowB W g 100 m) _ from ⟨RowB.below hH.1 hb, RowB.below hH.2 hb⟩
                    replace hop6 := hop6.step hb
                    replace hm6 := hm6.below hb
                    clear hb hH
                    go_wp2_with fail
                    refine hK.out _ _ hHn (fun hH => ?_)
                    clear hHn
                    clear hK K
                    try simp only [Act.put, List.setIfInBounds_toArray, List.set_cons_zero, List.set_cons_succ]
                    refine take_at (i := 3) (v := ?_) rfl (by kernel_rfl) (by kernel_rfl) (by kernel_rfl) (fun _ _ _ h => h) (Or.inl ⟨by rfl, ?_⟩) hH ?_
                    rotate_left
                    · (intro w hSw; skip; go_simp; try with_reducible rfl)
                    try simp only [Act.put, List.setIfInBounds_toArray, List.set_cons_zero, List.set_cons_succ]
                    refine take_at (i := 4) (v := ?_) rfl (by kernel_rfl) (by kernel_rfl) (by kernel_rfl) (fun _ _ _ h => h) (Or.inl ⟨by rfl, ?_⟩) hH ?_
                    rotate_left
                    · (intro w hSw; skip; go_simp; try with_reducible rfl)
                    try simp only [Act.put, List.setIfInBounds_toArray, List.set_cons_zero, List.set_cons_succ]
                    refine take_at (i := 5) (v := .agg (bv L).toArray) rfl (by kernel_rfl) (by kernel_rfl) (by kernel_rfl) (fun _ _ _ h => h) (yieldsIf_load_mid rfl 100 (.tmp 14) rfl g8 0 rfl (bv L) _ (fun W hW => RowB.range hW.1) Tryd.underlying100 rfl (by rw [info_frame, hlb])) hH ?_
                    try simp only [Act.put, List.setIfInBounds_toArray, List.set_cons_zero, List.set_cons_succ]
                    refine take_at (i := 7) (v := .agg (bv m).toArray) rfl (by kernel_rfl) (by kernel_rfl) (by kernel_rfl) (fun _ _ _ h => h) (yieldsIf_load_mid rfl 100 (.tmp 11) rfl g 0 rfl (bv m) _ (fun W hW => RowB.range hW.2) Tryd.underlying100 rfl (by rw [info_frame, hbm])) hH ?_
                    try simp only [Act.put, List.setIfInBounds_toArray, List.set_cons_zero, List.set_cons_succ]
                    refine wpAnyH_ready (rs := [6]) (by kernel_rfl) (by simp) ?_
                    refine ready_at rfl (fun K hK => ?_) AllReadyH.nil
                    go_simp
                    refine (fwrite_any _ L hl).mono ?_
                    rintro e W8 ⟨rfl, hb⟩
                    have hHn := show (fun W => RowB W g8 100 L ∧ RowB W g 100 m) _ from ⟨RowB.below hH.1 hb, RowB.below hH.2 hb⟩
                    replace hop6 := hop6.step hb
                    replace hm6 := hm6.below hb
                    clear hb hH
                    go_wp2_with fail
                    refine hK.out _ _ hHn (fun hH => ?_)
                    clear hHn
                    clear hK K
                    try simp only [Act.put, List.setIfInBounds_toArray, List.set_cons_zero, List.set_cons_succ]
                    refine wpAnyH_ready (rs := [8]) (by kernel_rfl) (by simp) ?_
                    refine ready_at rfl (fun K hK => ?_) AllReadyH.nil
                    go_simp
                    refine (fwrite_any _ m hlm).mono ?_
                    rintro e W9 ⟨rfl, hb⟩
                    have hHn := show (fun W => RowB W g8 100 L ∧ RowB W g 100 m) _ from ⟨RowB.below hH.1 hb, RowB.below hH.2 hb⟩
                    replace hop6 := hop6.step hb
                    replace hm6 := hm6.below hb
                    clear hb hH
                    go_wp2_with fail
                    refine hK.out _ _ hHn (fun hH => ?_)
                    clear hHn
                    clear hK K
                    try simp only [Act.put, List.setIfInBounds_toArray, List.set_cons_zero, List.set_cons_succ]
                    refine take_at (i := 9) (v := ?_) rfl (by kernel_rfl) (by kernel_rfl) (by kernel_rfl) (fun _ _ _ h => h) (Or.inl ⟨by rfl, ?_⟩) hH ?_
                    rotate_left
                    · (intro w hSw; skip; go_simp; try with_reducible rfl)
                    try simp only [Act.put, List.setIfInBounds_toArray, List.set_cons_zero, List.set_cons_succ]
                    refine take_at (i := 10) (v := ?_) rfl (by kernel_rfl) (by kernel_rfl) (by kernel_rfl) (fun _ _ _ h => h) (Or.inl ⟨by rfl, ?_⟩) hH ?_
                    rotate_left
                    · (intro w hSw; skip; go_simp; try with_reducible rfl)
                    try simp only [Act.put, List.setIfInBounds_toArray, List.set_cons_zero, List.set_cons_succ]
                    refine wpAnyH_done (by kernel_rfl) ?_ _
                    refine NoPanic.normal ?_
                    have hr6 := hH.1
                    have ho6 := hH.2
                    clear hH
                    have hrg := hr6.range
                    have hb9 : Below W9.heap.size W9 (W9.alloc (.cells (bv L).toArray 100)) := (Below.refl _ _).alloc (Nat.le_refl _) _
                    have hop9 := hop6.step hb9
                    have hm9 := hm6.below hb9
                    have ho9 := ho6.below hb9
                    have hr9 := RowB.alloc W9 100 L
                    obtain ⟨v11, W11, hr11, hm11, ht11⟩ := hm9.snoc hop9.base (by have := Hal.out; omega) L hl W9.heap.size hr9
                    have hop11 := hop9.own (T := fun j => g + 1 ≤ j) (fun j hj => by have := Hpp.out; omega) ht11
                    have ho11 := ho9.turned ht11 (by omega)
                    clear hop6 hm6 ho6 hb9 hop9 hm9 ho9 hr9 ht11
                    go_wp2_with (first | (refine wpList_load_mid rfl 100 (.tmp 14) rfl g8 0 rfl (bv L) _ hrg Tryd.underlying100 rfl (by rw [info_frame, hlb]) ?_) | (refine wpList_build_one rfl (.tmp 139) rfl L hl rfl ?_) | (refine wpList_append_run rfl (.tmp 138) (.tmp 140) 109 109 rfl _ _ _ rfl rfl hr11 ?_))
                    have hop6 := hop11
                    have ho6 := ho11
                    have hm6 := hm11
                    go_roundw
                    case rel => exact ⟨k + 1, by omega, fun j hj => by
                                      by_cases e : j = k
                                      · rw [e]; exact Hnk.out
                                      · exact Hall.out j (by omega), by go_num, by rw [Hla.out]; exact hop6, ho6, by rw [Hag.out, if_pos ⟨Hkm.out, Hww.out⟩]; exact hm6⟩
                    case measure => simp [intOf]; omega
                  · have hq1 : (((fwrite L : Nat) : Int) == ((fwrite m : Nat) : Int)) = false := by rw [beq_eq_false_iff_ne]; omega
                    have hq2 : (fwrite L == fwrite m) = false := by simpa using hww
                    have hq3 : decide (fwrite L = fwrite m) = false := decide_eq_false hww
                    have Hww := Lib.hid hww
                    clear hww hkm
                    go_upto_region 38 with fail
                    replace hop6 := hop6.step (Below.refl _ _).drew
                    replace hm6 := hm6.drew
                    have hS1 : (fun W => RowB W g8 100 L ∧ RowB W g 100 m) W6.drew := ⟨hr6.below (Below.refl _ W6).drew, ho6.below (Below.refl _ W6).drew⟩
                    clear hr6 ho6
                    refine wp_region_noPanic ?_
                    refine wp_region_held_drew (S := (fun W => RowB W g8 100 L ∧ RowB W g 100 m)) (by kernel_rfl) hS1 (fun hH => ?_)
                    refine take_at (i := 0) (v := ?_) rfl (by kernel_rfl) (by kernel_rfl) (by kernel_rfl) (fun _ _ _ h => h) (Or.inl ⟨by rfl, ?_⟩) hH ?_
                    rotate_left
                    · (intro w hSw; skip; go_simp; try with_reducible rfl)
                    try simp only [Act.put, List.setIfInBounds_toArray, List.set_cons_zero, List.set_cons_succ]
                    refine take_at (i := 1) (v := .agg (bv m).toArray) rfl (by kernel_rfl) (by kernel_rfl) (by kernel_rfl) (fun _ _ _ h => h) (yieldsIf_load_mid rfl 100 (.tmp 11) rfl g 0 rfl (bv m) _ (fun W hW => RowB.range hW.2) Tryd.underlying100 rfl (by rw [info_frame, hbm])) hH ?_
                    try simp only [Act.put, List.setIfInBounds_toArray, List.set_cons_zero, List.set_cons_succ]
                    refine wpAnyH_ready (rs := [2]) (by kernel_rfl) (by simp) ?_
                    refine ready_at rfl (fun K hK => ?_) AllReadyH.nil
                    go_simp
                    refine (fplace_any _ m hlm).mono ?_
                    rintro e W7 ⟨rfl, hb⟩
                    have hHn := show (fun W => RowB W g8 100 L ∧ RowB W g 100 m) _ from ⟨RowB.below hH.1 hb, RowB.below hH.2 hb⟩
                    replace hop6 := hop6.step hb
                    replace hm6 := hm6.below hb
                    clear hb hH
                    go_wp2_with fail
                    refine hK.out _ _ hHn (fun hH => ?_)
                    clear hHn
                    clear hK K
                    try simp only [Act.put, List.setIfInBounds_toArray, List.set_cons_zero, List.set_cons_succ]
                    refine take_at (i := 3) (v := ?_) rfl (by kernel_rfl) (by kernel_rfl) (by kernel_rfl) (fun _ _ _ h => h) (Or.inl ⟨by rfl, ?_⟩) hH ?_
                    rotate_left
                    · (intro w hSw; skip; go_simp; try with_reducible rfl)
                    try simp only [Act.put, List.setIfInBounds_toArray, List.set_cons_zero, List.set_cons_succ]
                    refine take_at (i := 4) (v := ?_) rfl (by kernel_rfl) (by kernel_rfl) (by kernel_rfl) (fun _ _ _ h => h) (Or.inl ⟨by rfl, ?_⟩) hH ?_
                    rotate_left
                    · (intro w hSw; skip; go_simp; try with_reducible rfl)
                    try simp only [Act.put, List.setIfInBounds_toArray, List.set_cons_zero, List.set_cons_succ]
                    refine take_at (i := 5) (v := .agg (bv L).toArray) rfl (by kernel_rfl) (by kernel_rfl) (by kernel_rfl) (fun _ _ _ h => h) (yieldsIf_load_mid rfl 100 (.tmp 14) rfl g8 0 rfl (bv L) _ (fun W hW => RowB.range hW.1) Tryd.underlying100 rfl (by rw [info_frame, hlb])) hH ?_
                    try simp only [Act.put, List.setIfInBounds_toArray, List.set_cons_zero, List.set_cons_succ]
                    refine take_at (i := 7) (v := .agg (bv m).toArray) rfl (by kernel_rfl) (by kernel_rfl) (by kernel_rfl) (fun _ _ _ h => h) (yieldsIf_load_mid rfl 100 (.tmp 11) rfl g 0 rfl (bv m) _ (fun W hW => RowB.range hW.2) Tryd.underlying100 rfl (by rw [info_frame, hbm])) hH ?_
                    try simp only [Act.put, List.setIfInBounds_toArray, List.set_cons_zero, List.set_cons_succ]
                    refine wpAnyH_ready (rs := [6]) (by kernel_rfl) (by simp) ?_
                    refine ready_at rfl (fun K hK => ?_) AllReadyH.nil
                    go_simp
                    refine (fwrite_any _ L hl).mono ?_
                    rintro e W8 ⟨rfl, hb⟩
                    have hHn := show (fun W => RowB W g8 100 L ∧ RowB W g 100 m) _ from ⟨RowB.below hH.1 hb, RowB.below hH.2 hb⟩
                    replace hop6 := hop6.step hb
                    replace hm6 := hm6.below hb
                    clear hb hH
                    go_wp2_with fail
                    refine hK.out _ _ hHn (fun hH => ?_)
                    clear hHn
                    clear hK K
                    try simp only [Act.put, List.setIfInBounds_toArray, List.set_cons_zero, List.set_cons_succ]
                    refine wpAnyH_ready (rs := [8]) (by kernel_rfl) (by simp) ?_
                    refine ready_at rfl (fun K hK => ?_) AllReadyH.nil
                    go_simp
                    refine (fwrite_any _ m hlm).mono ?_
                    rintro e W9 ⟨rfl, hb⟩
                    have hHn := show (fun W => RowB W g8 100 L ∧ RowB W g 100 m) _ from ⟨RowB.below hH.1 hb, RowB.below hH.2 hb⟩
                    replace hop6 := hop6.step hb
                    replace hm6 := hm6.below hb
                    clear hb hH
                    go_wp2_with fail
                    refine hK.out _ _ hHn (fun hH => ?_)
                    clear hHn
                    clear hK K
                    try simp only [Act.put, List.setIfInBounds_toArray, List.set_cons_zero, List.set_cons_succ]
                    refine take_at (i := 9) (v := ?_) rfl (by kernel_rfl) (by kernel_rfl) (by kernel_rfl) (fun _ _ _ h => h) (Or.inl ⟨by rfl, ?_⟩) hH ?_
                    rotate_left
                    · (intro w hSw; skip; go_simp; try with_reducible rfl)
                    try simp only [Act.put, List.setIfInBounds_toArray, List.set_cons_zero, List.set_cons_succ]
                    refine take_at (i := 10) (v := ?_) rfl (by kernel_rfl) (by kernel_rfl) (by kernel_rfl) (fun _ _ _ h => h) (Or.inl ⟨by rfl, ?_⟩) hH ?_
                    rotate_left
                    · (intro w hSw; skip; go_simp; try with_reducible rfl)
                    try simp only [Act.put, List.setIfInBounds_toArray, List.set_cons_zero, List.set_cons_succ]
                    refine wpAnyH_done (by kernel_rfl) ?_ _
                    refine NoPanic.normal ?_
                    have ho6 := hH.2
                    clear hH
                    go_wp2_with fail
                    go_roundw
                    case rel => exact ⟨k + 1, by omega, fun j hj => by
                                      by_cases e : j = k
                                      · rw [e]; exact Hnk.out
                                      · exact Hall.out j (by omega), by go_num, by rw [Hla.out]; exact hop6, ho6, by rw [Hag.out, if_neg (fun h => Hww.out h.2)]; exact hm6⟩
                    case measure => simp [intOf]; omega
                · have hd10 : decide ((k : Int) < ((fplace m : Nat) : Int)) = false := by simpa using hkm
                  have hd11 : decide (k < fplace m) = false := decide_eq_false hkm
                  have Hkm := Lib.hid hkm
                  clear hkm
                  go_upto_region 38 with fail
                  replace hop6 := hop6.step (Below.refl _ _).drew
                  replace hm6 := hm6.drew
                  have hS1 : (fun W => RowB W g8 100 L ∧ RowB W g 100 m) W6.drew := ⟨hr6.below (Below.refl _ W6).drew, ho6.below (Below.refl _ W6).drew⟩
                  clear hr6 ho6
                  refine wp_region_noPanic ?_
                  refine wp_region_held_drew (S := (fun W => RowB W g8 100 L ∧ RowB W g 100 m)) (by kernel_rfl) hS1 (fun hH => ?_)
                  refine take_at (i := 0) (v := ?_) rfl (by kernel_rfl) (by kernel_rfl) (by kernel_rfl) (fun _ _ _ h => h) (Or.inl ⟨by rfl, ?_⟩) hH ?_
                  rotate_left
                  · (intro w hSw; skip; go_simp; try with_reducible rfl)
                  try simp only [Act.put, List.setIfInBounds_toArray, List.set_cons_zero, List.set_cons_succ]
                  refine take_at (i := 1) (v := .agg (bv m).toArray) rfl (by kernel_rfl) (by kernel_rfl) (by kernel_rfl) (fun _ _ _ h => h) (yieldsIf_load_mid rfl 100 (.tmp 11) rfl g 0 rfl (bv m) _ (fun W hW => RowB.range hW.2) Tryd.underlying100 rfl (by rw [info_frame, hbm])) hH ?_
                  try simp only [Act.put, List.setIfInBounds_toArray, List.set_cons_zero, List.set_cons_succ]
                  refine wpAnyH_ready (rs := [2]) (by kernel_rfl) (by simp) ?_
                  refine ready_at rfl (fun K hK => ?_) AllReadyH.nil
                  go_simp
                  refine (fplace_any _ m hlm).mono ?_
                  rintro e W7 ⟨rfl, hb⟩
                  have hHn := show (fun W => RowB W g8 100 L ∧ RowB W g 100 m) _ from ⟨RowB.below hH.1 hb, RowB.below hH.2 hb⟩
                  replace hop6 := hop6.step hb
                  replace hm6 := hm6.below hb
                  clear hb hH
                  go_wp2_with fail
                  refine hK.out _ _ hHn (fun hH => ?_)
                  clear hHn
                  clear hK K
                  try simp only [Act.put, List.setIfInBounds_toArray, List.set_cons_zero, List.set_cons_succ]
                  refine take_at (i := 3) (v := ?_) rfl (by kernel_rfl) (by kernel_rfl) (by kernel_rfl) (fun _ _ _ h => h) (Or.inl ⟨by rfl, ?_⟩) hH ?_
                  rotate_left
                  · (intro w hSw; skip; go_simp; try with_reducible rfl)
                  try simp only [Act.put, List.setIfInBounds_toArray, List.set_cons_zero, List.set_cons_succ]
                  refine take_at (i := 4) (v := ?_) rfl (by kernel_rfl) (by kernel_rfl) (by kernel_rfl) (fun _ _ _ h => h) (Or.inl ⟨by rfl, ?_⟩) hH ?_
                  rotate_left
                  · (intro w hSw; skip; go_simp; try with_reducible rfl)
                  try simp only [Act.put, List.setIfInBounds_toArray, List.set_cons_zero, List.set_cons_succ]
                  refine take_at (i := 5) (v := undef) rfl (by kernel_rfl) (by kernel_rfl) (by kernel_rfl) (fun _ _ _ h => h) (Or.inr ⟨by rfl, rfl⟩) hH ?_
                  try simp only [Act.put, List.setIfInBounds_toArray, List.set_cons_zero, List.set_cons_succ]
                  refine take_at (i := 7) (v := undef) rfl (by kernel_rfl) (by kernel_rfl) (by kernel_rfl) (fun _ _ _ h => h) (Or.inr ⟨by rfl, rfl⟩) hH ?_
                  try simp only [Act.put, List.setIfInBounds_toArray, List.set_cons_zero, List.set_cons_succ]
                  refine wpAnyH_ready (rs := [6]) (by kernel_rfl) (by simp) ?_
                  refine ready_at rfl (fun K hK => ?_) AllReadyH.nil
                  go_simp
                  refine hK.out _ _ hH (fun _ => ?_)
                  clear hK K
                  try simp only [Act.put, List.setIfInBounds_toArray, List.set_cons_zero, List.set_cons_succ]
                  refine wpAnyH_ready (rs := [8]) (by kernel_rfl) (by simp) ?_
                  refine ready_at rfl (fun K hK => ?_) AllReadyH.nil
                  go_simp
                  refine hK.out _ _ hH (fun _ => ?_)
                  clear hK K
                  try simp only [Act.put, List.setIfInBounds_toArray, List.set_cons_zero, List.set_cons_succ]
                  refine take_at (i := 9) (v := undef) rfl (by kernel_rfl) (by kernel_rfl) (by kernel_rfl) (fun _ _ _ h => h) (Or.inr ⟨by rfl, rfl⟩) hH ?_
                  try simp only [Act.put, List.setIfInBounds_toArray, List.set_cons_zero, List.set_cons_succ]
                  refine take_at (i := 10) (v := ?_) rfl (by kernel_rfl) (by kernel_rfl) (by kernel_rfl) (fun _ _ _ h => h) (Or.inl ⟨by rfl, ?_⟩) hH ?_
                  rotate_left
                  · (intro w hSw; skip; go_simp; try with_reducible rfl)
                  try simp only [Act.put, List.setIfInBounds_toArray, List.set_cons_zero, List.set_cons_succ]
                  refine wpAnyH_done (by kernel_rfl) ?_ _
                  refine NoPanic.normal ?_
                  have ho6 := hH.2
                  clear hH
                  go_wp2_with fail
                  go_roundw
                  case rel => exact ⟨k + 1, by omega, fun j hj => by
                                    by_cases e : j = k
                                    · rw [e]; exact Hnk.out
                                    · exact Hall.out j (by omega), by go_num, by rw [Hla.out]; exact hop6, ho6, by rw [Hag.out, if_neg (fun h => Hkm.out h.1)]; exact hm6⟩
                  case measure => simp [intOf]; omega
              refine ready_at rfl (fun K hK => ?_) ?_
              · go_simp
                refine (fwrite_any _ L hl).mono ?_
                rintro e W5 ⟨rfl, hb⟩
                have hHn := RowB.below hH hb
                replace hj3 := hj3.step hb
                replace hm3 := hm3.below hb
                replace ho3 := ho3.below hb
                clear hb hH
                go_wp2_with fail
                refine hK.out _ _ hHn (fun hH => ?_)
                clear hHn
                clear hK K
                try simp only [Act.put, List.setIfInBounds_toArray, List.set_cons_zero, List.set_cons_succ]
                refine wpAnyH_ready (rs := [4]) (by kernel_rfl) (by simp) ?_
                refine ready_at rfl (fun K hK => ?_) AllReadyH.nil
                have q1 := hj3.jat.cells.2.1
                dsimp only at q1
                go_simp
                refine hK.out _ _ hH (fun _ => ?_)
                clear q1
                clear hK K
                try simp only [Act.put, List.setIfInBounds_toArray, List.set_cons_zero, List.set_cons_succ]
                refine wpAnyH_ready (rs := [7]) (by kernel_rfl) (by simp) ?_
                refine ready_at rfl (fun K hK => ?_) AllReadyH.nil
                go_simp
                refine hK.out _ _ hH (fun _ => ?_)
                clear hK K
                try simp only [Act.put, List.setIfInBounds_toArray, List.set_cons_zero, List.set_cons_succ]
                refine take_at (i := 8) (v := ?_) rfl (by kernel_rfl) (by kernel_rfl) (by kernel_rfl) (fun _ _ _ h => h) (Or.inl ⟨by rfl, ?_⟩) hH ?_
                rotate_left
                · (intro w hSw; skip; go_simp; try with_reducible rfl)
                try simp only [Act.put, List.setIfInBounds_toArray, List.set_cons_zero, List.set_cons_succ]
                refine take_at (i := 9) (v := ?_) rfl (by kernel_rfl) (by kernel_rfl) (by kernel_rfl) (fun _ _ _ h => h) (Or.inl ⟨by rfl, ?_⟩) hH ?_
                rotate_left
                · (intro w hSw; skip; go_simp; try with_reducible rfl)
                try simp only [Act.put, List.setIfInBounds_toArray, List.set_cons_zero, List.set_cons_succ]
                refine wpAnyH_ready (rs := [10]) (by kernel_rfl) (by simp) ?_
                refine ready_at rfl (fun K hK => ?_) AllReadyH.nil
                have q1 := hj3.jat.cells.2.1
                have f1 := frozen_p hj3.jat.head 1
                go_simp
                have hmx : (if la < fwrite L then ((fwrite L : Nat) : Int) else (la : Int)) = ((max la (fwrite L) : Nat) : Int) := by split <;> omega
                rw [hmx]
                have hHn : RowB (W5.setCell ⟨p, 1, none⟩ (.int .u64 ((max la (fwrite L) : Nat) : Int))) g8 100 L := RowB.turned hH (turned_one W5 p 1 _) (by omega)
                have hop6 := hj3.put_last (max la (fwrite L))
                have hm6 := hm3.turned (turned_one W5 p 1 (.int .u64 ((max la (fwrite L) : Nat) : Int))) (fun k hk => by omega)
                have ho6 := ho3.turned (turned_one W5 p 1 (.int .u64 ((max la (fwrite L) : Nat) : Int))) (by omega)
                clear hj3 hm3 ho3 q1 f1 hmx hH
                generalize W5.setCell ⟨p, 1, none⟩ (.int .u64 ((max la (fwrite L) : Nat) : Int)) = W6 at *
                refine hK.out _ _ hHn (fun hH => ?_)
                clear hHn
                clear hK K
                try simp only [Act.put, List.setIfInBounds_toArray, List.set_cons_zero, List.set_cons_succ]
                refine wpAnyH_done (by kernel_rfl) ?_ _
                refine NoPanic.normal ?_
                have hr6 := hH
                clear hH
                by_cases hkm : k < fplace m
                · have hd10 : decide ((k : Int) < ((fplace m : Nat) : Int)) = true := by simpa using hkm
                  have hd11 : decide (k < fplace m) = true := decide_eq_true hkm
                  have Hkm := Lib.hid hkm
                  by_cases hww : fwrite L = fwrite m
                  · have hq1 : (((fwrite L : Nat) : Int) == ((fwrite m : Nat) : Int)) = true := by rw [beq_iff_eq]; omega
                    have hq2 : (fwrite L == fwrite m) = true := by simpa using hww
                    have hq3 : decide (fwrite L = fwrite m) = true := decide_eq_true hww
                    have Hww := Lib.hid hww
                    clear hww hkm
                    go_upto_region 38 with fail
                    replace hop6 := hop6.step (Below.refl _ _).drew
                    replace hm6 := hm6.drew
                    have hS1 : (fun W => RowB W g8 100 L ∧ RowB W g 100 m) W6.drew := ⟨hr6.below (Below.refl _ W6).drew, ho6.below (Below.refl _ W6).drew⟩
                    clear hr6 ho6
                    refine wp_region_noPanic ?_
                    refine wp_region_held_drew (S := (fun W => RowB W g8 100 L ∧ RowB W g 100 m)) (by kernel_rfl) hS1 (fun hH => ?_)
                    refine take_at (i := 0) (v := ?_) rfl (by kernel_rfl) (by kernel_rfl) (by kernel_rfl) (fun _ _ _ h => h) (Or.inl ⟨by rfl, ?_⟩) hH ?_
                    rotate_left
                    · (intro w hSw; skip; go_simp; try with_reducible rfl)
                    try simp only [Act.put, List.setIfInBounds_toArray, List.set_cons_zero, List.set_cons_succ]
                    refine take_at (i := 1) (v := .agg (bv m).toArray) rfl (by kernel_rfl) (by kernel_rfl) (by kernel_rfl) (fun _ _ _ h => h) (yieldsIf_load_mid rfl 100 (.tmp 11) rfl g 0 rfl (bv m) _ (fun W hW => RowB.range hW.2) Tryd.underlying100 rfl (by rw [info_frame, hbm])) hH ?_
                    try simp only [Act.put, List.setIfInBounds_toArray, List.set_cons_zero, List.set_cons_succ]
                    refine wpAnyH_ready (rs := [2]) (by kernel_rfl) (by simp) ?_
                    refine ready_at rfl (fun K hK => ?_) AllReadyH.nil
                    go_simp
                    refine (fplace_any _ m hlm).mono ?_
                    rintro e W7 ⟨rfl, hb⟩
                    have hHn := show (fun W => RowB W g8 100 L ∧ RowB W g 100 m) _ from ⟨RowB.below hH.1 hb, RowB.below hH.2 hb⟩
                    replace hop6 := hop6.step hb
                    replace hm6 := hm6.below hb
                    clear hb hH
                    go_wp2_with fail
                    refine hK.out _ _ hHn (fun hH => ?_)
                    clear hHn
                    clear hK K
                    try simp only [Act.put, List.setIfInBounds_toArray, List.set_cons_zero, List.set_cons_succ]
                    refine take_at (i := 3) (v := ?_) rfl (by kernel_rfl) (by kernel_rfl) (by kernel_rfl) (fun _ _ _ h => h) (Or.inl ⟨by rfl, ?_⟩) hH ?_
                    rotate_left
                    · (intro w hSw; skip; go_simp; try with_reducible rfl)
                    try simp only [Act.put, List.setIfInBounds_toArray, List.set_cons_zero, List.set_cons_succ]
                    refine take_at (i := 4) (v := ?_) rfl (by kernel_rfl) (by kernel_rfl) (by kernel_rfl) (fun _ _ _ h => h) (Or.inl ⟨by rfl, ?_⟩) hH ?_
                    rotate_left
                    · (intro w hSw; skip; go_simp; try with_reducible rfl)
                    try simp only [Act.put, List.setIfInBounds_toArray, List.set_cons_zero, List.set_cons_succ]
                    refine take_at (i := 5) (v := .agg (bv L).toArray) rfl (by kernel_rfl) (by kernel_rfl) (by kernel_rfl) (fun _ _ _ h => h) (yieldsIf_load_mid rfl 100 (.tmp 14) rfl g8 0 rfl (bv L) _ (fun W hW => RowB.range hW.1) Tryd.underlying100 rfl (by rw [info_frame, hlb])) hH ?_
                    try simp only [Act.put, List.setIfInBounds_toArray, List.set_cons_zero, List.set_cons_succ]
                    refine take_at (i := 7) (v := .agg (bv m).toArray) rfl (by kernel_rfl) (by kernel_rfl) (by kernel_rfl) (fun _ _ _ h => h) (yieldsIf_load_mid rfl 100 (.tmp 11) rfl g 0 rfl (bv m) _ (fun W hW => RowB.range hW.2) Tryd.underlying100 rfl (by rw [info_frame, hbm])) hH ?_
                    try simp only [Act.put, List.setIfInBounds_toArray, List.set_cons_zero, List.set_cons_succ]
                    refine wpAnyH_ready (rs := [6]) (by kernel_rfl) (by simp) ?_
                    refine ready_at rfl (fun K hK => ?_) AllReadyH.nil
                    go_simp
                    refine (fwrite_any _ L hl).mono ?_
                    rintro e W8 ⟨rfl, hb⟩
                    have hHn := show (fun W => RowB W g8 100 L ∧ RowB W g 100 m) _ from ⟨RowB.below hH.1 hb, RowB.below hH.2 hb⟩
                    replace hop6 := hop6.step hb
                    replace hm6 := hm6.below hb
                    clear hb hH
                    go_wp2_with fail
                    refine hK.out _ _ hHn (fun hH => ?_)
                    clear hHn
                    clear hK K
                    try simp only [Act.put, List.setIfInBounds_toArray, List.set_cons_zero, List.set_cons_succ]
                    refine wpAnyH_ready (rs := [8]) (by kernel_rfl) (by simp) ?_
                    refine ready_at rfl (fun K hK => ?_) AllReadyH.nil
                    go_simp
                    refine (fwrite_any _ m hlm).mono ?_
                    rintro e W9 ⟨rfl, hb⟩
                    have hHn := show (fun W => RowB W g8 100 L ∧ RowB W g 100 m) _ from ⟨RowB.below hH.1 hb, RowB.below hH.2 hb⟩
                    replace hop6 := hop6.step hb
                    replace hm6 := hm6.below hb
                    clear hb hH
                    go_wp2_with fail
                    refine hK.out _ _ hHn (fun hH => ?_)
                    clear hHn
                    clear hK K
                    try simp only [Act.put, List.setIfInBounds_toArray, List.set_cons_zero, List.set_cons_succ]
                    refine take_at (i := 9) (v := ?_) rfl (by kernel_rfl) (by kernel_rfl) (by kernel_rfl) (fun _ _ _ h => h) (Or.inl ⟨by rfl, ?_⟩) hH ?_
                    rotate_left
                    · (intro w hSw; skip; go_simp; try with_reducible rfl)
                    try simp only [Act.put, List.setIfInBounds_toArray, List.set_cons_zero, List.set_cons_succ]
                    refine take_at (i := 10) (v := ?_) rfl (by kernel_rfl) (by kernel_rfl) (by kernel_rfl) (fun _ _ _ h => h) (Or.inl ⟨by rfl, ?_⟩) hH ?_
                    rotate_left
                    · (intro w hSw; skip; go_simp; try with_reducible rfl)
                    try simp only [Act.put, List.setIfInBounds_toArray, List.set_cons_zero, List.set_cons_succ]
                    refine wpAnyH_done (by kernel_rfl) ?_ _
                    refine NoPanic.normal ?_
                    have hr6 := hH.1
                    have ho6 := hH.2
                    clear hH
                    have hrg := hr6.range
                    have hb9 : Below W9.heap.size W9 (W9.alloc (.cells (bv L).toArray 100)) := (Below.refl _ _).alloc (Nat.le_refl _) _
                    have hop9 := hop6.step hb9
                    have hm9 := hm6.below hb9
                    have ho9 := ho6.below hb9
                    have hr9 := RowB.alloc W9 100 L
                    obtain ⟨v11, W11, hr11, hm11, ht11⟩ := hm9.snoc hop9.base (by have := Hal.out; omega) L hl W9.heap.size hr9
                    have hop11 := hop9.own (T := fun j => g + 1 ≤ j) (fun j hj => by have := Hpp.out; omega) ht11
                    have ho11 := ho9.turned ht11 (by omega)
                    clear hop6 hm6 ho6 hb9 hop9 hm9 ho9 hr9 ht11
                    go_wp2_with (first | (refine wpList_load_mid rfl 100 (.tmp 14) rfl g8 0 rfl (bv L) _ hrg Tryd.underlying100 rfl (by rw [info_frame, hlb]) ?_) | (refine wpList_build_one rfl (.tmp 139) rfl L hl rfl ?_) | (refine wpList_append_run rfl (.tmp 138) (.tmp 140) 109 109 rfl _ _ _ rfl rfl hr11 ?_))
                    have hop6 := hop11
                    have ho6 := ho11
                    have hm6 := hm11
                    go_roundw
                    case rel => exact ⟨k + 1, by omega, fun j hj => by
                                      by_cases e : j = k
                                      · rw [e]; exact Hnk.out
                                      · exact Hall.out j (by omega), by go_num, by rw [Hla.out]; exact hop6, ho6, by rw [Hag.out, if_pos ⟨Hkm.out, Hww.out⟩]; exact hm6⟩
                    case measure => simp [intOf]; omega
                  · have hq1 : (((fwrite L : Nat) : Int) == ((fwrite m : Nat) : Int)) = false := by rw [beq_eq_false_iff_ne]; omega
                    have hq2 : (fwrite L == fwrite m) = false := by simpa using hww
                    have hq3 : decide (fwrite L = fwrite m) = false := decide_eq_false hww
                    have Hww := Lib.hid hww
                    clear hww hkm
                    go_upto_region 38 with fail
                    replace hop6 := hop6.step (Below.refl _ _).drew
                    replace hm6 := hm6.drew
                    have hS1 : (fun W => RowB W g8 100 L ∧ RowB W g 100 m) W6.drew := ⟨hr6.below (Below.refl _ W6).drew, ho6.below (Below.refl _ W6).drew⟩
                    clear hr6 ho6
                    refine wp_region_noPanic ?_
                    refine wp_region_held_drew (S := (fun W => RowB W g8 100 L ∧ RowB W g 100 m)) (by kernel_rfl) hS1 (fun hH => ?_)
                    refine take_at (i := 0) (v := ?_) rfl (by kernel_rfl) (by kernel_rfl) (by kernel_rfl) (fun _ _ _ h => h) (Or.inl ⟨by rfl, ?_⟩) hH ?_
                    rotate_left
                    · (intro w hSw; skip; go_simp; try with_reducible rfl)
                    try simp only [Act.put, List.setIfInBounds_toArray, List.set_cons_zero, List.set_cons_succ]
                    refine take_at (i := 1) (v := .agg (bv m).toArray) rfl (by kernel_rfl) (by kernel_rfl) (by kernel_rfl) (fun _ _ _ h => h) (yieldsIf_load_mid rfl 100 (.tmp 11) rfl g 0 rfl (bv m) _ (fun W hW => RowB.range hW.2) Tryd.underlying100 rfl (by rw [info_frame, hbm])) hH ?_
                    try simp only [Act.put, List.setIfInBounds_toArray, List.set_cons_zero, List.set_cons_succ]
                    refine wpAnyH_ready (rs := [2]) (by kernel_rfl) (by simp) ?_
                    refine ready_at rfl (fun K hK => ?_) AllReadyH.nil
                    go_simp
                    refine (fplace_any _ m hlm).mono ?_
                    rintro e W7 ⟨rfl, hb⟩
                    have hHn := show (fun W => RowB W g8 100 L ∧ RowB W g 100 m) _ from ⟨RowB.below hH.1 hb, RowB.below hH.2 hb⟩
                    replace hop6 := hop6.step hb
                    replace hm6 := hm6.below hb
                    clear hb hH
                    go_wp2_with fail
                    refine hK.out _ _ hHn (fun hH => ?_)
                    clear hHn
                    clear hK K
                    try simp only [Act.put, List.setIfInBounds_toArray, List.set_cons_zero, List.set_cons_succ]
                    refine take_at (i := 3) (v := ?_) rfl (by kernel_rfl) (by kernel_rfl) (by kernel_rfl) (fun _ _ _ h => h) (Or.inl ⟨by rfl, ?_⟩) hH ?_
                    rotate_left
                    · (intro w hSw; skip; go_simp; try with_reducible rfl)
                    try simp only [Act.put, List.setIfInBounds_toArray, List.set_cons_zero, List.set_cons_succ]
                    refine take_at (i := 4) (v := ?_) rfl (by kernel_rfl) (by kernel_rfl) (by kernel_rfl) (fun _ _ _ h => h) (Or.inl ⟨by rfl, ?_⟩) hH ?_
                    rotate_left
                    · (intro w hSw; skip; go_simp; try with_reducible rfl)
                    try simp only [Act.put, List.setIfInBounds_toArray, List.set_cons_zero, List.set_cons_succ]
                    refine take_at (i := 5) (v := .agg (bv L).toArray) rfl (by kernel_rfl) (by kernel_rfl) (by kernel_rfl) (fun _ _ _ h => h) (yieldsIf_load_mid rfl 100 (.tmp 14) rfl g8 0 rfl (bv L) _ (fun W hW => RowB.range hW.1) Tryd.underlying100 rfl (by rw [info_frame, hlb])) hH ?_
                    try simp only [Act.put, List.setIfInBounds_toArray, List.set_cons_zero, List.set_cons_succ]
                    refine take_at (i := 7) (v := .agg (bv m).toArray) rfl (by kernel_rfl) (by kernel_rfl) (by kernel_rfl) (fun _ _ _ h => h) (yieldsIf_load_mid rfl 100 (.tmp 11) rfl g 0 rfl (bv m) _ (fun W hW => RowB.range hW.2) Tryd.underlying100 rfl (by rw [info_frame, hbm])) hH ?_
                    try simp only [Act.put, List.setIfInBounds_toArray, List.set_cons_zero, List.set_cons_succ]
                    refine wpAnyH_ready (rs := [6]) (by kernel_rfl) (by simp) ?_
                    refine ready_at rfl (fun K hK => ?_) AllReadyH.nil
                    go_simp
                    refine (fwrite_any _ L hl).mono ?_
                    rintro e W8 ⟨rfl, hb⟩
                    have hHn := show (fun W => RowB W g8 100 L ∧ RowB W g 100 m) _ from ⟨RowB.below hH.1 hb, RowB.below hH.2 hb⟩
                    replace hop6 := hop6.step hb
                    replace hm6 := hm6.below hb
                    clear hb hH
                    go_wp2_with fail
                    refine hK.out _ _ hHn (fun hH => ?_)
                    clear hHn
                    clear hK K
                    try simp only [Act.put, List.setIfInBounds_toArray, List.set_cons_zero, List.set_cons_succ]
                    refine wpAnyH_ready (rs := [8]) (by kernel_rfl) (by simp) ?_
                    refine ready_at rfl (fun K hK => ?_) AllReadyH.nil
                    go_simp
                    refine (fwrite_any _ m hlm).mono ?_
                    rintro e W9 ⟨rfl, hb⟩
                    have hHn := show (fun W => RowB W g8 100 L ∧ RowB W g 100 m) _ from ⟨RowB.below hH.1 hb, RowB.below hH.2 hb⟩
                    replace hop6 := hop6.step hb
                    replace hm6 := hm6.below hb
                    clear hb hH
                    go_wp2_with fail
                    refine hK.out _ _ hHn (fun hH => ?_)
                    clear hHn
                    clear hK K
                    try simp only [Act.put, List.setIfInBounds_toArray, List.set_cons_zero, List.set_cons_succ]
                    refine take_at (i := 9) (v := ?_) rfl (by kernel_rfl) (by kernel_rfl) (by kernel_rfl) (fun _ _ _ h => h) (Or.inl ⟨by rfl, ?_⟩) hH ?_
                    rotate_left
                    · (intro w hSw; skip; go_simp; try with_reducible rfl)
                    try simp only [Act.put, List.setIfInBounds_toArray, List.set_cons_zero, List.set_cons_succ]
                    refine take_at (i := 10) (v := ?_) rfl (by kernel_rfl) (by kernel_rfl) (by kernel_rfl) (fun _ _ _ h => h) (Or.inl ⟨by rfl, ?_⟩) hH ?_
                    rotate_left
                    · (intro w hSw; skip; go_simp; try with_reducible rfl)
                    try simp only [Act.put, List.setIfInBounds_toArray, List.set_cons_zero, List.set_cons_succ]
                    refine wpAnyH_done (by kernel_rfl) ?_ _
                    refine NoPanic.normal ?_
                    have ho6 := hH.2
                    clear hH
                    go_wp2_with fail
                    go_roundw
                    case rel => exact ⟨k + 1, by omega, fun j hj => by
                                      by_cases e : j = k
                                      · rw [e]; exact Hnk.out
                                      · exact Hall.out j (by omega), by go_num, by rw [Hla.out]; exact hop6, ho6, by rw [Hag.out, if_neg (fun h => Hww.out h.2)]; exact hm6⟩
                    case measure => simp [intOf]; omega
                · have hd10 : decide ((k : Int) < ((fplace m : Nat) : Int)) = false := by simpa using hkm
                  have hd11 : decide (k < fplace m) = false := decide_eq_false hkm
                  have Hkm := Lib.hid hkm
                  clear hkm
                  go_upto_region 38 with fail
                  replace hop6 := hop6.step (Below.refl _ _).drew
                  replace hm6 := hm6.drew
                  have hS1 : (fun W => RowB W g8 100 L ∧ RowB W g 100 m) W6.drew := ⟨hr6.below (Below.refl _ W6).drew, ho6.below (Below.refl _ W6).drew⟩
                  clear hr6 ho6
                  refine wp_region_noPanic ?_
                  refine wp_region_held_drew (S := (fun W => RowB W g8 100 L ∧ RowB W g 100 m)) (by kernel_rfl) hS1 (fun hH => ?_)
                  refine take_at (i := 0) (v := ?_) rfl (by kernel_rfl) (by kernel_rfl) (by kernel_rfl) (fun _ _ _ h => h) (Or.inl ⟨by rfl, ?_⟩) hH ?_
                  rotate_left
                  · (intro w hSw; skip; go_simp; try with_reducible rfl)
                  try simp only [Act.put, List.setIfInBounds_toArray, List.set_cons_zero, List.set_cons_succ]
                  refine take_at (i := 1) (v := .agg (bv m).toArray) rfl (by kernel_rfl) (by kernel_rfl) (by kernel_rfl) (fun _ _ _ h => h) (yieldsIf_load_mid rfl 100 (.tmp 11) rfl g 0 rfl (bv m) _ (fun W hW => RowB.range hW.2) Tryd.underlying100 rfl (by rw [info_frame, hbm])) hH ?_
                  try simp only [Act.put, List.setIfInBounds_toArray, List.set_cons_zero, List.set_cons_succ]
                  refine wpAnyH_ready (rs := [2]) (by kernel_rfl) (by simp) ?_
                  refine ready_at rfl (fun K hK => ?_) AllReadyH.nil
                  go_simp
                  refine (fplace_any _ m hlm).mono ?_
                  rintro e W7 ⟨rfl, hb⟩
                  have hHn := show (fun W => RowB W g8 100 L ∧ RowB W g 100 m) _ from ⟨RowB.below hH.1 hb, RowB.below hH.2 hb⟩
                  replace hop6 := hop6.step hb
                  replace hm6 := hm6.below hb
                  clear hb hH
                  go_wp2_with fail
                  refine hK.out _ _ hHn (fun hH => ?_)
                  clear hHn
                  clear hK K
                  try simp only [Act.put, List.setIfInBounds_toArray, List.set_cons_zero, List.set_cons_succ]
                  refine take_at (i := 3) (v := ?_) rfl (by kernel_rfl) (by kernel_rfl) (by kernel_rfl) (fun _ _ _ h => h) (Or.inl ⟨by rfl, ?_⟩) hH ?_
                  rotate_left
                  · (intro w hSw; skip; go_simp; try with_reducible rfl)
                  try simp only [Act.put, List.setIfInBounds_toArray, List.set_cons_zero, List.set_cons_succ]
                  refine take_at (i := 4) (v := ?_) rfl (by kernel_rfl) (by kernel_rfl) (by kernel_rfl) (fun _ _ _ h => h) (Or.inl ⟨by rfl, ?_⟩) hH ?_
                  rotate_left
                  · (intro w hSw; skip; go_simp; try with_reducible rfl)
                  try simp only [Act.put, List.setIfInBounds_toArray, List.set_cons_zero, List.set_cons_succ]
                  refine take_at (i := 5) (v := undef) rfl (by kernel_rfl) (by kernel_rfl) (by kernel_rfl) (fun _ _ _ h => h) (Or.inr ⟨by rfl, rfl⟩) hH ?_
                  try simp only [Act.put, List.setIfInBounds_toArray, List.set_cons_zero, List.set_cons_succ]
                  refine take_at (i := 7) (v := undef) rfl (by kernel_rfl) (by kernel_rfl) (by kernel_rfl) (fun _ _ _ h => h) (Or.inr ⟨by rfl, rfl⟩) hH ?_
                  try simp only [Act.put, List.setIfInBounds_toArray, List.set_cons_zero, List.set_cons_succ]
                  refine wpAnyH_ready (rs := [6]) (by kernel_rfl) (by simp) ?_
                  refine ready_at rfl (fun K hK => ?_) AllReadyH.nil
                  go_simp
                  refine hK.out _ _ hH (fun _ => ?_)
                  clear hK K
                  try simp only [Act.put, List.setIfInBounds_toArray, List.set_cons_zero, List.set_cons_succ]
                  refine wpAnyH_ready (rs := [8]) (by kernel_rfl) (by simp) ?_
                  refine ready_at rfl (fun K hK => ?_) AllReadyH.nil
                  go_simp
                  refine hK.out _ _ hH (fun _ => ?_)
                  clear hK K
                  try simp only [Act.put, List.setIfInBounds_toArray, List.set_cons_zero, List.set_cons_succ]
                  refine take_at (i := 9) (v := undef) rfl (by kernel_rfl) (by kernel_rfl) (by kernel_rfl) (fun _ _ _ h => h) (Or.inr ⟨by rfl, rfl⟩) hH ?_
                  try simp only [Act.put, List.setIfInBounds_toArray, List.set_cons_zero, List.set_cons_succ]
                  refine take_at (i := 10) (v := ?_) rfl (by kernel_rfl) (by kernel_rfl) (by kernel_rfl) (fun _ _ _ h => h) (Or.inl ⟨by rfl, ?_⟩) hH ?_
                  rotate_left
                  · (intro w hSw; skip; go_simp; try with_reducible rfl)
                  try simp only [Act.put, List.setIfInBounds_toArray, List.set_cons_zero, List.set_cons_succ]
                  refine wpAnyH_done (by kernel_rfl) ?_ _
                  refine NoPanic.normal ?_
                  have ho6 := hH.2
                  clear hH
                  go_wp2_with fail
                  go_roundw
                  case rel => exact ⟨k + 1, by omega, fun j hj => by
                                    by_cases e : j = k
                                    · rw [e]; exact Hnk.out
                                    · exact Hall.out j (by omega), by go_num, by rw [Hla.out]; exact hop6, ho6, by rw [Hag.out, if_neg (fun h => Hkm.out h.1)]; exact hm6⟩
                  case measure => simp [intOf]; omega
              exact AllReadyH.nil
          · have hkb : k = D.blocks := by omega
            have hd9 : decide ((k : Int) < (D.blocks : Int)) = false := by simp; omega
            have he : D.openJ = if (D.againTo m k).length = fplace m ∧ 0 < (D.againTo m k).length then (((⟨D, D.lastTo m k, sq, 0⟩ : Jn).spread (D.againTo m k)).off, (⟨D, D.lastTo m k, sq, 0⟩ : Jn).spread (D.againTo m k)) else (0, ⟨D, D.lastTo m k, sq, 0⟩) := by
              rw [Dk.openJ, if_neg (by omega), if_neg (by simp [Hoff.out]), if_neg (by simp [Hm0.out]), if_neg (by simp [Hm0.out, Hm1.out]), if_neg (by rintro ⟨i, hi, e⟩; rw [Hall.out i (by omega)] at e; cases e), Dk.found, HMm.out, Hsq.out, ← hkb]
            have HE := Lib.hid he
            have hal : (D.againTo m k).length ≤ k := by
              have : ∀ j, (D.againTo m j).length ≤ j := fun j => by
                induction j with
                | zero => exact Nat.le_refl _
                | succ j ih =>
                  rw [Dk.againTo]
                  split
                  · rw [List.length_append, List.length_singleton]; omega
                  · omega
              exact this k
            clear he Hall Hsq HMm
            generalize D.againTo m k = ag at *
            generalize D.lastTo m k = la at *
            have hpl := fplace_lt m
            obtain ⟨xa, xc, hx, hxc, hxm⟩ : ∃ a cap, u12 = .slice a ag.length cap ∧ ag.length ≤ cap ∧ cap ≤ maxLen := by
              rcases hmr.range with ⟨h1, h2⟩ | ⟨g, cap, h1, h2, h3, _⟩
              · exact ⟨none, 0, by rw [h1, h2]; rfl, by rw [h2]; exact Nat.le_refl _, by simp [maxLen]⟩
              · exact ⟨_, cap, h1, h2, h3⟩
            subst hx
            have hrg := hrm.range
            go_wp2_with (refine wpList_load_mid rfl 100 (.tmp 11) rfl g 0 rfl (bv m) _ hrg Tryd.underlying100 rfl (by rw [info_frame, hbm]) ?_)
            refine (fplace_any wr m hlm).mono ?_
            rintro e w2 ⟨rfl, hb2⟩
            have hop2 := hop.step hb2
            have hmr2 := hmr.below hb2
            clear hop hmr hrm hrg hb2
            by_cases h1 : ag.length = fplace m
            case neg =>
              have hq1 : (((ag.length : Nat) : Int) == ((fplace m : Nat) : Int)) = false := by rw [beq_eq_false_iff_ne]; omega
              have hq2 : (ag.length == fplace m) = false := by simpa using h1
              have hq3 : decide (ag.length = fplace m) = false := decide_eq_false h1
              have he2 : D.openJ = (0, ⟨D, la, sq, 0⟩) := by rw [HE.out, if_neg (fun h => h1 h.1)]
              have HE2 := Lib.hid he2
              clear he2 h1
              go_wp2_with fail
              go_ret2
              exact OpenEnd.ok HE2.out hop2.jat hop2.wp (Turned.of_below hop2.below)
            have hq1 : (((ag.length : Nat) : Int) == ((fplace m : Nat) : Int)) = true := by rw [beq_iff_eq]; omega
            have hq2 : (ag.length == fplace m) = true := by simpa using h1
            have hq3 : decide (ag.length = fplace m) = true := decide_eq_true h1
            by_cases h2 : 0 < ag.length
            case neg =>
              have hq4 : decide ((0 : Int) < ((ag.length : Nat) : Int)) = false := decide_eq_false (by omega)
              have hq5 : decide (0 < ag.length) = false := decide_eq_false h2
              have he2 : D.openJ = (0, ⟨D, la, sq, 0⟩) := by rw [HE.out, if_neg (fun h => h2 h.2)]
              have HE2 := Lib.hid he2
              clear he2 h1 h2
              go_wp2_with fail
              go_ret2
              exact OpenEnd.ok HE2.out hop2.jat hop2.wp (Turned.of_below hop2.below)
            have hq4 : decide ((0 : Int) < ((ag.length : Nat) : Int)) = true := decide_eq_true (by omega)
            have hq5 : decide (0 < ag.length) = true := decide_eq_true h2
            have he2 : D.openJ = (((⟨D, la, sq, 0⟩ : Jn).spread ag).off, (⟨D, la, sq, 0⟩ : Jn).spread ag) := by rw [HE.out, if_pos ⟨h1, h2⟩]
            have HE2 := Lib.hid he2
            clear he2 h1 h2
            go_wp2_with fail
            refine (spread_any w2 F p ⟨D, la, sq, 0⟩ hop2.jat hop2.nib (by show 2 ≤ D.n; omega) (g + 1) _ ag hmr2 (fun j hj => by
              rcases hj with hj | hj
              · have := hop2.fw j hj; have := Hpp.out; omega
              · omega)).mono ?_
            rintro e w3 ⟨rfl, hj3, ht3⟩
            have ht4 : Turned F.has w w3 := ((Turned.of_below (T := JT F p) hop2.below).trans ht3).mono fun j hj hT => by
              rcases hT with hT | hT
              · exact hT
              · have := hop2.wp; omega
            have hwp := hop2.wp
            have HW := Lib.hid hwp
            clear hop2 hmr2 ht3 hwp
            generalize (⟨D, la, sq, 0⟩ : Jn).spread ag = J1 at *
            have q3 := hj3.cells.2.2.2
            by_cases h0 : J1.off = 0
            · have hd0 : (J1.off == 0) = true := by simpa using h0
              have hd1 : (J1.off != 0) = false := by simp [h0]
              have he3 : D.openJ = (0, J1) := by rw [HE2.out, h0]
              have HE3 := Lib.hid he3
              clear he3
              rw [h0] at q3
              clear h0
              go_wp2_with fail
              go_ret2
              exact OpenEnd.ok HE3.out hj3 HW.out ht4
            · have hd0 : (J1.off == 0) = false := by simpa using h0
              have hd1 : (J1.off != 0) = true := by simpa using h0
              have H0 := Lib.hid h0
              generalize hoj : J1.off = oj at *
              clear h0
              have Hoj := Lib.hid hoj
              clear hoj
              go_wp2_with fail
              go_region
              go_wp2_with fail
              go_ret2
              exact OpenEnd.away HE2.out rfl H0.out hj3.drew.disk ht4.drew
theorem open_any (w : World) (F : Ft) (D : Dk) (h : DkAt w F D) (hn : Nib w) : Calls Tryd.prog 27 #[F.ptr] w (OpenEnd F D w) := by
  by_cases hbad : D.n < 32 ∨ D.off = true
  · exact open_bad w F D h hn hbad
  · exact open_rest w F D h hn (fun e => hbad (.inl e)) (by
      cases e : D.off with
      | false => rfl
      | true => exact absurd (.inr e) hbad)
end Go.Proofs.YtbmmcaoifkboiaaDoor

/- What a crash leaves, in plain lists. -/
set_option linter.unusedVariables false
set_option linter.unusedSimpArgs false
set_option maxRecDepth 100000
namespace Go.Proofs.YtbmmcaoifkboiaaDoor
open Go.RowKit

/-- the sectors when the loose writes below k that stay are laid -/
def crashTo (D : Dk) (stay : List Int) : Nat → List UInt8
  | 0 => D.safe
  | k + 1 => if (k : Int) ∈ stay then (match D.hung[k]? with | some x => putS (crashTo D stay k) x.1 x.2 | none => crashTo D stay k) else crashTo D stay k
/-- what a crash leaves -/
def Dk.crash (D : Dk) (stay : List Int) : Dk := ⟨D.n, crashTo D stay D.hung.length, crashTo D stay D.hung.length, [], 0, -1, false⟩
theorem crashTo_length {D : Dk} (h : D.Ok) (stay : List Int) (k : Nat) : (crashTo D stay k).length = D.n * 128 := by
  induction k with
  | zero => exact h.safe
  | succ k ih =>
    simp only [crashTo]
    split
    · split
      · rename_i x hx
        obtain ⟨h1, h2⟩ := h.hung x (List.mem_of_getElem? hx)
        exact putS_length ih h2 h1
      · exact ih
    · exact ih
theorem Dk.crash_ok {D : Dk} (h : D.Ok) (stay : List Int) : (D.crash stay).Ok :=
  ⟨h.n1, h.nm, crashTo_length h _ _, crashTo_length h _ _, fun x hx => (by cases hx), Nat.le_refl _, by simp [Dk.crash], by simp [Dk.crash], by simp [Dk.crash]⟩

end Go.Proofs.YtbmmcaoifkboiaaDoor

/- Phases: rows of sectors laid and flushed, with a predicate that every crash keeps. Plain lists. -/
set_option linter.unusedVariables false
set_option linter.unusedSimpArgs false
set_option maxRecDepth 100000
namespace Go.Proofs.YtbmmcaoifkboiaaDoor
open Go.RowKit

/-- a predicate of images that the disk's images and all its crashes keep -/
structure Dk.In (P : List UInt8 → Prop) (D : Dk) : Prop where
  ok : D.Ok
  safe : P D.safe
  now : P D.now
  hung : ∀ x ∈ D.hung, ∀ l, P l → P (putS l x.1 x.2)
theorem Dk.gone_off (D : Dk) (b : Bool) : ({ D with off := b } : Dk).Ok ↔ D.Ok := ⟨fun h => ⟨h.1, h.2, h.3, h.4, h.5, h.6, h.7, h.8, h.9⟩, fun h => ⟨h.1, h.2, h.3, h.4, h.5, h.6, h.7, h.8, h.9⟩⟩
theorem Dk.In.off {P : List UInt8 → Prop} {D : Dk} (h : D.In P) (b : Bool) : ({ D with off := b } : Dk).In P := ⟨(Dk.gone_off D b).2 h.ok, h.safe, h.now, h.hung⟩
theorem Dk.In.write {P : List UInt8 → Prop} {D : Dk} (h : D.In P) (k : Nat) (L : List UInt8) (hP : ∀ l, P l → P (putS l k L)) (hk : k < D.n) (hl : L.length = 128) : (D.write k L).2.In P := by
  unfold Dk.write
  split
  · exact h.off true
  split
  · exact h.off false
  split
  · exact h.off false
  split
  · exact h.off false
  · rename_i _ _ _ h4
    refine ⟨⟨h.ok.n1, h.ok.nm, h.ok.safe, putS_length h.ok.now hl hk, fun x hx => ?_, ?_, by show D.ops + 1 ≤ 1048576; omega, h.ok.c1, h.ok.c2⟩, h.safe, hP _ h.now, fun x hx => ?_⟩
    · rcases List.mem_append.1 hx with hx | hx
      · exact h.ok.hung x hx
      · rw [List.mem_singleton.1 hx]; exact ⟨hk, hl⟩
    · have := h.ok.loose
      show (D.hung ++ [(k, L)]).length ≤ D.ops + 1
      simp; omega
    · rcases List.mem_append.1 hx with hx | hx
      · exact h.hung x hx
      · rw [List.mem_singleton.1 hx]; exact hP
theorem Dk.In.flush {P : List UInt8 → Prop} {D : Dk} (h : D.In P) : D.flush.2.In P := by
  unfold Dk.flush
  split
  · exact h.off true
  split
  · exact h.off false
  · rename_i _ h4
    exact ⟨⟨h.ok.n1, h.ok.nm, h.ok.now, h.ok.now, fun x hx => (by cases hx), Nat.zero_le _, by show D.ops + 1 ≤ 1048576; omega, h.ok.c1, h.ok.c2⟩, h.now, h.now, fun x hx => (by cases hx)⟩
theorem Dk.In.crash {P : List UInt8 → Prop} {D : Dk} (h : D.In P) (stay : List Int) (k : Nat) : P (crashTo D stay k) := by
  induction k with
  | zero => exact h.safe
  | succ k ih =>
    simp only [crashTo]
    split
    · split
      · rename_i x hx
        exact h.hung x (List.mem_of_getElem? hx) _ ih
      · exact ih
    · exact ih
/-- nothing is loose -/
def Dk.Flat (D : Dk) : Prop := D.hung = [] ∧ D.safe = D.now
theorem Dk.Flat.isIn {P : List UInt8 → Prop} {D : Dk} (h : D.Flat) (hok : D.Ok) (hp : P D.now) : D.In P := ⟨hok, by rw [h.2]; exact hp, hp, fun x hx => by rw [h.1] at hx; cases hx⟩
theorem Dk.crash_flat (D : Dk) (stay : List Int) : (D.crash stay).Flat := ⟨rfl, rfl⟩

/-- sectors laid one by one -/
def Jn.lays (J : Jn) (xs : List (Nat × List UInt8)) : Jn := xs.foldl (fun J x => J.lay x.1 x.2) J
def layL (l : List UInt8) (xs : List (Nat × List UInt8)) : List UInt8 := xs.foldl (fun l x => putS l x.1 x.2) l
theorem Jn.lays_snoc (J : Jn) (xs : List (Nat × List UInt8)) (k : Nat) (L : List UInt8) : J.lays (xs ++ [(k, L)]) = (J.lays xs).lay k L := by simp [Jn.lays]
theorem layL_snoc (l : List UInt8) (xs : List (Nat × List UInt8)) (x : Nat × List UInt8) : layL l (xs ++ [x]) = putS (layL l xs) x.1 x.2 := by simp [layL]
theorem layL_length {n : Nat} : ∀ (xs : List (Nat × List UInt8)) (l : List UInt8), l.length = n * 128 → (∀ x ∈ xs, x.1 < n ∧ x.2.length = 128) → (layL l xs).length = n * 128
  | [], _, h, _ => h
  | x :: r, l, h, hx => layL_length r _ (putS_length h (hx x (List.mem_cons_self ..)).2 (hx x (List.mem_cons_self ..)).1) fun y hy => hx y (List.mem_cons_of_mem _ hy)
theorem sec_layL_other {n i : Nat} (hi : i < n) : ∀ (xs : List (Nat × List UInt8)) (l : List UInt8), l.length = n * 128 → (∀ x ∈ xs, x.1 < n ∧ x.2.length = 128) → (∀ x ∈ xs, x.1 ≠ i) → sec (layL l xs) i = sec l i
  | [], _, _, _, _ => rfl
  | x :: r, l, h, hx, hne => by
    have h1 := hx x (List.mem_cons_self ..)
    refine (sec_layL_other hi r _ (putS_length h h1.2 h1.1) (fun y hy => hx y (List.mem_cons_of_mem _ hy)) fun y hy => hne y (List.mem_cons_of_mem _ hy)).trans ?_
    exact sec_putS_other h h1.2 h1.1 hi (Ne.symm (hne x (List.mem_cons_self ..)))
/-- a sector behind a row of layings: untouched, or what one of them laid there -/
theorem sec_layL {n i : Nat} (hi : i < n) (xs : List (Nat × List UInt8)) (l : List UInt8) (h : l.length = n * 128) (hx : ∀ x ∈ xs, x.1 < n ∧ x.2.length = 128) : ((∀ x ∈ xs, x.1 ≠ i) ∧ sec (layL l xs) i = sec l i) ∨ ∃ x ∈ xs, x.1 = i ∧ sec (layL l xs) i = x.2 := by
  induction xs generalizing l with
  | nil => exact .inl ⟨fun x hx => (by cases hx), rfl⟩
  | cons x r ih =>
    have h1 := hx x (List.mem_cons_self ..)
    rcases ih _ (putS_length h h1.2 h1.1) (fun y hy => hx y (List.mem_cons_of_mem _ hy)) with ⟨h2, h3⟩ | ⟨y, hy, h2, h3⟩
    · by_cases he : x.1 = i
      · refine .inr ⟨x, List.mem_cons_self .., he, h3.trans ?_⟩
        subst he
        exact sec_putS_same h h1.2 h1.1
      · refine .inl ⟨fun y hy => ?_, h3.trans (sec_putS_other h h1.2 h1.1 hi (Ne.symm he))⟩
        rcases List.mem_cons.1 hy with rfl | hy
        · exact he
        · exact h2 y hy
    · exact .inr ⟨y, List.mem_cons_of_mem _ hy, h2, h3⟩

/-- what is the same behind layings and flushes; and how it went -/
structure Went (P : List UInt8 → Prop) (J J' : Jn) (l : List UInt8) (c : Nat) : Prop where
  isIn : J'.D.In P
  off : J'.off = 0 ∨ J'.off = 43
  n : J'.D.n = J.D.n
  cut : J'.D.cut = J.D.cut
  last : J'.last = J.last
  seq : J'.seq = J.seq
  ops : J'.D.ops ≤ J.D.ops + c
  laid : J'.off = 0 → J.off = 0 ∧ J'.D.now = l
  never : J.off = 0 → J.D.off = false → J.D.cut < 0 → J'.off = 0 ∧ J'.D.off = false
theorem Went.refl {P : List UInt8 → Prop} {J : Jn} (h : J.D.In P) (ho : J.off = 0 ∨ J.off = 43) : Went P J J J.D.now 0 :=
  ⟨h, ho, rfl, rfl, rfl, rfl, Nat.le_refl _, fun h => ⟨h, rfl⟩, fun h h2 _ => ⟨h, h2⟩⟩
theorem Went.lay {P : List UInt8 → Prop} {J J' : Jn} {l : List UInt8} {c : Nat} (h : Went P J J' l c) (k : Nat) (L : List UInt8) (hP : ∀ l, P l → P (putS l k L)) (hk : k < J.D.n) (hl : L.length = 128) (ho : J.D.ops + c < 1048576) :
    Went P J (J'.lay k L) (putS l k L) (c + 1) := by
  have hk' : k < J'.D.n := by rw [h.n]; exact hk
  have hin := h.isIn.write k L hP hk' hl
  have hops := h.ops
  unfold Jn.lay
  by_cases h0 : J'.off = 0
  · rw [if_pos h0]
    by_cases hg : J'.D.gone = true
    · have e : J'.D.write k L = (43, { J'.D with off := true }) := by rw [Dk.write, if_pos hg]
      rw [e] at hin ⊢
      refine ⟨hin, .inr rfl, h.n, h.cut, h.last, h.seq, by show J'.D.ops ≤ _; omega, fun h => absurd (show (43 : Int) = 0 from h) (by decide), fun a b c => ?_⟩
      obtain ⟨h1, h2⟩ := h.never a b c
      have : J'.D.gone = false := by
        simp only [Dk.gone, h2, Bool.false_or, Bool.and_eq_false_iff, decide_eq_false_iff_not]
        left; rw [h.cut]; omega
      rw [this] at hg
      exact absurd hg (by decide)
    · have e : J'.D.write k L = (0, { J'.D with off := false, now := putS J'.D.now k L, hung := J'.D.hung ++ [(k, L)], ops := J'.D.ops + 1 }) := by
        rw [Dk.write, if_neg hg, if_neg (by simp; omega), if_neg (by simp [hl]), if_neg (by omega), Int.toNat_natCast]
      rw [e] at hin ⊢
      refine ⟨hin, .inl rfl, h.n, h.cut, h.last, h.seq, by show J'.D.ops + 1 ≤ _; omega, fun _ => ⟨(h.laid h0).1, ?_⟩, fun _ _ _ => ⟨rfl, rfl⟩⟩
      show putS J'.D.now k L = _
      rw [(h.laid h0).2]
  · rw [if_neg h0]
    exact ⟨h.isIn, h.off, h.n, h.cut, h.last, h.seq, by omega, fun h => absurd h h0, fun a b c => absurd (h.never a b c).1 h0⟩
theorem Went.lays {P : List UInt8 → Prop} {J : Jn} : ∀ (xs : List (Nat × List UInt8)) {J' : Jn} {l : List UInt8} {c : Nat} (h : Went P J J' l c) (hP : ∀ x ∈ xs, x.1 < J.D.n ∧ x.2.length = 128 ∧ ∀ l, P l → P (putS l x.1 x.2)) (ho : J.D.ops + c + xs.length ≤ 1048576),
    Went P J (J'.lays xs) (layL l xs) (c + xs.length)
  | [], _, _, _, h, _, _ => h
  | x :: r, J', l, c, h, hP, ho => by
    obtain ⟨h1, h2, h3⟩ := hP x (List.mem_cons_self ..)
    rw [List.length_cons] at ho ⊢
    have := Went.lays r (h.lay x.1 x.2 h3 h1 h2 (by omega)) (fun y hy => hP y (List.mem_cons_of_mem _ hy)) (by omega)
    rw [show c + 1 + r.length = c + (r.length + 1) by omega] at this
    exact this
/-- behind a flush -/
structure Done (P : List UInt8 → Prop) (J J' : Jn) (l : List UInt8) (c : Nat) : Prop extends Went P J J' l c where
  flat : J'.off = 0 → J'.D.Flat ∧ J'.D.off = false
theorem Went.flush {P : List UInt8 → Prop} {J J' : Jn} {l : List UInt8} {c : Nat} (h : Went P J J' l c) (ho : J.D.ops + c < 1048576) : Done P J J'.flush l (c + 1) := by
  have hin := h.isIn.flush
  have hops := h.ops
  unfold Jn.flush
  by_cases h0 : J'.off = 0
  · rw [if_pos h0]
    by_cases hg : J'.D.gone = true
    · have e : J'.D.flush = (43, { J'.D with off := true }) := by rw [Dk.flush, if_pos hg]
      rw [e] at hin ⊢
      refine ⟨⟨hin, .inr rfl, h.n, h.cut, h.last, h.seq, by show J'.D.ops ≤ _; omega, fun h => absurd (show (43 : Int) = 0 from h) (by decide), fun a b c => ?_⟩, fun h => absurd (show (43 : Int) = 0 from h) (by decide)⟩
      obtain ⟨h1, h2⟩ := h.never a b c
      have : J'.D.gone = false := by
        simp only [Dk.gone, h2, Bool.false_or, Bool.and_eq_false_iff, decide_eq_false_iff_not]
        left; rw [h.cut]; omega
      rw [this] at hg
      exact absurd hg (by decide)
    · have e : J'.D.flush = (0, { J'.D with off := false, safe := J'.D.now, hung := [], ops := J'.D.ops + 1 }) := by
        rw [Dk.flush, if_neg hg, if_neg (by omega)]
      rw [e] at hin ⊢
      exact ⟨⟨hin, .inl rfl, h.n, h.cut, h.last, h.seq, by show J'.D.ops + 1 ≤ _; omega, fun _ => h.laid h0, fun _ _ _ => ⟨rfl, rfl⟩⟩, fun _ => ⟨⟨rfl, rfl⟩, rfl⟩⟩
  · rw [if_neg h0]
    exact ⟨⟨h.isIn, h.off, h.n, h.cut, h.last, h.seq, by omega, fun h => absurd h h0, fun a b c => absurd (h.never a b c).1 h0⟩, fun h => absurd h h0⟩
/-- a phase: sectors laid, and a flush -/
theorem phase {P : List UInt8 → Prop} {J : Jn} (h : J.D.In P) (ho : J.off = 0 ∨ J.off = 43) (xs : List (Nat × List UInt8)) (hP : ∀ x ∈ xs, x.1 < J.D.n ∧ x.2.length = 128 ∧ ∀ l, P l → P (putS l x.1 x.2)) (hb : J.D.ops + xs.length + 1 ≤ 1048576) :
    Done P J (J.lays xs).flush (layL J.D.now xs) (xs.length + 1) := by
  have := ((Went.refl h ho).lays xs hP (by omega)).flush (by omega)
  rwa [Nat.zero_add] at this
/-- a journal that is off stays as it is -/
theorem Jn.lays_off {J : Jn} (h : J.off ≠ 0) : ∀ xs, J.lays xs = J
  | [] => rfl
  | x :: r => by
    show (J.lay x.1 x.2).lays r = J
    rw [Jn.lay, if_neg h]
    exact Jn.lays_off h r
theorem Jn.flush_off {J : Jn} (h : J.off ≠ 0) : J.flush = J := by rw [Jn.flush, if_neg h]
/-- the sectors that spread lays -/
def homes (D : Dk) (Ls : List (List UInt8)) : List (Nat × List UInt8) := Ls.map fun f => (D.home (fplace f), mkF (fwrite f) (3 * 16777216 + fplace f) (fbytes f))
theorem Jn.spreads_lays (J : Jn) (D : Dk) (hn : D.n = J.D.n) (Ls : List (List UInt8)) : J.spreads Ls = J.lays (homes D Ls) := by
  induction Ls generalizing J with
  | nil => rfl
  | cons f r ih =>
    show (J.spStep f).spreads r = (J.lay _ _).lays (homes D r)
    rw [ih _ (by rw [Jn.spStep, Jn.lay_n]; exact hn), Jn.spStep]
    show _ = (J.lay (D.home (fplace f)) _).lays _
    rw [Dk.home_n hn]
theorem Jn.spread_lays (J : Jn) (Ls : List (List UInt8)) : J.spread Ls = (J.lays (homes J.D Ls)).flush := by rw [Jn.spread, Jn.spreads_lays J J.D rfl]
/-- the notes as layTo lays them -/
def notesX (fs : List (List UInt8)) (k : Nat) : List (Nat × List UInt8) := (List.range k).map fun i => (2 + i, fs.getD i [])
theorem notesX_succ (fs : List (List UInt8)) (k : Nat) : notesX fs (k + 1) = notesX fs k ++ [(2 + k, fs.getD k [])] := by simp [notesX, List.range_succ]
theorem Jn.layTo_lays (J : Jn) (fs : List (List UInt8)) (k : Nat) : J.layTo fs k = J.lays (notesX fs k) := by
  induction k with
  | zero => rfl
  | succ k ih => rw [notesX_succ, Jn.lays_snoc, ← ih]; rfl
end Go.Proofs.YtbmmcaoifkboiaaDoor

/- Images of a journal: what its sectors hold. Plain lists. -/
set_option linter.unusedVariables false
set_option linter.unusedSimpArgs false
set_option maxRecDepth 100000
namespace Go.Proofs.YtbmmcaoifkboiaaDoor
open Go.RowKit

/-- block i stands right where it belongs -/
def HomeOk (n : Nat) (l : List UInt8) (B : List (List UInt8)) (i : Nat) : Prop := ∃ v b, v < 18446744073709551616 ∧ B[i]? = some b ∧ sec l (2 + (n - 2) / 2 + i) = mkF v (3 * 16777216 + i) b
/-- all notes of the write are there -/
def Full (l : List UInt8) (w pl : Nat) : Prop := ∀ k, k < pl → fwrite (sec l (2 + k)) = w
/-- an image: the last write's number and its blocks, how many writes, no number above top, what the blocks have; ok: of which blocks this is known -/
structure Im (n : Nat) (l : List UInt8) (w pl : Nat) (seq : Int) (top : Nat) (B : List (List UInt8)) (ok : Nat → Prop) : Prop where
  len : l.length = n * 128
  lo : 32 ≤ n
  hi : n ≤ 16384
  rows : B.length = (n - 2) / 2
  each : ∀ b ∈ B, b.length = 112
  wt : w ≤ top
  tt : top < 4611686018427387904
  s0 : 0 ≤ seq
  s1 : seq ≤ (w : Int)
  few : pl ≤ (n - 2) / 2
  mark : sec l (w % 2) = markF w pl seq
  old : ∃ w' pl' s', sec l ((w + 1) % 2) = markF w' pl' s' ∧ w' < w ∧ w' % 2 = (w + 1) % 2 ∧ pl' ≤ (n - 2) / 2
  notes : ∀ k, k < (n - 2) / 2 → ∃ v q b, sec l (2 + k) = mkF v (2 * 16777216 + q) b ∧ v ≤ top ∧ q < (n - 2) / 2
  full : Full l w pl → ∀ k, k < pl → B[fplace (sec l (2 + k))]? = some (fbytes (sec l (2 + k)))
  stand : ∀ i, i < (n - 2) / 2 → ok i → HomeOk n l B i ∨ (Full l w pl ∧ ∃ k, k < pl ∧ fplace (sec l (2 + k)) = i)
abbrev AllOk : Nat → Prop := fun _ => True

/-- what stands ahead of the blocks is the same -/
theorem Im.move {n : Nat} {l l' : List UInt8} {w pl : Nat} {seq : Int} {top : Nat} {B : List (List UInt8)} {ok ok' : Nat → Prop} (h : Im n l w pl seq top B ok) (hl : l'.length = n * 128) (hs : ∀ k, k < 2 + (n - 2) / 2 → sec l' k = sec l k)
    (hh : ∀ i, i < (n - 2) / 2 → ok' i → HomeOk n l' B i ∨ (Full l w pl ∧ ∃ k, k < pl ∧ fplace (sec l (2 + k)) = i)) : Im n l' w pl seq top B ok' := by
  have hlo := h.lo
  have hfew := h.few
  have hF : Full l' w pl ↔ Full l w pl := forall_congr' fun k => ⟨fun a hk => by rw [← hs (2 + k) (by omega)]; exact a hk, fun a hk => by rw [hs (2 + k) (by omega)]; exact a hk⟩
  refine ⟨hl, h.lo, h.hi, h.rows, h.each, h.wt, h.tt, h.s0, h.s1, h.few, ?_, ?_, fun k hk => ?_, fun hf k hk => ?_, fun i hi hok => ?_⟩
  · rw [hs _ (by omega)]; exact h.mark
  · rw [hs _ (by omega)]; exact h.old
  · rw [hs _ (by omega)]; exact h.notes k hk
  · rw [hs _ (by omega)]; exact h.full (hF.1 hf) k hk
  · rcases hh i hi hok with h1 | ⟨h1, k, h2, h3⟩
    · exact .inl h1
    · exact .inr ⟨hF.2 h1, k, h2, by rw [hs _ (by omega)]; exact h3⟩
theorem Im.home_lay {n : Nat} {l : List UInt8} {w pl : Nat} {seq : Int} {top : Nat} {B : List (List UInt8)} {ok : Nat → Prop} (h : Im n l w pl seq top B ok) {q v : Nat} {b : List UInt8} (hq : q < (n - 2) / 2) (hb : B[q]? = some b) (hv : v < 18446744073709551616) :
    Im n (putS l (2 + (n - 2) / 2 + q) (mkF v (3 * 16777216 + q) b)) w pl seq top B ok := by
  have hlo := h.lo
  have hat : 2 + (n - 2) / 2 + q < n := by omega
  have hm := mkF_length v (3 * 16777216 + q) b
  refine h.move (putS_length h.len hm hat) (fun k hk => sec_putS_other h.len hm hat (by omega) (by omega)) fun i hi hok => ?_
  by_cases he : i = q
  · subst he
    exact .inl ⟨v, b, hv, hb, sec_putS_same h.len hm hat⟩
  · rcases h.stand i hi hok with ⟨v', b', h1, h2, h3⟩ | h1
    · exact .inl ⟨v', b', h1, h2, by rw [sec_putS_other h.len hm hat (by omega) (by omega)]; exact h3⟩
    · exact .inr h1
/-- what the spread lays -/
def noted (l : List UInt8) (pl : Nat) : List (List UInt8) := (List.range pl).map fun k => sec l (2 + k)
theorem Im.note_of {n : Nat} {l : List UInt8} {w pl : Nat} {seq : Int} {top : Nat} {B : List (List UInt8)} {ok : Nat → Prop} (h : Im n l w pl seq top B ok) {k : Nat} (hk : k < (n - 2) / 2) :
    fright (sec l (2 + k)) = true ∧ fkind (sec l (2 + k)) = 2 ∧ fwrite (sec l (2 + k)) ≤ top ∧ fplace (sec l (2 + k)) < (n - 2) / 2 := by
  obtain ⟨v, q, b, e, hv, hq⟩ := h.notes k hk
  have := h.tt
  have := h.hi
  rw [e]
  refine ⟨fright_mkF _ _ _, fkind_mkF _ (by omega) (by omega), ?_, ?_⟩
  · rw [fwrite_mkF _ _ (by omega)]; exact hv
  · rw [fplace_mkF _ (by omega) (by omega)]; exact hq
theorem Im.spread {n : Nat} {l : List UInt8} {w pl : Nat} {seq : Int} {top : Nat} {B : List (List UInt8)} {ok : Nat → Prop} (h : Im n l w pl seq top B ok) (hf : Full l w pl) {D : Dk} (hD : D.n = n) :
    (∀ x ∈ homes D (noted l pl), x.1 < n ∧ x.2.length = 128 ∧ ∀ l', Im n l' w pl seq top B ok → Im n (putS l' x.1 x.2) w pl seq top B ok) ∧
    (∀ i, i < (n - 2) / 2 → (HomeOk n (layL l (homes D (noted l pl))) B i) ∨ (¬ ok i ∧ sec (layL l (homes D (noted l pl))) (2 + (n - 2) / 2 + i) = sec l (2 + (n - 2) / 2 + i))) := by
  have hlo := h.lo
  have hfew := h.few
  have htt := h.tt
  have hx : ∀ x ∈ homes D (noted l pl), ∃ k, k < pl ∧ x = (2 + (n - 2) / 2 + fplace (sec l (2 + k)), mkF (fwrite (sec l (2 + k))) (3 * 16777216 + fplace (sec l (2 + k))) (fbytes (sec l (2 + k)))) := by
    intro x hx
    obtain ⟨f, hf1, rfl⟩ := List.mem_map.1 hx
    obtain ⟨k, hk, rfl⟩ := List.mem_map.1 hf1
    exact ⟨k, List.mem_range.1 hk, by rw [Dk.home, Dk.blocks, hD]⟩
  have hx2 : ∀ x ∈ homes D (noted l pl), x.1 < n ∧ x.2.length = 128 := by
    intro x h1
    obtain ⟨k, hk, rfl⟩ := hx x h1
    obtain ⟨_, _, _, h4⟩ := h.note_of (k := k) (by omega)
    exact ⟨by show _ + _ < n; omega, mkF_length _ _ _⟩
  refine ⟨fun x h1 => ⟨(hx2 x h1).1, (hx2 x h1).2, fun l' h' => ?_⟩, fun i hi => ?_⟩
  · obtain ⟨k, hk, rfl⟩ := hx x h1
    obtain ⟨_, _, h3, h4⟩ := h.note_of (k := k) (by omega)
    exact h'.home_lay h4 (h.full hf k hk) (by omega)
  · rcases sec_layL (i := 2 + (n - 2) / 2 + i) (by omega) (homes D (noted l pl)) l h.len hx2 with ⟨h1, h2⟩ | ⟨x, h1, h2, h3⟩
    · by_cases hok : ok i
      · rcases h.stand i hi hok with ⟨v, b, a1, a2, a3⟩ | ⟨_, k, hk, hp⟩
        · exact .inl ⟨v, b, a1, a2, by rw [h2]; exact a3⟩
        · exfalso
          refine h1 (2 + (n - 2) / 2 + i, mkF (fwrite (sec l (2 + k))) (3 * 16777216 + fplace (sec l (2 + k))) (fbytes (sec l (2 + k)))) (List.mem_map.2 ⟨sec l (2 + k), List.mem_map.2 ⟨k, List.mem_range.2 hk, rfl⟩, ?_⟩) rfl
          rw [hp, Dk.home, Dk.blocks, hD]
      · exact .inr ⟨hok, h2⟩
    · obtain ⟨k, hk, rfl⟩ := hx x h1
      obtain ⟨_, _, a3, a4⟩ := h.note_of (k := k) (by omega)
      have e : fplace (sec l (2 + k)) = i := by
        have : 2 + (n - 2) / 2 + fplace (sec l (2 + k)) = 2 + (n - 2) / 2 + i := h2
        omega
      exact .inl ⟨fwrite (sec l (2 + k)), fbytes (sec l (2 + k)), by omega, by rw [← e]; exact h.full hf k hk, h3.trans (by show mkF _ _ _ = _; rw [e])⟩

/-- the blocks behind a write -/
def updB : List (List UInt8) → List Int → List (List UInt8) → List (List UInt8)
  | B, [], _ => B
  | B, _ :: _, [] => B
  | B, z :: zs, b :: ls => updB (B.set z.toNat b) zs ls
theorem updB_length : ∀ (zs : List Int) (ls B : List (List UInt8)), (updB B zs ls).length = B.length
  | [], _, _ => by rw [updB]
  | _ :: _, [], _ => by rw [updB]
  | z :: zs, b :: ls, B => by rw [updB, updB_length zs ls]; simp
theorem updB_other {i : Nat} : ∀ (zs : List Int) (ls B : List (List UInt8)), (∀ z ∈ zs, z.toNat ≠ i) → (updB B zs ls)[i]? = B[i]?
  | [], _, _, _ => by rw [updB]
  | _ :: _, [], _, _ => by rw [updB]
  | z :: zs, b :: ls, B, h => by
    rw [updB, updB_other zs ls _ fun y hy => h y (List.mem_cons_of_mem _ hy), List.getElem?_set_ne (h z (List.mem_cons_self ..))]
theorem updB_at : ∀ (zs : List Int) (ls B : List (List UInt8)), (zs.map Int.toNat).Nodup → (∀ z ∈ zs, z.toNat < B.length) → ∀ k (h : k < zs.length) (h2 : k < ls.length), (updB B zs ls)[zs[k].toNat]? = some ls[k]
  | [], _, _, _, _, k, h, _ => by simp at h
  | _ :: _, [], _, _, _, k, _, h => by simp at h
  | z :: zs, b :: ls, B, hn, hb, k, h, h2 => by
    rw [List.map_cons, List.nodup_cons] at hn
    cases k with
    | zero =>
      rw [updB]
      show (updB (B.set z.toNat b) zs ls)[z.toNat]? = some b
      rw [updB_other zs ls _ fun y hy e => hn.1 (List.mem_map.2 ⟨y, hy, e⟩), List.getElem?_set_self (hb z (List.mem_cons_self ..))]
    | succ k =>
      have hk1 : k < zs.length := by simpa using h
      have hk2 : k < ls.length := by simpa using h2
      rw [updB]
      show (updB (B.set z.toNat b) zs ls)[zs[k].toNat]? = some ls[k]
      exact updB_at zs ls _ hn.2 (fun y hy => by rw [List.length_set]; exact hb y (List.mem_cons_of_mem _ hy)) k _ _
theorem updB_each : ∀ (zs : List Int) (ls B : List (List UInt8)), (∀ b ∈ ls, b.length = 112) → (∀ b ∈ B, b.length = 112) → ∀ b ∈ updB B zs ls, b.length = 112
  | [], ls, B, _, h, b, hb => h b (by rw [updB] at hb; exact hb)
  | _ :: _, [], B, _, h, b, hb => h b (by rw [updB] at hb; exact hb)
  | z :: zs, b :: ls, B, hl, h, x, hx => by
    refine updB_each zs ls _ (fun y hy => hl y (List.mem_cons_of_mem _ hy)) (fun y hy => ?_) x hx
    rcases List.mem_or_eq_of_mem_set hy with hy | rfl
    · exact h y hy
    · exact hl _ (List.mem_cons_self ..)
theorem rightW_nodup {nb : Nat} {zs : List Int} {ls : List (List UInt8)} (h : rightW nb zs ls = true) : (zs.map Int.toNat).Nodup := by
  obtain ⟨hl, hs⟩ := rightW_spec h
  rw [List.Nodup, List.pairwise_iff_getElem]
  intro i j hi hj hij
  simp only [List.length_map] at hi hj
  simp only [List.getElem_map]
  intro e
  obtain ⟨a1, _, _, _⟩ := hs i hi (by omega)
  obtain ⟨b1, _, _, b4⟩ := hs j hj (by omega)
  apply b4
  have e2 : zs[i] = zs[j] := by omega
  rw [← e2, List.mem_take_iff_getElem]
  exact ⟨i, by omega, rfl⟩
theorem rightW_place {nb : Nat} {zs : List Int} {ls : List (List UInt8)} (h : rightW nb zs ls = true) {z : Int} (hz : z ∈ zs) : 0 ≤ z ∧ z < (nb : Int) := by
  obtain ⟨hl, hs⟩ := rightW_spec h
  obtain ⟨i, hi, rfl⟩ := List.getElem_of_mem hz
  obtain ⟨a1, a2, _, _⟩ := hs i hi (by omega)
  exact ⟨a1, a2⟩
theorem rightW_bytes {nb : Nat} {zs : List Int} {ls : List (List UInt8)} (h : rightW nb zs ls = true) {b : List UInt8} (hb : b ∈ ls) : b.length = 112 := by
  obtain ⟨hl, hs⟩ := rightW_spec h
  obtain ⟨i, hi, rfl⟩ := List.getElem_of_mem hb
  exact (hs i (by omega) hi).2.2.1
end Go.Proofs.YtbmmcaoifkboiaaDoor
