/- The card CardJournalLasts: for every input the law answers true, and what came in reads as it did; with what it needs ahead. -/
import Derived.Test.YtoonlihacbbfdaaDoorBase3
import Derived.StillTailTactics
import Derived.Deep.RegionLaw
import Derived.IntWalk
import Derived.Test.YtoonlihacbbfdaaDoorCards
import Derived.Test.YtoonlihacbbfdaaDoorTie
/- The document's journal: Refused, Write. -/
set_option linter.unusedVariables false
set_option linter.unusedSimpArgs false
set_option maxRecDepth 100000
namespace Go.Proofs.YtoonlihacbbfdaaDoor
open Go.RowKit

/-- why a write is refused: 0, 2 -/
def refE (nb : Nat) (zs : List Int) (ls : List (List UInt8)) : Int := if rightW nb zs ls = true then 0 else 2
theorem rightW_of {nb : Nat} {zs : List Int} {ls : List (List UInt8)} (hl : zs.length = ls.length) (h : ∀ k (h : k < zs.length) (h2 : k < ls.length), 0 ≤ zs[k] ∧ zs[k] < (nb : Int) ∧ ls[k].length = 112 ∧ ∀ m (hm : m < k), zs[m]'(by omega) ≠ zs[k]) : rightW nb zs ls = true := by
  refine Fit.right ⟨hl, fun z hz => ?_, ?_, fun l hl2 => ?_⟩
  · obtain ⟨k, hk, rfl⟩ := List.getElem_of_mem hz
    obtain ⟨a, b, _⟩ := h k hk (by omega)
    exact ⟨a, b⟩
  · rw [List.Nodup, List.pairwise_iff_getElem]
    intro i j hi hj hij
    exact (h j hj (by omega)).2.2.2 i hij
  · obtain ⟨k, hk, rfl⟩ := List.getElem_of_mem hl2
    exact (h k (by omega) hk).2.2.1
theorem refE_yes {nb : Nat} {zs : List Int} {ls : List (List UInt8)} (hl : zs.length = ls.length) (h : ∀ k (h : k < zs.length) (h2 : k < ls.length), 0 ≤ zs[k] ∧ zs[k] < (nb : Int) ∧ ls[k].length = 112 ∧ ∀ m (hm : m < k), zs[m]'(by omega) ≠ zs[k]) : refE nb zs ls = 0 := by
  rw [refE, if_pos (rightW_of hl h)]
theorem refE_no {nb : Nat} {zs : List Int} {ls : List (List UInt8)} (k : Nat) (hk : k < zs.length) (hk2 : k < ls.length) (h : ¬ (0 ≤ zs[k] ∧ zs[k] < (nb : Int) ∧ ls[k].length = 112 ∧ ∀ m (hm : m < k), zs[m]'(by omega) ≠ zs[k])) : refE nb zs ls = 2 := by
  rw [refE, if_neg]
  intro hr
  obtain ⟨_, hs⟩ := rightW_spec hr
  obtain ⟨a, b, c, d⟩ := hs k hk hk2
  refine h ⟨a, b, c, fun m hm e => d ?_⟩
  rw [← e, List.mem_take_iff_getElem]
  exact ⟨m, by omega, rfl⟩
theorem refE_len {nb : Nat} {zs : List Int} {ls : List (List UInt8)} (h : zs.length ≠ ls.length) : refE nb zs ls = 2 := by
  rw [refE, if_neg]
  intro hr
  exact h (rightW_spec hr).1
theorem rj_cells {B : Nat} {w : World} {q : Nat} {v : Value} {ls : List (List UInt8)} {seq : Int} (h : RJ B w q v ls seq) : w.cell? ⟨q, 0, none⟩ = some v ∧ w.cell? ⟨q, 1, none⟩ = some (.int .i64 seq) := by
  refine ⟨?_, ?_⟩ <;> · rw [cell_of_row _ _ _ _ _ _ h.head]; rfl

section
attribute [local irreducible] wpStill
set_option maxHeartbeats 16000000 in
theorem refused_any (w : World) {B q : Nat} {vq : Value} {ls : List (List UInt8)} {seq : Int} (h : RJ B w q vq ls seq) (u : Value) (az : List Int) (hu : IsI w u az) (v : Value) (bs : List (List UInt8)) (hv : IsBs w v bs) (hls : ls.length ≤ 8191)
    (haz : ∀ n ∈ az, -9223372036854775808 ≤ n ∧ n ≤ 9223372036854775807) :
    Calls Tryd.prog 24 #[rjp q, u, v] w fun e w' => e = .returned (.int .i64 (refE ls.length az bs)) ∧ Below w.heap.size w w' := by
  obtain ⟨au, cu, rfl, hcu, hmu⟩ := hu.form
  obtain ⟨av, cv, rfl, hcv, hmv⟩ := hv.form
  obtain ⟨aq, cq, rfl, hcq, hmq⟩ := h.form
  unfold maxLen at hmu hmv hmq
  by_cases hl : az.length = bs.length
  case neg =>
    have HE := Lib.hid (refE_len (nb := ls.length) hl)
    have hd : (((az.length : Nat) : Int) != ((bs.length : Nat) : Int)) = true := by rw [bne_iff_ne]; omega
    clear hl haz h hu hv
    go_enter Tryd.func24, Tryd.ntmps24
    go_wp2_with fail
    go_ret
    rw [HE.out]
    exact ⟨rfl, Below.refl _ _⟩
  have Hl := Lib.hid hl
  rw [← hl] at hcv ⊢
  have hd : (((az.length : Nat) : Int) != ((az.length : Nat) : Int)) = false := by simp
  have HA := Lib.hid haz
  have HU := Lib.hid hu
  have HV := Lib.hid hv
  have HJ := Lib.hid h
  rw [← hl] at HV
  obtain ⟨nb, hnb⟩ : ∃ nb, nb = ls.length := ⟨_, rfl⟩
  rw [← hnb] at HJ hls hcq ⊢
  obtain ⟨m, hm⟩ : ∃ m, m = az.length := ⟨_, rfl⟩
  rw [← hm] at HU HV hd hcu hcv ⊢
  have Hm := Lib.hid hm
  have Hb : Hid (m = bs.length) := Lib.hid (hm.trans hl)
  clear hm hl h hu hv haz hnb
  go_enter Tryd.func24, Tryd.ntmps24
  go_wp2_with fail
  go_loopw [7] (fun x wr => ∃ i : Nat, i ≤ m ∧ x = .int .i64 (i : Int) ∧ Below w.heap.size w wr ∧ (∀ k (h : k < az.length) (h2 : k < bs.length), k < i → 0 ≤ az[k] ∧ az[k] < (nb : Int) ∧ bs[k].length = 112 ∧ ∀ m (hm : m < k), az[m]'(by omega) ≠ az[k])) (fun x _ => m - (intOf x).toNat)
  case atStart => exact ⟨0, Nat.zero_le _, rfl, Below.refl _ _, fun k _ _ h => by omega⟩
  case round =>
    obtain ⟨i, hi, rfl, hb, hall⟩ := hrel
    by_cases hlt : i < m
    case neg =>
      obtain rfl : i = m := by omega
      have HE := Lib.hid (refE_yes (nb := nb) (Hm.out.symm.trans Hb.out) fun k h1 h2 => hall k h1 h2 (by have := Hm.out; omega))
      have hdz : decide ((i : Int) < (i : Int)) = false := by simp
      clear hall
      go_wp2_with fail
      go_ret
      rw [HE.out]
      exact ⟨rfl, hb⟩
    have hlt1 : i < az.length := by have := Hm.out; omega
    have hlt2 : i < bs.length := by have := Hb.out; omega
    have hdl : decide ((i : Int) < (m : Int)) = true := decide_eq_true (by omega)
    obtain ⟨bu, ou, rfl, cu1⟩ := isI_at HU.out i hlt1
    obtain ⟨bv_, ov, ux, rfl, cv1, hux⟩ := isBs_at HV.out i hlt2
    obtain ⟨ax, cx, rfl, hcx, hmx⟩ := hux.form
    obtain ⟨q0, q1⟩ := rj_cells HJ.out
    have c1 := cells_below hb _ _ cu1
    have c2 := cells_below hb _ _ cv1
    have c3 := cells_below hb _ _ q0
    have HALL := Lib.hid hall
    have HNO := Lib.hid (fun hh => refE_no (nb := nb) (zs := az) (ls := bs) i hlt1 hlt2 hh)
    have HOK : Hid ((0 ≤ az[i] ∧ az[i] < (nb : Int) ∧ bs[i].length = 112) → (∀ m (hm : m < i), az[m]'(by omega) ≠ az[i]) → ∀ k (h : k < az.length) (h2 : k < bs.length), k < i + 1 → 0 ≤ az[k] ∧ az[k] < (nb : Int) ∧ bs[k].length = 112 ∧ ∀ m (hm : m < k), az[m]'(by omega) ≠ az[k]) := Lib.hid (fun h1 h2 k h3 h4 h5 => by
      by_cases he : k = i
      · subst he
        exact ⟨h1.1, h1.2.1, h1.2.2, h2⟩
      · exact HALL.out k h3 h4 (by omega))
    have hza := HA.out az[i] (List.getElem_mem hlt1)
    obtain ⟨hz1, hz2⟩ := hza
    have HZI : Hid (az[i] = az[i]) := Lib.hid rfl
    obtain ⟨z, hz⟩ : ∃ z, z = az[i] := ⟨_, rfl⟩
    have HZ := Lib.hid hz
    rw [← hz] at c1 hz1 hz2 cu1
    have hbl : bs[i].length ≤ 9223372036854775807 := by unfold maxLen at hmx; omega
    obtain ⟨y, hy⟩ : ∃ y, y = bs[i].length := ⟨_, rfl⟩
    have HY := Lib.hid hy
    rw [← hy] at c2 hbl
    clear hall hz hy cu1 cv1 q0 q1 hux hcx hmx
    by_cases hz0 : z < 0
    · have hd1 : decide (z < 0) = true := decide_eq_true hz0
      have HE := Lib.hid (HNO.out (fun hh => by have := HZ.out; omega))
      go_upto_region 6 with fail
      refine wp_region_still_tail 24 (by kernel_rfl) (by kernel_rfl) ?_
      simp only [List.take_succ_cons, List.take_zero, List.drop_succ_cons, List.drop_zero]
      change wpStill _ _ wr.drew (fun a' => wpList _ _ _ _ a' wr.drew) _ _
      have hbd : Below w.heap.size w wr.drew := hb.drew
      clear hb
      replace c1 : wr.drew.cell? _ = _ := c1
      replace c2 : wr.drew.cell? _ = _ := c2
      replace c3 : wr.drew.cell? _ = _ := c3
      generalize wr.drew = W1 at *
      iterate 24 still_step
      refine wpStill_nil ?_
      go_wp2_with fail
      go_ret
      rw [HE.out]
      exact ⟨rfl, hbd⟩
    have hd1 : decide (z < 0) = false := decide_eq_false hz0
    by_cases hzn : (nb : Int) ≤ z
    · have hd2 : decide ((nb : Int) ≤ z) = true := decide_eq_true hzn
      have HE := Lib.hid (HNO.out (fun hh => by have := HZ.out; omega))
      go_upto_region 6 with fail
      refine wp_region_still_tail 24 (by kernel_rfl) (by kernel_rfl) ?_
      simp only [List.take_succ_cons, List.take_zero, List.drop_succ_cons, List.drop_zero]
      change wpStill _ _ wr.drew (fun a' => wpList _ _ _ _ a' wr.drew) _ _
      have hbd : Below w.heap.size w wr.drew := hb.drew
      clear hb
      replace c1 : wr.drew.cell? _ = _ := c1
      replace c2 : wr.drew.cell? _ = _ := c2
      replace c3 : wr.drew.cell? _ = _ := c3
      generalize wr.drew = W1 at *
      iterate 24 still_step
      refine wpStill_nil ?_
      go_wp2_with fail
      go_ret
      rw [HE.out]
      exact ⟨rfl, hbd⟩
    have hd2 : decide ((nb : Int) ≤ z) = false := decide_eq_false hzn
    by_cases hyn : y = 112
    case neg =>
      have hd3 : ((y : Int) != 112) = true := by rw [bne_iff_ne]; omega
      have HE := Lib.hid (HNO.out (fun hh => by have := HY.out; omega))
      go_upto_region 6 with fail
      refine wp_region_still_tail 24 (by kernel_rfl) (by kernel_rfl) ?_
      simp only [List.take_succ_cons, List.take_zero, List.drop_succ_cons, List.drop_zero]
      change wpStill _ _ wr.drew (fun a' => wpList _ _ _ _ a' wr.drew) _ _
      have hbd : Below w.heap.size w wr.drew := hb.drew
      clear hb
      replace c1 : wr.drew.cell? _ = _ := c1
      replace c2 : wr.drew.cell? _ = _ := c2
      replace c3 : wr.drew.cell? _ = _ := c3
      generalize wr.drew = W1 at *
      iterate 24 still_step
      refine wpStill_nil ?_
      go_wp2_with fail
      go_ret
      rw [HE.out]
      exact ⟨rfl, hbd⟩
    have hd3 : ((y : Int) != 112) = false := by rw [bne_eq_false_iff_eq]; omega
    have HOK2 := Lib.hid (HOK.out (by have := HZ.out; have := HY.out; omega))
    clear HOK HY
    go_upto_region 6 with fail
    refine wp_region_still_tail 24 (by kernel_rfl) (by kernel_rfl) ?_
    simp only [List.take_succ_cons, List.take_zero, List.drop_succ_cons, List.drop_zero]
    change wpStill _ _ wr.drew (fun a' => wpList _ _ _ _ a' wr.drew) _ _
    have hbd : Below w.heap.size w wr.drew := hb.drew
    clear hb
    replace c1 : wr.drew.cell? _ = _ := c1
    replace c2 : wr.drew.cell? _ = _ := c2
    replace c3 : wr.drew.cell? _ = _ := c3
    generalize wr.drew = W1 at *
    iterate 24 still_step
    refine wpStill_nil ?_
    go_wp2_with fail
    go_loopw [8] (fun x wr => ∃ k : Nat, k ≤ i ∧ x = .int .i64 (k : Int) ∧ Below w.heap.size w wr ∧ ∀ j (hj : j < k) (h : j < az.length), az[j] ≠ z) (fun x _ => i - (intOf x).toNat)
    case atStart => exact ⟨0, Nat.zero_le _, rfl, hbd, fun j hj => by omega⟩
    case round =>
      obtain ⟨k, hk, rfl, hb, hne⟩ := hrel
      clear hbd c1 c2 c3
      by_cases hki : k < i
      case neg =>
        obtain rfl : k = i := by omega
        have hdz : decide ((k : Int) < (k : Int)) = false := by simp
        have HF := Lib.hid (HOK2.out (fun j hj => by rw [← HZ.out]; exact hne j hj (by omega)))
        clear hne HOK2
        go_wp2_with fail
        go_roundw
        case rel => exact ⟨k + 1, by omega, by go_num, hb, HF.out⟩
        case measure => simp [intOf]; omega
      have hkl : k < az.length := by omega
      have hkm : k < m := by omega
      have hdk : decide ((k : Int) < (i : Int)) = true := decide_eq_true (by omega)
      obtain ⟨b1, o1, he1, ck⟩ := isI_at HU.out k hkl
      obtain ⟨b2, o2, he2, ci⟩ := isI_at HU.out i hlt1
      simp only [Option.some.injEq, Addr.mk.injEq, and_true] at he1 he2
      obtain ⟨rfl, rfl⟩ := he1
      obtain ⟨rfl, rfl⟩ := he2
      rw [← HZ.out] at ci
      obtain ⟨x, hx⟩ : ∃ x, x = az[k] := ⟨_, rfl⟩
      rw [← hx] at ck
      have HX := Lib.hid hx
      clear hx
      have c1 : wr.drew.cell? _ = _ := cells_below hb _ _ ck
      have c2 : wr.drew.cell? _ = _ := cells_below hb _ _ ci
      have hbd : Below w.heap.size w wr.drew := hb.drew
      have HNE := Lib.hid hne
      clear ck ci hb hne
      by_cases hxz : x = z
      · have HE := Lib.hid (HNO.out (fun hh => hh.2.2.2 k hki (HX.out.symm.trans (hxz.trans HZ.out))))
        have hde : (x == z) = true := by simpa using hxz
        clear hxz
        go_upto_region 11 with fail
        refine wp_region_still_tail 8 (by kernel_rfl) (by kernel_rfl) ?_
        simp only [List.take_succ_cons, List.take_zero, List.drop_succ_cons, List.drop_zero]
        change wpStill _ _ wr.drew (fun a' => wpList _ _ _ _ a' wr.drew) _ _
        generalize wr.drew = W1 at *
        iterate 8 still_step
        refine wpStill_nil ?_
        go_wp2_with fail
        go_ret
        rw [HE.out]
        exact ⟨rfl, hbd⟩
      · have hde : (x == z) = false := by simpa using hxz
        have HN2 : Hid (∀ j (hj : j < k + 1) (h : j < az.length), az[j] ≠ z) := Lib.hid (fun j hj h => by
          by_cases he : j = k
          · subst he
            rw [← HX.out]
            exact hxz
          · exact HNE.out j (by omega) h)
        clear hxz HX
        go_upto_region 11 with fail
        refine wp_region_still_tail 8 (by kernel_rfl) (by kernel_rfl) ?_
        simp only [List.take_succ_cons, List.take_zero, List.drop_succ_cons, List.drop_zero]
        change wpStill _ _ wr.drew (fun a' => wpList _ _ _ _ a' wr.drew) _ _
        generalize wr.drew = W1 at *
        iterate 8 still_step
        refine wpStill_nil ?_
        go_wp2_with fail
        go_roundw
        case rel => exact ⟨k + 1, by omega, by go_num, hbd, HN2.out⟩
        case measure => simp [intOf]; omega
end
end Go.Proofs.YtoonlihacbbfdaaDoor

/- The document's journal: Write. -/
set_option linter.unusedVariables false
set_option linter.unusedSimpArgs false
set_option maxRecDepth 100000
namespace Go.Proofs.YtoonlihacbbfdaaDoor
open Go.RowKit

def refB (ls : List (List UInt8)) (az : List Int) (bs : List (List UInt8)) : List (List UInt8) := if rightW ls.length az bs = true then updB ls az bs else ls
def refS (nb : Nat) (seq : Int) (az : List Int) (bs : List (List UInt8)) : Int := if rightW nb az bs = true ∧ az.length ≠ 0 then seq + 1 else seq
theorem updB_step (ls : List (List UInt8)) {az : List Int} {bs : List (List UInt8)} {i : Nat} (h1 : i < az.length) (h2 : i < bs.length) : updB ls (az.take (i + 1)) (bs.take (i + 1)) = (updB ls (az.take i) (bs.take i)).set az[i].toNat bs[i] := by
  rw [List.take_succ_eq_append_getElem h1, List.take_succ_eq_append_getElem h2, updB_append _ _ _ _ _ (by simp; omega)]
  simp [updB]
theorem sv_get (ls : List (List UInt8)) (i : Nat) (h : i < ls.length) : (sv ls)[i]? = some (.string ⟨ls[i].toArray⟩) := by simp [sv, h]
theorem RJ.store {B : Nat} {w : World} {q g cap : Nat} {ls : List (List UInt8)} {seq : Int} {n : Nat} (h : RJ B w q (.slice (some ⟨g, 0, none⟩) n cap) ls seq) (k : Nat) (hk : k < ls.length) (b : List UInt8) :
    (∃ c, w.cell? ⟨g, k, none⟩ = some c) ∧ w.frozen? ⟨g, k, none⟩ = false ∧ RJ B (w.setCell ⟨g, k, none⟩ (.string ⟨b.toArray⟩)) q (.slice (some ⟨g, 0, none⟩) n cap) (ls.set k b) seq ∧ Turned (RT q (.slice (some ⟨g, 0, none⟩) n cap)) w (w.setCell ⟨g, k, none⟩ (.string ⟨b.toArray⟩)) := by
  obtain ⟨hlow, hhead, hrow⟩ := h
  rcases hrow.2 with ⟨h1, _⟩ | ⟨g', cap', cur, hv, hB, hg, hn, hc, hs, htake⟩
  · cases h1
  · simp only [Value.slice.injEq, Option.some.injEq, Addr.mk.injEq] at hv
    obtain ⟨⟨rfl, _⟩, hnl, rfl⟩ := hv
    have hne : q ≠ g := fun e => by
      rw [e, hg] at hhead
      injection hhead with hhead
      injection hhead with _ hhead
      revert hhead
      decide
    have hkc : k < cur.size := by omega
    refine ⟨⟨cur[k], by rw [cell_of_row _ _ _ _ _ _ hg]; exact Array.getElem?_eq_getElem hkc⟩, frozen_p hg k, ⟨hlow, ?_, ?_⟩, ?_⟩
    · rw [Below.heap_setCell _ _ _ _ hne]
      exact hhead
    · refine ⟨by simp [sv], .inr ⟨g, cap, _, by rw [List.length_set, hnl], hB, head_setCell hg _, by rw [List.length_set]; exact hn, hc, by simpa using hs, ?_⟩⟩
      rw [Array.toList_setIfInBounds, List.length_set, List.take_set, htake]
      simp [sv, List.map_set]
    · exact ⟨rfl, rfl, rfl, by simp [World.setCell], fun j hj hn => Below.heap_setCell _ _ _ _ (fun e => hn (.inr (by rw [e]; rfl)))⟩
section
attribute [local irreducible] wpStill
set_option maxHeartbeats 16000000 in
theorem rwrite_any (w : World) {B q : Nat} {vq : Value} {ls : List (List UInt8)} {seq : Int} (h : RJ B w q vq ls seq) (u : Value) (az : List Int) (hku : ∀ w', Turned (RT q vq) w w' → IsI w' u az) (v : Value) (bs : List (List UInt8)) (hkv : ∀ w', Turned (RT q vq) w w' → IsBs w' v bs) (hls : ls.length ≤ 8191)
    (haz : ∀ n ∈ az, -9223372036854775808 ≤ n ∧ n ≤ 9223372036854775807) (hs1 : -9223372036854775808 ≤ seq) (hs2 : seq < 9223372036854775807) :
    Calls Tryd.prog 18 #[rjp q, u, v] w fun e w' => e = .returned (.int .i64 (refE ls.length az bs)) ∧ RJ B w' q vq (refB ls az bs) (refS ls.length seq az bs) ∧ Turned (RT q vq) w w' := by
  have hu := hku w (Turned.refl _ _)
  have hv := hkv w (Turned.refl _ _)
  obtain ⟨au, cu, rfl, hcu, hmu⟩ := hu.form
  obtain ⟨av, cv, rfl, hcv, hmv⟩ := hv.form
  obtain ⟨aq, cq, rfl, hcq, hmq⟩ := h.form
  unfold maxLen at hmu hmv hmq
  have HR := Lib.hid (refused_any w h _ az hu _ bs hv hls haz)
  have HKU := Lib.hid hku
  have HKV := Lib.hid hkv
  have HA := Lib.hid haz
  by_cases hr : rightW ls.length az bs = true
  case neg =>
    have e0 : refE ls.length az bs = 2 := by rw [refE, if_neg hr]
    have e1 : refB ls az bs = ls := by rw [refB, if_neg hr]
    have e2 : refS ls.length seq az bs = seq := by rw [refS, if_neg (fun h => hr h.1)]
    rw [e0, e1, e2]
    rw [e0] at HR
    have HJ := Lib.hid h
    clear e0 e1 e2 hr h hu hv hku hkv haz
    go_enter Tryd.func18, Tryd.ntmps18
    go_wp2_with fail
    refine HR.out.mono ?_
    rintro e w1 ⟨rfl, hb⟩
    go_wp2_with fail
    go_ret
    exact ⟨rfl, HJ.out.below hb, Turned.of_below hb⟩
  have e0 : refE ls.length az bs = 0 := by rw [refE, if_pos hr]
  have e1 : refB ls az bs = updB ls az bs := by rw [refB, if_pos hr]
  rw [e0, e1]
  rw [e0] at HR
  by_cases h0 : az.length = 0
  · have e2 : refS ls.length seq az bs = seq := by rw [refS, if_neg (fun h => h.2 h0)]
    obtain rfl : az = [] := List.eq_nil_of_length_eq_zero h0
    rw [e2, updB_nil]
    have HJ := Lib.hid h
    clear e0 e1 e2 hr h hu hv hku hkv haz h0
    go_enter Tryd.func18, Tryd.ntmps18
    go_wp2_with fail
    refine HR.out.mono ?_
    rintro e w1 ⟨rfl, hb⟩
    go_wp2_with fail
    go_ret
    exact ⟨rfl, HJ.out.below hb, Turned.of_below hb⟩
  have e2 : refS ls.length seq az bs = seq + 1 := by rw [refS, if_pos ⟨hr, h0⟩]
  rw [e2]
  have HSP := Lib.hid (rightW_spec hr)
  have hlen := HSP.out.1
  obtain ⟨gq, rfl⟩ : ∃ g, aq = some ⟨g, 0, none⟩ := by
    rcases h.rows.2 with ⟨h1, h2⟩ | ⟨g, cap, cur, h1, _⟩
    · exfalso
      have h3 := (HSP.out.2 0 (by omega) (by omega)).2.1
      have h4 := (HSP.out.2 0 (by omega) (by omega)).1
      omega
    · simp only [Value.slice.injEq] at h1
      exact ⟨g, h1.1⟩
  rw [← hlen] at hcv HR HKV ⊢
  have HJ := Lib.hid h
  obtain ⟨nb, hnb⟩ : ∃ nb, nb = ls.length := ⟨_, rfl⟩
  have Hnb := Lib.hid hnb
  rw [← hnb] at HKU HKV HSP HJ hls hcq ⊢
  obtain ⟨m, hm⟩ : ∃ m, m = az.length := ⟨_, rfl⟩
  have Hm := Lib.hid hm
  rw [← hm] at HR HKU HKV hcu hcv h0 ⊢
  have Hb : Hid (m = bs.length) := Lib.hid (hm.trans hlen)
  have hq0 : ((m : Nat) == 0) = false := by simpa using h0
  have hq1 : ((m : Int) == 0) = false := by rw [beq_eq_false_iff_ne]; omega
  clear e0 e1 e2 hr h hu hv hku hkv haz hlen hm hnb
  go_enter Tryd.func18, Tryd.ntmps18
  go_wp2_with fail
  refine HR.out.mono ?_
  rintro e w1 ⟨rfl, hb⟩
  have hj1 := HJ.out.below hb
  have ht1 := Turned.of_below (T := RT q (.slice (some ⟨gq, 0, none⟩) nb cq)) hb
  clear hb
  have hj0 : RJ B w1 q (.slice (some ⟨gq, 0, none⟩) nb cq) (updB ls (az.take 0) (bs.take 0)) seq := by rw [List.take_zero, updB_nil]; exact hj1
  clear hj1
  go_wp2_with fail
  go_loopw [8] (fun x wr => ∃ i : Nat, i ≤ m ∧ x = .int .i64 (i : Int) ∧ RJ B wr q (.slice (some ⟨gq, 0, none⟩) nb cq) (updB ls (az.take i) (bs.take i)) seq ∧ Turned (RT q (.slice (some ⟨gq, 0, none⟩) nb cq)) w wr) (fun x _ => m - (intOf x).toNat)
  case atStart => exact ⟨0, Nat.zero_le _, rfl, hj0, ht1⟩
  case round =>
    obtain ⟨i, hi, rfl, hj, ht⟩ := hrel
    clear hj0 ht1
    by_cases hlt : i < m
    case neg =>
      obtain rfl : i = m := by omega
      have hdz : decide ((i : Int) < (i : Int)) = false := by simp
      rw [List.take_of_length_le (by have := Hm.out; omega), List.take_of_length_le (by have := Hb.out; omega)] at hj
      obtain ⟨q0, q1⟩ := rj_cells hj
      have f1 := frozen_p hj.head 1
      have hj2 : RJ B (wr.setCell ⟨q, 1, none⟩ (.int .i64 (seq + 1))) q (.slice (some ⟨gq, 0, none⟩) nb cq) (updB ls az bs) (seq + 1) := ⟨hj.low, head_setCell hj.head _, by
        obtain ⟨h1, h2⟩ := hj.rows
        refine ⟨h1, ?_⟩
        rcases h2 with h2 | ⟨g', cap, cur, hv, hb', hh, r⟩
        · exact .inl h2
        · refine .inr ⟨g', cap, cur, hv, hb', ?_, r⟩
          rw [Below.heap_setCell _ _ _ _ (fun e => ?_)]
          · exact hh
          · have hq := hj.head
            rw [show g' = q from e] at hh
            rw [hh] at hq
            injection hq with hq
            injection hq with _ hq
            revert hq
            decide⟩
      have ht2 : Turned (RT q (.slice (some ⟨gq, 0, none⟩) nb cq)) w (wr.setCell ⟨q, 1, none⟩ (.int .i64 (seq + 1))) := ht.trans ((turned_one wr q 1 _).mono fun _ _ e => .inl e)
      have HF := Lib.hid (And.intro hj2 ht2)
      clear hj ht hj2 ht2
      go_wp2_with fail
      go_ret
      exact ⟨rfl, HF.out⟩
    have hlt1 : i < az.length := by have := Hm.out; omega
    have hlt2 : i < bs.length := by have := Hb.out; omega
    have hdl : decide ((i : Int) < (m : Int)) = true := decide_eq_true (by omega)
    obtain ⟨hz0, hzn, hb112, _⟩ := HSP.out.2 i hlt1 hlt2
    have hstep := updB_step ls hlt1 hlt2
    have hrows : (updB ls (az.take i) (bs.take i)).length = nb := by rw [updB_length]; exact Hnb.out.symm
    obtain ⟨bu, ou, rfl, c1⟩ := isI_at (HKU.out _ ht) i hlt1
    obtain ⟨bv_, ov, ux, rfl, c2, hux⟩ := isBs_at (HKV.out _ ht) i hlt2
    have hst := run_str (P := Tryd.prog) (w := wr.drew) hux 36 9 5 Tryd.underlying36 Tryd.underlying5 Tryd.underlying9
    obtain ⟨ax, cx, hue, _, _⟩ := hux.form
    rw [hb112] at hue
    subst hue
    obtain ⟨q0, q1⟩ := rj_cells hj
    have Hstep := Lib.hid hstep
    clear hstep hux
    generalize az[i] = z at *
    obtain ⟨zn, rfl⟩ := Int.eq_ofNat_of_zero_le hz0
    rw [Int.toNat_natCast] at Hstep
    have hzb : zn < nb := by omega
    have hjd : RJ B wr.drew q (.slice (some ⟨gq, 0, none⟩) nb cq) (updB ls (az.take i) (bs.take i)) seq := hj.keep (fun _ _ _ => rfl)
    obtain ⟨⟨c0, s1⟩, s2, s3, s4⟩ := hjd.store zn (by omega) bs[i]
    rw [← Hstep.out] at s3
    have ht2 := (Turned.drew ht).trans s4
    have HF := Lib.hid (And.intro s3 ht2)
    replace c1 : wr.drew.cell? _ = _ := c1
    replace c2 : wr.drew.cell? _ = _ := c2
    replace q0 : wr.drew.cell? _ = _ := q0
    clear hj hjd s3 s4 ht2 ht q1
    generalize bs[i] = b at *
    go_upto_region 7 with fail
    refine wp_region_still_tail 14 (by kernel_rfl) (by kernel_rfl) ?_
    simp only [List.take_succ_cons, List.take_zero, List.drop_succ_cons, List.drop_zero]
    change wpStill _ _ wr.drew (fun a' => wpList _ _ _ _ a' wr.drew) _ _
    generalize wr.drew = W1 at *
    iterate 14 still_step
    refine wpStill_nil ?_
    go_wp2_with fail
    go_roundw
    case rel => exact ⟨i + 1, by omega, by go_num, HF.out⟩
    case measure => simp [intOf]; omega
end
end Go.Proofs.YtoonlihacbbfdaaDoor

/- A journal and the document's journal beside each other; an op of a script that came in. -/
set_option linter.unusedVariables false
set_option linter.unusedSimpArgs false
set_option maxRecDepth 100000
namespace Go.Proofs.YtoonlihacbbfdaaDoor
open Go.RowKit

theorem own_keep1 {B : Nat} {e : TypeId} {s n : Nat} {w w' : World} {u : Value} {xs : List Value} (h : w.ownsRow B e s u n xs) (hw : ∀ k, some k = u.ownBlock → w'.heap[k]? = w.heap[k]?) : w'.ownsRow B e s u n xs := by
  obtain ⟨h1, h2⟩ := h
  refine ⟨h1, ?_⟩
  rcases h2 with h2 | ⟨g, cap, cur, hv, hb, hh, r⟩
  · exact .inl h2
  · exact .inr ⟨g, cap, cur, hv, hb, by rw [hw g (by rw [hv]; rfl)]; exact hh, r⟩
theorem RJ.keepT {B : Nat} {w w' : World} {q : Nat} {v : Value} {ls : List (List UInt8)} {seq : Int} (h : RJ B w q v ls seq) (hw : ∀ k, RT q v k → w'.heap[k]? = w.heap[k]?) : RJ B w' q v ls seq :=
  ⟨h.low, (hw q (.inl rfl)).trans h.head, own_keep1 h.rows fun k hk => hw k (.inr hk)⟩
theorem RJ.rt_low {B2 : Nat} {w : World} {q : Nat} {v : Value} {ls : List (List UInt8)} {seq : Int} (h : RJ B2 w q v ls seq) : ∀ k, RT q v k → B2 ≤ k ∧ k < w.heap.size := by
  rintro k (rfl | hk)
  · exact ⟨h.low, h.lt⟩
  · obtain ⟨a, c, hc⟩ := own_lt h.rows hk
    exact ⟨a, lt_of_heap hc⟩
theorem RJ.aside {B : Nat} {w w' : World} {q : Nat} {v : Value} {ls : List (List UInt8)} {seq : Int} {T : Nat → Prop} (h : RJ B w q v ls seq) (ht : Turned T w w') (hT : ∀ k, T k → ¬ RT q v k) : RJ B w' q v ls seq :=
  h.keepT fun k hk => ht.block k (h.rt_low k hk).2 fun e => hT k e hk
/-- a journal and the document's, apart -/
structure JR (B B2 : Nat) (w0 w : World) (F : Ft) (p : Nat) (J : Jn) (q : Nat) (v : Value) (ls : List (List UInt8)) (seq : Int) : Prop where
  jb : JB B w0 w F p J
  rj : RJ B2 w q v ls seq
  sep : ∀ k, JT F p k → ¬ RT q v k
  low : B ≤ B2
  nib : 0 < B
section
variable {B B2 : Nat} {w0 w w' : World} {F : Ft} {p p' : Nat} {J J' : Jn} {q : Nat} {v : Value} {ls ls' : List (List UInt8)} {seq seq' : Int} {D : Dk}
theorem JR.step (h : JR B B2 w0 w F p J q v ls seq) (hb : Below w.heap.size w w') : JR B B2 w0 w' F p J q v ls seq := ⟨h.jb.step hb, h.rj.below hb, h.sep, h.low, h.nib⟩
theorem JR.turnJ (h : JR B B2 w0 w F p J q v ls seq) (hj : JAt w' F p J') (ht : Turned (JT F p) w w') : JR B B2 w0 w' F p J' q v ls seq :=
  ⟨h.jb.turn hj ht, h.rj.aside ht h.sep, h.sep, h.low, h.nib⟩
theorem JR.turnR (h : JR B B2 w0 w F p J q v ls seq) (hr : RJ B2 w' q v ls' seq') (ht : Turned (RT q v) w w') : JR B B2 w0 w' F p J q v ls' seq' :=
  ⟨h.jb.other ht (fun k hk => by
    have h1 := h.rj.rt_low k hk
    have h2 := h.low
    have h3 := h.nib
    exact ⟨fun e => h.sep k e hk, by omega, by omega⟩), hr, h.sep, h.low, h.nib⟩
theorem JR.other {T : Nat → Prop} (h : JR B B2 w0 w F p J q v ls seq) (ht : Turned T w w') (hT : ∀ k, T k → ¬ JT F p k ∧ B ≤ k ∧ ¬ RT q v k) : JR B B2 w0 w' F p J q v ls seq :=
  ⟨h.jb.other ht (fun k hk => ⟨(hT k hk).1, (hT k hk).2.1, by have := (hT k hk).2.1; have := h.nib; omega⟩), h.rj.aside ht (fun k hk => (hT k hk).2.2), h.sep, h.low, h.nib⟩
theorem JR.base (h : JR B B2 w0 w F p J q v ls seq) : B ≤ w.heap.size := h.jb.base
theorem JR.jlt (h : JR B B2 w0 w F p J q v ls seq) : ∀ k, JT F p k → k < w.heap.size := fun k hk => h.jb.jat.lt hk
/-- another journal on the same disk -/
theorem JR.anew (h : JR B B2 w0 w F p J q v ls seq) {w1 : World} (hd : DB B w0 w1 F D) (ht : Turned F.has w w1) (hj : JAt w' F p' J') (hp : w1.heap.size ≤ p') (h2 : Turned F.has w1 w') : JR B B2 w0 w' F p' J' q v ls seq :=
  ⟨JB.of hd hj hp h2, (h.rj.aside ht (fun k hk => h.sep k (.inl hk))).aside h2 (fun k hk => h.sep k (.inl hk)), fun k hk => by
    rcases hk with hk | rfl
    · exact h.sep k (.inl hk)
    · intro e
      have h3 := (h.rj.rt_low _ e).2
      have h4 := ht.size
      omega, h.low, h.nib⟩
end
/-- the cells of script[i] -/
theorem script_at {w : World} {a : Option Addr} {n cap : Nat} {xs : List OpJ} (h : IsRow rdOpJ w (.slice a n cap) xs) (i : Nat) (hi : i < xs.length) : ∃ b o va, a = some ⟨b, o, none⟩ ∧
    w.cell? ⟨b, o + i * 4, none⟩ = some (.int .i64 xs[i].kind) ∧ w.cell? ⟨b, o + i * 4 + 1, none⟩ = some va ∧ w.cell? ⟨b, o + i * 4 + 2, none⟩ = some (.int .u8 (xs[i].by_.toNat : Int)) ∧ w.cell? ⟨b, o + i * 4 + 3, none⟩ = some (.int .i64 xs[i].raw) ∧
    IsI w va xs[i].at_ ∧ (∀ z ∈ xs[i].at_, -9223372036854775808 ≤ z ∧ z ≤ 9223372036854775807) ∧ (-9223372036854775808 ≤ xs[i].raw ∧ xs[i].raw ≤ 9223372036854775807) := by
  obtain ⟨a', cap', hv, hl, hm, hn, _, hc⟩ := h
  simp only [Value.slice.injEq] at hv
  obtain ⟨rfl, _, rfl⟩ := hv
  cases a with
  | none => have := hn rfl; omega
  | some x =>
    obtain ⟨b, o, s⟩ := x
    obtain ⟨hs, hc⟩ := hc _ rfl
    obtain rfl : s = none := hs (by omega)
    obtain ⟨cs, ⟨c0, c1, c2, c3, he, ⟨e0, a0⟩, ⟨u1, e1, g1⟩, e2, ⟨e3, a3⟩⟩, h2⟩ := hc i hi
    simp only [List.cons.injEq, and_true] at e0 e1 e3
    obtain rfl : c2 = .int .u8 (xs[i].by_.toNat : Int) := by simpa using (show [c2] = _ from e2)
    subst e0 e1 e3 he
    exact ⟨b, o, c1, rfl, h2 0 _ rfl, h2 1 _ rfl, h2 2 _ rfl, h2 3 _ rfl, g1.isI.1, g1.isI.2, a3⟩
/-- what a write does to a journal that goes on, and to the document's -/
structure Both (n : Nat) (J J' : Jn) (seq : Int) (BB : List (List UInt8)) (zs : List Int) (ls : List (List UInt8)) : Prop where
  live : Live n J' (refS BB.length seq zs ls) (refB BB zs ls) AllOk
  err : (J.write zs ls).1 = refE BB.length zs ls
  last : J'.last ≤ J.last + 1
  cut : J'.D.cut = J.D.cut
  ops : J'.D.ops ≤ J.D.ops + (2 * zs.length + 4)
theorem both_write {n : Nat} {J : Jn} {seq : Int} {BB : List (List UInt8)} (h : Live n J seq BB AllOk) (hcut : J.D.cut < 0) (zs : List Int) (ls : List (List UInt8)) (ht : J.last + 1 < 4611686018427387904) (hb : J.D.ops + (2 * zs.length + 4) ≤ 1048576) : Both n J (J.write zs ls).2 seq BB zs ls := by
  have hl := h.rows.1
  by_cases hr : rightW BB.length zs ls = true
  · have w := write_ok h hcut (by rw [← hl]; exact hr) ht hb
    refine ⟨?_, by rw [w.err, refE, if_pos hr], w.last, w.cut, w.ops⟩
    have hlv := w.live
    rw [refB, if_pos hr, refS]
    by_cases h0 : zs.length = 0
    · rw [if_neg (fun h => h.2 h0)]
      rw [if_pos h0] at hlv
      exact hlv
    · rw [if_pos ⟨hr, h0⟩]
      rw [if_neg h0] at hlv
      exact hlv
  · have e := write_no h (by rw [← hl]; simpa using hr)
    rw [e]
    refine ⟨?_, by rw [e, refE, if_neg hr], by show J.last ≤ _; omega, rfl, by show J.D.ops ≤ _; omega⟩
    rw [refB, if_neg hr, refS, if_neg (fun h => hr h.1)]
    exact h
theorem refB_length (BB : List (List UInt8)) (zs : List Int) (ls : List (List UInt8)) : (refB BB zs ls).length = BB.length := by
  unfold refB
  split
  · exact updB_length _ _ _
  · rfl
theorem refS_range (nb : Nat) (seq : Int) (zs : List Int) (ls : List (List UInt8)) : seq ≤ refS nb seq zs ls ∧ refS nb seq zs ls ≤ seq + 1 := by
  unfold refS
  split <;> omega
end Go.Proofs.YtoonlihacbbfdaaDoor

/- A disk behind a crash, and openings that crash. Plain lists. -/
set_option linter.unusedVariables false
set_option linter.unusedSimpArgs false
set_option maxRecDepth 100000
namespace Go.Proofs.YtoonlihacbbfdaaDoor
open Go.RowKit

/-- a disk as a crash leaves it, with an image of a journal -/
structure Fresh (n : Nat) (seq : Int) (B : List (List UInt8)) (top : Nat) (D : Dk) : Prop where
  flat : D.Flat
  ok : D.Ok
  hn : D.n = n
  off : D.off = false
  cut : D.cut = -1
  ops : D.ops = 0
  img : Img n seq B top D.now
theorem crash_ok {D : Dk} (h : D.Ok) (stay : List Int) : (D.crash stay).Ok := ⟨h.n1, h.nm, crashTo_length h stay _, crashTo_length h stay _, (fun x hx => by cases hx), Nat.le_refl _, Nat.zero_le _, by show (-9223372036854775808 : Int) ≤ -1; decide, by show (-1 : Int) ≤ _; decide⟩
/-- a crash of a disk all of whose images are images of a journal -/
theorem Fresh.of_in {n : Nat} {seq : Int} {B : List (List UInt8)} {top : Nat} {D : Dk} (h : D.In fun l => Img n seq B top l) (hn : D.n = n) (stay : List Int) : Fresh n seq B top (D.crash stay) :=
  ⟨⟨rfl, rfl⟩, crash_ok h.ok stay, hn, rfl, rfl, rfl, h.crash stay _⟩
theorem Dk.In.imp {P Q : List UInt8 → Prop} {D : Dk} (h : D.In P) (hs : Q D.safe) (hn : Q D.now) (hx : ∀ x ∈ D.hung, ∀ l, Q l → Q (putS l x.1 x.2)) : D.In Q := ⟨h.ok, hs, hn, hx⟩
theorem Live.fresh {n : Nat} {J : Jn} {seq : Int} {B : List (List UInt8)} {top : Nat} (h : Live n J seq B AllOk) (hl : J.last ≤ top) (ht : top < 4611686018427387904) (stay : List Int) : Fresh n seq B top (J.D.crash stay) := by
  obtain ⟨w, pl, him⟩ := h.im
  exact Fresh.of_in (h.flat.isIn h.dok ⟨w, pl, him.top hl ht⟩) h.hn stay
/-- an opening at which the power may go -/
theorem Fresh.cut_open {n : Nat} {seq : Int} {B : List (List UInt8)} {top : Nat} {D : Dk} (h : Fresh n seq B top D) (c : Int) (h1 : -9223372036854775808 ≤ c) (h2 : c ≤ 9223372036854775807) :
    ∃ code J, ({ D with cut := c, off := false } : Dk).openJ = (code, J) ∧ (code = 0 ∨ code = 43) ∧ ∀ stay, Fresh n seq B top (J.D.crash stay) := by
  obtain ⟨w, pl, him⟩ := h.img
  have hlo := him.lo
  have hhi := him.hi
  have hok : ({ D with cut := c, off := false } : Dk).Ok := ⟨h.ok.n1, h.ok.nm, h.ok.safe, h.ok.now, h.ok.hung, h.ok.loose, h.ok.ops, h1, h2⟩
  obtain ⟨code, J, o⟩ := open_im (D := { D with cut := c, off := false }) him h.flat hok h.hn rfl (by show D.ops + _ ≤ _; rw [h.ops]; omega)
  refine ⟨code, J, o.eq, ?_, ?_⟩
  · rcases o.ends with ⟨h, _⟩ | ⟨h, _⟩
    · exact .inl h
    · exact .inr h
  · rcases o.ends with ⟨_, hl, _⟩ | ⟨_, _, w', pl', t, ht, hin⟩
    · exact fun stay => hl.fresh o.last him.tt stay
    · intro stay
      have hf := hin.crash stay J.D.hung.length
      refine ⟨⟨rfl, rfl⟩, crash_ok hin.ok stay, o.hn.trans h.hn, rfl, rfl, rfl, w', pl', hf.top ht him.tt⟩
/-- an opening with power -/
theorem Fresh.opens {n : Nat} {seq : Int} {B : List (List UInt8)} {top : Nat} {D : Dk} (h : Fresh n seq B top D) :
    ∃ J, D.openJ = (0, J) ∧ Live n J seq B AllOk ∧ J.last ≤ top ∧ J.D.cut = -1 ∧ J.D.ops ≤ (n - 2) / 2 + 1 := by
  obtain ⟨w, pl, him⟩ := h.img
  have hlo := him.lo
  have hhi := him.hi
  obtain ⟨code, J, o⟩ := open_im him h.flat h.ok h.hn h.off (by rw [h.ops]; omega)
  have hops := o.ops
  rw [h.ops] at hops
  rcases o.ends with ⟨rfl, hl, _⟩ | ⟨_, h3, _⟩
  · exact ⟨J, o.eq, hl, o.last, by rw [o.cut, h.cut], by omega⟩
  · rw [h.cut] at h3
    omega
end Go.Proofs.YtoonlihacbbfdaaDoor

/- The document's journal: Clone. -/
set_option linter.unusedVariables false
set_option linter.unusedSimpArgs false
set_option maxRecDepth 100000
namespace Go.Proofs.YtoonlihacbbfdaaDoor
open Go.RowKit

theorem run_firstCells_own {P : Program} {B : Nat} {e : TypeId} {w : World} {v : Value} {n : Nat} {xs : List Value} (h : w.ownsRow B e 1 v n xs) : ∀ w' : World, w'.heap = w.heap → (Builtin.firstCells 1 n v).run P w' = .ok xs.toArray w' := by
  intro w' hw
  obtain ⟨hl, h2⟩ := h
  rw [Nat.mul_one] at hl
  rcases h2 with ⟨rfl, hn⟩ | ⟨g, cap, cur, rfl, hb, hg, hn, hc, hs, htake⟩
  · subst hn
    obtain rfl : xs = [] := List.eq_nil_of_length_eq_zero hl
    simp [Builtin.firstCells]
  · by_cases h0 : n = 0
    · subst h0
      obtain rfl : xs = [] := List.eq_nil_of_length_eq_zero hl
      simp [Builtin.firstCells, loadCells, loadCellsFrom]
    refine run_firstCells_some (P := P) w' 1 n _ _ _ xs (by simp [hl]) ?_
    intro j u hj
    have hlt : j < n := by have := (List.getElem?_eq_some_iff.1 hj).1; omega
    rw [Addr.add_mid, Nat.zero_add, cell_of_row w' _ _ _ _ _ (by rw [hw]; exact hg)]
    have e1 : (cur.toList.take (n * 1))[j]? = some u := by rw [htake]; exact hj
    rw [List.getElem?_take, if_pos (by omega)] at e1
    simpa using e1
theorem own_lenOf {P : Program} {B : Nat} {e : TypeId} {w : World} {v : Value} {n : Nat} {xs : List Value} (h : w.ownsRow B e 1 v n xs) : ∀ w' : World, (Builtin.lenOf v).run P w' = .ok n w' := by
  intro w'
  rcases h.2 with ⟨rfl, hn⟩ | ⟨g, cap, cur, rfl, _⟩
  · subst hn; simp [Builtin.lenOf]
  · simp [Builtin.lenOf]
theorem sv_oneCell (l : List (List UInt8)) : ∀ u ∈ sv l, u.oneCell' = true := by
  intro u hu
  obtain ⟨_, _, rfl⟩ := List.mem_map.1 hu
  rfl
/-- a copy of a row of strings -/
theorem MineS.copy {B B' : Nat} {w : World} {v : Value} {ls : List (List UInt8)} (h : MineS B w v ls) (hB : B' ≤ w.heap.size) (hL : ls.length ≤ 1000000) :
    ∃ v' w', (Builtin.append_ #[44, 44] 44 #[.slice none 0 0, v]).run Tryd.prog w = .ok v' w' ∧ MineS B' w' v' ls ∧ Below w.heap.size w w' := by
  obtain ⟨i, hi, hz, hs, hb⟩ := info_parts (P := Tryd.prog) (e := 9) info_str
  have hnil : w.ownsRow B' 9 1 (.slice none 0 0) 0 [] := World.ownsRow_nil w B' 9 1
  obtain ⟨v', w', hr, ho, hgr, _, _⟩ := run_app (P := Tryd.prog) w B' 44 44 44 9 i _ 1 16 _ Tryd.underlying44 Tryd.underlying44 (.inl rfl) hi hz hs hb rfl (by decide) (.slice none 0 0) 0 [] hnil
    v ls.length (sv ls) (own_lenOf h) (by simp [sv]) (run_firstCells_own h) (sv_oneCell ls) (by simp [maxLen]; omega) (by omega) hB
  refine ⟨v', w', hr, ?_, (Below.refl w.heap.size w).grown hgr (Nat.le_refl _) (fun k hk => by cases hk)⟩
  unfold MineS
  rw [List.nil_append, Nat.zero_add] at ho
  exact ho
set_option maxHeartbeats 8000000 in
theorem rclone_any (w : World) {B q : Nat} {vq : Value} {ls : List (List UInt8)} {seq : Int} (h : RJ B w q vq ls seq) (hls : ls.length ≤ 8191) :
    Calls Tryd.prog 23 #[rjp q] w fun e w' => ∃ q' v', e = .returned (rjp q') ∧ RJ w.heap.size w' q' v' ls seq ∧ Below w.heap.size w w' := by
  obtain ⟨aq, cq, hvq, hcq, hmq⟩ := h.form
  obtain ⟨q0, q1⟩ := rj_cells h
  have hrd : MineS B w.drew vq ls := h.rows.keep (fun _ _ _ => rfl)
  obtain ⟨v', w', hr, hm, hb⟩ := hrd.copy (B' := w.heap.size) (Nat.le_refl _) (by omega)
  have hb' : Below w.heap.size w w' := (Below.refl _ _).drew.trans hb
  have p1 : w'.cell? ⟨q, 1, none⟩ = some (.int .i64 seq) := cells_below hb' _ _ q1
  have p0 : w'.cell? ⟨q, 0, none⟩ = some vq := cells_below hb' _ _ q0
  replace q0 : w.drew.cell? _ = _ := q0
  replace q1 : w.drew.cell? _ = _ := q1
  have hba : Below w'.heap.size w' (w'.alloc (.cells #[v', .int .i64 seq] 48)) := (Below.refl _ _).alloc (Nat.le_refl _) _
  have HF : Hid (RJ w.heap.size (w'.alloc (.cells #[v', .int .i64 seq] 48)) w'.heap.size v' ls seq ∧ Below w.heap.size w (w'.alloc (.cells #[v', .int .i64 seq] 48))) :=
    Lib.hid ⟨⟨hb'.size, heap_alloc_new w' _, hm.below hba⟩, hb'.trans (hba.mono hb'.size)⟩
  obtain ⟨a', c', hv', _, _⟩ : ∃ a cap, v' = .slice a ls.length cap ∧ ls.length ≤ cap ∧ cap ≤ maxLen := by
    rcases hm.2 with ⟨rfl, hn⟩ | ⟨g, cap, cur, rfl, _, _, hn, hc, _⟩
    · exact ⟨none, 0, by rw [hn], by omega, by simp [maxLen]⟩
    · exact ⟨_, cap, rfl, hn, hc⟩
  subst hvq hv'
  clear hm hb hb' hba hrd h
  go_enter Tryd.func23, Tryd.ntmps23
  go_wp2_with fail
  go_region_law (refine step_append_run6 rfl (.const (.slice none 0 0)) (.tmp 6) 44 44 (by rfl) _ _ _ (by rfl) (by rfl) hr ?_)
  all_goals (
    go_wp2_with fail
    go_ret
    exact ⟨_, _, rfl, HF.out⟩)
end Go.Proofs.YtoonlihacbbfdaaDoor

/- A write under which the power may go; a journal, the document's one and another one of it, apart. -/
set_option linter.unusedVariables false
set_option linter.unusedSimpArgs false
set_option maxRecDepth 100000
namespace Go.Proofs.YtoonlihacbbfdaaDoor
open Go.RowKit

theorem Fresh.raise {n : Nat} {seq : Int} {B : List (List UInt8)} {top top' : Nat} {D : Dk} (h : Fresh n seq B top D) (h1 : top ≤ top') (h2 : top' < 4611686018427387904) : Fresh n seq B top' D := by
  obtain ⟨w, pl, him⟩ := h.img
  exact ⟨h.flat, h.ok, h.hn, h.off, h.cut, h.ops, w, pl, him.top h1 h2⟩
theorem writes_seq (J : Jn) (zs : List Int) (ls : List (List UInt8)) : (J.writes zs ls).seq = J.seq ∨ (J.writes zs ls).seq = J.seq + 1 := by
  unfold Jn.writes
  simp only
  split
  · exact .inr rfl
  · left
    rw [Jn.spread, Jn.flush_seq, Jn.spreads_seq, Jn.flush_seq, Jn.lay_seq, Jn.flush_seq, Jn.layTo_seq]
theorem write_seq (J : Jn) (zs : List Int) (ls : List (List UInt8)) : J.seq ≤ (J.write zs ls).2.seq ∧ (J.write zs ls).2.seq ≤ J.seq + 1 := by
  unfold Jn.write
  split
  · exact ⟨Int.le_refl _, by show J.seq ≤ J.seq + 1; omega⟩
  split
  · exact ⟨Int.le_refl _, by show J.seq ≤ J.seq + 1; omega⟩
  split
  · exact ⟨Int.le_refl _, by show J.seq ≤ J.seq + 1; omega⟩
  · show J.seq ≤ (J.writes zs ls).seq ∧ (J.writes zs ls).seq ≤ J.seq + 1
    rcases writes_seq J zs ls with h | h <;> rw [h] <;> omega
/-- blocks as many as there are, each of its length -/
def Rows06 (n : Nat) (ls : List (List UInt8)) : Prop := ls.length = (n - 2) / 2 ∧ ∀ b ∈ ls, b.length = 112
theorem Rows06.refB {n : Nat} {BB : List (List UInt8)} (h : Rows06 n BB) (zs : List Int) (ls : List (List UInt8)) : Rows06 n (refB BB zs ls) := by
  refine ⟨by rw [refB_length]; exact h.1, ?_⟩
  unfold Go.Proofs.YtoonlihacbbfdaaDoor.refB
  split
  · rename_i hr
    exact updB_each _ _ _ (fun b hb => rightW_bytes hr hb) h.2
  · exact h.2
/-- what a write comes to where the power may go -/
structure CutW (n : Nat) (J J' : Jn) (c : Int) (seq : Int) (BB : List (List UInt8)) (zs : List Int) (ls : List (List UInt8)) (top : Nat) : Prop where
  ends : (c = refE BB.length zs ls ∧ Live n J' (refS BB.length seq zs ls) (refB BB zs ls) AllOk) ∨
    (c = 43 ∧ refE BB.length zs ls = 0 ∧ J'.off = 43 ∧ J'.D.Ok ∧ J'.D.n = n ∧ ∀ stay, Fresh n seq BB top (J'.D.crash stay) ∨ Fresh n (refS BB.length seq zs ls) (refB BB zs ls) top (J'.D.crash stay))
  last : J'.last ≤ J.last + 1
  ops : J'.D.ops ≤ J.D.ops + (2 * zs.length + 4)
theorem cut_write {n : Nat} {J : Jn} {seq : Int} {BB : List (List UInt8)} (h : Live n J seq BB AllOk) (zs : List Int) (ls : List (List UInt8)) {top : Nat} (ht : J.last + 1 ≤ top) (ht2 : top < 4611686018427387904) (hb : J.D.ops + (2 * zs.length + 4) ≤ 1048576) : CutW n J (J.write zs ls).2 (J.write zs ls).1 seq BB zs ls top := by
  have hl := h.rows.1
  by_cases hr : rightW BB.length zs ls = true
  · by_cases h0 : zs.length = 0
    · obtain rfl : zs = [] := List.eq_nil_of_length_eq_zero h0
      have e := write_nil h (by rw [← hl]; exact hr)
      rw [e]
      refine ⟨.inl ⟨by rw [refE, if_pos hr], ?_⟩, by show J.last ≤ _; omega, by show J.D.ops ≤ _; omega⟩
      rw [refB, if_pos hr, updB_nil, refS, if_neg (fun h => h.2 h0)]
      exact h
    · have e := write_yes h (by rw [← hl]; exact hr) h0
      have w := writes_live h (by rw [← hl]; exact hr) (by omega) hb
      rw [e]
      refine ⟨?_, Nat.le_of_eq w.last, w.ops⟩
      have eE : refE BB.length zs ls = 0 := by rw [refE, if_pos hr]
      have eB : refB BB zs ls = updB BB zs ls := by rw [refB, if_pos hr]
      have eS : refS BB.length seq zs ls = seq + 1 := by rw [refS, if_pos ⟨hr, h0⟩]
      rw [eE, eB, eS]
      rcases w.ends with ⟨a1, a2⟩ | ⟨a1, a2, P, hin, hP⟩
      · exact .inl ⟨a1, a2⟩
      · refine .inr ⟨a1, rfl, a1, hin.ok, w.hn.trans h.hn, fun stay => ?_⟩
        have hc := hin.crash stay (J.writes zs ls).D.hung.length
        have hn := w.hn.trans h.hn
        rcases hP _ hc with ⟨w', pl, him⟩ | ⟨w', pl, him⟩
        · exact .inl ⟨⟨rfl, rfl⟩, crash_ok hin.ok stay, hn, rfl, rfl, rfl, w', pl, him.top ht ht2⟩
        · exact .inr ⟨⟨rfl, rfl⟩, crash_ok hin.ok stay, hn, rfl, rfl, rfl, w', pl, him.top ht ht2⟩
  · have e := write_no h (by rw [← hl]; simpa using hr)
    rw [e]
    refine ⟨.inl ⟨by rw [refE, if_neg hr], ?_⟩, by show J.last ≤ _; omega, by show J.D.ops ≤ _; omega⟩
    rw [refB, if_neg hr, refS, if_neg (fun h => hr h.1)]
    exact h
theorem Live.cutAt {n : Nat} {J : Jn} {seq : Int} {B : List (List UInt8)} {ok : Nat → Prop} (h : Live n J seq B ok) (c : Int) (h1 : -9223372036854775808 ≤ c) (h2 : c ≤ 9223372036854775807) : Live n { J with D := { J.D with cut := c, off := false } } seq B ok :=
  ⟨h.off, rfl, h.flat, ⟨h.dok.n1, h.dok.nm, h.dok.safe, h.dok.now, h.dok.hung, h.dok.loose, h.dok.ops, h1, h2⟩, h.hn, h.hseq, h.im, h.home⟩
theorem read_off {J : Jn} (h : J.off = 43) (k : Int) : J.read k = ([], 43, J) := by rw [Jn.read, if_pos (by rw [h]; decide), h]
theorem write_off {J : Jn} (h : J.off = 43) (zs : List Int) (ls : List (List UInt8)) : J.write zs ls = (43, J) := by rw [Jn.write, if_pos (by rw [h]; decide), h]
theorem RJ.lower {B B' : Nat} {w : World} {q : Nat} {v : Value} {ls : List (List UInt8)} {seq : Int} (h : RJ B w q v ls seq) (hb : B' ≤ B) : RJ B' w q v ls seq := ⟨Nat.le_trans hb h.low, h.head, own_low h.rows hb⟩
/-- a journal, the document's, and another one of it -/
structure JRR (B : Nat) (w0 w : World) (F : Ft) (p : Nat) (J : Jn) (q : Nat) (v : Value) (ls : List (List UInt8)) (seq : Int) (q2 : Nat) (v2 : Value) (lt : List (List UInt8)) (st : Int) : Prop where
  jb : JB B w0 w F p J
  r : RJ B w q v ls seq
  t : RJ B w q2 v2 lt st
  s1 : ∀ k, JT F p k → ¬ RT q v k
  s2 : ∀ k, JT F p k → ¬ RT q2 v2 k
  s3 : ∀ k, RT q v k → ¬ RT q2 v2 k
  nib : 0 < B
section
variable {B : Nat} {w0 w w' : World} {F : Ft} {p : Nat} {J J' : Jn} {q : Nat} {v : Value} {ls ls' : List (List UInt8)} {seq seq' : Int} {q2 : Nat} {v2 : Value} {lt lt' : List (List UInt8)} {st st' : Int}
theorem JRR.step (h : JRR B w0 w F p J q v ls seq q2 v2 lt st) (hb : Below w.heap.size w w') : JRR B w0 w' F p J q v ls seq q2 v2 lt st := ⟨h.jb.step hb, h.r.below hb, h.t.below hb, h.s1, h.s2, h.s3, h.nib⟩
theorem JRR.turnJ (h : JRR B w0 w F p J q v ls seq q2 v2 lt st) (hj : JAt w' F p J') (ht : Turned (JT F p) w w') : JRR B w0 w' F p J' q v ls seq q2 v2 lt st :=
  ⟨h.jb.turn hj ht, h.r.aside ht h.s1, h.t.aside ht h.s2, h.s1, h.s2, h.s3, h.nib⟩
theorem RJ.jb_aside {Bq : Nat} (hr : RJ Bq w q v ls seq) (hB : B ≤ Bq) (hn : 0 < B) (h : JB B w0 w F p J) (hs : ∀ k, JT F p k → ¬ RT q v k) (ht : Turned (RT q v) w w') : JB B w0 w' F p J :=
  h.other ht fun k hk => by
    have h1 := hr.rt_low k hk
    exact ⟨fun e => hs k e hk, by omega, by omega⟩
theorem JRR.turnR (h : JRR B w0 w F p J q v ls seq q2 v2 lt st) (hr : RJ B w' q v ls' seq') (ht : Turned (RT q v) w w') : JRR B w0 w' F p J q v ls' seq' q2 v2 lt st :=
  ⟨h.r.jb_aside (Nat.le_refl _) h.nib h.jb h.s1 ht, hr, h.t.aside ht h.s3, h.s1, h.s2, h.s3, h.nib⟩
theorem JRR.turnT (h : JRR B w0 w F p J q v ls seq q2 v2 lt st) (hr : RJ B w' q2 v2 lt' st') (ht : Turned (RT q2 v2) w w') : JRR B w0 w' F p J q v ls seq q2 v2 lt' st' :=
  ⟨h.t.jb_aside (Nat.le_refl _) h.nib h.jb h.s2 ht, h.r.aside ht (fun k h1 h2 => h.s3 k h2 h1), hr, h.s1, h.s2, h.s3, h.nib⟩
/-- another copy -/
theorem JRR.copied {q3 : Nat} {v3 : Value} (h : JRR B w0 w F p J q v ls seq q2 v2 lt st) (hr : RJ w.heap.size w' q3 v3 lt' st') (hb : Below w.heap.size w w') : JRR B w0 w' F p J q v ls seq q3 v3 lt' st' := by
  have h1 := h.step hb
  refine ⟨h1.jb, h1.r, hr.lower h.jb.base, h.s1, fun k hk e => ?_, fun k hk e => ?_, h.nib⟩
  · have := h.jb.jat.lt hk
    have := (hr.rt_low k e).1
    omega
  · have := (h.r.rt_low k hk).2
    have := (hr.rt_low k e).1
    omega
theorem JR.copied {B2 q3 : Nat} {v3 : Value} (h : JR B B2 w0 w F p J q v ls seq) (hr : RJ w.heap.size w' q3 v3 lt' st') (hb : Below w.heap.size w w') : JRR B w0 w' F p J q v ls seq q3 v3 lt' st' := by
  have h1 := h.step hb
  refine ⟨h1.jb, h1.rj.lower h.low, hr.lower h.jb.base, h.sep, fun k hk e => ?_, fun k hk e => ?_, h.nib⟩
  · have := h.jb.jat.lt hk
    have := (hr.rt_low k e).1
    omega
  · have := (h.rj.rt_low k hk).2
    have := (hr.rt_low k e).1
    omega
theorem JRR.other {T : Nat → Prop} (h : JRR B w0 w F p J q v ls seq q2 v2 lt st) (ht : Turned T w w') (hT : ∀ k, T k → ¬ JT F p k ∧ B ≤ k ∧ ¬ RT q v k ∧ ¬ RT q2 v2 k) : JRR B w0 w' F p J q v ls seq q2 v2 lt st :=
  ⟨h.jb.other ht (fun k hk => ⟨(hT k hk).1, (hT k hk).2.1, by have := (hT k hk).2.1; have := h.nib; omega⟩), h.r.aside ht (fun k hk => (hT k hk).2.2.1), h.t.aside ht (fun k hk => (hT k hk).2.2.2), h.s1, h.s2, h.s3, h.nib⟩
end
/-- the cells of lives[i] -/
theorem life_at {w : World} {a : Option Addr} {n cap : Nat} {xs : List LifeJ} (h : IsRow rdLifeJ w (.slice a n cap) xs) (i : Nat) (hi : i < xs.length) : ∃ b o vs vi vf, a = some ⟨b, o, none⟩ ∧
    w.cell? ⟨b, o + i * 4, none⟩ = some vs ∧ w.cell? ⟨b, o + i * 4 + 1, none⟩ = some (.int .i64 xs[i].cut) ∧ w.cell? ⟨b, o + i * 4 + 2, none⟩ = some vi ∧ w.cell? ⟨b, o + i * 4 + 3, none⟩ = some vf ∧
    IsRow rdOpJ w vs xs[i].script ∧ (-9223372036854775808 ≤ xs[i].cut ∧ xs[i].cut ≤ 9223372036854775807) ∧ IsI w vi xs[i].stay ∧ IsRow rdFallJ w vf xs[i].again := by
  obtain ⟨a', cap', hv, hl, hm, hn, _, hc⟩ := h
  simp only [Value.slice.injEq] at hv
  obtain ⟨rfl, _, rfl⟩ := hv
  cases a with
  | none => have := hn rfl; omega
  | some x =>
    obtain ⟨b, o, s⟩ := x
    obtain ⟨hs, hc⟩ := hc _ rfl
    obtain rfl : s = none := hs (by omega)
    obtain ⟨cs, ⟨c0, c1, c2, c3, he, ⟨u0, e0, g0⟩, ⟨e1, a1⟩, ⟨u2, e2, g2⟩, ⟨u3, e3, g3⟩⟩, h2⟩ := hc i hi
    simp only [List.cons.injEq, and_true] at e0 e1 e2 e3
    subst e0 e1 e2 e3 he
    exact ⟨b, o, c0, c2, c3, rfl, h2 0 _ rfl, h2 1 _ rfl, h2 2 _ rfl, h2 3 _ rfl, g0, a1, g2.isI.1, g3⟩
end Go.Proofs.YtoonlihacbbfdaaDoor

/- has: has a journal just those blocks, as many writes? -/
set_option linter.unusedVariables false
set_option linter.unusedSimpArgs false
set_option maxRecDepth 100000
namespace Go.Proofs.YtoonlihacbbfdaaDoor
open Go.RowKit

theorem live_get {n : Nat} {J : Jn} {seq : Int} {B : List (List UInt8)} (h : Live n J seq B AllOk) {i : Nat} (hi : i < B.length) : J.read (i : Int) = (B[i], 0, J) := read_live h (by rw [← h.rows.1]; exact hi) trivial (List.getElem?_eq_getElem hi)
set_option maxHeartbeats 16000000 in
theorem has06_any (w : World) {F : Ft} {p : Nat} {J : Jn} {n : Nat} {lj : List (List UInt8)} {sj : Int} (hj : JAt w F p J) (hn : Nib w) (lv : Live n J sj lj AllOk) (hn2 : 2 ≤ n) (hnm : n ≤ 16384) {B q : Nat} {v : Value} {ls : List (List UInt8)} {seq : Int} (hr : RJ B w q v ls seq)
    (hl : ls.length = (n - 2) / 2) (h112 : ∀ b ∈ ls, b.length = 112) (hsep : ∀ k, JT F p k → ¬ RT q v k) :
    Calls Tryd.prog 27 #[jptr p, rjp q] w fun e w' => e = .returned (.bool (decide (sj = seq ∧ lj = ls))) ∧ JAt w' F p J ∧ Turned (JT F p) w w' := by
  obtain ⟨aq, cq, rfl, hcq, hmq⟩ := hr.form
  have hS0 : (fun W : World => W.cell? ⟨q, 0, none⟩ = some (.slice aq ls.length cq) ∧ W.cell? ⟨q, 1, none⟩ = some (.int .i64 seq)) w.drew := rj_cells (w := w) hr
  have hrow := lv.rows
  have hbl : J.D.blocks = ls.length := by rw [lv.blocks, hl]
  have hlj : lj.length = ls.length := by rw [hrow.1, hl]
  have hjn := lv.hn
  have hjs := lv.hseq
  have HB := Lib.hid (blocks_any w.drew F p J hj.drew (by omega))
  rw [hbl] at HB
  have HQ := Lib.hid (seq_any w.drew F p J hj.drew)
  rw [hjs] at HQ
  have HLV := Lib.hid lv
  have Hl := Lib.hid hlj
  have H112 := Lib.hid h112
  have H112j := Lib.hid hrow.2
  have HJ : Hid (JAt w.drew F p J ∧ Nib w.drew ∧ RJ B w.drew q (.slice aq ls.length cq) ls seq ∧ Turned (JT F p) w w.drew) := Lib.hid ⟨hj.drew, hn, hr.keep (fun _ _ _ => rfl), (Turned.refl _ _).drew⟩
  have hnb8 : ls.length ≤ 8191 := by omega
  have HD : Hid (JAt w F p J) := Lib.hid hj
  clear hj hn lv hr hrow hbl hlj hjs h112 hl
  obtain ⟨nb, hnb⟩ : ∃ nb, nb = ls.length := ⟨_, rfl⟩
  have Hnb := Lib.hid hnb
  rw [← hnb] at HB HJ hcq hnb8 hS0 hsep
  clear hnb
  by_cases hs : sj = seq
  case neg =>
    have hd : (sj != seq) = true := by simpa using hs
    have e : decide (sj = seq ∧ lj = ls) = false := decide_eq_false fun h => hs h.1
    rw [e]
    clear e hs
    go_enter Tryd.func27, Tryd.ntmps27
    go_upto_region 1 with fail
    refine wp_region_noPanic ?_
    refine wp_region_held_drew (S := (fun W : World => W.cell? ⟨q, 0, none⟩ = some (.slice aq nb cq) ∧ W.cell? ⟨q, 1, none⟩ = some (.int .i64 seq))) (by kernel_rfl) hS0 (fun hH => ?_)
    refine take_at (i := 0) (v := ?_) rfl (by kernel_rfl) (by kernel_rfl) (by kernel_rfl) (fun _ _ _ h => h) (Or.inl ⟨by rfl, ?_⟩) hH ?_
    rotate_left
    · (intro w hSw; obtain ⟨q0, q1⟩ := hSw; go_simp; try with_reducible rfl)
    try simp only [Act.put, List.setIfInBounds_toArray, List.set_cons_zero, List.set_cons_succ]
    refine take_at (i := 1) (v := ?_) rfl (by kernel_rfl) (by kernel_rfl) (by kernel_rfl) (fun _ _ _ h => h) (Or.inl ⟨by rfl, ?_⟩) hH ?_
    rotate_left
    · (intro w hSw; obtain ⟨q0, q1⟩ := hSw; go_simp; try with_reducible rfl)
    try simp only [Act.put, List.setIfInBounds_toArray, List.set_cons_zero, List.set_cons_succ]
    refine take_at (i := 2) (v := ?_) rfl (by kernel_rfl) (by kernel_rfl) (by kernel_rfl) (fun _ _ _ h => h) (Or.inl ⟨by rfl, ?_⟩) hH ?_
    rotate_left
    · (intro w hSw; obtain ⟨q0, q1⟩ := hSw; go_simp; try with_reducible rfl)
    try simp only [Act.put, List.setIfInBounds_toArray, List.set_cons_zero, List.set_cons_succ]
    refine take_at (i := 3) (v := ?_) rfl (by kernel_rfl) (by kernel_rfl) (by kernel_rfl) (fun _ _ _ h => h) (Or.inl ⟨by rfl, ?_⟩) hH ?_
    rotate_left
    · (intro w hSw; obtain ⟨q0, q1⟩ := hSw; go_simp; try with_reducible rfl)
    try simp only [Act.put, List.setIfInBounds_toArray, List.set_cons_zero, List.set_cons_succ]
    refine take_at (i := 5) (v := ?_) rfl (by kernel_rfl) (by kernel_rfl) (by kernel_rfl) (fun _ _ _ h => h) (Or.inl ⟨by rfl, ?_⟩) hH ?_
    rotate_left
    · (intro w hSw; obtain ⟨q0, q1⟩ := hSw; go_simp; try with_reducible rfl)
    try simp only [Act.put, List.setIfInBounds_toArray, List.set_cons_zero, List.set_cons_succ]
    refine take_at (i := 6) (v := ?_) rfl (by kernel_rfl) (by kernel_rfl) (by kernel_rfl) (fun _ _ _ h => h) (Or.inl ⟨by rfl, ?_⟩) hH ?_
    rotate_left
    · (intro w hSw; obtain ⟨q0, q1⟩ := hSw; go_simp; try with_reducible rfl)
    try simp only [Act.put, List.setIfInBounds_toArray, List.set_cons_zero, List.set_cons_succ]
    refine take_at (i := 7) (v := ?_) rfl (by kernel_rfl) (by kernel_rfl) (by kernel_rfl) (fun _ _ _ h => h) (Or.inl ⟨by rfl, ?_⟩) hH ?_
    rotate_left
    · (intro w hSw; obtain ⟨q0, q1⟩ := hSw; go_simp; try with_reducible rfl)
    try simp only [Act.put, List.setIfInBounds_toArray, List.set_cons_zero, List.set_cons_succ]
    refine take_at (i := 8) (v := ?_) rfl (by kernel_rfl) (by kernel_rfl) (by kernel_rfl) (fun _ _ _ h => h) (Or.inl ⟨by rfl, ?_⟩) hH ?_
    rotate_left
    · (intro w hSw; obtain ⟨q0, q1⟩ := hSw; go_simp; try with_reducible rfl)
    try simp only [Act.put, List.setIfInBounds_toArray, List.set_cons_zero, List.set_cons_succ]
    refine take_at (i := 9) (v := ?_) rfl (by kernel_rfl) (by kernel_rfl) (by kernel_rfl) (fun _ _ _ h => h) (Or.inl ⟨by rfl, ?_⟩) hH ?_
    rotate_left
    · (intro w hSw; obtain ⟨q0, q1⟩ := hSw; go_simp; try with_reducible rfl)
    try simp only [Act.put, List.setIfInBounds_toArray, List.set_cons_zero, List.set_cons_succ]
    refine wpAnyH_ready (rs := [4]) (by kernel_rfl) (by simp) ?_
    refine ready_at rfl (fun K hK => ?_) AllReadyH.nil
    go_simp
    refine HB.out.mono ?_
    rintro e w' ⟨rfl, rfl⟩
    go_wp2_with fail
    refine hK.out _ _ hH (fun _ => ?_)
    clear hK K
    try simp only [Act.put, List.setIfInBounds_toArray, List.set_cons_zero, List.set_cons_succ]
    refine take_at (i := 10) (v := ?_) rfl (by kernel_rfl) (by kernel_rfl) (by kernel_rfl) (fun _ _ _ h => h) (Or.inl ⟨by rfl, ?_⟩) hH ?_
    rotate_left
    · (intro w hSw; obtain ⟨q0, q1⟩ := hSw; go_simp; try with_reducible rfl)
    try simp only [Act.put, List.setIfInBounds_toArray, List.set_cons_zero, List.set_cons_succ]
    refine take_at (i := 11) (v := ?_) rfl (by kernel_rfl) (by kernel_rfl) (by kernel_rfl) (fun _ _ _ h => h) (Or.inl ⟨by rfl, ?_⟩) hH ?_
    rotate_left
    · (intro w hSw; obtain ⟨q0, q1⟩ := hSw; go_simp; try with_reducible rfl)
    try simp only [Act.put, List.setIfInBounds_toArray, List.set_cons_zero, List.set_cons_succ]
    refine take_at (i := 12) (v := ?_) rfl (by kernel_rfl) (by kernel_rfl) (by kernel_rfl) (fun _ _ _ h => h) (Or.inl ⟨by rfl, ?_⟩) hH ?_
    rotate_left
    · (intro w hSw; obtain ⟨q0, q1⟩ := hSw; go_simp; try with_reducible rfl)
    try simp only [Act.put, List.setIfInBounds_toArray, List.set_cons_zero, List.set_cons_succ]
    refine take_at (i := 13) (v := ?_) rfl (by kernel_rfl) (by kernel_rfl) (by kernel_rfl) (fun _ _ _ h => h) (Or.inl ⟨by rfl, ?_⟩) hH ?_
    rotate_left
    · (intro w hSw; obtain ⟨q0, q1⟩ := hSw; go_simp; try with_reducible rfl)
    try simp only [Act.put, List.setIfInBounds_toArray, List.set_cons_zero, List.set_cons_succ]
    refine take_at (i := 15) (v := ?_) rfl (by kernel_rfl) (by kernel_rfl) (by kernel_rfl) (fun _ _ _ h => h) (Or.inl ⟨by rfl, ?_⟩) hH ?_
    rotate_left
    · (intro w hSw; obtain ⟨q0, q1⟩ := hSw; go_simp; try with_reducible rfl)
    try simp only [Act.put, List.setIfInBounds_toArray, List.set_cons_zero, List.set_cons_succ]
    refine take_at (i := 16) (v := ?_) rfl (by kernel_rfl) (by kernel_rfl) (by kernel_rfl) (fun _ _ _ h => h) (Or.inl ⟨by rfl, ?_⟩) hH ?_
    rotate_left
    · (intro w hSw; obtain ⟨q0, q1⟩ := hSw; go_simp; try with_reducible rfl)
    try simp only [Act.put, List.setIfInBounds_toArray, List.set_cons_zero, List.set_cons_succ]
    refine take_at (i := 17) (v := ?_) rfl (by kernel_rfl) (by kernel_rfl) (by kernel_rfl) (fun _ _ _ h => h) (Or.inl ⟨by rfl, ?_⟩) hH ?_
    rotate_left
    · (intro w hSw; obtain ⟨q0, q1⟩ := hSw; go_simp; try with_reducible rfl)
    try simp only [Act.put, List.setIfInBounds_toArray, List.set_cons_zero, List.set_cons_succ]
    refine take_at (i := 18) (v := ?_) rfl (by kernel_rfl) (by kernel_rfl) (by kernel_rfl) (fun _ _ _ h => h) (Or.inl ⟨by rfl, ?_⟩) hH ?_
    rotate_left
    · (intro w hSw; obtain ⟨q0, q1⟩ := hSw; go_simp; try with_reducible rfl)
    try simp only [Act.put, List.setIfInBounds_toArray, List.set_cons_zero, List.set_cons_succ]
    refine wpAnyH_ready (rs := [14]) (by kernel_rfl) (by simp) ?_
    refine ready_at rfl (fun K hK => ?_) AllReadyH.nil
    go_simp
    refine HQ.out.mono ?_
    rintro e w' ⟨rfl, rfl⟩
    go_wp2_with fail
    refine hK.out _ _ hH (fun _ => ?_)
    clear hK K
    try simp only [Act.put, List.setIfInBounds_toArray, List.set_cons_zero, List.set_cons_succ]
    refine take_at (i := 19) (v := ?_) rfl (by kernel_rfl) (by kernel_rfl) (by kernel_rfl) (fun _ _ _ h => h) (Or.inl ⟨by rfl, ?_⟩) hH ?_
    rotate_left
    · (intro w hSw; obtain ⟨q0, q1⟩ := hSw; go_simp; try with_reducible rfl)
    try simp only [Act.put, List.setIfInBounds_toArray, List.set_cons_zero, List.set_cons_succ]
    refine take_at (i := 20) (v := ?_) rfl (by kernel_rfl) (by kernel_rfl) (by kernel_rfl) (fun _ _ _ h => h) (Or.inl ⟨by rfl, ?_⟩) hH ?_
    rotate_left
    · (intro w hSw; obtain ⟨q0, q1⟩ := hSw; go_simp; try with_reducible rfl)
    try simp only [Act.put, List.setIfInBounds_toArray, List.set_cons_zero, List.set_cons_succ]
    refine wpAnyH_done (by kernel_rfl) ?_ _
    refine NoPanic.normal ?_
    clear hH
    go_wp2_with fail
    go_ret
    exact ⟨rfl, HJ.out.1, HJ.out.2.2.2⟩
  have hd : (sj != seq) = false := by simpa using hs
  have He : Hid (decide (sj = seq ∧ lj = ls) = decide (lj = ls)) := Lib.hid (by simp [hs])
  clear hs
  go_enter Tryd.func27, Tryd.ntmps27
  go_upto_region 1 with fail
  refine wp_region_noPanic ?_
  refine wp_region_held_drew (S := (fun W : World => W.cell? ⟨q, 0, none⟩ = some (.slice aq nb cq) ∧ W.cell? ⟨q, 1, none⟩ = some (.int .i64 seq))) (by kernel_rfl) hS0 (fun hH => ?_)
  refine take_at (i := 0) (v := ?_) rfl (by kernel_rfl) (by kernel_rfl) (by kernel_rfl) (fun _ _ _ h => h) (Or.inl ⟨by rfl, ?_⟩) hH ?_
  rotate_left
  · (intro w hSw; obtain ⟨q0, q1⟩ := hSw; go_simp; try with_reducible rfl)
  try simp only [Act.put, List.setIfInBounds_toArray, List.set_cons_zero, List.set_cons_succ]
  refine take_at (i := 1) (v := ?_) rfl (by kernel_rfl) (by kernel_rfl) (by kernel_rfl) (fun _ _ _ h => h) (Or.inl ⟨by rfl, ?_⟩) hH ?_
  rotate_left
  · (intro w hSw; obtain ⟨q0, q1⟩ := hSw; go_simp; try with_reducible rfl)
  try simp only [Act.put, List.setIfInBounds_toArray, List.set_cons_zero, List.set_cons_succ]
  refine take_at (i := 2) (v := ?_) rfl (by kernel_rfl) (by kernel_rfl) (by kernel_rfl) (fun _ _ _ h => h) (Or.inl ⟨by rfl, ?_⟩) hH ?_
  rotate_left
  · (intro w hSw; obtain ⟨q0, q1⟩ := hSw; go_simp; try with_reducible rfl)
  try simp only [Act.put, List.setIfInBounds_toArray, List.set_cons_zero, List.set_cons_succ]
  refine take_at (i := 3) (v := ?_) rfl (by kernel_rfl) (by kernel_rfl) (by kernel_rfl) (fun _ _ _ h => h) (Or.inl ⟨by rfl, ?_⟩) hH ?_
  rotate_left
  · (intro w hSw; obtain ⟨q0, q1⟩ := hSw; go_simp; try with_reducible rfl)
  try simp only [Act.put, List.setIfInBounds_toArray, List.set_cons_zero, List.set_cons_succ]
  refine take_at (i := 5) (v := ?_) rfl (by kernel_rfl) (by kernel_rfl) (by kernel_rfl) (fun _ _ _ h => h) (Or.inl ⟨by rfl, ?_⟩) hH ?_
  rotate_left
  · (intro w hSw; obtain ⟨q0, q1⟩ := hSw; go_simp; try with_reducible rfl)
  try simp only [Act.put, List.setIfInBounds_toArray, List.set_cons_zero, List.set_cons_succ]
  refine take_at (i := 6) (v := ?_) rfl (by kernel_rfl) (by kernel_rfl) (by kernel_rfl) (fun _ _ _ h => h) (Or.inl ⟨by rfl, ?_⟩) hH ?_
  rotate_left
  · (intro w hSw; obtain ⟨q0, q1⟩ := hSw; go_simp; try with_reducible rfl)
  try simp only [Act.put, List.setIfInBounds_toArray, List.set_cons_zero, List.set_cons_succ]
  refine take_at (i := 7) (v := ?_) rfl (by kernel_rfl) (by kernel_rfl) (by kernel_rfl) (fun _ _ _ h => h) (Or.inl ⟨by rfl, ?_⟩) hH ?_
  rotate_left
  · (intro w hSw; obtain ⟨q0, q1⟩ := hSw; go_simp; try with_reducible rfl)
  try simp only [Act.put, List.setIfInBounds_toArray, List.set_cons_zero, List.set_cons_succ]
  refine take_at (i := 8) (v := ?_) rfl (by kernel_rfl) (by kernel_rfl) (by kernel_rfl) (fun _ _ _ h => h) (Or.inl ⟨by rfl, ?_⟩) hH ?_
  rotate_left
  · (intro w hSw; obtain ⟨q0, q1⟩ := hSw; go_simp; try with_reducible rfl)
  try simp only [Act.put, List.setIfInBounds_toArray, List.set_cons_zero, List.set_cons_succ]
  refine take_at (i := 9) (v := ?_) rfl (by kernel_rfl) (by kernel_rfl) (by kernel_rfl) (fun _ _ _ h => h) (Or.inl ⟨by rfl, ?_⟩) hH ?_
  rotate_left
  · (intro w hSw; obtain ⟨q0, q1⟩ := hSw; go_simp; try with_reducible rfl)
  try simp only [Act.put, List.setIfInBounds_toArray, List.set_cons_zero, List.set_cons_succ]
  refine wpAnyH_ready (rs := [4]) (by kernel_rfl) (by simp) ?_
  refine ready_at rfl (fun K hK => ?_) AllReadyH.nil
  go_simp
  refine HB.out.mono ?_
  rintro e w' ⟨rfl, rfl⟩
  go_wp2_with fail
  refine hK.out _ _ hH (fun _ => ?_)
  clear hK K
  try simp only [Act.put, List.setIfInBounds_toArray, List.set_cons_zero, List.set_cons_succ]
  refine take_at (i := 10) (v := ?_) rfl (by kernel_rfl) (by kernel_rfl) (by kernel_rfl) (fun _ _ _ h => h) (Or.inl ⟨by rfl, ?_⟩) hH ?_
  rotate_left
  · (intro w hSw; obtain ⟨q0, q1⟩ := hSw; go_simp; try with_reducible rfl)
  try simp only [Act.put, List.setIfInBounds_toArray, List.set_cons_zero, List.set_cons_succ]
  refine take_at (i := 11) (v := ?_) rfl (by kernel_rfl) (by kernel_rfl) (by kernel_rfl) (fun _ _ _ h => h) (Or.inl ⟨by rfl, ?_⟩) hH ?_
  rotate_left
  · (intro w hSw; obtain ⟨q0, q1⟩ := hSw; go_simp; try with_reducible rfl)
  try simp only [Act.put, List.setIfInBounds_toArray, List.set_cons_zero, List.set_cons_succ]
  refine take_at (i := 12) (v := ?_) rfl (by kernel_rfl) (by kernel_rfl) (by kernel_rfl) (fun _ _ _ h => h) (Or.inl ⟨by rfl, ?_⟩) hH ?_
  rotate_left
  · (intro w hSw; obtain ⟨q0, q1⟩ := hSw; go_simp; try with_reducible rfl)
  try simp only [Act.put, List.setIfInBounds_toArray, List.set_cons_zero, List.set_cons_succ]
  refine take_at (i := 13) (v := ?_) rfl (by kernel_rfl) (by kernel_rfl) (by kernel_rfl) (fun _ _ _ h => h) (Or.inl ⟨by rfl, ?_⟩) hH ?_
  rotate_left
  · (intro w hSw; obtain ⟨q0, q1⟩ := hSw; go_simp; try with_reducible rfl)
  try simp only [Act.put, List.setIfInBounds_toArray, List.set_cons_zero, List.set_cons_succ]
  refine take_at (i := 15) (v := ?_) rfl (by kernel_rfl) (by kernel_rfl) (by kernel_rfl) (fun _ _ _ h => h) (Or.inl ⟨by rfl, ?_⟩) hH ?_
  rotate_left
  · (intro w hSw; obtain ⟨q0, q1⟩ := hSw; go_simp; try with_reducible rfl)
  try simp only [Act.put, List.setIfInBounds_toArray, List.set_cons_zero, List.set_cons_succ]
  refine take_at (i := 16) (v := ?_) rfl (by kernel_rfl) (by kernel_rfl) (by kernel_rfl) (fun _ _ _ h => h) (Or.inl ⟨by rfl, ?_⟩) hH ?_
  rotate_left
  · (intro w hSw; obtain ⟨q0, q1⟩ := hSw; go_simp; try with_reducible rfl)
  try simp only [Act.put, List.setIfInBounds_toArray, List.set_cons_zero, List.set_cons_succ]
  refine take_at (i := 17) (v := ?_) rfl (by kernel_rfl) (by kernel_rfl) (by kernel_rfl) (fun _ _ _ h => h) (Or.inl ⟨by rfl, ?_⟩) hH ?_
  rotate_left
  · (intro w hSw; obtain ⟨q0, q1⟩ := hSw; go_simp; try with_reducible rfl)
  try simp only [Act.put, List.setIfInBounds_toArray, List.set_cons_zero, List.set_cons_succ]
  refine take_at (i := 18) (v := ?_) rfl (by kernel_rfl) (by kernel_rfl) (by kernel_rfl) (fun _ _ _ h => h) (Or.inl ⟨by rfl, ?_⟩) hH ?_
  rotate_left
  · (intro w hSw; obtain ⟨q0, q1⟩ := hSw; go_simp; try with_reducible rfl)
  try simp only [Act.put, List.setIfInBounds_toArray, List.set_cons_zero, List.set_cons_succ]
  refine wpAnyH_ready (rs := [14]) (by kernel_rfl) (by simp) ?_
  refine ready_at rfl (fun K hK => ?_) AllReadyH.nil
  go_simp
  refine HQ.out.mono ?_
  rintro e w' ⟨rfl, rfl⟩
  go_wp2_with fail
  refine hK.out _ _ hH (fun _ => ?_)
  clear hK K
  try simp only [Act.put, List.setIfInBounds_toArray, List.set_cons_zero, List.set_cons_succ]
  refine take_at (i := 19) (v := ?_) rfl (by kernel_rfl) (by kernel_rfl) (by kernel_rfl) (fun _ _ _ h => h) (Or.inl ⟨by rfl, ?_⟩) hH ?_
  rotate_left
  · (intro w hSw; obtain ⟨q0, q1⟩ := hSw; go_simp; try with_reducible rfl)
  try simp only [Act.put, List.setIfInBounds_toArray, List.set_cons_zero, List.set_cons_succ]
  refine take_at (i := 20) (v := ?_) rfl (by kernel_rfl) (by kernel_rfl) (by kernel_rfl) (fun _ _ _ h => h) (Or.inl ⟨by rfl, ?_⟩) hH ?_
  rotate_left
  · (intro w hSw; obtain ⟨q0, q1⟩ := hSw; go_simp; try with_reducible rfl)
  try simp only [Act.put, List.setIfInBounds_toArray, List.set_cons_zero, List.set_cons_succ]
  refine wpAnyH_done (by kernel_rfl) ?_ _
  refine NoPanic.normal ?_
  clear hH
  go_wp2_with fail
  clear HB HQ hS0
  go_loopw [5] (fun x wr => ∃ i : Nat, i ≤ nb ∧ x = .int .i64 (i : Int) ∧ JAt wr F p J ∧ Nib wr ∧ RJ B wr q (.slice aq nb cq) ls seq ∧ Turned (JT F p) w wr ∧ ∀ k, k < i → lj[k]? = ls[k]?) (fun x _ => nb - (intOf x).toNat)
  case atStart => exact ⟨0, Nat.zero_le _, rfl, HJ.out.1, HJ.out.2.1, HJ.out.2.2.1, HJ.out.2.2.2, fun k hk => by omega⟩
  case round =>
    obtain ⟨i, hi, rfl, hj, hn, hr, ht, hall⟩ := hrel
    obtain ⟨q0, q1⟩ := rj_cells hr
    by_cases hlt : i < nb
    case neg =>
      obtain rfl : i = nb := by omega
      have hdz : decide ((i : Int) < (i : Int)) = false := by simp
      have e : decide (lj = ls) = true := decide_eq_true (by
        apply List.ext_getElem?
        intro k
        rcases Nat.lt_or_ge k i with h | h
        · exact hall k h
        · rw [List.getElem?_eq_none (by rw [Hl.out, ← Hnb.out]; exact h), List.getElem?_eq_none (by rw [← Hnb.out]; exact h)])
      have HE := Lib.hid (He.out.trans e)
      clear e hall
      go_wp2_with fail
      go_ret
      rw [HE.out]
      exact ⟨rfl, hj, ht⟩
    have hd1 : decide ((i : Int) < (nb : Int)) = true := decide_eq_true (by omega)
    have hi1 : i < lj.length := by rw [Hl.out, ← Hnb.out]; exact hlt
    have hi2 : i < ls.length := by rw [← Hnb.out]; exact hlt
    obtain ⟨gq, cq', hv, _, _, _⟩ := hr.rows.at (fun e => by rw [e] at hi2; simp at hi2)
    simp only [Value.slice.injEq] at hv
    have hgq := hv.1
    clear hv
    subst hgq
    have hrd := jread_any wr F p J hj hn (by omega) (i : Int) (by omega) (by omega)
    rw [live_get HLV.out hi1] at hrd
    have HRD := Lib.hid hrd
    have hb1 := H112j.out _ (List.getElem_mem hi1)
    have hb2 := H112.out _ (List.getElem_mem hi2)
    have HALL := Lib.hid hall
    clear hrd hall
    go_wp2_with fail
    refine HRD.out.mono ?_
    rintro e w4 ⟨u, rfl, hu, j4, t4⟩
    have hn4 := hn.turned hj t4
    have hr4 := hr.aside t4 hsep
    have hu := hu.now
    have hst := run_str (P := Tryd.prog) hu.drew 36 9 5 Tryd.underlying36 Tryd.underlying5 Tryd.underlying9
    obtain ⟨gq', cq'', hv, _, _, hcs⟩ := hr4.rows.at (fun e => by rw [e] at hi2; simp at hi2)
    simp only [Value.slice.injEq, Option.some.injEq, Addr.mk.injEq] at hv
    have hgq := hv.1.1
    clear hv
    subst hgq
    have hcj : w4.drew.cell? ⟨gq, i, none⟩ = _ := hcs i hi2
    have q0' : w4.drew.cell? ⟨q, 0, none⟩ = _ := (rj_cells hr4).1
    obtain ⟨ua2, uc2, hue, _, _⟩ := hu.form
    rw [hb1] at hue
    subst hue
    have HF : Hid (JAt w4.drew F p J ∧ Nib w4.drew ∧ RJ B w4.drew q (.slice (some ⟨gq, 0, none⟩) nb cq) ls seq ∧ Turned (JT F p) w w4.drew) := Lib.hid ⟨j4.drew, hn4, hr4.keep (fun _ _ _ => rfl), (ht.trans t4).drew⟩
    have hli : Hid (lj[i]? = some lj[i] ∧ ls[i]? = some ls[i]) := Lib.hid ⟨List.getElem?_eq_getElem hi1, List.getElem?_eq_getElem hi2⟩
    obtain ⟨bj, hbj⟩ : ∃ b, b = lj[i] := ⟨_, rfl⟩
    obtain ⟨bl, hbl⟩ : ∃ b, b = ls[i] := ⟨_, rfl⟩
    have HBJ := Lib.hid hbj
    have HBL := Lib.hid hbl
    rw [← hbj] at hst hb1
    rw [← hbl] at hcj hb2
    clear hcs hu j4 t4 hj hn hr ht hn4 hr4 q0 q1 HRD hbj hbl
    by_cases hbe : bj = bl
    · subst hbe
      have HN : Hid (∀ k, k < i + 1 → lj[k]? = ls[k]?) := Lib.hid (fun k hk => by
        by_cases he : k = i
        · rw [he, hli.out.1, hli.out.2, ← HBJ.out, ← HBL.out]
        · exact HALL.out k (by omega))
      go_wp2_with fail
      go_region
      go_wp2_with fail
      go_roundw
      case rel => exact ⟨i + 1, by omega, by go_num, HF.out.1, HF.out.2.1, HF.out.2.2.1, HF.out.2.2.2, HN.out⟩
      case measure => simp [intOf]; omega
    · have e : decide (lj = ls) = false := decide_eq_false (fun h => by
        have h1 := congrArg (fun l : List (List UInt8) => l[i]?) h
        change lj[i]? = ls[i]? at h1
        rw [hli.out.1, hli.out.2] at h1
        exact hbe (by rw [HBJ.out, HBL.out]; exact Option.some.inj h1))
      have HE := Lib.hid (He.out.trans e)
      have hne : (bj == bl) = false := by simpa using hbe
      clear e
      go_wp2_with fail
      go_region
      go_wp2_with fail
      go_ret
      rw [HE.out]
      exact ⟨rfl, HF.out.1, HF.out.2.2.2⟩
end Go.Proofs.YtoonlihacbbfdaaDoor

/- again: a journal that is opened behind a crash, and perhaps behind crashes in that. -/
set_option linter.unusedVariables false
set_option linter.unusedSimpArgs false
set_option maxRecDepth 100000
namespace Go.Proofs.YtoonlihacbbfdaaDoor
open Go.RowKit

/-- the cells of falls[i] -/
theorem fall_at {w : World} {a : Option Addr} {n cap : Nat} {xs : List FallJ} (h : IsRow rdFallJ w (.slice a n cap) xs) (i : Nat) (hi : i < xs.length) : ∃ b o va, a = some ⟨b, o, none⟩ ∧
    w.cell? ⟨b, o + i * 2, none⟩ = some (.int .i64 xs[i].cut) ∧ w.cell? ⟨b, o + i * 2 + 1, none⟩ = some va ∧ IsI w va xs[i].stay ∧ (-9223372036854775808 ≤ xs[i].cut ∧ xs[i].cut ≤ 9223372036854775807) := by
  obtain ⟨a', cap', hv, hl, hm, hn, _, hc⟩ := h
  simp only [Value.slice.injEq] at hv
  obtain ⟨rfl, _, rfl⟩ := hv
  cases a with
  | none => have := hn rfl; omega
  | some x =>
    obtain ⟨b, o, s⟩ := x
    obtain ⟨hs, hc⟩ := hc _ rfl
    obtain rfl : s = none := hs (by omega)
    obtain ⟨cs, ⟨c0, c1, he, ⟨e0, a0⟩, ⟨u1, e1, g1⟩⟩, h2⟩ := hc i hi
    simp only [List.cons.injEq, and_true] at e0 e1
    subst e0 e1 he
    exact ⟨b, o, c1, rfl, h2 0 _ rfl, h2 1 _ rfl, g1.isI.1, a0⟩
theorem DB.cutAt {B : Nat} {w0 w w' : World} {F : Ft} {D D' : Dk} (h : DB B w0 w F D) (hd : DkAt w' F D') (ht : Turned (· = F.p) w w') : DB B w0 w' F D' := h.turn hd (ht.mono fun _ _ e => .inl e)
theorem DB.crash {B : Nat} {w0 w w' : World} {F F' : Ft} {D D' : Dk} (h : DB B w0 w F D) (hd : DkAt w' F' D') (hn : F'.new w) (hb : Below w.heap.size w w') : DB B w0 w' F' D' :=
  ⟨hd, h.nib.below hb, h.below.trans (hb.mono h.base), fun k hk => Nat.le_trans h.base (hn k hk), Nat.le_trans h.base hb.size⟩
set_option maxHeartbeats 16000000 in
theorem again06_any (w0 w : World) (F : Ft) (D : Dk) (db : DB w0.heap.size w0 w F D) {n : Nat} {seq : Int} {Bk : List (List UInt8)} {top : Nat} (hf : Fresh n seq Bk top D) (v : Value) (xs : List FallJ) (hv : IsRow rdFallJ w0 v xs) :
    Calls Tryd.prog 25 #[F.ptr, v] w fun e w' => ∃ F' p' J', e = .returned (.tuple #[F'.ptr, jptr p', .bool true]) ∧ JB w0.heap.size w0 w' F' p' J' ∧ Live n J' seq Bk AllOk ∧ J'.last ≤ top ∧ J'.D.cut = -1 ∧ J'.D.ops ≤ (n - 2) / 2 + 1 ∧
      Turned F.has w w' ∧ ∀ k, JT F' p' k → F.has k ∨ w.heap.size ≤ k := by
  obtain ⟨a0, c0, rfl, hc0, hm0⟩ := hv.form
  have HV := Lib.hid hv
  generalize hB : w0.heap.size = B at *
  have HB := Lib.hid hB
  have HDB := Lib.hid (And.intro db hf)
  clear hv hB hf
  go_enter Tryd.func25, Tryd.ntmps25
  go_wp2_with fail
  go_loopw [0, 7] (fun y x wr => ∃ i : Nat, i ≤ xs.length ∧ i ≤ 4 ∧ x = .int .i64 (i : Int) ∧ ∃ F1 D1, y = F1.ptr ∧ DB B w0 wr F1 D1 ∧ Fresh n seq Bk top D1 ∧ Turned F.has w wr ∧ ∀ k, F1.has k → F.has k ∨ w.heap.size ≤ k) (fun _ x _ => 4 - (intOf x).toNat)
  case atStart => exact ⟨0, Nat.zero_le _, by omega, rfl, F, D, rfl, HDB.out.1, HDB.out.2, Turned.refl _ _, fun k hk => .inl hk⟩
  case round =>
    obtain ⟨i, hi, hi4, rfl, F1, D1, rfl, db1, hf1, ht1, hF1⟩ := hrel
    by_cases hlt : i < xs.length ∧ i < 4
    · obtain ⟨hlt, hlt2⟩ := hlt
      have hd1 : decide ((i : Int) < (xs.length : Int)) = true := decide_eq_true (by omega)
      have hd2 : decide ((i : Int) < 4) = true := decide_eq_true (by omega)
      obtain ⟨bs_, os_, vx, rfl, s0, s1, hix, hr1, hr2⟩ := fall_at HV.out i hlt
      have hS0 : (fun W : World => W.cell? ⟨bs_, os_ + i * 2, none⟩ = some (.int .i64 xs[i].cut)) wr.drew := cells_below (by rw [HB.out]; exact db1.below.drew) _ _ s0
      have HO := Lib.hid (ops_any wr.drew F1 D1 db1.dat.drew)
      have HP := Lib.hid (pick_any wr.drew xs[i].cut 50 hr1 hr2 (by omega) (by omega))
      have hpl := pickN_lt xs[i].cut (n := 50) (by omega)
      have hops := hf1.ops
      rw [hops] at HO
      have S0 := Lib.hid s0
      have S1 := Lib.hid s1
      have HIX := Lib.hid hix
      clear s0 s1 hix
      generalize xs[i].cut = cut at *
      generalize xs[i].stay = stay at *
      generalize pickN cut 50 = pk at *
      have db2 : DB B w0 wr.drew F1 D1 := db1.step (Below.refl _ _).drew
      have ht2 := ht1.drew
      have HC := Lib.hid (cutAt_any wr.drew F1 D1 db2.dat (pk : Int) (by omega) (by omega))
      obtain ⟨code, J, hoj, hcode, hfr⟩ := hf1.cut_open (pk : Int) (by omega) (by omega)
      have HFR := Lib.hid hfr
      have HOJ := Lib.hid hoj
      clear hfr hoj db1 ht1 hops
      have hwp : IntKind.i64.wrap (pk : Int) = (pk : Int) := IntWalk.i64_in _ (by omega)
      go_wp2_with fail
      refine wp_region_noPanic ?_
      refine wp_region_held_drew (S := (fun W : World => W.cell? ⟨bs_, os_ + i * 2, none⟩ = some (.int .i64 cut))) (by kernel_rfl) hS0 (fun hH => ?_)
      refine take_at (i := 0) (v := ?_) rfl (by kernel_rfl) (by kernel_rfl) (by kernel_rfl) (fun _ _ _ h => h) (Or.inl ⟨by rfl, ?_⟩) hH ?_
      rotate_left
      · (intro w hSw; have q0 := hSw; go_simp; try with_reducible rfl)
      try simp only [Act.put, List.setIfInBounds_toArray, List.set_cons_zero, List.set_cons_succ]
      refine take_at (i := 1) (v := ?_) rfl (by kernel_rfl) (by kernel_rfl) (by kernel_rfl) (fun _ _ _ h => h) (Or.inl ⟨by rfl, ?_⟩) hH ?_
      rotate_left
      · (intro w hSw; have q0 := hSw; go_simp; try with_reducible rfl)
      try simp only [Act.put, List.setIfInBounds_toArray, List.set_cons_zero, List.set_cons_succ]
      refine take_at (i := 3) (v := ?_) rfl (by kernel_rfl) (by kernel_rfl) (by kernel_rfl) (fun _ _ _ h => h) (Or.inl ⟨by rfl, ?_⟩) hH ?_
      rotate_left
      · (intro w hSw; have q0 := hSw; go_simp; try with_reducible rfl)
      try simp only [Act.put, List.setIfInBounds_toArray, List.set_cons_zero, List.set_cons_succ]
      refine take_at (i := 4) (v := ?_) rfl (by kernel_rfl) (by kernel_rfl) (by kernel_rfl) (fun _ _ _ h => h) (Or.inl ⟨by rfl, ?_⟩) hH ?_
      rotate_left
      · (intro w hSw; have q0 := hSw; go_simp; try with_reducible rfl)
      try simp only [Act.put, List.setIfInBounds_toArray, List.set_cons_zero, List.set_cons_succ]
      refine take_at (i := 5) (v := ?_) rfl (by kernel_rfl) (by kernel_rfl) (by kernel_rfl) (fun _ _ _ h => h) (Or.inl ⟨by rfl, ?_⟩) hH ?_
      rotate_left
      · (intro w hSw; have q0 := hSw; go_simp; try with_reducible rfl)
      try simp only [Act.put, List.setIfInBounds_toArray, List.set_cons_zero, List.set_cons_succ]
      refine take_at (i := 6) (v := ?_) rfl (by kernel_rfl) (by kernel_rfl) (by kernel_rfl) (fun _ _ _ h => h) (Or.inl ⟨by rfl, ?_⟩) hH ?_
      rotate_left
      · (intro w hSw; have q0 := hSw; go_simp; try with_reducible rfl)
      try simp only [Act.put, List.setIfInBounds_toArray, List.set_cons_zero, List.set_cons_succ]
      refine take_at (i := 7) (v := ?_) rfl (by kernel_rfl) (by kernel_rfl) (by kernel_rfl) (fun _ _ _ h => h) (Or.inl ⟨by rfl, ?_⟩) hH ?_
      rotate_left
      · (intro w hSw; have q0 := hSw; go_simp; try with_reducible rfl)
      try simp only [Act.put, List.setIfInBounds_toArray, List.set_cons_zero, List.set_cons_succ]
      refine wpAnyH_ready (rs := [2]) (by kernel_rfl) (by simp) ?_
      refine ready_at rfl (fun K hK => ?_) AllReadyH.nil
      go_simp
      refine HO.out.mono ?_
      rintro e w' ⟨rfl, rfl⟩
      go_wp2_with fail
      refine hK.out _ _ hH (fun _ => ?_)
      clear hK K
      try simp only [Act.put, List.setIfInBounds_toArray, List.set_cons_zero, List.set_cons_succ]
      refine wpAnyH_ready (rs := [8]) (by kernel_rfl) (by simp) ?_
      refine ready_at rfl (fun K hK => ?_) AllReadyH.nil
      go_simp
      refine HP.out.mono ?_
      rintro e w' ⟨rfl, rfl⟩
      go_wp2_with fail
      refine hK.out _ _ hH (fun _ => ?_)
      clear hK K
      try simp only [Act.put, List.setIfInBounds_toArray, List.set_cons_zero, List.set_cons_succ]
      refine take_at (i := 9) (v := ?_) rfl (by kernel_rfl) (by kernel_rfl) (by kernel_rfl) (fun _ _ _ h => h) (Or.inl ⟨by rfl, ?_⟩) hH ?_
      rotate_left
      · (intro w hSw; have q0 := hSw; go_simp; try with_reducible rfl)
      try simp only [Act.put, List.setIfInBounds_toArray, List.set_cons_zero, List.set_cons_succ]
      refine wpAnyH_ready (rs := [10]) (by kernel_rfl) (by simp) ?_
      refine ready_at rfl (fun K hK => ?_) AllReadyH.nil
      go_simp
      refine HC.out.mono ?_
      rintro e w3 ⟨rfl, d3, t3⟩
      have db3 := db2.cutAt d3 t3
      have ht3 := ht2.then (t3.mono fun _ _ e => Or.inl e) (fun k hk hh => (hF1 k hh).resolve_right (fun e => by omega))
      have hHn : w3.cell? ⟨bs_, os_ + i * 2, none⟩ = some (.int .i64 cut) := cells_below (by rw [HB.out]; exact db3.below) _ _ S0.out
      clear d3 t3 db2 ht2 hH
      go_wp2_with fail
      refine hK.out _ _ hHn (fun hH => ?_)
      clear hHn
      clear hK K
      try simp only [Act.put, List.setIfInBounds_toArray, List.set_cons_zero, List.set_cons_succ]
      refine wpAnyH_done (by kernel_rfl) ?_ _
      refine NoPanic.normal ?_
      clear hH
      rcases hcode with rfl | rfl
      all_goals
        go_wp2_with fail
      · refine (open_good w3 F1 _ db3.dat db3.nib HOJ.out).mono ?_
        rintro e w4 ⟨p4, rfl, j4, hp4, t4⟩
        have db4 := (JB.of db3 j4 hp4 t4).disk
        have ht4 := ht3.then t4 (fun k hk hh => (hF1 k hh).resolve_right (fun e => by omega))
        clear j4 hp4 t4 db3 ht3
        have c1 := cells_below (by rw [HB.out]; exact db4.below) _ _ S1.out
        have hcr := crash_any w4 F1 J.D db4.dat vx stay (HIX.out.below (by rw [HB.out]; exact db4.below))
        go_wp2_with fail
        refine hcr.mono ?_
        rintro e w5 ⟨F5, rfl, d5, hn5, hb5⟩
        have db5 := db4.crash d5 hn5 hb5
        have ht5 := ht4.trans (Turned.of_below hb5)
        have hs5 := ht4.size
        have HF := Lib.hid (HFR.out stay)
        clear hcr d5 hb5 db4 ht4 c1
        go_wp2_with fail
        go_roundw
        case rel => exact ⟨i + 1, by omega, by omega, by go_num, F5, _, rfl, db5, HF.out, ht5, fun k hk => .inr (Nat.le_trans hs5 (hn5 k hk))⟩
        case measure => simp [intOf]; omega
      · refine (open_not w3 F1 _ db3.dat db3.nib HOJ.out (by decide)).mono ?_
        rintro e w4 ⟨rfl, d4, t4⟩
        have db4 := db3.turn d4 t4
        have ht4 := ht3.then t4 (fun k hk hh => (hF1 k hh).resolve_right (fun e => by omega))
        clear d4 t4 db3 ht3
        have c1 := cells_below (by rw [HB.out]; exact db4.below) _ _ S1.out
        have hcr := crash_any w4 F1 J.D db4.dat vx stay (HIX.out.below (by rw [HB.out]; exact db4.below))
        go_wp2_with fail
        refine hcr.mono ?_
        rintro e w5 ⟨F5, rfl, d5, hn5, hb5⟩
        have db5 := db4.crash d5 hn5 hb5
        have ht5 := ht4.trans (Turned.of_below hb5)
        have hs5 := ht4.size
        have HF := Lib.hid (HFR.out stay)
        clear hcr d5 hb5 db4 ht4 c1
        go_wp2_with fail
        go_roundw
        case rel => exact ⟨i + 1, by omega, by omega, by go_num, F5, _, rfl, db5, HF.out, ht5, fun k hk => .inr (Nat.le_trans hs5 (hn5 k hk))⟩
        case measure => simp [intOf]; omega
    · obtain ⟨J, hoj, hlv, hla, hcu, hop⟩ := hf1.opens
      have HOJ := Lib.hid hoj
      have HR := Lib.hid (And.intro hlv (And.intro hla (And.intro hcu hop)))
      clear hoj hlv hla hcu hop
      have hcase : (i < xs.length ∧ ¬ i < 4 ∧ decide ((i : Int) < (xs.length : Int)) = true ∧ decide ((i : Int) < 4) = false) ∨ (¬ i < xs.length ∧ decide ((i : Int) < (xs.length : Int)) = false) := by
        by_cases hl1 : i < xs.length
        · exact .inl ⟨hl1, by omega, decide_eq_true (by omega), decide_eq_false (by omega)⟩
        · exact .inr ⟨hl1, decide_eq_false (by omega)⟩
      clear hlt
      rcases hcase with ⟨hl1, hl2, hd1, hd2⟩ | ⟨hl1, hd1⟩
      all_goals
        go_wp2_with fail
        refine (open_good wr F1 D1 db1.dat db1.nib HOJ.out).mono ?_
        rintro e w4 ⟨p4, rfl, j4, hp4, t4⟩
        have jb4 := JB.of db1 j4 hp4 t4
        have ht4 := ht1.then t4 (fun k hk hh => (hF1 k hh).resolve_right (fun e => by omega))
        have hs1 := ht1.size
        clear j4 t4 db1 ht1
        go_wp2_with fail
        go_ret3
        obtain ⟨r1, r2, r3, r4⟩ := HR.out
        exact ⟨F1, p4, J, rfl, jb4, r1, r2, r3, r4, ht4, fun k hk => by
          rcases hk with hk | rfl
          · exact hF1 k hk
          · exact .inr (by omega)⟩
end Go.Proofs.YtoonlihacbbfdaaDoor

/- What a script's region reads. -/
set_option linter.unusedVariables false
set_option linter.unusedSimpArgs false
set_option maxRecDepth 100000
namespace Go.Proofs.YtoonlihacbbfdaaDoor
open Go.RowKit

/-- an op of the script, the document's blocks -/
def ScrAt (b o i q : Nat) (c0 c1 c2 c3 v : Value) (W : World) : Prop :=
  W.cell? ⟨b, o + i * 4, none⟩ = some c0 ∧ W.cell? ⟨b, o + i * 4 + 1, none⟩ = some c1 ∧ W.cell? ⟨b, o + i * 4 + 2, none⟩ = some c2 ∧ W.cell? ⟨b, o + i * 4 + 3, none⟩ = some c3 ∧ W.cell? ⟨q, 0, none⟩ = some v
theorem ScrAt.below {b o i q : Nat} {c0 c1 c2 c3 v : Value} {W W' : World} (h : ScrAt b o i q c0 c1 c2 c3 v W) (hb : Below W.heap.size W W') : ScrAt b o i q c0 c1 c2 c3 v W' :=
  ⟨cells_below hb _ _ h.1, cells_below hb _ _ h.2.1, cells_below hb _ _ h.2.2.1, cells_below hb _ _ h.2.2.2.1, cells_below hb _ _ h.2.2.2.2⟩
end Go.Proofs.YtoonlihacbbfdaaDoor

/- JournalLasts: behind a crash at any operation a journal has all writes that were answered, and the one under way wholly or not at all. -/
set_option linter.unusedVariables false
set_option linter.unusedSimpArgs false
set_option maxRecDepth 100000
namespace Go.Proofs.YtoonlihacbbfdaaDoor
open Go.RowKit

/-- the life where it was laid -/
abbrev lifeRow (vs : Value) (cut : Int) (vi vf : Value) : Obj := .cells #[vs, .int .i64 cut, vi, vf] 56 (0, 0)
theorem life_cells {W : World} {g : Nat} {vs vi vf : Value} {cut : Int} (h : W.heap[g]? = some (lifeRow vs cut vi vf)) :
    W.cell? ⟨g, 0, none⟩ = some vs ∧ W.cell? ⟨g, 1, none⟩ = some (.int .i64 cut) ∧ W.cell? ⟨g, 2, none⟩ = some vi ∧ W.cell? ⟨g, 3, none⟩ = some vf := by
  refine ⟨?_, ?_, ?_, ?_⟩ <;> · rw [cell_of_row _ _ _ _ _ _ h]; rfl
/-- the state of a life: what a crash would leave -/
structure Near (n : Nat) (J : Jn) (ls : List (List UInt8)) (seq : Int) (lt : List (List UInt8)) (st : Int) (top : Nat) (off : Bool) : Prop where
  ok : J.D.Ok
  hn : J.D.n = n
  crash : ∀ stay, Fresh n seq ls top (J.D.crash stay) ∨ Fresh n st lt top (J.D.crash stay)
  live : off = false → Live n J seq ls AllOk
  gone : off = true → J.off = 43
theorem Near.of_live {n : Nat} {J : Jn} {seq : Int} {ls : List (List UInt8)} {top : Nat} (h : Live n J seq ls AllOk) (hl : J.last ≤ top) (ht : top < 4611686018427387904) (lt : List (List UInt8)) (st : Int) : Near n J ls seq lt st top false :=
  ⟨h.dok, h.hn, fun stay => .inl (h.fresh hl ht stay), fun _ => h, fun e => by cases e⟩
set_option maxHeartbeats 16000000 in
theorem lasts_walk (w : World) (hn : Nib w) (sec_ : Int) (va : Value) (xs : List LifeJ) (hva : IsRow rdLifeJ w va xs)
    (hs1 : -9223372036854775808 ≤ sec_) (hs2 : sec_ ≤ 9223372036854775807) :
    Calls Tryd.prog 6 #[.int .i64 sec_, va] w fun e w' => e = .returned (.bool true) ∧ Below w.heap.size w w' := by
  obtain ⟨a0, c0, rfl, hc0, hm0⟩ := hva.form
  unfold maxLen at hm0
  have HVA := Lib.hid hva
  have HSZ := Lib.hid (fun w : World => size_any w sec_ hs1 hs2)
  have hsz := pickN_lt sec_ (n := 60) (by omega)
  obtain ⟨n, hnn⟩ : ∃ n, n = 32 + pickN sec_ 60 := ⟨_, rfl⟩
  rw [← hnn] at HSZ
  have hn32 : 32 ≤ n := by omega
  have hn92 : n ≤ 92 := by omega
  have hgw : 0 < w.heap.size := World.block_lt_of_cell? w _ (hn 0 (by omega))
  clear hva hs1 hs2 hsz hnn
  generalize hg0 : w.heap.size = g0 at *
  have Hg0 := Lib.hid hg0
  clear hg0
  go_enter Tryd.func6, Tryd.ntmps6
  go_wp2_with fail
  refine (shown06_any w hn).mono ?_
  rintro e W2 ⟨rfl, hb2⟩
  have hn2 := hn.below hb2
  go_wp2_with fail
  refine (HSZ.out W2).mono ?_
  rintro e w' ⟨rfl, rfl⟩
  go_wp2_with fail
  refine (begun06_any W2 hn2 n hn32 (by omega)).mono ?_
  rintro e W3 ⟨F, p, q, v, J, B2, rfl, jb, lv, hl1, hcut, hops, hrj, hsep, hB2⟩
  have jr : JR g0 B2 w W3 F p J q v (zeroB n) 0 := ⟨jb.from (by rw [← Hg0.out]; exact hb2) (by rw [← Hg0.out]; exact hb2.size), hrj, (fun k h1 h2 => by have := hsep k h1; have := (hrj.rt_low k h2).1; omega), Nat.le_trans (by rw [← Hg0.out]; exact hb2.size) hB2, hgw⟩
  have jr0 : JR g0 g0 w W3 F p J q v (zeroB n) 0 := ⟨jr.jb, jr.rj.lower jr.low, jr.sep, Nat.le_refl _, jr.nib⟩
  clear jb hrj hsep hB2 hn2 hb2 hn jr
  have hzl : (zeroB n).length = (n - 2) / 2 := by simp [zeroB]
  have HH : Hid (Live n J 0 (zeroB n) AllOk ∧ Rows06 n (zeroB n)) := Lib.hid ⟨lv, lv.rows⟩
  clear lv hzl
  go_wp2_with fail
  go_loopw [6, 7, 8, 9] (fun y6 y7 y8 x wr => ∃ i : Nat, i ≤ xs.length ∧ i ≤ 5 ∧ x = .int .i64 (i : Int) ∧ ∃ F p J q v ls seq, y6 = Ft.ptr F ∧ y7 = jptr p ∧ y8 = rjp q ∧ JR g0 g0 w wr F p J q v ls seq ∧ Live n J seq ls AllOk ∧ Rows06 n ls ∧ J.last ≤ 1 + 30 * i ∧ J.D.ops ≤ 400 ∧ 0 ≤ seq ∧ seq ≤ 30 * (i : Int)) (fun _ _ _ x _ => 5 - (intOf x).toNat)
  case atStart => exact ⟨0, Nat.zero_le _, by omega, rfl, F, p, J, q, v, _, _, rfl, rfl, rfl, jr0, HH.out.1, HH.out.2, by omega, by omega, by omega, by omega⟩
  case round =>
    clear jr0 HH hcut hops hl1
    obtain ⟨i, hi, hi5, rfl, F, p, J, q, v, ls, seq, rfl, rfl, rfl, jr, lv, hll, hla, hop, hsq0, hsq1⟩ := hrel
    by_cases hlt : i < xs.length ∧ i < 5
    case neg =>
      have hcase : (i < xs.length ∧ ¬ i < 5 ∧ decide ((i : Int) < (xs.length : Int)) = true ∧ decide ((i : Int) < 5) = false) ∨ (¬ i < xs.length ∧ decide ((i : Int) < (xs.length : Int)) = false) := by
        by_cases hl1 : i < xs.length
        · exact .inl ⟨hl1, by omega, decide_eq_true (by omega), decide_eq_false (by omega)⟩
        · exact .inr ⟨hl1, decide_eq_false (by omega)⟩
      clear hlt
      rcases hcase with ⟨hl1, hl2, hd1, hd2⟩ | ⟨hl1, hd1⟩
      all_goals
        go_wp2_with fail
        go_ret
        exact ⟨rfl, jr.jb.below⟩
    obtain ⟨hlt, hlt5⟩ := hlt
    have hd1 : decide ((i : Int) < (xs.length : Int)) = true := decide_eq_true (by omega)
    have hd2 : decide ((i : Int) < 5) = true := decide_eq_true (by omega)
    obtain ⟨bs_, os_, vs, vi, vf, rfl, s0, s1, s2, s3, hsc, ⟨hc1, hc2⟩, hst, hfa⟩ := life_at HVA.out i hlt
    have hbw : Below w.heap.size w wr := by rw [Hg0.out]; exact jr.jb.below
    have t0 := cells_below hbw _ _ s0
    have t1 := cells_below hbw _ _ s1
    have t2 := cells_below hbw _ _ s2
    have t3 := cells_below hbw _ _ s3
    obtain ⟨as_, cs_, hvs, hcs1, hcs2⟩ := hsc.form
    obtain ⟨ai, ci, hvi, _, _⟩ := hst.form
    obtain ⟨af, cf, hvf, _, _⟩ := hfa.form
    subst hvs hvi hvf
    have HSC := Lib.hid hsc
    have HST := Lib.hid hst
    have HFA := Lib.hid hfa
    clear s0 s1 s2 s3 hsc hst hfa hbw
    generalize xs[i].cut = cut at *
    generalize xs[i].stay = stay at *
    generalize xs[i].again = falls at *
    generalize xs[i].script = scr at *
    go_upto_region 9 with fail
    obtain ⟨W1, hW1⟩ : ∃ W1, W1 = wr.alloc (.cells #[.slice as_ scr.length cs_, .int .i64 cut, .slice ai stay.length ci, .slice af falls.length cf] 56) := ⟨_, rfl⟩
    have hgl : W1.heap[wr.heap.size]? = some (lifeRow (.slice as_ scr.length cs_) cut (.slice ai stay.length ci) (.slice af falls.length cf)) := by rw [hW1]; exact heap_alloc_new wr _
    have hbL : Below wr.heap.size wr W1 := by rw [hW1]; exact (Below.refl _ _).alloc (Nat.le_refl _) _
    have hjltL := jr.jlt
    have hrltL : ∀ k, RT q v k → k < wr.heap.size := fun k hk => (jr.rj.rt_low k hk).2
    have jr1 := jr.step hbL
    rw [← hW1]
    clear hW1 hbL jr t0 t1 t2 t3
    obtain ⟨gl, hgL⟩ : ∃ gl, gl = wr.heap.size := ⟨_, rfl⟩
    rw [← hgL] at hgl hjltL hrltL ⊢
    have hlr : (fun W : World => W.heap[gl]? = some (lifeRow (.slice as_ scr.length cs_) cut (.slice ai stay.length ci) (.slice af falls.length cf))) W1.drew := hgl
    have jr2 := jr1.step (Below.refl _ _).drew
    clear jr1 hgl hgL
    have hops2 := lv.dok.ops
    have HO := Lib.hid (ops_any W1.drew F J.D jr2.jb.jat.disk)
    have HP := Lib.hid (pick_any W1.drew cut 400 hc1 hc2 (by omega) (by omega))
    have hpl := pickN_lt cut (n := 400) (by omega)
    generalize pickN cut 400 = pk at *
    have HC := Lib.hid (cutAt_any W1.drew F J.D jr2.jb.jat.disk ((J.D.ops : Int) + (pk : Int)) (by omega) (by omega))
    have hwp : IntKind.i64.wrap ((J.D.ops : Int) + (pk : Int)) = (J.D.ops : Int) + (pk : Int) := IntWalk.i64_in _ (by omega)
    refine wp_region_noPanic ?_
    refine wp_region_held_drew (S := (fun W : World => W.heap[gl]? = some (lifeRow (.slice as_ scr.length cs_) cut (.slice ai stay.length ci) (.slice af falls.length cf)))) (by kernel_rfl) hlr (fun hH => ?_)
    refine take_at (i := 0) (v := ?_) rfl (by kernel_rfl) (by kernel_rfl) (by kernel_rfl) (fun _ _ _ h => h) (Or.inl ⟨by rfl, ?_⟩) hH ?_
    rotate_left
    · (intro w hSw; obtain ⟨z0, z1, z2, z3⟩ := life_cells hSw; go_simp; try with_reducible rfl)
    try simp only [Act.put, List.setIfInBounds_toArray, List.set_cons_zero, List.set_cons_succ]
    refine take_at (i := 1) (v := ?_) rfl (by kernel_rfl) (by kernel_rfl) (by kernel_rfl) (fun _ _ _ h => h) (Or.inl ⟨by rfl, ?_⟩) hH ?_
    rotate_left
    · (intro w hSw; obtain ⟨z0, z1, z2, z3⟩ := life_cells hSw; go_simp; try with_reducible rfl)
    try simp only [Act.put, List.setIfInBounds_toArray, List.set_cons_zero, List.set_cons_succ]
    refine take_at (i := 3) (v := ?_) rfl (by kernel_rfl) (by kernel_rfl) (by kernel_rfl) (fun _ _ _ h => h) (Or.inl ⟨by rfl, ?_⟩) hH ?_
    rotate_left
    · (intro w hSw; obtain ⟨z0, z1, z2, z3⟩ := life_cells hSw; go_simp; try with_reducible rfl)
    try simp only [Act.put, List.setIfInBounds_toArray, List.set_cons_zero, List.set_cons_succ]
    refine take_at (i := 4) (v := ?_) rfl (by kernel_rfl) (by kernel_rfl) (by kernel_rfl) (fun _ _ _ h => h) (Or.inl ⟨by rfl, ?_⟩) hH ?_
    rotate_left
    · (intro w hSw; obtain ⟨z0, z1, z2, z3⟩ := life_cells hSw; go_simp; try with_reducible rfl)
    try simp only [Act.put, List.setIfInBounds_toArray, List.set_cons_zero, List.set_cons_succ]
    refine wpAnyH_ready (rs := [2]) (by kernel_rfl) (by simp) ?_
    refine ready_at rfl (fun K hK => ?_) AllReadyH.nil
    go_simp
    refine HO.out.mono ?_
    rintro e w' ⟨rfl, rfl⟩
    go_wp2_with fail
    refine hK.out _ _ hH (fun _ => ?_)
    clear hK K
    try simp only [Act.put, List.setIfInBounds_toArray, List.set_cons_zero, List.set_cons_succ]
    refine wpAnyH_ready (rs := [5]) (by kernel_rfl) (by simp) ?_
    refine ready_at rfl (fun K hK => ?_) AllReadyH.nil
    go_simp
    refine HP.out.mono ?_
    rintro e w' ⟨rfl, rfl⟩
    go_wp2_with fail
    refine hK.out _ _ hH (fun _ => ?_)
    clear hK K
    try simp only [Act.put, List.setIfInBounds_toArray, List.set_cons_zero, List.set_cons_succ]
    refine take_at (i := 6) (v := ?_) rfl (by kernel_rfl) (by kernel_rfl) (by kernel_rfl) (fun _ _ _ h => h) (Or.inl ⟨by rfl, ?_⟩) hH ?_
    rotate_left
    · (intro w hSw; obtain ⟨z0, z1, z2, z3⟩ := life_cells hSw; go_simp; try with_reducible rfl)
    try simp only [Act.put, List.setIfInBounds_toArray, List.set_cons_zero, List.set_cons_succ]
    refine wpAnyH_ready (rs := [7]) (by kernel_rfl) (by simp) ?_
    refine ready_at rfl (fun K hK => ?_) AllReadyH.nil
    go_simp
    refine HC.out.mono ?_
    rintro e W3 ⟨rfl, d3, t3⟩
    have jr3 := jr2.turnJ (J' := { J with D := { J.D with cut := (J.D.ops : Int) + (pk : Int), off := false } }) (jr2.jb.jat.put_disk d3 (t3.mono fun _ _ e => .inl e)) (t3.mono fun _ _ e => .inl (.inl e))
    have hHn := (t3.block gl (lt_of_heap hH) (fun e => by have := hjltL gl (.inl (.inl e)); omega)).trans hH
    clear d3 t3 jr2 hH
    go_wp2_with fail
    refine hK.out _ _ hHn (fun hlr3 => ?_)
    clear hHn
    clear hK K
    try simp only [Act.put, List.setIfInBounds_toArray, List.set_cons_zero, List.set_cons_succ]
    refine wpAnyH_done (by kernel_rfl) ?_ _
    refine NoPanic.normal ?_
    have lv3 := lv.cutAt ((J.D.ops : Int) + (pk : Int)) (by omega) (by omega)
    have hla3 : ({ J with D := { J.D with cut := (J.D.ops : Int) + (pk : Int), off := false } } : Jn).last ≤ 1 + 30 * i := hla
    have hop3 : ({ J with D := { J.D with cut := (J.D.ops : Int) + (pk : Int), off := false } } : Jn).D.ops ≤ 400 := hop
    clear lv hla hop HO HP HC hwp hlr
    generalize ({ J with D := { J.D with cut := (J.D.ops : Int) + (pk : Int), off := false } } : Jn) = J3 at *
    clear hops2 hpl
    have HRC := Lib.hid (rclone_any W3 jr3.rj (by rw [hll.1]; omega))
    go_wp2_with fail
    refine HRC.out.mono ?_
    rintro e W4 ⟨q4, v4, rfl, r4, hb4⟩
    have jrr4 := jr3.copied r4 hb4
    have hlr4 := (hb4.block gl (lt_of_heap hlr3)).trans hlr3
    have hq4 : ∀ k, RT q4 v4 k → gl < k := fun k hk => by have := (r4.rt_low k hk).1; have := lt_of_heap hlr3; omega
    obtain ⟨top, htop⟩ : ∃ top, top = 1 + 30 * (i + 1) := ⟨_, rfl⟩
    have hnear := Near.of_live (top := top) lv3 (by omega) (by omega) ls seq
    have HROW := Lib.hid hll
    clear r4 hb4 HRC hlr3 jr3 hll
    go_wp2_with fail
    go_loopw [11, 12, 13] (fun y11 y12 y13 wr => ∃ k : Nat, k ≤ scr.length ∧ k ≤ 25 ∧ y13 = .int .i64 (k : Int) ∧ ∃ off J ls seq q2 v2 lt st, y12 = .bool off ∧ y11 = rjp q2 ∧ JRR g0 w wr F p J q v ls seq q2 v2 lt st ∧ wr.heap[gl]? = some (lifeRow (.slice as_ scr.length cs_) cut (.slice ai stay.length ci) (.slice af falls.length cf)) ∧
      (∀ k, RT q2 v2 k → gl < k) ∧ Near n J ls seq lt st top off ∧ Rows06 n ls ∧ Rows06 n lt ∧ J.last ≤ 1 + 30 * i + k ∧ J.D.ops ≤ 400 + 100 * k ∧ 0 ≤ seq ∧ seq ≤ 30 * (i : Int) + (k : Int) ∧ 0 ≤ st ∧ st ≤ 30 * (i : Int) + (k : Int)) (fun _ _ y13 _ => 25 - (intOf y13).toNat)
    case atStart => exact ⟨0, Nat.zero_le _, by omega, rfl, false, J3, ls, seq, q4, v4, ls, seq, rfl, rfl, jrr4, hlr4, hq4, hnear, HROW.out, HROW.out, by omega, by omega, by omega, by omega, by omega, by omega⟩
    case round =>
      clear jrr4 hlr4 hq4 hnear HROW hla3 hop3 lv3
      obtain ⟨k, hk, hk25, rfl, off, J, ls, seq, q2, v2, lt, st, rfl, rfl, jrr, hlr, hq2, hnear, hrow, hrowt, hla, hop, hsq0, hsq1, hst0, hst1⟩ := hrel
      obtain ⟨z0, z1, z2, z3⟩ := life_cells hlr
      by_cases hgo : k < scr.length ∧ k < 25 ∧ off = false
      case pos =>
        obtain ⟨hk1, hk2, rfl⟩ := hgo
        have hd3 : decide ((k : Int) < (scr.length : Int)) = true := decide_eq_true (by omega)
        have hd4 : decide ((k : Int) < 25) = true := decide_eq_true (by omega)
        have lv := hnear.live rfl
        obtain ⟨bo, oo, vx, rfl, s0, s1, s2, s3, hix, hzx, hr1, hr2⟩ := script_at (HSC.out.below (by rw [Hg0.out]; exact jrr.jb.below)) k hk1
        obtain ⟨aq, cq, rfl, hcq, hmq⟩ := jrr.r.form
        obtain ⟨q0, q1⟩ := rj_cells jrr.r
        have hjlt : ∀ k, JT F p k → k < wr.drew.heap.size := fun k hk => jrr.jb.jat.lt hk
        have hjgl : ∀ k, JT F p k → k < gl := hjltL
        have hrgl : ∀ k, RT q (.slice aq ls.length cq) k → k < gl := hrltL
        have hrlt : ∀ k, RT q (.slice aq ls.length cq) k → k < wr.drew.heap.size := fun k hk => (jrr.r.rt_low k hk).2
        have hS0 : (fun W : World => ScrAt bo oo k q (.int .i64 scr[k].kind) vx (.int .u8 (scr[k].by_.toNat : Int)) (.int .i64 scr[k].raw) (.slice aq ls.length cq) W ∧ W.heap[gl]? = some (lifeRow (.slice (some ⟨bo, oo, none⟩) scr.length cs_) cut (.slice ai stay.length ci) (.slice af falls.length cf))) wr.drew := ⟨⟨s0, s1, s2, s3, q0⟩, hlr⟩
        have jrr1 := jrr.step (Below.refl _ _).drew
        replace hix : IsI wr.drew _ _ := hix
        clear s0 s1 s2 s3 q0 q1 jrr hlr
        generalize scr[k] = x at *
        have hnb0 : 0 < ls.length := by rw [hrow.1]; omega
        have hnb8 : ls.length ≤ 8191 := by rw [hrow.1]; omega
        have HROW := Lib.hid hrow
        have HROWT := Lib.hid hrowt
        have HLV := Lib.hid lv
        have HNEAR := Lib.hid hnear
        have hJn := lv.hn
        have hJs := lv.hseq
        clear hrow hrowt lv hnear
        go_upto_region 15 with fail
        clear z0 z1 z2 z3
        refine wp_region_noPanic ?_
        refine wp_region_held_drew (S := (fun W : World => ScrAt bo oo k q (.int .i64 x.kind) vx (.int .u8 (x.by_.toNat : Int)) (.int .i64 x.raw) (.slice aq ls.length cq) W ∧ W.heap[gl]? = some (lifeRow (.slice (some ⟨bo, oo, none⟩) scr.length cs_) cut (.slice ai stay.length ci) (.slice af falls.length cf)))) (by kernel_rfl) hS0 (fun hH => ?_)
        refine take_at (i := 0) (v := ?_) rfl (by kernel_rfl) (by kernel_rfl) (by kernel_rfl) (fun _ _ _ h => h) (Or.inl ⟨by rfl, ?_⟩) hH ?_
        rotate_left
        · (intro w hSw; obtain ⟨⟨q0, q1, q2, q3, q4⟩, ql⟩ := hSw; obtain ⟨z0, z1, z2, z3⟩ := life_cells ql; go_simp; try with_reducible rfl)
        try simp only [Act.put, List.setIfInBounds_toArray, List.set_cons_zero, List.set_cons_succ]
        refine take_at (i := 1) (v := ?_) rfl (by kernel_rfl) (by kernel_rfl) (by kernel_rfl) (fun _ _ _ h => h) (Or.inl ⟨by rfl, ?_⟩) hH ?_
        rotate_left
        · (intro w hSw; obtain ⟨⟨q0, q1, q2, q3, q4⟩, ql⟩ := hSw; obtain ⟨z0, z1, z2, z3⟩ := life_cells ql; go_simp; try with_reducible rfl)
        try simp only [Act.put, List.setIfInBounds_toArray, List.set_cons_zero, List.set_cons_succ]
        refine take_at (i := 2) (v := ?_) rfl (by kernel_rfl) (by kernel_rfl) (by kernel_rfl) (fun _ _ _ h => h) (Or.inl ⟨by rfl, ?_⟩) hH ?_
        rotate_left
        · (intro w hSw; obtain ⟨⟨q0, q1, q2, q3, q4⟩, ql⟩ := hSw; obtain ⟨z0, z1, z2, z3⟩ := life_cells ql; go_simp; try with_reducible rfl)
        try simp only [Act.put, List.setIfInBounds_toArray, List.set_cons_zero, List.set_cons_succ]
        refine take_at (i := 3) (v := ?_) rfl (by kernel_rfl) (by kernel_rfl) (by kernel_rfl) (fun _ _ _ h => h) (Or.inl ⟨by rfl, ?_⟩) hH ?_
        rotate_left
        · (intro w hSw; obtain ⟨⟨q0, q1, q2, q3, q4⟩, ql⟩ := hSw; obtain ⟨z0, z1, z2, z3⟩ := life_cells ql; go_simp; try with_reducible rfl)
        try simp only [Act.put, List.setIfInBounds_toArray, List.set_cons_zero, List.set_cons_succ]
        refine take_at (i := 4) (v := ?_) rfl (by kernel_rfl) (by kernel_rfl) (by kernel_rfl) (fun _ _ _ h => h) (Or.inl ⟨by rfl, ?_⟩) hH ?_
        rotate_left
        · (intro w hSw; obtain ⟨⟨q0, q1, q2, q3, q4⟩, ql⟩ := hSw; obtain ⟨z0, z1, z2, z3⟩ := life_cells ql; go_simp; try with_reducible rfl)
        try simp only [Act.put, List.setIfInBounds_toArray, List.set_cons_zero, List.set_cons_succ]
        refine take_at (i := 5) (v := ?_) rfl (by kernel_rfl) (by kernel_rfl) (by kernel_rfl) (fun _ _ _ h => h) (Or.inl ⟨by rfl, ?_⟩) hH ?_
        rotate_left
        · (intro w hSw; obtain ⟨⟨q0, q1, q2, q3, q4⟩, ql⟩ := hSw; obtain ⟨z0, z1, z2, z3⟩ := life_cells ql; go_simp; try with_reducible rfl)
        try simp only [Act.put, List.setIfInBounds_toArray, List.set_cons_zero, List.set_cons_succ]
        refine take_at (i := 6) (v := ?_) rfl (by kernel_rfl) (by kernel_rfl) (by kernel_rfl) (fun _ _ _ h => h) (Or.inl ⟨by rfl, ?_⟩) hH ?_
        rotate_left
        · (intro w hSw; obtain ⟨⟨q0, q1, q2, q3, q4⟩, ql⟩ := hSw; obtain ⟨z0, z1, z2, z3⟩ := life_cells ql; go_simp; try with_reducible rfl)
        try simp only [Act.put, List.setIfInBounds_toArray, List.set_cons_zero, List.set_cons_succ]
        refine take_at (i := 7) (v := ?_) rfl (by kernel_rfl) (by kernel_rfl) (by kernel_rfl) (fun _ _ _ h => h) (Or.inl ⟨by rfl, ?_⟩) hH ?_
        rotate_left
        · (intro w hSw; obtain ⟨⟨q0, q1, q2, q3, q4⟩, ql⟩ := hSw; obtain ⟨z0, z1, z2, z3⟩ := life_cells ql; go_simp; try with_reducible rfl)
        try simp only [Act.put, List.setIfInBounds_toArray, List.set_cons_zero, List.set_cons_succ]
        refine take_at (i := 8) (v := ?_) rfl (by kernel_rfl) (by kernel_rfl) (by kernel_rfl) (fun _ _ _ h => h) (Or.inl ⟨by rfl, ?_⟩) hH ?_
        rotate_left
        · (intro w hSw; obtain ⟨⟨q0, q1, q2, q3, q4⟩, ql⟩ := hSw; obtain ⟨z0, z1, z2, z3⟩ := life_cells ql; go_simp; try with_reducible rfl)
        try simp only [Act.put, List.setIfInBounds_toArray, List.set_cons_zero, List.set_cons_succ]
        refine take_at (i := 9) (v := ?_) rfl (by kernel_rfl) (by kernel_rfl) (by kernel_rfl) (fun _ _ _ h => h) (Or.inl ⟨by rfl, ?_⟩) hH ?_
        rotate_left
        · (intro w hSw; obtain ⟨⟨q0, q1, q2, q3, q4⟩, ql⟩ := hSw; obtain ⟨z0, z1, z2, z3⟩ := life_cells ql; go_simp; try with_reducible rfl)
        try simp only [Act.put, List.setIfInBounds_toArray, List.set_cons_zero, List.set_cons_succ]
        refine wpAnyH_ready (rs := [10]) (by kernel_rfl) (by simp) ?_
        refine ready_at rfl (fun K hK => ?_) AllReadyH.nil
        go_simp
        refine (blocks06_any _ x.kind _ x.by_ x.raw x.at_ ls.length hix hr1 hr2 hnb0 (by omega) hzx).mono ?_
        rintro e W5 ⟨u, v5, rfl, hmi5, hml5, hb5⟩
        have hHn := And.intro (hH.1.below hb5) ((hb5.block gl (lt_of_heap hH.2)).trans hH.2)
        have jrr5 := jrr1.step hb5
        have hh5 : Held wr.drew.heap.size W5 (fun w => IsI w u (blk x.raw x.by_ ls.length x.at_).1 ∧ IsBs w v5 (blk x.raw x.by_ ls.length x.at_).2) := fun w2 h2 => ⟨hmi5.held w2 h2, hml5.held w2 h2⟩
        have hsz5 := hb5.size
        clear hmi5 hml5 hb5 hH jrr1 hix
        go_wp2_with fail
        refine hK.out _ _ hHn (fun hH => ?_)
        clear hHn
        clear hK K
        try simp only [Act.put, List.setIfInBounds_toArray, List.set_cons_zero, List.set_cons_succ]
        refine take_at (i := 11) (v := ?_) rfl (by kernel_rfl) (by kernel_rfl) (by kernel_rfl) (fun _ _ _ h => h) (Or.inl ⟨by rfl, ?_⟩) hH ?_
        rotate_left
        · (intro w hSw; obtain ⟨⟨q0, q1, q2, q3, q4⟩, ql⟩ := hSw; obtain ⟨z0, z1, z2, z3⟩ := life_cells ql; go_simp; try with_reducible rfl)
        try simp only [Act.put, List.setIfInBounds_toArray, List.set_cons_zero, List.set_cons_succ]
        refine take_at (i := 12) (v := ?_) rfl (by kernel_rfl) (by kernel_rfl) (by kernel_rfl) (fun _ _ _ h => h) (Or.inl ⟨by rfl, ?_⟩) hH ?_
        rotate_left
        · (intro w hSw; obtain ⟨⟨q0, q1, q2, q3, q4⟩, ql⟩ := hSw; obtain ⟨z0, z1, z2, z3⟩ := life_cells ql; go_simp; try with_reducible rfl)
        try simp only [Act.put, List.setIfInBounds_toArray, List.set_cons_zero, List.set_cons_succ]
        refine take_at (i := 13) (v := ?_) rfl (by kernel_rfl) (by kernel_rfl) (by kernel_rfl) (fun _ _ _ h => h) (Or.inl ⟨by rfl, ?_⟩) hH ?_
        rotate_left
        · (intro w hSw; obtain ⟨⟨q0, q1, q2, q3, q4⟩, ql⟩ := hSw; obtain ⟨z0, z1, z2, z3⟩ := life_cells ql; go_simp; try with_reducible rfl)
        try simp only [Act.put, List.setIfInBounds_toArray, List.set_cons_zero, List.set_cons_succ]
        refine take_at (i := 14) (v := ?_) rfl (by kernel_rfl) (by kernel_rfl) (by kernel_rfl) (fun _ _ _ h => h) (Or.inl ⟨by rfl, ?_⟩) hH ?_
        rotate_left
        · (intro w hSw; obtain ⟨⟨q0, q1, q2, q3, q4⟩, ql⟩ := hSw; obtain ⟨z0, z1, z2, z3⟩ := life_cells ql; go_simp; try with_reducible rfl)
        try simp only [Act.put, List.setIfInBounds_toArray, List.set_cons_zero, List.set_cons_succ]
        refine take_at (i := 15) (v := ?_) rfl (by kernel_rfl) (by kernel_rfl) (by kernel_rfl) (fun _ _ _ h => h) (Or.inl ⟨by rfl, ?_⟩) hH ?_
        rotate_left
        · (intro w hSw; obtain ⟨⟨q0, q1, q2, q3, q4⟩, ql⟩ := hSw; obtain ⟨z0, z1, z2, z3⟩ := life_cells ql; go_simp; try with_reducible rfl)
        try simp only [Act.put, List.setIfInBounds_toArray, List.set_cons_zero, List.set_cons_succ]
        refine wpAnyH_done (by kernel_rfl) ?_ _
        refine NoPanic.normal ?_
        have hlr5 := hH.2
        clear hH
        have hzi := blk_ints (raw := x.raw) (by_ := x.by_) hnb0 (by omega) hzx
        have hsh := blk_short x.raw x.by_ ls.length x.at_
        generalize blk x.raw x.by_ ls.length x.at_ = bk at *
        have HRF := Lib.hid (refused_any W5 jrr5.r _ bk.1 hh5.now.1 _ bk.2 hh5.now.2 hnb8 hzi)
        go_wp2_with fail
        refine HRF.out.mono ?_
        rintro e W6 ⟨rfl, hb6⟩
        have jrr6 := jrr5.step hb6
        have hh6 := hh5.below hb6
        have hlr6 := (hb6.block gl (lt_of_heap hlr5)).trans hlr5
        have hsz6 := Nat.le_trans hsz5 hb6.size
        clear HRF hb6 jrr5 hh5 hlr5 hsz5
        have cw := cut_write HLV.out bk.1 bk.2 (top := top) (by omega) (by omega) (by omega)
        have hwr := jwrite_any W6 F p J jrr6.jb.jat jrr6.jb.nib (by omega) _ bk.1 (fun w' ht => ((hh6.turned ht hjlt).now).1) _ bk.2 (fun w' ht => ((hh6.turned ht hjlt).now).2) hzi (by omega) (by omega) (by omega)
        have hsqw := write_seq J bk.1 bk.2
        generalize (J.write bk.1 bk.2).2 = J' at *
        generalize (J.write bk.1 bk.2).1 = c at *
        have hcl := cw.last
        have hco := cw.ops
        have HWR := Lib.hid hwr
        have HCW := Lib.hid cw.ends
        clear cw hwr
        go_wp2_with fail
        refine HWR.out.mono ?_
        rintro e W7 ⟨rfl, j7, t7⟩
        have jrr7 := jrr6.turnJ j7 t7
        have hh7 := hh6.turned t7 hjlt
        have hlr7 := (t7.block gl (lt_of_heap hlr6) (fun e => by have := hjgl gl e; omega)).trans hlr6
        have hsz7 := Nat.le_trans hsz6 t7.size
        clear HWR j7 t7 jrr6 hh6 hlr6 hsz6
        rcases HCW.out with ⟨hc, hl'⟩ | ⟨hc, hw0, hoff, hok', hn', hcr⟩
        · have h02 : refE ls.length bk.1 bk.2 = 0 ∨ refE ls.length bk.1 bk.2 = 2 := by
            rw [refE]
            split
            · exact .inl rfl
            · exact .inr rfl
          subst hc
          have HL' := Lib.hid hl'
          clear hl' HCW
          have HRW := Lib.hid (rwrite_any W7 jrr7.r _ bk.1 (fun w' ht => ((hh7.turned ht hrlt).now).1) _ bk.2 (fun w' ht => ((hh7.turned ht hrlt).now).2) hnb8 hzi (by omega) (by omega))
          have hrs := refS_range ls.length seq bk.1 bk.2
          have hgr : ¬ RT q (.slice aq ls.length cq) gl := fun e => by have := hrgl gl e; omega
          generalize refE ls.length bk.1 bk.2 = rE at *
          rcases h02 with rfl | rfl
          all_goals
            go_wp2_with fail
            refine HRW.out.mono ?_
            rintro e W8 ⟨rfl, r8, t8⟩
            have jrr8 := jrr7.turnR r8 t8
            have hlr8 := (t8.block gl (lt_of_heap hlr7) hgr).trans hlr7
            clear HRW r8 t8 jrr7 hh7 hlr7 hsz7
            have HRC := Lib.hid (rclone_any W8 jrr8.r (by rw [refB_length]; exact hnb8))
            go_wp2_with fail
            refine HRC.out.mono ?_
            rintro e W9 ⟨q9, v9, rfl, r9, hb9⟩
            have jrr9 := jrr8.copied r9 hb9
            have hlr9 := (hb9.block gl (lt_of_heap hlr8)).trans hlr8
            have hq9 : ∀ k, RT q9 v9 k → gl < k := fun k hk => by have := (r9.rt_low k hk).1; have := lt_of_heap hlr8; omega
            have hn9 := Near.of_live (top := top) HL'.out (by omega) (by omega) (refB ls bk.1 bk.2) (refS ls.length seq bk.1 bk.2)
            clear HRC r9 hb9 jrr8 hlr8
            go_wp2_with fail
            go_roundw
            case rel => exact ⟨k + 1, by omega, by omega, by go_num, false, J', _, _, q9, v9, _, _, rfl, rfl, jrr9, hlr9, hq9, hn9, HROW.out.refB _ _, HROW.out.refB _ _, by omega, by omega, by omega, by omega, by omega, by omega⟩
            case measure => simp [intOf]; omega
        · have hnear7 : Near n J' ls seq (refB ls bk.1 bk.2) (refS ls.length seq bk.1 bk.2) top true := ⟨hok', hn', hcr, (fun e => by cases e), fun _ => hoff⟩
          have HN := Lib.hid hnear7
          have Hoff := Lib.hid hoff
          have hrs := refS_range ls.length seq bk.1 bk.2
          have HHn := Lib.hid hn'
          generalize refE ls.length bk.1 bk.2 = rE at *
          subst hw0 hc
          have hgr : ∀ k, RT q (.slice aq ls.length cq) k → k ≠ gl := fun k hk e => by have := hrgl k hk; omega
          have HRC := Lib.hid (rclone_any W7 jrr7.r hnb8)
          clear HCW hnear7 hcr hok' hoff
          go_wp2_with fail
          refine HRC.out.mono ?_
          rintro e W8 ⟨q8, v8, rfl, r8, hb8⟩
          have jrr8 := jrr7.copied r8 hb8
          have hlr8 := (hb8.block gl (lt_of_heap hlr7)).trans hlr7
          have hgl8 := lt_of_heap hlr7
          have hq8 : ∀ k, RT q8 v8 k → W7.heap.size ≤ k := fun k hk => (r8.rt_low k hk).1
          have hk8 : ∀ w', Turned (RT q8 v8) W8 w' → IsI w' u bk.1 ∧ IsBs w' v5 bk.2 := fun w' ht => hh7 w' fun k hk1 hk2 =>
            (ht.block k (Nat.lt_of_lt_of_le hk2 hb8.size) (fun e => by have := hq8 k e; omega)).trans (hb8.block k hk2)
          clear HRC r8 jrr7 hh7 hlr7 hsz7
          have HRW := Lib.hid (rwrite_any W8 jrr8.t _ bk.1 (fun w' ht => (hk8 w' ht).1) _ bk.2 (fun w' ht => (hk8 w' ht).2) hnb8 hzi (by omega) (by omega))
          clear hb8 hk8
          go_wp2_with fail
          refine HRW.out.mono ?_
          rintro e W9 ⟨rfl, r9, t9⟩
          have jrr9 := jrr8.turnT r9 t9
          have hlr9 := (t9.block gl (lt_of_heap hlr8) (fun e => by have := hq8 gl e; omega)).trans hlr8
          clear HRW r9 t9 jrr8 hlr8
          have hrd := jread_any W9 F p J' jrr9.jb.jat jrr9.jb.nib (by rw [HHn.out]; omega) 0 (by omega) (by omega)
          rw [read_off Hoff.out] at hrd
          have HRD := Lib.hid hrd
          clear hrd
          go_wp2_with fail
          refine HRD.out.mono ?_
          rintro e W10 ⟨u10, rfl, _, j10, t10⟩
          have jrr10 := jrr9.turnJ j10 t10
          have hlr10 := (t10.block gl (lt_of_heap hlr9) (fun e => by have := hjgl gl e; omega)).trans hlr9
          clear HRD j10 t10 jrr9 hlr9
          have hwn := jwrite_any W10 F p J' jrr10.jb.jat jrr10.jb.nib (by rw [HHn.out]; omega) (.slice none 0 0) [] (fun w' _ => IsI.nil w') (.slice none 0 0) [] (fun w' _ => ⟨none, 0, rfl, Nat.le_refl _, by simp [maxLen], fun _ => rfl, fun x h => by cases h⟩) (fun z h => by cases h) (by omega) (by omega) (by omega)
          rw [write_off Hoff.out] at hwn
          have HWN := Lib.hid hwn
          clear hwn
          go_wp2_with fail
          refine HWN.out.mono ?_
          rintro e W11 ⟨rfl, j11, t11⟩
          have jrr11 := jrr10.turnJ j11 t11
          have hlr11 := (t11.block gl (lt_of_heap hlr10) (fun e => by have := hjgl gl e; omega)).trans hlr10
          have hq11 : ∀ k, RT q8 v8 k → gl < k := fun k hk => by have := hq8 k hk; omega
          clear HWN j11 t11 jrr10 hlr10
          go_wp2_with fail
          go_roundw
          case rel => exact ⟨k + 1, by omega, by omega, by go_num, true, J', _, _, q8, v8, _, _, rfl, rfl, jrr11, hlr11, hq11, HN.out, HROW.out, HROW.out.refB _ _, by omega, by omega, by omega, by omega, by omega, by omega⟩
          case measure => simp [intOf]; omega
      case neg =>
        have hcase : (k < scr.length ∧ k < 25 ∧ off = true ∧ decide ((k : Int) < (scr.length : Int)) = true ∧ decide ((k : Int) < 25) = true) ∨ (k < scr.length ∧ ¬ k < 25 ∧ decide ((k : Int) < (scr.length : Int)) = true ∧ decide ((k : Int) < 25) = false) ∨ (¬ k < scr.length ∧ decide ((k : Int) < (scr.length : Int)) = false) := by
          by_cases h1 : k < scr.length
          · by_cases h2 : k < 25
            · refine .inl ⟨h1, h2, ?_, decide_eq_true (by omega), decide_eq_true (by omega)⟩
              cases off with
              | true => rfl
              | false => exact absurd ⟨h1, h2, rfl⟩ hgo
            · exact .inr (.inl ⟨h1, h2, decide_eq_true (by omega), decide_eq_false (by omega)⟩)
          · exact .inr (.inr ⟨h1, decide_eq_false (by omega)⟩)
        obtain ⟨lx, sx, hfx, hor⟩ : ∃ lx sx, Fresh n sx lx top (J.D.crash stay) ∧ ((lx = ls ∧ sx = seq) ∨ (lx = lt ∧ sx = st)) := by
          rcases hnear.crash stay with h | h
          · exact ⟨ls, seq, h, .inl ⟨rfl, rfl⟩⟩
          · exact ⟨lt, st, h, .inr ⟨rfl, rfl⟩⟩
        have HFX := Lib.hid hfx
        have HOR := Lib.hid hor
        have HROW := Lib.hid hrow
        have HROWT := Lib.hid hrowt
        have jrr1 := jrr.step (Below.refl _ _).drew
        have hlr1 : (fun W : World => W.heap[gl]? = some (lifeRow (.slice as_ scr.length cs_) cut (.slice ai stay.length ci) (.slice af falls.length cf))) wr.drew := hlr
        have hsgl : gl < wr.drew.heap.size := lt_of_heap hlr
        have hst1 : IsI wr.drew (.slice ai stay.length ci) stay := HST.out.below (by rw [Hg0.out]; exact jrr1.jb.below)
        have HCR := Lib.hid (crash_any wr.drew F J.D jrr1.jb.jat.disk _ stay hst1)
        have HST2 := Lib.hid (And.intro hst0 hst1)
        clear hnear hgo hfx hor hrow hrowt jrr hlr hst1
        rcases hcase with ⟨h1, h2, rfl, hd3, hd4⟩ | ⟨h1, h2, hd3, hd4⟩ | ⟨h1, hd3⟩
        all_goals
          go_upto_region 30 with fail
          clear z0 z1 z2 z3
          refine wp_region_noPanic ?_
          refine wp_region_held_drew (S := (fun W : World => W.heap[gl]? = some (lifeRow (.slice as_ scr.length cs_) cut (.slice ai stay.length ci) (.slice af falls.length cf)))) (by kernel_rfl) hlr1 (fun hH => ?_)
          refine take_at (i := 0) (v := ?_) rfl (by kernel_rfl) (by kernel_rfl) (by kernel_rfl) (fun _ _ _ h => h) (Or.inl ⟨by rfl, ?_⟩) hH ?_
          rotate_left
          · (intro w hSw; obtain ⟨z0, z1, z2, z3⟩ := life_cells hSw; go_simp; try with_reducible rfl)
          try simp only [Act.put, List.setIfInBounds_toArray, List.set_cons_zero, List.set_cons_succ]
          refine take_at (i := 1) (v := ?_) rfl (by kernel_rfl) (by kernel_rfl) (by kernel_rfl) (fun _ _ _ h => h) (Or.inl ⟨by rfl, ?_⟩) hH ?_
          rotate_left
          · (intro w hSw; obtain ⟨z0, z1, z2, z3⟩ := life_cells hSw; go_simp; try with_reducible rfl)
          try simp only [Act.put, List.setIfInBounds_toArray, List.set_cons_zero, List.set_cons_succ]
          refine take_at (i := 2) (v := ?_) rfl (by kernel_rfl) (by kernel_rfl) (by kernel_rfl) (fun _ _ _ h => h) (Or.inl ⟨by rfl, ?_⟩) hH ?_
          rotate_left
          · (intro w hSw; obtain ⟨z0, z1, z2, z3⟩ := life_cells hSw; go_simp; try with_reducible rfl)
          try simp only [Act.put, List.setIfInBounds_toArray, List.set_cons_zero, List.set_cons_succ]
          refine take_at (i := 4) (v := ?_) rfl (by kernel_rfl) (by kernel_rfl) (by kernel_rfl) (fun _ _ _ h => h) (Or.inl ⟨by rfl, ?_⟩) hH ?_
          rotate_left
          · (intro w hSw; obtain ⟨z0, z1, z2, z3⟩ := life_cells hSw; go_simp; try with_reducible rfl)
          try simp only [Act.put, List.setIfInBounds_toArray, List.set_cons_zero, List.set_cons_succ]
          refine take_at (i := 5) (v := ?_) rfl (by kernel_rfl) (by kernel_rfl) (by kernel_rfl) (fun _ _ _ h => h) (Or.inl ⟨by rfl, ?_⟩) hH ?_
          rotate_left
          · (intro w hSw; obtain ⟨z0, z1, z2, z3⟩ := life_cells hSw; go_simp; try with_reducible rfl)
          try simp only [Act.put, List.setIfInBounds_toArray, List.set_cons_zero, List.set_cons_succ]
          refine wpAnyH_ready (rs := [3]) (by kernel_rfl) (by simp) ?_
          refine ready_at rfl (fun K hK => ?_) AllReadyH.nil
          go_simp
          refine HCR.out.mono ?_
          rintro e W12 ⟨F2, rfl, d12, hn12, hb12⟩
          have db12 := jrr1.jb.disk.crash d12 hn12 hb12
          have r12 := jrr1.r.below hb12
          have t12 := jrr1.t.below hb12
          have hHn := (hb12.block gl (lt_of_heap hH)).trans hH
          clear d12 hH HCR
          go_wp2_with fail
          refine hK.out _ _ hHn (fun hH => ?_)
          clear hHn
          clear hK K
          try simp only [Act.put, List.setIfInBounds_toArray, List.set_cons_zero, List.set_cons_succ]
          refine wpAnyH_ready (rs := [6]) (by kernel_rfl) (by simp) ?_
          refine ready_at rfl (fun K hK => ?_) AllReadyH.nil
          go_simp
          refine (again06_any w W12 F2 _ (by rw [Hg0.out]; exact db12) HFX.out _ falls HFA.out).mono ?_
          rintro e W13 ⟨F3, p3, J3, rfl, jb13, lv13, hla13, hcu13, hop13, t13, hjt13⟩
          have hHn := (t13.block gl (lt_of_heap hH) (fun e => by have := hn12 gl e; have := hsgl; omega)).trans hH
          clear hH
          go_wp2_with fail
          refine hK.out _ _ hHn (fun hH => ?_)
          clear hHn
          clear hK K
          try simp only [Act.put, List.setIfInBounds_toArray, List.set_cons_zero, List.set_cons_succ]
          refine take_at (i := 7) (v := ?_) rfl (by kernel_rfl) (by kernel_rfl) (by kernel_rfl) (fun _ _ _ h => h) (Or.inl ⟨by rfl, ?_⟩) hH ?_
          rotate_left
          · (intro w hSw; obtain ⟨z0, z1, z2, z3⟩ := life_cells hSw; go_simp; try with_reducible rfl)
          try simp only [Act.put, List.setIfInBounds_toArray, List.set_cons_zero, List.set_cons_succ]
          refine take_at (i := 8) (v := ?_) rfl (by kernel_rfl) (by kernel_rfl) (by kernel_rfl) (fun _ _ _ h => h) (Or.inl ⟨by rfl, ?_⟩) hH ?_
          rotate_left
          · (intro w hSw; obtain ⟨z0, z1, z2, z3⟩ := life_cells hSw; go_simp; try with_reducible rfl)
          try simp only [Act.put, List.setIfInBounds_toArray, List.set_cons_zero, List.set_cons_succ]
          refine take_at (i := 9) (v := ?_) rfl (by kernel_rfl) (by kernel_rfl) (by kernel_rfl) (fun _ _ _ h => h) (Or.inl ⟨by rfl, ?_⟩) hH ?_
          rotate_left
          · (intro w hSw; obtain ⟨z0, z1, z2, z3⟩ := life_cells hSw; go_simp; try with_reducible rfl)
          try simp only [Act.put, List.setIfInBounds_toArray, List.set_cons_zero, List.set_cons_succ]
          refine take_at (i := 10) (v := ?_) rfl (by kernel_rfl) (by kernel_rfl) (by kernel_rfl) (fun _ _ _ h => h) (Or.inl ⟨by rfl, ?_⟩) hH ?_
          rotate_left
          · (intro w hSw; obtain ⟨z0, z1, z2, z3⟩ := life_cells hSw; go_simp; try with_reducible rfl)
          try simp only [Act.put, List.setIfInBounds_toArray, List.set_cons_zero, List.set_cons_succ]
          refine take_at (i := 11) (v := ?_) rfl (by kernel_rfl) (by kernel_rfl) (by kernel_rfl) (fun _ _ _ h => h) (Or.inl ⟨by rfl, ?_⟩) hH ?_
          rotate_left
          · (intro w hSw; obtain ⟨z0, z1, z2, z3⟩ := life_cells hSw; go_simp; try with_reducible rfl)
          try simp only [Act.put, List.setIfInBounds_toArray, List.set_cons_zero, List.set_cons_succ]
          refine take_at (i := 12) (v := ?_) rfl (by kernel_rfl) (by kernel_rfl) (by kernel_rfl) (fun _ _ _ h => h) (Or.inl ⟨by rfl, ?_⟩) hH ?_
          rotate_left
          · (intro w hSw; obtain ⟨z0, z1, z2, z3⟩ := life_cells hSw; go_simp; try with_reducible rfl)
          try simp only [Act.put, List.setIfInBounds_toArray, List.set_cons_zero, List.set_cons_succ]
          refine take_at (i := 13) (v := ?_) rfl (by kernel_rfl) (by kernel_rfl) (by kernel_rfl) (fun _ _ _ h => h) (Or.inl ⟨by rfl, ?_⟩) hH ?_
          rotate_left
          · (intro w hSw; obtain ⟨z0, z1, z2, z3⟩ := life_cells hSw; go_simp; try with_reducible rfl)
          try simp only [Act.put, List.setIfInBounds_toArray, List.set_cons_zero, List.set_cons_succ]
          refine wpAnyH_done (by kernel_rfl) ?_ _
          refine NoPanic.normal ?_
          clear hH
          rw [Hg0.out] at jb13
          have hnew : ∀ k, JT F3 p3 k → wr.drew.heap.size ≤ k := fun k hk => by
            rcases hjt13 k hk with h | h
            · exact hn12 k h
            · exact Nat.le_trans hb12.size h
          have hrl : ∀ k, RT q v k → k < wr.drew.heap.size := fun k hk => (jrr1.r.rt_low k hk).2
          have htl : ∀ k, RT q2 v2 k → k < wr.drew.heap.size := fun k hk => (jrr1.t.rt_low k hk).2
          have r13 := r12.aside t13 (fun k hk e => by have := hn12 k hk; have := hrl k e; omega)
          have r13t := t12.aside t13 (fun k hk e => by have := hn12 k hk; have := htl k e; omega)
          have jrr13 : JRR g0 w W13 F3 p3 J3 q v ls seq q2 v2 lt st := ⟨jb13, r13, r13t, fun k h1 h2 => by have := hnew k h1; have := hrl k h2; omega, fun k h1 h2 => by have := hnew k h1; have := htl k h2; omega, jrr1.s3, jrr1.nib⟩
          have HLV := Lib.hid lv13
          clear jb13 r13 r13t r12 t12 t13 hn12 hb12 hjt13 hnew hrl htl jrr1 db12 lv13 hsgl
          have HHA := Lib.hid (has06_any W13 jrr13.jb.jat jrr13.jb.nib HLV.out (by omega) (by omega) jrr13.r HROW.out.1 HROW.out.2 jrr13.s1)
          go_wp2_with fail
          refine HHA.out.mono ?_
          rintro e W14 ⟨rfl, j14, t14⟩
          have jrr14 := jrr13.turnJ j14 t14
          clear HHA j14 t14 jrr13
          by_cases hsame : sx = seq ∧ lx = ls
          · have hds : decide (sx = seq ∧ lx = ls) = true := decide_eq_true hsame
            have HJR : Hid (JR g0 g0 w W14 F3 p3 J3 q v ls seq ∧ Live n J3 seq ls AllOk) := Lib.hid ⟨⟨jrr14.jb, jrr14.r, jrr14.s1, Nat.le_refl _, jrr14.nib⟩, by
              have h := HLV.out
              rw [hsame.1, hsame.2] at h
              exact h⟩
            clear hsame jrr14
            go_wp2_with fail
            go_roundw
            case rel => exact ⟨i + 1, by omega, by omega, by go_num, F3, p3, J3, q, v, _, _, rfl, rfl, rfl, HJR.out.1, HJR.out.2, HROW.out, by omega, by omega, by omega, by omega⟩
            case measure => simp [intOf]; omega
          · have hds : decide (sx = seq ∧ lx = ls) = false := decide_eq_false hsame
            have ho := HOR.out.resolve_left (fun h => hsame ⟨h.2, h.1⟩)
            have hds2 : decide (sx = st ∧ lx = lt) = true := decide_eq_true ⟨ho.2, ho.1⟩
            have HHB := Lib.hid (has06_any W14 jrr14.jb.jat jrr14.jb.nib HLV.out (by omega) (by omega) jrr14.t HROWT.out.1 HROWT.out.2 jrr14.s2)
            have Hho := Lib.hid ho
            clear hsame ho
            go_wp2_with fail
            refine HHB.out.mono ?_
            rintro e W15 ⟨rfl, j15, t15⟩
            have jrr15 := jrr14.turnJ j15 t15
            have HJR : Hid (JR g0 g0 w W15 F3 p3 J3 q2 v2 lt st ∧ Live n J3 st lt AllOk) := Lib.hid ⟨⟨jrr15.jb, jrr15.t, jrr15.s2, Nat.le_refl _, jrr15.nib⟩, by
              have h := HLV.out
              rw [Hho.out.1, Hho.out.2] at h
              exact h⟩
            clear HHB j15 t15 jrr14 jrr15
            go_wp2_with fail
            go_roundw
            case rel => exact ⟨i + 1, by omega, by omega, by go_num, F3, p3, J3, q2, v2, _, _, rfl, rfl, rfl, HJR.out.1, HJR.out.2, HROWT.out, by omega, by omega, by omega, by omega⟩
            case measure => simp [intOf]; omega
end Go.Proofs.YtoonlihacbbfdaaDoor

/- The card of JournalLasts: for every input the law answers true, and what came in reads as it did. -/
set_option linter.unusedVariables false
set_option linter.unusedSimpArgs false
set_option maxRecDepth 100000
namespace Go.Proofs.YtoonlihacbbfdaaDoor.cardJournalLasts
open Go.ChangeShapes Go.WideShapes Go.ChangeAt Go.RowKit Go.Deep
open Go.ChangeMaps (open_string shut_string)

theorem gTab : Tryd.prog.globalNamed "usance/wire.nibbles" = some 0 := by kernel_rfl
theorem gTabType : (Tryd.prog.globals[0]?).map (·.type) = some 106 := by kernel_rfl
theorem cellsTab : Tryd.prog.cellsOf 106 = 16 := by kernel_rfl
theorem cellsU32 : Tryd.prog.cellsOf 100 = 1 := by kernel_rfl
/-- what the row lists: the table of the sum -/
theorem table {W : World} (h : laidMetH Tryd.prog Rows.journalLastsRow.laid W) : Nib W := by
  have ht : Lib.TabIs Tryd.prog W "usance/wire.nibbles" .u32 [0, 498536548, 997073096, 651767980, 1994146192, 1802195444, 1303535960, 1342533948, 3988292384, 4027552580, 3604390888, 3412177804, 2607071920, 2262029012, 2685067896, 3183342108] :=
    Lib.tabIs_of_head (rest := []) gTab gTabType Tryd.underlying106 Tryd.underlying100 cellsU32 cellsTab h
  intro i hi
  rw [ht.cell gTab i (by simpa using hi)]
  have e : ∀ i : Fin 16, ([0, 498536548, 997073096, 651767980, 1994146192, 1802195444, 1303535960, 1342533948, 3988292384, 4027552580, 3604390888, 3412177804, 2607071920, 2262029012, 2685067896, 3183342108] : List Int).getD i.val 0 = ((UsCrc.nib.getD i.val 0 : Nat) : Int) := by decide
  rw [e ⟨i, hi⟩]

theorem contract (H : Type) (enc : TypeId × Value → H) (W : World) (base : Nat) (args : Array Value) (ds gs : List (DataW H)) (before : List MemPlace)
    (hval : ∀ (j : Nat) t v, Tryd.f6.params[j]? = some t → args[j]? = some v → Value.okWide Tryd.prog W .any base t v)
    (hW : DataW.Whole enc Tryd.prog Tryd.f6.params.toList Rows.journalLastsSpec.vars false W args.toList ds gs before) (hL : laidMetH Tryd.prog Rows.journalLastsRow.laid W)
    (hsz : (DataW.weightsEach Tryd.prog (Tryd.f6.params.toList ++ (OpenSpec.ofChange Rows.journalLastsSpec).bare.plain.varTypes Tryd.prog) (ds ++ gs)).all (· ≤ reachBytes) = true) :
    Calls Tryd.prog 6 args W fun e W' => ∃ v, e = .returned v ∧ Rows.journalLastsSpec.post enc Tryd.prog Tryd.f6 false true false false W args v W' := by
  have hW' := hW
  obtain ⟨p, q, hA0, hV, rfl, hfz, hnd⟩ := hW
  have hA : DataW.TrodAll enc Tryd.prog W 0 (fun _ => true) true Tryd.f6.params.toList args.toList ds p := hA0
  rw [Tryd.params6] at hA hval hsz
  obtain ⟨v0, vs0, d0, ds0, p0, q0, hargs, rfl, rfl, h0, r0⟩ := trodAll_cons hA
  obtain ⟨v1, vs1, d1, ds1, p1, q1, rfl, rfl, rfl, h1, r1⟩ := trodAll_cons r0
  obtain ⟨rfl, rfl, rfl⟩ := trodAll_nil r1
  obtain rfl : args = #[v0, v1] := by cases args; simp_all
  obtain ⟨rfl, rfl⟩ := trodVars_none hV
  have k0 := h0
  have lt0 : ∀ x ∈ p0, x.block < W.heap.size := by obtain ⟨m, hm⟩ := k0; exact DataW.trod_lt m _ _ _ hm
  have k1 := h1
  have lt1 : ∀ x ∈ p1, x.block < W.heap.size := by obtain ⟨m, hm⟩ := k1; exact DataW.trod_lt m _ _ _ hm
  simp only [List.append_nil, List.nil_append, List.cons_append] at hsz
  obtain ⟨x0, rfl, rfl, rfl, w0⟩ := open_int Tryd.underlying3 (hval 0 3 v0 rfl rfl) h0
  have b0 := wf_int64 w0
  obtain ⟨xs1, ir1⟩ := open_row rdLifeJ (by decide) Tryd.underlying53 (hval 1 53 v1 rfl rfl) h1 (light_arg (j := 1) hsz rfl rfl)
  have hnib := table hL
  clear hA0
  refine (lasts_walk W hnib x0 v1 xs1 ir1 b0.1 b0.2).mono fun e W' ⟨he, bel⟩ => ?_
  subst he
  exact ⟨_, rfl, _, _, _, [], _, [], hW', trodAll_mk1 (shut_bool Tryd.underlying4 _), (trodAll_cons_mk (Below.trod laidOut (by kernel_rfl) (of_decide_eq_true (by kernel_rfl)) k0 bel lt0) (trodAll_cons_mk (Below.trod laidOut (by kernel_rfl) (of_decide_eq_true (by kernel_rfl)) k1 bel lt1) trodAll_mk0)), rfl, bel.frame _, fun h => by cases h⟩

/-- a world for the witness: the table as its initialiser lays it -/
noncomputable def laidWorld (os : Os) : World :=
  { World.holding Tryd.prog os ⟨#[], #[], []⟩ with heap := (World.holding Tryd.prog os ⟨#[], #[], []⟩).heap.modify 0 fun
      | .cells _ t frozen => .cells #[.int .u32 0, .int .u32 498536548, .int .u32 997073096, .int .u32 651767980, .int .u32 1994146192, .int .u32 1802195444, .int .u32 1303535960, .int .u32 1342533948, .int .u32 3988292384, .int .u32 4027552580, .int .u32 3604390888, .int .u32 3412177804, .int .u32 2607071920, .int .u32 2262029012, .int .u32 2685067896, .int .u32 3183342108] t frozen
      | o => o }
theorem laid_met (os : Os) : laidMet Tryd.prog Rows.journalLastsRow.laid ((laidWorld os).forCall (fun _ _ => 0) ⟨#[], #[.int .i64 0, .slice none 0 0], []⟩).memory :=
  laidMet_of_run' 8 (by kernel_rfl) (by kernel_rfl)
theorem reads (os : Os) {H : Type} (enc : TypeId × Value → H) : ∃ places, DataW.whole enc Tryd.prog ((laidWorld os).forCall (fun _ _ => 0) ⟨#[], #[.int .i64 0, .slice none 0 0], []⟩).memory Tryd.f6.params.toList Rows.journalLastsSpec.vars false (#[.int .i64 0, .slice none 0 0] : Array Value).toList 8 = some ([.lit (.int .i64 0), .nil], [], places) :=
  ⟨[], by kernel_rfl⟩

theorem lifted (os : Os) (started : os.Started) (H : Type) (enc : TypeId × Value → H) (F : Stop.Interp) :
    ReturnsInHanded {} Tryd.checked os 6 .any ((OpenSpec.ofChange Rows.journalLastsSpec).preRow enc Tryd.prog Tryd.f6 Rows.journalLastsRow.domain false Rows.journalLastsRow.laid) (((OpenSpec.ofChange Rows.journalLastsSpec).at F).post enc Tryd.prog Tryd.f6 false true false false) := by
  obtain ⟨places, hx⟩ := reads os enc
  refine returnsInHanded_of_row (C := Tryd.checked) (s := OpenSpec.ofChange Rows.journalLastsSpec) own started (by kernel_rfl) Tryd.func6
    (witness_row_at (enc := enc) (C := Tryd.checked) false (laidWorld os) #[.int .i64 0, .slice none 0 0] rfl (by kernel_rfl) (by kernel_rfl) (by kernel_rfl)
      (OpenSpec.preRow_of_cond 8 hx (by kernel_rfl) (fun k hk => by cases hk) (by kernel_rfl) (laid_met os))) ?_
  intro W base args ds gs before hval hW _ hcond hsz hL _ _
  exact contract H enc W base args ds gs before hval hW hL hsz

theorem said : Rows.JournalLastsSaid :=
  OpenClaim.holds_of_cond 6 Tryd.f6 rfl rfl rfl rfl rfl rfl rfl ⟨rfl, rfl, rfl, rfl, rfl⟩ rfl rfl rfl rfl rfl (by kernel_rfl) Tryd.func6 (by kernel_rfl)
    (of_decide_eq_true (by kernel_rfl)) (by unfold Func.isWrapper; first | (rw [if_pos (by decide +kernel)]; kernel_rfl) | (rw [if_neg (by decide +kernel)]; exact ⟨rfl, rfl⟩))
    (fun os started H enc _ F => by rw [OpenClaim.pre_eq_preRow]; exact lifted os started H enc F)

theorem plain (f : FuncId) (fn : Func) (hf : Tryd.pinned.checked.prog.funcNamed "usance/usancelaw06.JournalLasts" = some f) (hfn : Tryd.pinned.checked.prog.funcs[f]? = some fn) :
    false = Tryd.pinned.checked.prog.looks [] ∧ ∀ (j : Nat) t, fn.params[j]? = some t → Tryd.pinned.checked.prog.wantsStandIn t = false := by
  obtain rfl : f = 6 := Option.some.inj ((show Tryd.prog.funcNamed "usance/usancelaw06.JournalLasts" = some 6 by kernel_rfl).symm.trans hf) |>.symm
  obtain rfl : fn = Tryd.f6 := (Option.some.inj (Tryd.func6.symm.trans hfn)).symm
  refine ⟨by kernel_rfl, fun j t ht => ?_⟩
  rw [Tryd.params6] at ht
  have hm := Array.mem_of_getElem? ht
  simp only [List.mem_toArray, List.mem_cons, List.not_mem_nil, or_false] at hm
  rcases hm with rfl | rfl
  · exact (show Tryd.prog.wantsStandIn 3 = false by kernel_rfl)
  · exact (show Tryd.prog.wantsStandIn 53 = false by kernel_rfl)

/-- THE CARD -/
theorem proved : Rows.JournalLastsCardSaid :=
  Claim7.holds_tied_plain_at .later [] _ _ _ _ said (fun _ h => by cases h) (by kernel_rfl) (fun _ h => by cases h) journalLasts_row_tie rfl ⟨rfl, rfl⟩ (by kernel_rfl) rfl plain (by kernel_rfl)
#print axioms proved
end Go.Proofs.YtoonlihacbbfdaaDoor.cardJournalLasts
