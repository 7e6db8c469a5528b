/- The card CardJournalAnew: for every input the law answers true, and what came in reads as it did; with what it needs ahead. -/
import Derived.Test.YtoonlihacbbfdaaDoorBase3
import Derived.StillTailTactics
import Derived.Deep.RegionLaw
import Derived.IntWalk
import Derived.Test.YtoonlihacbbfdaaDoorCards
import Derived.Test.YtoonlihacbbfdaaDoorTie
/- The document's journal: Refused, Write. -/
set_option linter.unusedVariables false
set_option linter.unusedSimpArgs false
set_option maxRecDepth 100000
namespace Go.Proofs.YtoonlihacbbfdaaDoor
open Go.RowKit

/-- why a write is refused: 0, 2 -/
def refE (nb : Nat) (zs : List Int) (ls : List (List UInt8)) : Int := if rightW nb zs ls = true then 0 else 2
theorem rightW_of {nb : Nat} {zs : List Int} {ls : List (List UInt8)} (hl : zs.length = ls.length) (h : ∀ k (h : k < zs.length) (h2 : k < ls.length), 0 ≤ zs[k] ∧ zs[k] < (nb : Int) ∧ ls[k].length = 112 ∧ ∀ m (hm : m < k), zs[m]'(by omega) ≠ zs[k]) : rightW nb zs ls = true := by
  refine Fit.right ⟨hl, fun z hz => ?_, ?_, fun l hl2 => ?_⟩
  · obtain ⟨k, hk, rfl⟩ := List.getElem_of_mem hz
    obtain ⟨a, b, _⟩ := h k hk (by omega)
    exact ⟨a, b⟩
  · rw [List.Nodup, List.pairwise_iff_getElem]
    intro i j hi hj hij
    exact (h j hj (by omega)).2.2.2 i hij
  · obtain ⟨k, hk, rfl⟩ := List.getElem_of_mem hl2
    exact (h k (by omega) hk).2.2.1
theorem refE_yes {nb : Nat} {zs : List Int} {ls : List (List UInt8)} (hl : zs.length = ls.length) (h : ∀ k (h : k < zs.length) (h2 : k < ls.length), 0 ≤ zs[k] ∧ zs[k] < (nb : Int) ∧ ls[k].length = 112 ∧ ∀ m (hm : m < k), zs[m]'(by omega) ≠ zs[k]) : refE nb zs ls = 0 := by
  rw [refE, if_pos (rightW_of hl h)]
theorem refE_no {nb : Nat} {zs : List Int} {ls : List (List UInt8)} (k : Nat) (hk : k < zs.length) (hk2 : k < ls.length) (h : ¬ (0 ≤ zs[k] ∧ zs[k] < (nb : Int) ∧ ls[k].length = 112 ∧ ∀ m (hm : m < k), zs[m]'(by omega) ≠ zs[k])) : refE nb zs ls = 2 := by
  rw [refE, if_neg]
  intro hr
  obtain ⟨_, hs⟩ := rightW_spec hr
  obtain ⟨a, b, c, d⟩ := hs k hk hk2
  refine h ⟨a, b, c, fun m hm e => d ?_⟩
  rw [← e, List.mem_take_iff_getElem]
  exact ⟨m, by omega, rfl⟩
theorem refE_len {nb : Nat} {zs : List Int} {ls : List (List UInt8)} (h : zs.length ≠ ls.length) : refE nb zs ls = 2 := by
  rw [refE, if_neg]
  intro hr
  exact h (rightW_spec hr).1
theorem rj_cells {B : Nat} {w : World} {q : Nat} {v : Value} {ls : List (List UInt8)} {seq : Int} (h : RJ B w q v ls seq) : w.cell? ⟨q, 0, none⟩ = some v ∧ w.cell? ⟨q, 1, none⟩ = some (.int .i64 seq) := by
  refine ⟨?_, ?_⟩ <;> · rw [cell_of_row _ _ _ _ _ _ h.head]; rfl

section
attribute [local irreducible] wpStill
set_option maxHeartbeats 16000000 in
theorem refused_any (w : World) {B q : Nat} {vq : Value} {ls : List (List UInt8)} {seq : Int} (h : RJ B w q vq ls seq) (u : Value) (az : List Int) (hu : IsI w u az) (v : Value) (bs : List (List UInt8)) (hv : IsBs w v bs) (hls : ls.length ≤ 8191)
    (haz : ∀ n ∈ az, -9223372036854775808 ≤ n ∧ n ≤ 9223372036854775807) :
    Calls Tryd.prog 24 #[rjp q, u, v] w fun e w' => e = .returned (.int .i64 (refE ls.length az bs)) ∧ Below w.heap.size w w' := by
  obtain ⟨au, cu, rfl, hcu, hmu⟩ := hu.form
  obtain ⟨av, cv, rfl, hcv, hmv⟩ := hv.form
  obtain ⟨aq, cq, rfl, hcq, hmq⟩ := h.form
  unfold maxLen at hmu hmv hmq
  by_cases hl : az.length = bs.length
  case neg =>
    have HE := Lib.hid (refE_len (nb := ls.length) hl)
    have hd : (((az.length : Nat) : Int) != ((bs.length : Nat) : Int)) = true := by rw [bne_iff_ne]; omega
    clear hl haz h hu hv
    go_enter Tryd.func24, Tryd.ntmps24
    go_wp2_with fail
    go_ret
    rw [HE.out]
    exact ⟨rfl, Below.refl _ _⟩
  have Hl := Lib.hid hl
  rw [← hl] at hcv ⊢
  have hd : (((az.length : Nat) : Int) != ((az.length : Nat) : Int)) = false := by simp
  have HA := Lib.hid haz
  have HU := Lib.hid hu
  have HV := Lib.hid hv
  have HJ := Lib.hid h
  rw [← hl] at HV
  obtain ⟨nb, hnb⟩ : ∃ nb, nb = ls.length := ⟨_, rfl⟩
  rw [← hnb] at HJ hls hcq ⊢
  obtain ⟨m, hm⟩ : ∃ m, m = az.length := ⟨_, rfl⟩
  rw [← hm] at HU HV hd hcu hcv ⊢
  have Hm := Lib.hid hm
  have Hb : Hid (m = bs.length) := Lib.hid (hm.trans hl)
  clear hm hl h hu hv haz hnb
  go_enter Tryd.func24, Tryd.ntmps24
  go_wp2_with fail
  go_loopw [7] (fun x wr => ∃ i : Nat, i ≤ m ∧ x = .int .i64 (i : Int) ∧ Below w.heap.size w wr ∧ (∀ k (h : k < az.length) (h2 : k < bs.length), k < i → 0 ≤ az[k] ∧ az[k] < (nb : Int) ∧ bs[k].length = 112 ∧ ∀ m (hm : m < k), az[m]'(by omega) ≠ az[k])) (fun x _ => m - (intOf x).toNat)
  case atStart => exact ⟨0, Nat.zero_le _, rfl, Below.refl _ _, fun k _ _ h => by omega⟩
  case round =>
    obtain ⟨i, hi, rfl, hb, hall⟩ := hrel
    by_cases hlt : i < m
    case neg =>
      obtain rfl : i = m := by omega
      have HE := Lib.hid (refE_yes (nb := nb) (Hm.out.symm.trans Hb.out) fun k h1 h2 => hall k h1 h2 (by have := Hm.out; omega))
      have hdz : decide ((i : Int) < (i : Int)) = false := by simp
      clear hall
      go_wp2_with fail
      go_ret
      rw [HE.out]
      exact ⟨rfl, hb⟩
    have hlt1 : i < az.length := by have := Hm.out; omega
    have hlt2 : i < bs.length := by have := Hb.out; omega
    have hdl : decide ((i : Int) < (m : Int)) = true := decide_eq_true (by omega)
    obtain ⟨bu, ou, rfl, cu1⟩ := isI_at HU.out i hlt1
    obtain ⟨bv_, ov, ux, rfl, cv1, hux⟩ := isBs_at HV.out i hlt2
    obtain ⟨ax, cx, rfl, hcx, hmx⟩ := hux.form
    obtain ⟨q0, q1⟩ := rj_cells HJ.out
    have c1 := cells_below hb _ _ cu1
    have c2 := cells_below hb _ _ cv1
    have c3 := cells_below hb _ _ q0
    have HALL := Lib.hid hall
    have HNO := Lib.hid (fun hh => refE_no (nb := nb) (zs := az) (ls := bs) i hlt1 hlt2 hh)
    have HOK : Hid ((0 ≤ az[i] ∧ az[i] < (nb : Int) ∧ bs[i].length = 112) → (∀ m (hm : m < i), az[m]'(by omega) ≠ az[i]) → ∀ k (h : k < az.length) (h2 : k < bs.length), k < i + 1 → 0 ≤ az[k] ∧ az[k] < (nb : Int) ∧ bs[k].length = 112 ∧ ∀ m (hm : m < k), az[m]'(by omega) ≠ az[k]) := Lib.hid (fun h1 h2 k h3 h4 h5 => by
      by_cases he : k = i
      · subst he
        exact ⟨h1.1, h1.2.1, h1.2.2, h2⟩
      · exact HALL.out k h3 h4 (by omega))
    have hza := HA.out az[i] (List.getElem_mem hlt1)
    obtain ⟨hz1, hz2⟩ := hza
    have HZI : Hid (az[i] = az[i]) := Lib.hid rfl
    obtain ⟨z, hz⟩ : ∃ z, z = az[i] := ⟨_, rfl⟩
    have HZ := Lib.hid hz
    rw [← hz] at c1 hz1 hz2 cu1
    have hbl : bs[i].length ≤ 9223372036854775807 := by unfold maxLen at hmx; omega
    obtain ⟨y, hy⟩ : ∃ y, y = bs[i].length := ⟨_, rfl⟩
    have HY := Lib.hid hy
    rw [← hy] at c2 hbl
    clear hall hz hy cu1 cv1 q0 q1 hux hcx hmx
    by_cases hz0 : z < 0
    · have hd1 : decide (z < 0) = true := decide_eq_true hz0
      have HE := Lib.hid (HNO.out (fun hh => by have := HZ.out; omega))
      go_upto_region 6 with fail
      refine wp_region_still_tail 24 (by kernel_rfl) (by kernel_rfl) ?_
      simp only [List.take_succ_cons, List.take_zero, List.drop_succ_cons, List.drop_zero]
      change wpStill _ _ wr.drew (fun a' => wpList _ _ _ _ a' wr.drew) _ _
      have hbd : Below w.heap.size w wr.drew := hb.drew
      clear hb
      replace c1 : wr.drew.cell? _ = _ := c1
      replace c2 : wr.drew.cell? _ = _ := c2
      replace c3 : wr.drew.cell? _ = _ := c3
      generalize wr.drew = W1 at *
      iterate 24 still_step
      refine wpStill_nil ?_
      go_wp2_with fail
      go_ret
      rw [HE.out]
      exact ⟨rfl, hbd⟩
    have hd1 : decide (z < 0) = false := decide_eq_false hz0
    by_cases hzn : (nb : Int) ≤ z
    · have hd2 : decide ((nb : Int) ≤ z) = true := decide_eq_true hzn
      have HE := Lib.hid (HNO.out (fun hh => by have := HZ.out; omega))
      go_upto_region 6 with fail
      refine wp_region_still_tail 24 (by kernel_rfl) (by kernel_rfl) ?_
      simp only [List.take_succ_cons, List.take_zero, List.drop_succ_cons, List.drop_zero]
      change wpStill _ _ wr.drew (fun a' => wpList _ _ _ _ a' wr.drew) _ _
      have hbd : Below w.heap.size w wr.drew := hb.drew
      clear hb
      replace c1 : wr.drew.cell? _ = _ := c1
      replace c2 : wr.drew.cell? _ = _ := c2
      replace c3 : wr.drew.cell? _ = _ := c3
      generalize wr.drew = W1 at *
      iterate 24 still_step
      refine wpStill_nil ?_
      go_wp2_with fail
      go_ret
      rw [HE.out]
      exact ⟨rfl, hbd⟩
    have hd2 : decide ((nb : Int) ≤ z) = false := decide_eq_false hzn
    by_cases hyn : y = 112
    case neg =>
      have hd3 : ((y : Int) != 112) = true := by rw [bne_iff_ne]; omega
      have HE := Lib.hid (HNO.out (fun hh => by have := HY.out; omega))
      go_upto_region 6 with fail
      refine wp_region_still_tail 24 (by kernel_rfl) (by kernel_rfl) ?_
      simp only [List.take_succ_cons, List.take_zero, List.drop_succ_cons, List.drop_zero]
      change wpStill _ _ wr.drew (fun a' => wpList _ _ _ _ a' wr.drew) _ _
      have hbd : Below w.heap.size w wr.drew := hb.drew
      clear hb
      replace c1 : wr.drew.cell? _ = _ := c1
      replace c2 : wr.drew.cell? _ = _ := c2
      replace c3 : wr.drew.cell? _ = _ := c3
      generalize wr.drew = W1 at *
      iterate 24 still_step
      refine wpStill_nil ?_
      go_wp2_with fail
      go_ret
      rw [HE.out]
      exact ⟨rfl, hbd⟩
    have hd3 : ((y : Int) != 112) = false := by rw [bne_eq_false_iff_eq]; omega
    have HOK2 := Lib.hid (HOK.out (by have := HZ.out; have := HY.out; omega))
    clear HOK HY
    go_upto_region 6 with fail
    refine wp_region_still_tail 24 (by kernel_rfl) (by kernel_rfl) ?_
    simp only [List.take_succ_cons, List.take_zero, List.drop_succ_cons, List.drop_zero]
    change wpStill _ _ wr.drew (fun a' => wpList _ _ _ _ a' wr.drew) _ _
    have hbd : Below w.heap.size w wr.drew := hb.drew
    clear hb
    replace c1 : wr.drew.cell? _ = _ := c1
    replace c2 : wr.drew.cell? _ = _ := c2
    replace c3 : wr.drew.cell? _ = _ := c3
    generalize wr.drew = W1 at *
    iterate 24 still_step
    refine wpStill_nil ?_
    go_wp2_with fail
    go_loopw [8] (fun x wr => ∃ k : Nat, k ≤ i ∧ x = .int .i64 (k : Int) ∧ Below w.heap.size w wr ∧ ∀ j (hj : j < k) (h : j < az.length), az[j] ≠ z) (fun x _ => i - (intOf x).toNat)
    case atStart => exact ⟨0, Nat.zero_le _, rfl, hbd, fun j hj => by omega⟩
    case round =>
      obtain ⟨k, hk, rfl, hb, hne⟩ := hrel
      clear hbd c1 c2 c3
      by_cases hki : k < i
      case neg =>
        obtain rfl : k = i := by omega
        have hdz : decide ((k : Int) < (k : Int)) = false := by simp
        have HF := Lib.hid (HOK2.out (fun j hj => by rw [← HZ.out]; exact hne j hj (by omega)))
        clear hne HOK2
        go_wp2_with fail
        go_roundw
        case rel => exact ⟨k + 1, by omega, by go_num, hb, HF.out⟩
        case measure => simp [intOf]; omega
      have hkl : k < az.length := by omega
      have hkm : k < m := by omega
      have hdk : decide ((k : Int) < (i : Int)) = true := decide_eq_true (by omega)
      obtain ⟨b1, o1, he1, ck⟩ := isI_at HU.out k hkl
      obtain ⟨b2, o2, he2, ci⟩ := isI_at HU.out i hlt1
      simp only [Option.some.injEq, Addr.mk.injEq, and_true] at he1 he2
      obtain ⟨rfl, rfl⟩ := he1
      obtain ⟨rfl, rfl⟩ := he2
      rw [← HZ.out] at ci
      obtain ⟨x, hx⟩ : ∃ x, x = az[k] := ⟨_, rfl⟩
      rw [← hx] at ck
      have HX := Lib.hid hx
      clear hx
      have c1 : wr.drew.cell? _ = _ := cells_below hb _ _ ck
      have c2 : wr.drew.cell? _ = _ := cells_below hb _ _ ci
      have hbd : Below w.heap.size w wr.drew := hb.drew
      have HNE := Lib.hid hne
      clear ck ci hb hne
      by_cases hxz : x = z
      · have HE := Lib.hid (HNO.out (fun hh => hh.2.2.2 k hki (HX.out.symm.trans (hxz.trans HZ.out))))
        have hde : (x == z) = true := by simpa using hxz
        clear hxz
        go_upto_region 11 with fail
        refine wp_region_still_tail 8 (by kernel_rfl) (by kernel_rfl) ?_
        simp only [List.take_succ_cons, List.take_zero, List.drop_succ_cons, List.drop_zero]
        change wpStill _ _ wr.drew (fun a' => wpList _ _ _ _ a' wr.drew) _ _
        generalize wr.drew = W1 at *
        iterate 8 still_step
        refine wpStill_nil ?_
        go_wp2_with fail
        go_ret
        rw [HE.out]
        exact ⟨rfl, hbd⟩
      · have hde : (x == z) = false := by simpa using hxz
        have HN2 : Hid (∀ j (hj : j < k + 1) (h : j < az.length), az[j] ≠ z) := Lib.hid (fun j hj h => by
          by_cases he : j = k
          · subst he
            rw [← HX.out]
            exact hxz
          · exact HNE.out j (by omega) h)
        clear hxz HX
        go_upto_region 11 with fail
        refine wp_region_still_tail 8 (by kernel_rfl) (by kernel_rfl) ?_
        simp only [List.take_succ_cons, List.take_zero, List.drop_succ_cons, List.drop_zero]
        change wpStill _ _ wr.drew (fun a' => wpList _ _ _ _ a' wr.drew) _ _
        generalize wr.drew = W1 at *
        iterate 8 still_step
        refine wpStill_nil ?_
        go_wp2_with fail
        go_roundw
        case rel => exact ⟨k + 1, by omega, by go_num, hbd, HN2.out⟩
        case measure => simp [intOf]; omega
end
end Go.Proofs.YtoonlihacbbfdaaDoor

/- The document's journal: Write. -/
set_option linter.unusedVariables false
set_option linter.unusedSimpArgs false
set_option maxRecDepth 100000
namespace Go.Proofs.YtoonlihacbbfdaaDoor
open Go.RowKit

def refB (ls : List (List UInt8)) (az : List Int) (bs : List (List UInt8)) : List (List UInt8) := if rightW ls.length az bs = true then updB ls az bs else ls
def refS (nb : Nat) (seq : Int) (az : List Int) (bs : List (List UInt8)) : Int := if rightW nb az bs = true ∧ az.length ≠ 0 then seq + 1 else seq
theorem updB_step (ls : List (List UInt8)) {az : List Int} {bs : List (List UInt8)} {i : Nat} (h1 : i < az.length) (h2 : i < bs.length) : updB ls (az.take (i + 1)) (bs.take (i + 1)) = (updB ls (az.take i) (bs.take i)).set az[i].toNat bs[i] := by
  rw [List.take_succ_eq_append_getElem h1, List.take_succ_eq_append_getElem h2, updB_append _ _ _ _ _ (by simp; omega)]
  simp [updB]
theorem sv_get (ls : List (List UInt8)) (i : Nat) (h : i < ls.length) : (sv ls)[i]? = some (.string ⟨ls[i].toArray⟩) := by simp [sv, h]
theorem RJ.store {B : Nat} {w : World} {q g cap : Nat} {ls : List (List UInt8)} {seq : Int} {n : Nat} (h : RJ B w q (.slice (some ⟨g, 0, none⟩) n cap) ls seq) (k : Nat) (hk : k < ls.length) (b : List UInt8) :
    (∃ c, w.cell? ⟨g, k, none⟩ = some c) ∧ w.frozen? ⟨g, k, none⟩ = false ∧ RJ B (w.setCell ⟨g, k, none⟩ (.string ⟨b.toArray⟩)) q (.slice (some ⟨g, 0, none⟩) n cap) (ls.set k b) seq ∧ Turned (RT q (.slice (some ⟨g, 0, none⟩) n cap)) w (w.setCell ⟨g, k, none⟩ (.string ⟨b.toArray⟩)) := by
  obtain ⟨hlow, hhead, hrow⟩ := h
  rcases hrow.2 with ⟨h1, _⟩ | ⟨g', cap', cur, hv, hB, hg, hn, hc, hs, htake⟩
  · cases h1
  · simp only [Value.slice.injEq, Option.some.injEq, Addr.mk.injEq] at hv
    obtain ⟨⟨rfl, _⟩, hnl, rfl⟩ := hv
    have hne : q ≠ g := fun e => by
      rw [e, hg] at hhead
      injection hhead with hhead
      injection hhead with _ hhead
      revert hhead
      decide
    have hkc : k < cur.size := by omega
    refine ⟨⟨cur[k], by rw [cell_of_row _ _ _ _ _ _ hg]; exact Array.getElem?_eq_getElem hkc⟩, frozen_p hg k, ⟨hlow, ?_, ?_⟩, ?_⟩
    · rw [Below.heap_setCell _ _ _ _ hne]
      exact hhead
    · refine ⟨by simp [sv], .inr ⟨g, cap, _, by rw [List.length_set, hnl], hB, head_setCell hg _, by rw [List.length_set]; exact hn, hc, by simpa using hs, ?_⟩⟩
      rw [Array.toList_setIfInBounds, List.length_set, List.take_set, htake]
      simp [sv, List.map_set]
    · exact ⟨rfl, rfl, rfl, by simp [World.setCell], fun j hj hn => Below.heap_setCell _ _ _ _ (fun e => hn (.inr (by rw [e]; rfl)))⟩
section
attribute [local irreducible] wpStill
set_option maxHeartbeats 16000000 in
theorem rwrite_any (w : World) {B q : Nat} {vq : Value} {ls : List (List UInt8)} {seq : Int} (h : RJ B w q vq ls seq) (u : Value) (az : List Int) (hku : ∀ w', Turned (RT q vq) w w' → IsI w' u az) (v : Value) (bs : List (List UInt8)) (hkv : ∀ w', Turned (RT q vq) w w' → IsBs w' v bs) (hls : ls.length ≤ 8191)
    (haz : ∀ n ∈ az, -9223372036854775808 ≤ n ∧ n ≤ 9223372036854775807) (hs1 : -9223372036854775808 ≤ seq) (hs2 : seq < 9223372036854775807) :
    Calls Tryd.prog 18 #[rjp q, u, v] w fun e w' => e = .returned (.int .i64 (refE ls.length az bs)) ∧ RJ B w' q vq (refB ls az bs) (refS ls.length seq az bs) ∧ Turned (RT q vq) w w' := by
  have hu := hku w (Turned.refl _ _)
  have hv := hkv w (Turned.refl _ _)
  obtain ⟨au, cu, rfl, hcu, hmu⟩ := hu.form
  obtain ⟨av, cv, rfl, hcv, hmv⟩ := hv.form
  obtain ⟨aq, cq, rfl, hcq, hmq⟩ := h.form
  unfold maxLen at hmu hmv hmq
  have HR := Lib.hid (refused_any w h _ az hu _ bs hv hls haz)
  have HKU := Lib.hid hku
  have HKV := Lib.hid hkv
  have HA := Lib.hid haz
  by_cases hr : rightW ls.length az bs = true
  case neg =>
    have e0 : refE ls.length az bs = 2 := by rw [refE, if_neg hr]
    have e1 : refB ls az bs = ls := by rw [refB, if_neg hr]
    have e2 : refS ls.length seq az bs = seq := by rw [refS, if_neg (fun h => hr h.1)]
    rw [e0, e1, e2]
    rw [e0] at HR
    have HJ := Lib.hid h
    clear e0 e1 e2 hr h hu hv hku hkv haz
    go_enter Tryd.func18, Tryd.ntmps18
    go_wp2_with fail
    refine HR.out.mono ?_
    rintro e w1 ⟨rfl, hb⟩
    go_wp2_with fail
    go_ret
    exact ⟨rfl, HJ.out.below hb, Turned.of_below hb⟩
  have e0 : refE ls.length az bs = 0 := by rw [refE, if_pos hr]
  have e1 : refB ls az bs = updB ls az bs := by rw [refB, if_pos hr]
  rw [e0, e1]
  rw [e0] at HR
  by_cases h0 : az.length = 0
  · have e2 : refS ls.length seq az bs = seq := by rw [refS, if_neg (fun h => h.2 h0)]
    obtain rfl : az = [] := List.eq_nil_of_length_eq_zero h0
    rw [e2, updB_nil]
    have HJ := Lib.hid h
    clear e0 e1 e2 hr h hu hv hku hkv haz h0
    go_enter Tryd.func18, Tryd.ntmps18
    go_wp2_with fail
    refine HR.out.mono ?_
    rintro e w1 ⟨rfl, hb⟩
    go_wp2_with fail
    go_ret
    exact ⟨rfl, HJ.out.below hb, Turned.of_below hb⟩
  have e2 : refS ls.length seq az bs = seq + 1 := by rw [refS, if_pos ⟨hr, h0⟩]
  rw [e2]
  have HSP := Lib.hid (rightW_spec hr)
  have hlen := HSP.out.1
  obtain ⟨gq, rfl⟩ : ∃ g, aq = some ⟨g, 0, none⟩ := by
    rcases h.rows.2 with ⟨h1, h2⟩ | ⟨g, cap, cur, h1, _⟩
    · exfalso
      have h3 := (HSP.out.2 0 (by omega) (by omega)).2.1
      have h4 := (HSP.out.2 0 (by omega) (by omega)).1
      omega
    · simp only [Value.slice.injEq] at h1
      exact ⟨g, h1.1⟩
  rw [← hlen] at hcv HR HKV ⊢
  have HJ := Lib.hid h
  obtain ⟨nb, hnb⟩ : ∃ nb, nb = ls.length := ⟨_, rfl⟩
  have Hnb := Lib.hid hnb
  rw [← hnb] at HKU HKV HSP HJ hls hcq ⊢
  obtain ⟨m, hm⟩ : ∃ m, m = az.length := ⟨_, rfl⟩
  have Hm := Lib.hid hm
  rw [← hm] at HR HKU HKV hcu hcv h0 ⊢
  have Hb : Hid (m = bs.length) := Lib.hid (hm.trans hlen)
  have hq0 : ((m : Nat) == 0) = false := by simpa using h0
  have hq1 : ((m : Int) == 0) = false := by rw [beq_eq_false_iff_ne]; omega
  clear e0 e1 e2 hr h hu hv hku hkv haz hlen hm hnb
  go_enter Tryd.func18, Tryd.ntmps18
  go_wp2_with fail
  refine HR.out.mono ?_
  rintro e w1 ⟨rfl, hb⟩
  have hj1 := HJ.out.below hb
  have ht1 := Turned.of_below (T := RT q (.slice (some ⟨gq, 0, none⟩) nb cq)) hb
  clear hb
  have hj0 : RJ B w1 q (.slice (some ⟨gq, 0, none⟩) nb cq) (updB ls (az.take 0) (bs.take 0)) seq := by rw [List.take_zero, updB_nil]; exact hj1
  clear hj1
  go_wp2_with fail
  go_loopw [8] (fun x wr => ∃ i : Nat, i ≤ m ∧ x = .int .i64 (i : Int) ∧ RJ B wr q (.slice (some ⟨gq, 0, none⟩) nb cq) (updB ls (az.take i) (bs.take i)) seq ∧ Turned (RT q (.slice (some ⟨gq, 0, none⟩) nb cq)) w wr) (fun x _ => m - (intOf x).toNat)
  case atStart => exact ⟨0, Nat.zero_le _, rfl, hj0, ht1⟩
  case round =>
    obtain ⟨i, hi, rfl, hj, ht⟩ := hrel
    clear hj0 ht1
    by_cases hlt : i < m
    case neg =>
      obtain rfl : i = m := by omega
      have hdz : decide ((i : Int) < (i : Int)) = false := by simp
      rw [List.take_of_length_le (by have := Hm.out; omega), List.take_of_length_le (by have := Hb.out; omega)] at hj
      obtain ⟨q0, q1⟩ := rj_cells hj
      have f1 := frozen_p hj.head 1
      have hj2 : RJ B (wr.setCell ⟨q, 1, none⟩ (.int .i64 (seq + 1))) q (.slice (some ⟨gq, 0, none⟩) nb cq) (updB ls az bs) (seq + 1) := ⟨hj.low, head_setCell hj.head _, by
        obtain ⟨h1, h2⟩ := hj.rows
        refine ⟨h1, ?_⟩
        rcases h2 with h2 | ⟨g', cap, cur, hv, hb', hh, r⟩
        · exact .inl h2
        · refine .inr ⟨g', cap, cur, hv, hb', ?_, r⟩
          rw [Below.heap_setCell _ _ _ _ (fun e => ?_)]
          · exact hh
          · have hq := hj.head
            rw [show g' = q from e] at hh
            rw [hh] at hq
            injection hq with hq
            injection hq with _ hq
            revert hq
            decide⟩
      have ht2 : Turned (RT q (.slice (some ⟨gq, 0, none⟩) nb cq)) w (wr.setCell ⟨q, 1, none⟩ (.int .i64 (seq + 1))) := ht.trans ((turned_one wr q 1 _).mono fun _ _ e => .inl e)
      have HF := Lib.hid (And.intro hj2 ht2)
      clear hj ht hj2 ht2
      go_wp2_with fail
      go_ret
      exact ⟨rfl, HF.out⟩
    have hlt1 : i < az.length := by have := Hm.out; omega
    have hlt2 : i < bs.length := by have := Hb.out; omega
    have hdl : decide ((i : Int) < (m : Int)) = true := decide_eq_true (by omega)
    obtain ⟨hz0, hzn, hb112, _⟩ := HSP.out.2 i hlt1 hlt2
    have hstep := updB_step ls hlt1 hlt2
    have hrows : (updB ls (az.take i) (bs.take i)).length = nb := by rw [updB_length]; exact Hnb.out.symm
    obtain ⟨bu, ou, rfl, c1⟩ := isI_at (HKU.out _ ht) i hlt1
    obtain ⟨bv_, ov, ux, rfl, c2, hux⟩ := isBs_at (HKV.out _ ht) i hlt2
    have hst := run_str (P := Tryd.prog) (w := wr.drew) hux 36 9 5 Tryd.underlying36 Tryd.underlying5 Tryd.underlying9
    obtain ⟨ax, cx, hue, _, _⟩ := hux.form
    rw [hb112] at hue
    subst hue
    obtain ⟨q0, q1⟩ := rj_cells hj
    have Hstep := Lib.hid hstep
    clear hstep hux
    generalize az[i] = z at *
    obtain ⟨zn, rfl⟩ := Int.eq_ofNat_of_zero_le hz0
    rw [Int.toNat_natCast] at Hstep
    have hzb : zn < nb := by omega
    have hjd : RJ B wr.drew q (.slice (some ⟨gq, 0, none⟩) nb cq) (updB ls (az.take i) (bs.take i)) seq := hj.keep (fun _ _ _ => rfl)
    obtain ⟨⟨c0, s1⟩, s2, s3, s4⟩ := hjd.store zn (by omega) bs[i]
    rw [← Hstep.out] at s3
    have ht2 := (Turned.drew ht).trans s4
    have HF := Lib.hid (And.intro s3 ht2)
    replace c1 : wr.drew.cell? _ = _ := c1
    replace c2 : wr.drew.cell? _ = _ := c2
    replace q0 : wr.drew.cell? _ = _ := q0
    clear hj hjd s3 s4 ht2 ht q1
    generalize bs[i] = b at *
    go_upto_region 7 with fail
    refine wp_region_still_tail 14 (by kernel_rfl) (by kernel_rfl) ?_
    simp only [List.take_succ_cons, List.take_zero, List.drop_succ_cons, List.drop_zero]
    change wpStill _ _ wr.drew (fun a' => wpList _ _ _ _ a' wr.drew) _ _
    generalize wr.drew = W1 at *
    iterate 14 still_step
    refine wpStill_nil ?_
    go_wp2_with fail
    go_roundw
    case rel => exact ⟨i + 1, by omega, by go_num, HF.out⟩
    case measure => simp [intOf]; omega
end
end Go.Proofs.YtoonlihacbbfdaaDoor

/- A journal and the document's journal beside each other; an op of a script that came in. -/
set_option linter.unusedVariables false
set_option linter.unusedSimpArgs false
set_option maxRecDepth 100000
namespace Go.Proofs.YtoonlihacbbfdaaDoor
open Go.RowKit

theorem own_keep1 {B : Nat} {e : TypeId} {s n : Nat} {w w' : World} {u : Value} {xs : List Value} (h : w.ownsRow B e s u n xs) (hw : ∀ k, some k = u.ownBlock → w'.heap[k]? = w.heap[k]?) : w'.ownsRow B e s u n xs := by
  obtain ⟨h1, h2⟩ := h
  refine ⟨h1, ?_⟩
  rcases h2 with h2 | ⟨g, cap, cur, hv, hb, hh, r⟩
  · exact .inl h2
  · exact .inr ⟨g, cap, cur, hv, hb, by rw [hw g (by rw [hv]; rfl)]; exact hh, r⟩
theorem RJ.keepT {B : Nat} {w w' : World} {q : Nat} {v : Value} {ls : List (List UInt8)} {seq : Int} (h : RJ B w q v ls seq) (hw : ∀ k, RT q v k → w'.heap[k]? = w.heap[k]?) : RJ B w' q v ls seq :=
  ⟨h.low, (hw q (.inl rfl)).trans h.head, own_keep1 h.rows fun k hk => hw k (.inr hk)⟩
theorem RJ.rt_low {B2 : Nat} {w : World} {q : Nat} {v : Value} {ls : List (List UInt8)} {seq : Int} (h : RJ B2 w q v ls seq) : ∀ k, RT q v k → B2 ≤ k ∧ k < w.heap.size := by
  rintro k (rfl | hk)
  · exact ⟨h.low, h.lt⟩
  · obtain ⟨a, c, hc⟩ := own_lt h.rows hk
    exact ⟨a, lt_of_heap hc⟩
theorem RJ.aside {B : Nat} {w w' : World} {q : Nat} {v : Value} {ls : List (List UInt8)} {seq : Int} {T : Nat → Prop} (h : RJ B w q v ls seq) (ht : Turned T w w') (hT : ∀ k, T k → ¬ RT q v k) : RJ B w' q v ls seq :=
  h.keepT fun k hk => ht.block k (h.rt_low k hk).2 fun e => hT k e hk
/-- a journal and the document's, apart -/
structure JR (B B2 : Nat) (w0 w : World) (F : Ft) (p : Nat) (J : Jn) (q : Nat) (v : Value) (ls : List (List UInt8)) (seq : Int) : Prop where
  jb : JB B w0 w F p J
  rj : RJ B2 w q v ls seq
  sep : ∀ k, JT F p k → ¬ RT q v k
  low : B ≤ B2
  nib : 0 < B
section
variable {B B2 : Nat} {w0 w w' : World} {F : Ft} {p p' : Nat} {J J' : Jn} {q : Nat} {v : Value} {ls ls' : List (List UInt8)} {seq seq' : Int} {D : Dk}
theorem JR.step (h : JR B B2 w0 w F p J q v ls seq) (hb : Below w.heap.size w w') : JR B B2 w0 w' F p J q v ls seq := ⟨h.jb.step hb, h.rj.below hb, h.sep, h.low, h.nib⟩
theorem JR.turnJ (h : JR B B2 w0 w F p J q v ls seq) (hj : JAt w' F p J') (ht : Turned (JT F p) w w') : JR B B2 w0 w' F p J' q v ls seq :=
  ⟨h.jb.turn hj ht, h.rj.aside ht h.sep, h.sep, h.low, h.nib⟩
theorem JR.turnR (h : JR B B2 w0 w F p J q v ls seq) (hr : RJ B2 w' q v ls' seq') (ht : Turned (RT q v) w w') : JR B B2 w0 w' F p J q v ls' seq' :=
  ⟨h.jb.other ht (fun k hk => by
    have h1 := h.rj.rt_low k hk
    have h2 := h.low
    have h3 := h.nib
    exact ⟨fun e => h.sep k e hk, by omega, by omega⟩), hr, h.sep, h.low, h.nib⟩
theorem JR.other {T : Nat → Prop} (h : JR B B2 w0 w F p J q v ls seq) (ht : Turned T w w') (hT : ∀ k, T k → ¬ JT F p k ∧ B ≤ k ∧ ¬ RT q v k) : JR B B2 w0 w' F p J q v ls seq :=
  ⟨h.jb.other ht (fun k hk => ⟨(hT k hk).1, (hT k hk).2.1, by have := (hT k hk).2.1; have := h.nib; omega⟩), h.rj.aside ht (fun k hk => (hT k hk).2.2), h.sep, h.low, h.nib⟩
theorem JR.base (h : JR B B2 w0 w F p J q v ls seq) : B ≤ w.heap.size := h.jb.base
theorem JR.jlt (h : JR B B2 w0 w F p J q v ls seq) : ∀ k, JT F p k → k < w.heap.size := fun k hk => h.jb.jat.lt hk
/-- another journal on the same disk -/
theorem JR.anew (h : JR B B2 w0 w F p J q v ls seq) {w1 : World} (hd : DB B w0 w1 F D) (ht : Turned F.has w w1) (hj : JAt w' F p' J') (hp : w1.heap.size ≤ p') (h2 : Turned F.has w1 w') : JR B B2 w0 w' F p' J' q v ls seq :=
  ⟨JB.of hd hj hp h2, (h.rj.aside ht (fun k hk => h.sep k (.inl hk))).aside h2 (fun k hk => h.sep k (.inl hk)), fun k hk => by
    rcases hk with hk | rfl
    · exact h.sep k (.inl hk)
    · intro e
      have h3 := (h.rj.rt_low _ e).2
      have h4 := ht.size
      omega, h.low, h.nib⟩
end
/-- the cells of script[i] -/
theorem script_at {w : World} {a : Option Addr} {n cap : Nat} {xs : List OpJ} (h : IsRow rdOpJ w (.slice a n cap) xs) (i : Nat) (hi : i < xs.length) : ∃ b o va, a = some ⟨b, o, none⟩ ∧
    w.cell? ⟨b, o + i * 4, none⟩ = some (.int .i64 xs[i].kind) ∧ w.cell? ⟨b, o + i * 4 + 1, none⟩ = some va ∧ w.cell? ⟨b, o + i * 4 + 2, none⟩ = some (.int .u8 (xs[i].by_.toNat : Int)) ∧ w.cell? ⟨b, o + i * 4 + 3, none⟩ = some (.int .i64 xs[i].raw) ∧
    IsI w va xs[i].at_ ∧ (∀ z ∈ xs[i].at_, -9223372036854775808 ≤ z ∧ z ≤ 9223372036854775807) ∧ (-9223372036854775808 ≤ xs[i].raw ∧ xs[i].raw ≤ 9223372036854775807) := by
  obtain ⟨a', cap', hv, hl, hm, hn, _, hc⟩ := h
  simp only [Value.slice.injEq] at hv
  obtain ⟨rfl, _, rfl⟩ := hv
  cases a with
  | none => have := hn rfl; omega
  | some x =>
    obtain ⟨b, o, s⟩ := x
    obtain ⟨hs, hc⟩ := hc _ rfl
    obtain rfl : s = none := hs (by omega)
    obtain ⟨cs, ⟨c0, c1, c2, c3, he, ⟨e0, a0⟩, ⟨u1, e1, g1⟩, e2, ⟨e3, a3⟩⟩, h2⟩ := hc i hi
    simp only [List.cons.injEq, and_true] at e0 e1 e3
    obtain rfl : c2 = .int .u8 (xs[i].by_.toNat : Int) := by simpa using (show [c2] = _ from e2)
    subst e0 e1 e3 he
    exact ⟨b, o, c1, rfl, h2 0 _ rfl, h2 1 _ rfl, h2 2 _ rfl, h2 3 _ rfl, g1.isI.1, g1.isI.2, a3⟩
/-- what a write does to a journal that goes on, and to the document's -/
structure Both (n : Nat) (J J' : Jn) (seq : Int) (BB : List (List UInt8)) (zs : List Int) (ls : List (List UInt8)) : Prop where
  live : Live n J' (refS BB.length seq zs ls) (refB BB zs ls) AllOk
  err : (J.write zs ls).1 = refE BB.length zs ls
  last : J'.last ≤ J.last + 1
  cut : J'.D.cut = J.D.cut
  ops : J'.D.ops ≤ J.D.ops + (2 * zs.length + 4)
theorem both_write {n : Nat} {J : Jn} {seq : Int} {BB : List (List UInt8)} (h : Live n J seq BB AllOk) (hcut : J.D.cut < 0) (zs : List Int) (ls : List (List UInt8)) (ht : J.last + 1 < 4611686018427387904) (hb : J.D.ops + (2 * zs.length + 4) ≤ 1048576) : Both n J (J.write zs ls).2 seq BB zs ls := by
  have hl := h.rows.1
  by_cases hr : rightW BB.length zs ls = true
  · have w := write_ok h hcut (by rw [← hl]; exact hr) ht hb
    refine ⟨?_, by rw [w.err, refE, if_pos hr], w.last, w.cut, w.ops⟩
    have hlv := w.live
    rw [refB, if_pos hr, refS]
    by_cases h0 : zs.length = 0
    · rw [if_neg (fun h => h.2 h0)]
      rw [if_pos h0] at hlv
      exact hlv
    · rw [if_pos ⟨hr, h0⟩]
      rw [if_neg h0] at hlv
      exact hlv
  · have e := write_no h (by rw [← hl]; simpa using hr)
    rw [e]
    refine ⟨?_, by rw [e, refE, if_neg hr], by show J.last ≤ _; omega, rfl, by show J.D.ops ≤ _; omega⟩
    rw [refB, if_neg hr, refS, if_neg (fun h => hr h.1)]
    exact h
theorem refB_length (BB : List (List UInt8)) (zs : List Int) (ls : List (List UInt8)) : (refB BB zs ls).length = BB.length := by
  unfold refB
  split
  · exact updB_length _ _ _
  · rfl
theorem refS_range (nb : Nat) (seq : Int) (zs : List Int) (ls : List (List UInt8)) : seq ≤ refS nb seq zs ls ∧ refS nb seq zs ls ≤ seq + 1 := by
  unfold refS
  split <;> omega
end Go.Proofs.YtoonlihacbbfdaaDoor

/- A disk behind a crash, and openings that crash. Plain lists. -/
set_option linter.unusedVariables false
set_option linter.unusedSimpArgs false
set_option maxRecDepth 100000
namespace Go.Proofs.YtoonlihacbbfdaaDoor
open Go.RowKit

/-- a disk as a crash leaves it, with an image of a journal -/
structure Fresh (n : Nat) (seq : Int) (B : List (List UInt8)) (top : Nat) (D : Dk) : Prop where
  flat : D.Flat
  ok : D.Ok
  hn : D.n = n
  off : D.off = false
  cut : D.cut = -1
  ops : D.ops = 0
  img : Img n seq B top D.now
theorem crash_ok {D : Dk} (h : D.Ok) (stay : List Int) : (D.crash stay).Ok := ⟨h.n1, h.nm, crashTo_length h stay _, crashTo_length h stay _, (fun x hx => by cases hx), Nat.le_refl _, Nat.zero_le _, by show (-9223372036854775808 : Int) ≤ -1; decide, by show (-1 : Int) ≤ _; decide⟩
/-- a crash of a disk all of whose images are images of a journal -/
theorem Fresh.of_in {n : Nat} {seq : Int} {B : List (List UInt8)} {top : Nat} {D : Dk} (h : D.In fun l => Img n seq B top l) (hn : D.n = n) (stay : List Int) : Fresh n seq B top (D.crash stay) :=
  ⟨⟨rfl, rfl⟩, crash_ok h.ok stay, hn, rfl, rfl, rfl, h.crash stay _⟩
theorem Dk.In.imp {P Q : List UInt8 → Prop} {D : Dk} (h : D.In P) (hs : Q D.safe) (hn : Q D.now) (hx : ∀ x ∈ D.hung, ∀ l, Q l → Q (putS l x.1 x.2)) : D.In Q := ⟨h.ok, hs, hn, hx⟩
theorem Live.fresh {n : Nat} {J : Jn} {seq : Int} {B : List (List UInt8)} {top : Nat} (h : Live n J seq B AllOk) (hl : J.last ≤ top) (ht : top < 4611686018427387904) (stay : List Int) : Fresh n seq B top (J.D.crash stay) := by
  obtain ⟨w, pl, him⟩ := h.im
  exact Fresh.of_in (h.flat.isIn h.dok ⟨w, pl, him.top hl ht⟩) h.hn stay
/-- an opening at which the power may go -/
theorem Fresh.cut_open {n : Nat} {seq : Int} {B : List (List UInt8)} {top : Nat} {D : Dk} (h : Fresh n seq B top D) (c : Int) (h1 : -9223372036854775808 ≤ c) (h2 : c ≤ 9223372036854775807) :
    ∃ code J, ({ D with cut := c, off := false } : Dk).openJ = (code, J) ∧ (code = 0 ∨ code = 43) ∧ ∀ stay, Fresh n seq B top (J.D.crash stay) := by
  obtain ⟨w, pl, him⟩ := h.img
  have hlo := him.lo
  have hhi := him.hi
  have hok : ({ D with cut := c, off := false } : Dk).Ok := ⟨h.ok.n1, h.ok.nm, h.ok.safe, h.ok.now, h.ok.hung, h.ok.loose, h.ok.ops, h1, h2⟩
  obtain ⟨code, J, o⟩ := open_im (D := { D with cut := c, off := false }) him h.flat hok h.hn rfl (by show D.ops + _ ≤ _; rw [h.ops]; omega)
  refine ⟨code, J, o.eq, ?_, ?_⟩
  · rcases o.ends with ⟨h, _⟩ | ⟨h, _⟩
    · exact .inl h
    · exact .inr h
  · rcases o.ends with ⟨_, hl, _⟩ | ⟨_, _, w', pl', t, ht, hin⟩
    · exact fun stay => hl.fresh o.last him.tt stay
    · intro stay
      have hf := hin.crash stay J.D.hung.length
      refine ⟨⟨rfl, rfl⟩, crash_ok hin.ok stay, o.hn.trans h.hn, rfl, rfl, rfl, w', pl', hf.top ht him.tt⟩
/-- an opening with power -/
theorem Fresh.opens {n : Nat} {seq : Int} {B : List (List UInt8)} {top : Nat} {D : Dk} (h : Fresh n seq B top D) :
    ∃ J, D.openJ = (0, J) ∧ Live n J seq B AllOk ∧ J.last ≤ top ∧ J.D.cut = -1 ∧ J.D.ops ≤ (n - 2) / 2 + 1 := by
  obtain ⟨w, pl, him⟩ := h.img
  have hlo := him.lo
  have hhi := him.hi
  obtain ⟨code, J, o⟩ := open_im him h.flat h.ok h.hn h.off (by rw [h.ops]; omega)
  have hops := o.ops
  rw [h.ops] at hops
  rcases o.ends with ⟨rfl, hl, _⟩ | ⟨_, h3, _⟩
  · exact ⟨J, o.eq, hl, o.last, by rw [o.cut, h.cut], by omega⟩
  · rw [h.cut] at h3
    omega
end Go.Proofs.YtoonlihacbbfdaaDoor

/- The document's journal: Clone. -/
set_option linter.unusedVariables false
set_option linter.unusedSimpArgs false
set_option maxRecDepth 100000
namespace Go.Proofs.YtoonlihacbbfdaaDoor
open Go.RowKit

theorem run_firstCells_own {P : Program} {B : Nat} {e : TypeId} {w : World} {v : Value} {n : Nat} {xs : List Value} (h : w.ownsRow B e 1 v n xs) : ∀ w' : World, w'.heap = w.heap → (Builtin.firstCells 1 n v).run P w' = .ok xs.toArray w' := by
  intro w' hw
  obtain ⟨hl, h2⟩ := h
  rw [Nat.mul_one] at hl
  rcases h2 with ⟨rfl, hn⟩ | ⟨g, cap, cur, rfl, hb, hg, hn, hc, hs, htake⟩
  · subst hn
    obtain rfl : xs = [] := List.eq_nil_of_length_eq_zero hl
    simp [Builtin.firstCells]
  · by_cases h0 : n = 0
    · subst h0
      obtain rfl : xs = [] := List.eq_nil_of_length_eq_zero hl
      simp [Builtin.firstCells, loadCells, loadCellsFrom]
    refine run_firstCells_some (P := P) w' 1 n _ _ _ xs (by simp [hl]) ?_
    intro j u hj
    have hlt : j < n := by have := (List.getElem?_eq_some_iff.1 hj).1; omega
    rw [Addr.add_mid, Nat.zero_add, cell_of_row w' _ _ _ _ _ (by rw [hw]; exact hg)]
    have e1 : (cur.toList.take (n * 1))[j]? = some u := by rw [htake]; exact hj
    rw [List.getElem?_take, if_pos (by omega)] at e1
    simpa using e1
theorem own_lenOf {P : Program} {B : Nat} {e : TypeId} {w : World} {v : Value} {n : Nat} {xs : List Value} (h : w.ownsRow B e 1 v n xs) : ∀ w' : World, (Builtin.lenOf v).run P w' = .ok n w' := by
  intro w'
  rcases h.2 with ⟨rfl, hn⟩ | ⟨g, cap, cur, rfl, _⟩
  · subst hn; simp [Builtin.lenOf]
  · simp [Builtin.lenOf]
theorem sv_oneCell (l : List (List UInt8)) : ∀ u ∈ sv l, u.oneCell' = true := by
  intro u hu
  obtain ⟨_, _, rfl⟩ := List.mem_map.1 hu
  rfl
/-- a copy of a row of strings -/
theorem MineS.copy {B B' : Nat} {w : World} {v : Value} {ls : List (List UInt8)} (h : MineS B w v ls) (hB : B' ≤ w.heap.size) (hL : ls.length ≤ 1000000) :
    ∃ v' w', (Builtin.append_ #[44, 44] 44 #[.slice none 0 0, v]).run Tryd.prog w = .ok v' w' ∧ MineS B' w' v' ls ∧ Below w.heap.size w w' := by
  obtain ⟨i, hi, hz, hs, hb⟩ := info_parts (P := Tryd.prog) (e := 9) info_str
  have hnil : w.ownsRow B' 9 1 (.slice none 0 0) 0 [] := World.ownsRow_nil w B' 9 1
  obtain ⟨v', w', hr, ho, hgr, _, _⟩ := run_app (P := Tryd.prog) w B' 44 44 44 9 i _ 1 16 _ Tryd.underlying44 Tryd.underlying44 (.inl rfl) hi hz hs hb rfl (by decide) (.slice none 0 0) 0 [] hnil
    v ls.length (sv ls) (own_lenOf h) (by simp [sv]) (run_firstCells_own h) (sv_oneCell ls) (by simp [maxLen]; omega) (by omega) hB
  refine ⟨v', w', hr, ?_, (Below.refl w.heap.size w).grown hgr (Nat.le_refl _) (fun k hk => by cases hk)⟩
  unfold MineS
  rw [List.nil_append, Nat.zero_add] at ho
  exact ho
set_option maxHeartbeats 8000000 in
theorem rclone_any (w : World) {B q : Nat} {vq : Value} {ls : List (List UInt8)} {seq : Int} (h : RJ B w q vq ls seq) (hls : ls.length ≤ 8191) :
    Calls Tryd.prog 23 #[rjp q] w fun e w' => ∃ q' v', e = .returned (rjp q') ∧ RJ w.heap.size w' q' v' ls seq ∧ Below w.heap.size w w' := by
  obtain ⟨aq, cq, hvq, hcq, hmq⟩ := h.form
  obtain ⟨q0, q1⟩ := rj_cells h
  have hrd : MineS B w.drew vq ls := h.rows.keep (fun _ _ _ => rfl)
  obtain ⟨v', w', hr, hm, hb⟩ := hrd.copy (B' := w.heap.size) (Nat.le_refl _) (by omega)
  have hb' : Below w.heap.size w w' := (Below.refl _ _).drew.trans hb
  have p1 : w'.cell? ⟨q, 1, none⟩ = some (.int .i64 seq) := cells_below hb' _ _ q1
  have p0 : w'.cell? ⟨q, 0, none⟩ = some vq := cells_below hb' _ _ q0
  replace q0 : w.drew.cell? _ = _ := q0
  replace q1 : w.drew.cell? _ = _ := q1
  have hba : Below w'.heap.size w' (w'.alloc (.cells #[v', .int .i64 seq] 48)) := (Below.refl _ _).alloc (Nat.le_refl _) _
  have HF : Hid (RJ w.heap.size (w'.alloc (.cells #[v', .int .i64 seq] 48)) w'.heap.size v' ls seq ∧ Below w.heap.size w (w'.alloc (.cells #[v', .int .i64 seq] 48))) :=
    Lib.hid ⟨⟨hb'.size, heap_alloc_new w' _, hm.below hba⟩, hb'.trans (hba.mono hb'.size)⟩
  obtain ⟨a', c', hv', _, _⟩ : ∃ a cap, v' = .slice a ls.length cap ∧ ls.length ≤ cap ∧ cap ≤ maxLen := by
    rcases hm.2 with ⟨rfl, hn⟩ | ⟨g, cap, cur, rfl, _, _, hn, hc, _⟩
    · exact ⟨none, 0, by rw [hn], by omega, by simp [maxLen]⟩
    · exact ⟨_, cap, rfl, hn, hc⟩
  subst hvq hv'
  clear hm hb hb' hba hrd h
  go_enter Tryd.func23, Tryd.ntmps23
  go_wp2_with fail
  go_region_law (refine step_append_run6 rfl (.const (.slice none 0 0)) (.tmp 6) 44 44 (by rfl) _ _ _ (by rfl) (by rfl) hr ?_)
  all_goals (
    go_wp2_with fail
    go_ret
    exact ⟨_, _, rfl, HF.out⟩)
end Go.Proofs.YtoonlihacbbfdaaDoor

/- A write under which the power may go; a journal, the document's one and another one of it, apart. -/
set_option linter.unusedVariables false
set_option linter.unusedSimpArgs false
set_option maxRecDepth 100000
namespace Go.Proofs.YtoonlihacbbfdaaDoor
open Go.RowKit

theorem Fresh.raise {n : Nat} {seq : Int} {B : List (List UInt8)} {top top' : Nat} {D : Dk} (h : Fresh n seq B top D) (h1 : top ≤ top') (h2 : top' < 4611686018427387904) : Fresh n seq B top' D := by
  obtain ⟨w, pl, him⟩ := h.img
  exact ⟨h.flat, h.ok, h.hn, h.off, h.cut, h.ops, w, pl, him.top h1 h2⟩
theorem writes_seq (J : Jn) (zs : List Int) (ls : List (List UInt8)) : (J.writes zs ls).seq = J.seq ∨ (J.writes zs ls).seq = J.seq + 1 := by
  unfold Jn.writes
  simp only
  split
  · exact .inr rfl
  · left
    rw [Jn.spread, Jn.flush_seq, Jn.spreads_seq, Jn.flush_seq, Jn.lay_seq, Jn.flush_seq, Jn.layTo_seq]
theorem write_seq (J : Jn) (zs : List Int) (ls : List (List UInt8)) : J.seq ≤ (J.write zs ls).2.seq ∧ (J.write zs ls).2.seq ≤ J.seq + 1 := by
  unfold Jn.write
  split
  · exact ⟨Int.le_refl _, by show J.seq ≤ J.seq + 1; omega⟩
  split
  · exact ⟨Int.le_refl _, by show J.seq ≤ J.seq + 1; omega⟩
  split
  · exact ⟨Int.le_refl _, by show J.seq ≤ J.seq + 1; omega⟩
  · show J.seq ≤ (J.writes zs ls).seq ∧ (J.writes zs ls).seq ≤ J.seq + 1
    rcases writes_seq J zs ls with h | h <;> rw [h] <;> omega
/-- blocks as many as there are, each of its length -/
def Rows06 (n : Nat) (ls : List (List UInt8)) : Prop := ls.length = (n - 2) / 2 ∧ ∀ b ∈ ls, b.length = 112
theorem Rows06.refB {n : Nat} {BB : List (List UInt8)} (h : Rows06 n BB) (zs : List Int) (ls : List (List UInt8)) : Rows06 n (refB BB zs ls) := by
  refine ⟨by rw [refB_length]; exact h.1, ?_⟩
  unfold Go.Proofs.YtoonlihacbbfdaaDoor.refB
  split
  · rename_i hr
    exact updB_each _ _ _ (fun b hb => rightW_bytes hr hb) h.2
  · exact h.2
/-- what a write comes to where the power may go -/
structure CutW (n : Nat) (J J' : Jn) (c : Int) (seq : Int) (BB : List (List UInt8)) (zs : List Int) (ls : List (List UInt8)) (top : Nat) : Prop where
  ends : (c = refE BB.length zs ls ∧ Live n J' (refS BB.length seq zs ls) (refB BB zs ls) AllOk) ∨
    (c = 43 ∧ refE BB.length zs ls = 0 ∧ J'.off = 43 ∧ J'.D.Ok ∧ J'.D.n = n ∧ ∀ stay, Fresh n seq BB top (J'.D.crash stay) ∨ Fresh n (refS BB.length seq zs ls) (refB BB zs ls) top (J'.D.crash stay))
  last : J'.last ≤ J.last + 1
  ops : J'.D.ops ≤ J.D.ops + (2 * zs.length + 4)
theorem cut_write {n : Nat} {J : Jn} {seq : Int} {BB : List (List UInt8)} (h : Live n J seq BB AllOk) (zs : List Int) (ls : List (List UInt8)) {top : Nat} (ht : J.last + 1 ≤ top) (ht2 : top < 4611686018427387904) (hb : J.D.ops + (2 * zs.length + 4) ≤ 1048576) : CutW n J (J.write zs ls).2 (J.write zs ls).1 seq BB zs ls top := by
  have hl := h.rows.1
  by_cases hr : rightW BB.length zs ls = true
  · by_cases h0 : zs.length = 0
    · obtain rfl : zs = [] := List.eq_nil_of_length_eq_zero h0
      have e := write_nil h (by rw [← hl]; exact hr)
      rw [e]
      refine ⟨.inl ⟨by rw [refE, if_pos hr], ?_⟩, by show J.last ≤ _; omega, by show J.D.ops ≤ _; omega⟩
      rw [refB, if_pos hr, updB_nil, refS, if_neg (fun h => h.2 h0)]
      exact h
    · have e := write_yes h (by rw [← hl]; exact hr) h0
      have w := writes_live h (by rw [← hl]; exact hr) (by omega) hb
      rw [e]
      refine ⟨?_, Nat.le_of_eq w.last, w.ops⟩
      have eE : refE BB.length zs ls = 0 := by rw [refE, if_pos hr]
      have eB : refB BB zs ls = updB BB zs ls := by rw [refB, if_pos hr]
      have eS : refS BB.length seq zs ls = seq + 1 := by rw [refS, if_pos ⟨hr, h0⟩]
      rw [eE, eB, eS]
      rcases w.ends with ⟨a1, a2⟩ | ⟨a1, a2, P, hin, hP⟩
      · exact .inl ⟨a1, a2⟩
      · refine .inr ⟨a1, rfl, a1, hin.ok, w.hn.trans h.hn, fun stay => ?_⟩
        have hc := hin.crash stay (J.writes zs ls).D.hung.length
        have hn := w.hn.trans h.hn
        rcases hP _ hc with ⟨w', pl, him⟩ | ⟨w', pl, him⟩
        · exact .inl ⟨⟨rfl, rfl⟩, crash_ok hin.ok stay, hn, rfl, rfl, rfl, w', pl, him.top ht ht2⟩
        · exact .inr ⟨⟨rfl, rfl⟩, crash_ok hin.ok stay, hn, rfl, rfl, rfl, w', pl, him.top ht ht2⟩
  · have e := write_no h (by rw [← hl]; simpa using hr)
    rw [e]
    refine ⟨.inl ⟨by rw [refE, if_neg hr], ?_⟩, by show J.last ≤ _; omega, by show J.D.ops ≤ _; omega⟩
    rw [refB, if_neg hr, refS, if_neg (fun h => hr h.1)]
    exact h
theorem Live.cutAt {n : Nat} {J : Jn} {seq : Int} {B : List (List UInt8)} {ok : Nat → Prop} (h : Live n J seq B ok) (c : Int) (h1 : -9223372036854775808 ≤ c) (h2 : c ≤ 9223372036854775807) : Live n { J with D := { J.D with cut := c, off := false } } seq B ok :=
  ⟨h.off, rfl, h.flat, ⟨h.dok.n1, h.dok.nm, h.dok.safe, h.dok.now, h.dok.hung, h.dok.loose, h.dok.ops, h1, h2⟩, h.hn, h.hseq, h.im, h.home⟩
theorem read_off {J : Jn} (h : J.off = 43) (k : Int) : J.read k = ([], 43, J) := by rw [Jn.read, if_pos (by rw [h]; decide), h]
theorem write_off {J : Jn} (h : J.off = 43) (zs : List Int) (ls : List (List UInt8)) : J.write zs ls = (43, J) := by rw [Jn.write, if_pos (by rw [h]; decide), h]
theorem RJ.lower {B B' : Nat} {w : World} {q : Nat} {v : Value} {ls : List (List UInt8)} {seq : Int} (h : RJ B w q v ls seq) (hb : B' ≤ B) : RJ B' w q v ls seq := ⟨Nat.le_trans hb h.low, h.head, own_low h.rows hb⟩
/-- a journal, the document's, and another one of it -/
structure JRR (B : Nat) (w0 w : World) (F : Ft) (p : Nat) (J : Jn) (q : Nat) (v : Value) (ls : List (List UInt8)) (seq : Int) (q2 : Nat) (v2 : Value) (lt : List (List UInt8)) (st : Int) : Prop where
  jb : JB B w0 w F p J
  r : RJ B w q v ls seq
  t : RJ B w q2 v2 lt st
  s1 : ∀ k, JT F p k → ¬ RT q v k
  s2 : ∀ k, JT F p k → ¬ RT q2 v2 k
  s3 : ∀ k, RT q v k → ¬ RT q2 v2 k
  nib : 0 < B
section
variable {B : Nat} {w0 w w' : World} {F : Ft} {p : Nat} {J J' : Jn} {q : Nat} {v : Value} {ls ls' : List (List UInt8)} {seq seq' : Int} {q2 : Nat} {v2 : Value} {lt lt' : List (List UInt8)} {st st' : Int}
theorem JRR.step (h : JRR B w0 w F p J q v ls seq q2 v2 lt st) (hb : Below w.heap.size w w') : JRR B w0 w' F p J q v ls seq q2 v2 lt st := ⟨h.jb.step hb, h.r.below hb, h.t.below hb, h.s1, h.s2, h.s3, h.nib⟩
theorem JRR.turnJ (h : JRR B w0 w F p J q v ls seq q2 v2 lt st) (hj : JAt w' F p J') (ht : Turned (JT F p) w w') : JRR B w0 w' F p J' q v ls seq q2 v2 lt st :=
  ⟨h.jb.turn hj ht, h.r.aside ht h.s1, h.t.aside ht h.s2, h.s1, h.s2, h.s3, h.nib⟩
theorem RJ.jb_aside {Bq : Nat} (hr : RJ Bq w q v ls seq) (hB : B ≤ Bq) (hn : 0 < B) (h : JB B w0 w F p J) (hs : ∀ k, JT F p k → ¬ RT q v k) (ht : Turned (RT q v) w w') : JB B w0 w' F p J :=
  h.other ht fun k hk => by
    have h1 := hr.rt_low k hk
    exact ⟨fun e => hs k e hk, by omega, by omega⟩
theorem JRR.turnR (h : JRR B w0 w F p J q v ls seq q2 v2 lt st) (hr : RJ B w' q v ls' seq') (ht : Turned (RT q v) w w') : JRR B w0 w' F p J q v ls' seq' q2 v2 lt st :=
  ⟨h.r.jb_aside (Nat.le_refl _) h.nib h.jb h.s1 ht, hr, h.t.aside ht h.s3, h.s1, h.s2, h.s3, h.nib⟩
theorem JRR.turnT (h : JRR B w0 w F p J q v ls seq q2 v2 lt st) (hr : RJ B w' q2 v2 lt' st') (ht : Turned (RT q2 v2) w w') : JRR B w0 w' F p J q v ls seq q2 v2 lt' st' :=
  ⟨h.t.jb_aside (Nat.le_refl _) h.nib h.jb h.s2 ht, h.r.aside ht (fun k h1 h2 => h.s3 k h2 h1), hr, h.s1, h.s2, h.s3, h.nib⟩
/-- another copy -/
theorem JRR.copied {q3 : Nat} {v3 : Value} (h : JRR B w0 w F p J q v ls seq q2 v2 lt st) (hr : RJ w.heap.size w' q3 v3 lt' st') (hb : Below w.heap.size w w') : JRR B w0 w' F p J q v ls seq q3 v3 lt' st' := by
  have h1 := h.step hb
  refine ⟨h1.jb, h1.r, hr.lower h.jb.base, h.s1, fun k hk e => ?_, fun k hk e => ?_, h.nib⟩
  · have := h.jb.jat.lt hk
    have := (hr.rt_low k e).1
    omega
  · have := (h.r.rt_low k hk).2
    have := (hr.rt_low k e).1
    omega
theorem JR.copied {B2 q3 : Nat} {v3 : Value} (h : JR B B2 w0 w F p J q v ls seq) (hr : RJ w.heap.size w' q3 v3 lt' st') (hb : Below w.heap.size w w') : JRR B w0 w' F p J q v ls seq q3 v3 lt' st' := by
  have h1 := h.step hb
  refine ⟨h1.jb, h1.rj.lower h.low, hr.lower h.jb.base, h.sep, fun k hk e => ?_, fun k hk e => ?_, h.nib⟩
  · have := h.jb.jat.lt hk
    have := (hr.rt_low k e).1
    omega
  · have := (h.rj.rt_low k hk).2
    have := (hr.rt_low k e).1
    omega
theorem JRR.other {T : Nat → Prop} (h : JRR B w0 w F p J q v ls seq q2 v2 lt st) (ht : Turned T w w') (hT : ∀ k, T k → ¬ JT F p k ∧ B ≤ k ∧ ¬ RT q v k ∧ ¬ RT q2 v2 k) : JRR B w0 w' F p J q v ls seq q2 v2 lt st :=
  ⟨h.jb.other ht (fun k hk => ⟨(hT k hk).1, (hT k hk).2.1, by have := (hT k hk).2.1; have := h.nib; omega⟩), h.r.aside ht (fun k hk => (hT k hk).2.2.1), h.t.aside ht (fun k hk => (hT k hk).2.2.2), h.s1, h.s2, h.s3, h.nib⟩
end
/-- the cells of lives[i] -/
theorem life_at {w : World} {a : Option Addr} {n cap : Nat} {xs : List LifeJ} (h : IsRow rdLifeJ w (.slice a n cap) xs) (i : Nat) (hi : i < xs.length) : ∃ b o vs vi vf, a = some ⟨b, o, none⟩ ∧
    w.cell? ⟨b, o + i * 4, none⟩ = some vs ∧ w.cell? ⟨b, o + i * 4 + 1, none⟩ = some (.int .i64 xs[i].cut) ∧ w.cell? ⟨b, o + i * 4 + 2, none⟩ = some vi ∧ w.cell? ⟨b, o + i * 4 + 3, none⟩ = some vf ∧
    IsRow rdOpJ w vs xs[i].script ∧ (-9223372036854775808 ≤ xs[i].cut ∧ xs[i].cut ≤ 9223372036854775807) ∧ IsI w vi xs[i].stay ∧ IsRow rdFallJ w vf xs[i].again := by
  obtain ⟨a', cap', hv, hl, hm, hn, _, hc⟩ := h
  simp only [Value.slice.injEq] at hv
  obtain ⟨rfl, _, rfl⟩ := hv
  cases a with
  | none => have := hn rfl; omega
  | some x =>
    obtain ⟨b, o, s⟩ := x
    obtain ⟨hs, hc⟩ := hc _ rfl
    obtain rfl : s = none := hs (by omega)
    obtain ⟨cs, ⟨c0, c1, c2, c3, he, ⟨u0, e0, g0⟩, ⟨e1, a1⟩, ⟨u2, e2, g2⟩, ⟨u3, e3, g3⟩⟩, h2⟩ := hc i hi
    simp only [List.cons.injEq, and_true] at e0 e1 e2 e3
    subst e0 e1 e2 e3 he
    exact ⟨b, o, c0, c2, c3, rfl, h2 0 _ rfl, h2 1 _ rfl, h2 2 _ rfl, h2 3 _ rfl, g0, a1, g2.isI.1, g3⟩
end Go.Proofs.YtoonlihacbbfdaaDoor

/- has: has a journal just those blocks, as many writes? -/
set_option linter.unusedVariables false
set_option linter.unusedSimpArgs false
set_option maxRecDepth 100000
namespace Go.Proofs.YtoonlihacbbfdaaDoor
open Go.RowKit

theorem live_get {n : Nat} {J : Jn} {seq : Int} {B : List (List UInt8)} (h : Live n J seq B AllOk) {i : Nat} (hi : i < B.length) : J.read (i : Int) = (B[i], 0, J) := read_live h (by rw [← h.rows.1]; exact hi) trivial (List.getElem?_eq_getElem hi)
set_option maxHeartbeats 16000000 in
theorem has06_any (w : World) {F : Ft} {p : Nat} {J : Jn} {n : Nat} {lj : List (List UInt8)} {sj : Int} (hj : JAt w F p J) (hn : Nib w) (lv : Live n J sj lj AllOk) (hn2 : 2 ≤ n) (hnm : n ≤ 16384) {B q : Nat} {v : Value} {ls : List (List UInt8)} {seq : Int} (hr : RJ B w q v ls seq)
    (hl : ls.length = (n - 2) / 2) (h112 : ∀ b ∈ ls, b.length = 112) (hsep : ∀ k, JT F p k → ¬ RT q v k) :
    Calls Tryd.prog 27 #[jptr p, rjp q] w fun e w' => e = .returned (.bool (decide (sj = seq ∧ lj = ls))) ∧ JAt w' F p J ∧ Turned (JT F p) w w' := by
  obtain ⟨aq, cq, rfl, hcq, hmq⟩ := hr.form
  have hS0 : (fun W : World => W.cell? ⟨q, 0, none⟩ = some (.slice aq ls.length cq) ∧ W.cell? ⟨q, 1, none⟩ = some (.int .i64 seq)) w.drew := rj_cells (w := w) hr
  have hrow := lv.rows
  have hbl : J.D.blocks = ls.length := by rw [lv.blocks, hl]
  have hlj : lj.length = ls.length := by rw [hrow.1, hl]
  have hjn := lv.hn
  have hjs := lv.hseq
  have HB := Lib.hid (blocks_any w.drew F p J hj.drew (by omega))
  rw [hbl] at HB
  have HQ := Lib.hid (seq_any w.drew F p J hj.drew)
  rw [hjs] at HQ
  have HLV := Lib.hid lv
  have Hl := Lib.hid hlj
  have H112 := Lib.hid h112
  have H112j := Lib.hid hrow.2
  have HJ : Hid (JAt w.drew F p J ∧ Nib w.drew ∧ RJ B w.drew q (.slice aq ls.length cq) ls seq ∧ Turned (JT F p) w w.drew) := Lib.hid ⟨hj.drew, hn, hr.keep (fun _ _ _ => rfl), (Turned.refl _ _).drew⟩
  have hnb8 : ls.length ≤ 8191 := by omega
  have HD : Hid (JAt w F p J) := Lib.hid hj
  clear hj hn lv hr hrow hbl hlj hjs h112 hl
  obtain ⟨nb, hnb⟩ : ∃ nb, nb = ls.length := ⟨_, rfl⟩
  have Hnb := Lib.hid hnb
  rw [← hnb] at HB HJ hcq hnb8 hS0 hsep
  clear hnb
  by_cases hs : sj = seq
  case neg =>
    have hd : (sj != seq) = true := by simpa using hs
    have e : decide (sj = seq ∧ lj = ls) = false := decide_eq_false fun h => hs h.1
    rw [e]
    clear e hs
    go_enter Tryd.func27, Tryd.ntmps27
    go_upto_region 1 with fail
    refine wp_region_noPanic ?_
    refine wp_region_held_drew (S := (fun W : World => W.cell? ⟨q, 0, none⟩ = some (.slice aq nb cq) ∧ W.cell? ⟨q, 1, none⟩ = some (.int .i64 seq))) (by kernel_rfl) hS0 (fun hH => ?_)
    refine take_at (i := 0) (v := ?_) rfl (by kernel_rfl) (by kernel_rfl) (by kernel_rfl) (fun _ _ _ h => h) (Or.inl ⟨by rfl, ?_⟩) hH ?_
    rotate_left
    · (intro w hSw; obtain ⟨q0, q1⟩ := hSw; go_simp; try with_reducible rfl)
    try simp only [Act.put, List.setIfInBounds_toArray, List.set_cons_zero, List.set_cons_succ]
    refine take_at (i := 1) (v := ?_) rfl (by kernel_rfl) (by kernel_rfl) (by kernel_rfl) (fun _ _ _ h => h) (Or.inl ⟨by rfl, ?_⟩) hH ?_
    rotate_left
    · (intro w hSw; obtain ⟨q0, q1⟩ := hSw; go_simp; try with_reducible rfl)
    try simp only [Act.put, List.setIfInBounds_toArray, List.set_cons_zero, List.set_cons_succ]
    refine take_at (i := 2) (v := ?_) rfl (by kernel_rfl) (by kernel_rfl) (by kernel_rfl) (fun _ _ _ h => h) (Or.inl ⟨by rfl, ?_⟩) hH ?_
    rotate_left
    · (intro w hSw; obtain ⟨q0, q1⟩ := hSw; go_simp; try with_reducible rfl)
    try simp only [Act.put, List.setIfInBounds_toArray, List.set_cons_zero, List.set_cons_succ]
    refine take_at (i := 3) (v := ?_) rfl (by kernel_rfl) (by kernel_rfl) (by kernel_rfl) (fun _ _ _ h => h) (Or.inl ⟨by rfl, ?_⟩) hH ?_
    rotate_left
    · (intro w hSw; obtain ⟨q0, q1⟩ := hSw; go_simp; try with_reducible rfl)
    try simp only [Act.put, List.setIfInBounds_toArray, List.set_cons_zero, List.set_cons_succ]
    refine take_at (i := 5) (v := ?_) rfl (by kernel_rfl) (by kernel_rfl) (by kernel_rfl) (fun _ _ _ h => h) (Or.inl ⟨by rfl, ?_⟩) hH ?_
    rotate_left
    · (intro w hSw; obtain ⟨q0, q1⟩ := hSw; go_simp; try with_reducible rfl)
    try simp only [Act.put, List.setIfInBounds_toArray, List.set_cons_zero, List.set_cons_succ]
    refine take_at (i := 6) (v := ?_) rfl (by kernel_rfl) (by kernel_rfl) (by kernel_rfl) (fun _ _ _ h => h) (Or.inl ⟨by rfl, ?_⟩) hH ?_
    rotate_left
    · (intro w hSw; obtain ⟨q0, q1⟩ := hSw; go_simp; try with_reducible rfl)
    try simp only [Act.put, List.setIfInBounds_toArray, List.set_cons_zero, List.set_cons_succ]
    refine take_at (i := 7) (v := ?_) rfl (by kernel_rfl) (by kernel_rfl) (by kernel_rfl) (fun _ _ _ h => h) (Or.inl ⟨by rfl, ?_⟩) hH ?_
    rotate_left
    · (intro w hSw; obtain ⟨q0, q1⟩ := hSw; go_simp; try with_reducible rfl)
    try simp only [Act.put, List.setIfInBounds_toArray, List.set_cons_zero, List.set_cons_succ]
    refine take_at (i := 8) (v := ?_) rfl (by kernel_rfl) (by kernel_rfl) (by kernel_rfl) (fun _ _ _ h => h) (Or.inl ⟨by rfl, ?_⟩) hH ?_
    rotate_left
    · (intro w hSw; obtain ⟨q0, q1⟩ := hSw; go_simp; try with_reducible rfl)
    try simp only [Act.put, List.setIfInBounds_toArray, List.set_cons_zero, List.set_cons_succ]
    refine take_at (i := 9) (v := ?_) rfl (by kernel_rfl) (by kernel_rfl) (by kernel_rfl) (fun _ _ _ h => h) (Or.inl ⟨by rfl, ?_⟩) hH ?_
    rotate_left
    · (intro w hSw; obtain ⟨q0, q1⟩ := hSw; go_simp; try with_reducible rfl)
    try simp only [Act.put, List.setIfInBounds_toArray, List.set_cons_zero, List.set_cons_succ]
    refine wpAnyH_ready (rs := [4]) (by kernel_rfl) (by simp) ?_
    refine ready_at rfl (fun K hK => ?_) AllReadyH.nil
    go_simp
    refine HB.out.mono ?_
    rintro e w' ⟨rfl, rfl⟩
    go_wp2_with fail
    refine hK.out _ _ hH (fun _ => ?_)
    clear hK K
    try simp only [Act.put, List.setIfInBounds_toArray, List.set_cons_zero, List.set_cons_succ]
    refine take_at (i := 10) (v := ?_) rfl (by kernel_rfl) (by kernel_rfl) (by kernel_rfl) (fun _ _ _ h => h) (Or.inl ⟨by rfl, ?_⟩) hH ?_
    rotate_left
    · (intro w hSw; obtain ⟨q0, q1⟩ := hSw; go_simp; try with_reducible rfl)
    try simp only [Act.put, List.setIfInBounds_toArray, List.set_cons_zero, List.set_cons_succ]
    refine take_at (i := 11) (v := ?_) rfl (by kernel_rfl) (by kernel_rfl) (by kernel_rfl) (fun _ _ _ h => h) (Or.inl ⟨by rfl, ?_⟩) hH ?_
    rotate_left
    · (intro w hSw; obtain ⟨q0, q1⟩ := hSw; go_simp; try with_reducible rfl)
    try simp only [Act.put, List.setIfInBounds_toArray, List.set_cons_zero, List.set_cons_succ]
    refine take_at (i := 12) (v := ?_) rfl (by kernel_rfl) (by kernel_rfl) (by kernel_rfl) (fun _ _ _ h => h) (Or.inl ⟨by rfl, ?_⟩) hH ?_
    rotate_left
    · (intro w hSw; obtain ⟨q0, q1⟩ := hSw; go_simp; try with_reducible rfl)
    try simp only [Act.put, List.setIfInBounds_toArray, List.set_cons_zero, List.set_cons_succ]
    refine take_at (i := 13) (v := ?_) rfl (by kernel_rfl) (by kernel_rfl) (by kernel_rfl) (fun _ _ _ h => h) (Or.inl ⟨by rfl, ?_⟩) hH ?_
    rotate_left
    · (intro w hSw; obtain ⟨q0, q1⟩ := hSw; go_simp; try with_reducible rfl)
    try simp only [Act.put, List.setIfInBounds_toArray, List.set_cons_zero, List.set_cons_succ]
    refine take_at (i := 15) (v := ?_) rfl (by kernel_rfl) (by kernel_rfl) (by kernel_rfl) (fun _ _ _ h => h) (Or.inl ⟨by rfl, ?_⟩) hH ?_
    rotate_left
    · (intro w hSw; obtain ⟨q0, q1⟩ := hSw; go_simp; try with_reducible rfl)
    try simp only [Act.put, List.setIfInBounds_toArray, List.set_cons_zero, List.set_cons_succ]
    refine take_at (i := 16) (v := ?_) rfl (by kernel_rfl) (by kernel_rfl) (by kernel_rfl) (fun _ _ _ h => h) (Or.inl ⟨by rfl, ?_⟩) hH ?_
    rotate_left
    · (intro w hSw; obtain ⟨q0, q1⟩ := hSw; go_simp; try with_reducible rfl)
    try simp only [Act.put, List.setIfInBounds_toArray, List.set_cons_zero, List.set_cons_succ]
    refine take_at (i := 17) (v := ?_) rfl (by kernel_rfl) (by kernel_rfl) (by kernel_rfl) (fun _ _ _ h => h) (Or.inl ⟨by rfl, ?_⟩) hH ?_
    rotate_left
    · (intro w hSw; obtain ⟨q0, q1⟩ := hSw; go_simp; try with_reducible rfl)
    try simp only [Act.put, List.setIfInBounds_toArray, List.set_cons_zero, List.set_cons_succ]
    refine take_at (i := 18) (v := ?_) rfl (by kernel_rfl) (by kernel_rfl) (by kernel_rfl) (fun _ _ _ h => h) (Or.inl ⟨by rfl, ?_⟩) hH ?_
    rotate_left
    · (intro w hSw; obtain ⟨q0, q1⟩ := hSw; go_simp; try with_reducible rfl)
    try simp only [Act.put, List.setIfInBounds_toArray, List.set_cons_zero, List.set_cons_succ]
    refine wpAnyH_ready (rs := [14]) (by kernel_rfl) (by simp) ?_
    refine ready_at rfl (fun K hK => ?_) AllReadyH.nil
    go_simp
    refine HQ.out.mono ?_
    rintro e w' ⟨rfl, rfl⟩
    go_wp2_with fail
    refine hK.out _ _ hH (fun _ => ?_)
    clear hK K
    try simp only [Act.put, List.setIfInBounds_toArray, List.set_cons_zero, List.set_cons_succ]
    refine take_at (i := 19) (v := ?_) rfl (by kernel_rfl) (by kernel_rfl) (by kernel_rfl) (fun _ _ _ h => h) (Or.inl ⟨by rfl, ?_⟩) hH ?_
    rotate_left
    · (intro w hSw; obtain ⟨q0, q1⟩ := hSw; go_simp; try with_reducible rfl)
    try simp only [Act.put, List.setIfInBounds_toArray, List.set_cons_zero, List.set_cons_succ]
    refine take_at (i := 20) (v := ?_) rfl (by kernel_rfl) (by kernel_rfl) (by kernel_rfl) (fun _ _ _ h => h) (Or.inl ⟨by rfl, ?_⟩) hH ?_
    rotate_left
    · (intro w hSw; obtain ⟨q0, q1⟩ := hSw; go_simp; try with_reducible rfl)
    try simp only [Act.put, List.setIfInBounds_toArray, List.set_cons_zero, List.set_cons_succ]
    refine wpAnyH_done (by kernel_rfl) ?_ _
    refine NoPanic.normal ?_
    clear hH
    go_wp2_with fail
    go_ret
    exact ⟨rfl, HJ.out.1, HJ.out.2.2.2⟩
  have hd : (sj != seq) = false := by simpa using hs
  have He : Hid (decide (sj = seq ∧ lj = ls) = decide (lj = ls)) := Lib.hid (by simp [hs])
  clear hs
  go_enter Tryd.func27, Tryd.ntmps27
  go_upto_region 1 with fail
  refine wp_region_noPanic ?_
  refine wp_region_held_drew (S := (fun W : World => W.cell? ⟨q, 0, none⟩ = some (.slice aq nb cq) ∧ W.cell? ⟨q, 1, none⟩ = some (.int .i64 seq))) (by kernel_rfl) hS0 (fun hH => ?_)
  refine take_at (i := 0) (v := ?_) rfl (by kernel_rfl) (by kernel_rfl) (by kernel_rfl) (fun _ _ _ h => h) (Or.inl ⟨by rfl, ?_⟩) hH ?_
  rotate_left
  · (intro w hSw; obtain ⟨q0, q1⟩ := hSw; go_simp; try with_reducible rfl)
  try simp only [Act.put, List.setIfInBounds_toArray, List.set_cons_zero, List.set_cons_succ]
  refine take_at (i := 1) (v := ?_) rfl (by kernel_rfl) (by kernel_rfl) (by kernel_rfl) (fun _ _ _ h => h) (Or.inl ⟨by rfl, ?_⟩) hH ?_
  rotate_left
  · (intro w hSw; obtain ⟨q0, q1⟩ := hSw; go_simp; try with_reducible rfl)
  try simp only [Act.put, List.setIfInBounds_toArray, List.set_cons_zero, List.set_cons_succ]
  refine take_at (i := 2) (v := ?_) rfl (by kernel_rfl) (by kernel_rfl) (by kernel_rfl) (fun _ _ _ h => h) (Or.inl ⟨by rfl, ?_⟩) hH ?_
  rotate_left
  · (intro w hSw; obtain ⟨q0, q1⟩ := hSw; go_simp; try with_reducible rfl)
  try simp only [Act.put, List.setIfInBounds_toArray, List.set_cons_zero, List.set_cons_succ]
  refine take_at (i := 3) (v := ?_) rfl (by kernel_rfl) (by kernel_rfl) (by kernel_rfl) (fun _ _ _ h => h) (Or.inl ⟨by rfl, ?_⟩) hH ?_
  rotate_left
  · (intro w hSw; obtain ⟨q0, q1⟩ := hSw; go_simp; try with_reducible rfl)
  try simp only [Act.put, List.setIfInBounds_toArray, List.set_cons_zero, List.set_cons_succ]
  refine take_at (i := 5) (v := ?_) rfl (by kernel_rfl) (by kernel_rfl) (by kernel_rfl) (fun _ _ _ h => h) (Or.inl ⟨by rfl, ?_⟩) hH ?_
  rotate_left
  · (intro w hSw; obtain ⟨q0, q1⟩ := hSw; go_simp; try with_reducible rfl)
  try simp only [Act.put, List.setIfInBounds_toArray, List.set_cons_zero, List.set_cons_succ]
  refine take_at (i := 6) (v := ?_) rfl (by kernel_rfl) (by kernel_rfl) (by kernel_rfl) (fun _ _ _ h => h) (Or.inl ⟨by rfl, ?_⟩) hH ?_
  rotate_left
  · (intro w hSw; obtain ⟨q0, q1⟩ := hSw; go_simp; try with_reducible rfl)
  try simp only [Act.put, List.setIfInBounds_toArray, List.set_cons_zero, List.set_cons_succ]
  refine take_at (i := 7) (v := ?_) rfl (by kernel_rfl) (by kernel_rfl) (by kernel_rfl) (fun _ _ _ h => h) (Or.inl ⟨by rfl, ?_⟩) hH ?_
  rotate_left
  · (intro w hSw; obtain ⟨q0, q1⟩ := hSw; go_simp; try with_reducible rfl)
  try simp only [Act.put, List.setIfInBounds_toArray, List.set_cons_zero, List.set_cons_succ]
  refine take_at (i := 8) (v := ?_) rfl (by kernel_rfl) (by kernel_rfl) (by kernel_rfl) (fun _ _ _ h => h) (Or.inl ⟨by rfl, ?_⟩) hH ?_
  rotate_left
  · (intro w hSw; obtain ⟨q0, q1⟩ := hSw; go_simp; try with_reducible rfl)
  try simp only [Act.put, List.setIfInBounds_toArray, List.set_cons_zero, List.set_cons_succ]
  refine take_at (i := 9) (v := ?_) rfl (by kernel_rfl) (by kernel_rfl) (by kernel_rfl) (fun _ _ _ h => h) (Or.inl ⟨by rfl, ?_⟩) hH ?_
  rotate_left
  · (intro w hSw; obtain ⟨q0, q1⟩ := hSw; go_simp; try with_reducible rfl)
  try simp only [Act.put, List.setIfInBounds_toArray, List.set_cons_zero, List.set_cons_succ]
  refine wpAnyH_ready (rs := [4]) (by kernel_rfl) (by simp) ?_
  refine ready_at rfl (fun K hK => ?_) AllReadyH.nil
  go_simp
  refine HB.out.mono ?_
  rintro e w' ⟨rfl, rfl⟩
  go_wp2_with fail
  refine hK.out _ _ hH (fun _ => ?_)
  clear hK K
  try simp only [Act.put, List.setIfInBounds_toArray, List.set_cons_zero, List.set_cons_succ]
  refine take_at (i := 10) (v := ?_) rfl (by kernel_rfl) (by kernel_rfl) (by kernel_rfl) (fun _ _ _ h => h) (Or.inl ⟨by rfl, ?_⟩) hH ?_
  rotate_left
  · (intro w hSw; obtain ⟨q0, q1⟩ := hSw; go_simp; try with_reducible rfl)
  try simp only [Act.put, List.setIfInBounds_toArray, List.set_cons_zero, List.set_cons_succ]
  refine take_at (i := 11) (v := ?_) rfl (by kernel_rfl) (by kernel_rfl) (by kernel_rfl) (fun _ _ _ h => h) (Or.inl ⟨by rfl, ?_⟩) hH ?_
  rotate_left
  · (intro w hSw; obtain ⟨q0, q1⟩ := hSw; go_simp; try with_reducible rfl)
  try simp only [Act.put, List.setIfInBounds_toArray, List.set_cons_zero, List.set_cons_succ]
  refine take_at (i := 12) (v := ?_) rfl (by kernel_rfl) (by kernel_rfl) (by kernel_rfl) (fun _ _ _ h => h) (Or.inl ⟨by rfl, ?_⟩) hH ?_
  rotate_left
  · (intro w hSw; obtain ⟨q0, q1⟩ := hSw; go_simp; try with_reducible rfl)
  try simp only [Act.put, List.setIfInBounds_toArray, List.set_cons_zero, List.set_cons_succ]
  refine take_at (i := 13) (v := ?_) rfl (by kernel_rfl) (by kernel_rfl) (by kernel_rfl) (fun _ _ _ h => h) (Or.inl ⟨by rfl, ?_⟩) hH ?_
  rotate_left
  · (intro w hSw; obtain ⟨q0, q1⟩ := hSw; go_simp; try with_reducible rfl)
  try simp only [Act.put, List.setIfInBounds_toArray, List.set_cons_zero, List.set_cons_succ]
  refine take_at (i := 15) (v := ?_) rfl (by kernel_rfl) (by kernel_rfl) (by kernel_rfl) (fun _ _ _ h => h) (Or.inl ⟨by rfl, ?_⟩) hH ?_
  rotate_left
  · (intro w hSw; obtain ⟨q0, q1⟩ := hSw; go_simp; try with_reducible rfl)
  try simp only [Act.put, List.setIfInBounds_toArray, List.set_cons_zero, List.set_cons_succ]
  refine take_at (i := 16) (v := ?_) rfl (by kernel_rfl) (by kernel_rfl) (by kernel_rfl) (fun _ _ _ h => h) (Or.inl ⟨by rfl, ?_⟩) hH ?_
  rotate_left
  · (intro w hSw; obtain ⟨q0, q1⟩ := hSw; go_simp; try with_reducible rfl)
  try simp only [Act.put, List.setIfInBounds_toArray, List.set_cons_zero, List.set_cons_succ]
  refine take_at (i := 17) (v := ?_) rfl (by kernel_rfl) (by kernel_rfl) (by kernel_rfl) (fun _ _ _ h => h) (Or.inl ⟨by rfl, ?_⟩) hH ?_
  rotate_left
  · (intro w hSw; obtain ⟨q0, q1⟩ := hSw; go_simp; try with_reducible rfl)
  try simp only [Act.put, List.setIfInBounds_toArray, List.set_cons_zero, List.set_cons_succ]
  refine take_at (i := 18) (v := ?_) rfl (by kernel_rfl) (by kernel_rfl) (by kernel_rfl) (fun _ _ _ h => h) (Or.inl ⟨by rfl, ?_⟩) hH ?_
  rotate_left
  · (intro w hSw; obtain ⟨q0, q1⟩ := hSw; go_simp; try with_reducible rfl)
  try simp only [Act.put, List.setIfInBounds_toArray, List.set_cons_zero, List.set_cons_succ]
  refine wpAnyH_ready (rs := [14]) (by kernel_rfl) (by simp) ?_
  refine ready_at rfl (fun K hK => ?_) AllReadyH.nil
  go_simp
  refine HQ.out.mono ?_
  rintro e w' ⟨rfl, rfl⟩
  go_wp2_with fail
  refine hK.out _ _ hH (fun _ => ?_)
  clear hK K
  try simp only [Act.put, List.setIfInBounds_toArray, List.set_cons_zero, List.set_cons_succ]
  refine take_at (i := 19) (v := ?_) rfl (by kernel_rfl) (by kernel_rfl) (by kernel_rfl) (fun _ _ _ h => h) (Or.inl ⟨by rfl, ?_⟩) hH ?_
  rotate_left
  · (intro w hSw; obtain ⟨q0, q1⟩ := hSw; go_simp; try with_reducible rfl)
  try simp only [Act.put, List.setIfInBounds_toArray, List.set_cons_zero, List.set_cons_succ]
  refine take_at (i := 20) (v := ?_) rfl (by kernel_rfl) (by kernel_rfl) (by kernel_rfl) (fun _ _ _ h => h) (Or.inl ⟨by rfl, ?_⟩) hH ?_
  rotate_left
  · (intro w hSw; obtain ⟨q0, q1⟩ := hSw; go_simp; try with_reducible rfl)
  try simp only [Act.put, List.setIfInBounds_toArray, List.set_cons_zero, List.set_cons_succ]
  refine wpAnyH_done (by kernel_rfl) ?_ _
  refine NoPanic.normal ?_
  clear hH
  go_wp2_with fail
  clear HB HQ hS0
  go_loopw [5] (fun x wr => ∃ i : Nat, i ≤ nb ∧ x = .int .i64 (i : Int) ∧ JAt wr F p J ∧ Nib wr ∧ RJ B wr q (.slice aq nb cq) ls seq ∧ Turned (JT F p) w wr ∧ ∀ k, k < i → lj[k]? = ls[k]?) (fun x _ => nb - (intOf x).toNat)
  case atStart => exact ⟨0, Nat.zero_le _, rfl, HJ.out.1, HJ.out.2.1, HJ.out.2.2.1, HJ.out.2.2.2, fun k hk => by omega⟩
  case round =>
    obtain ⟨i, hi, rfl, hj, hn, hr, ht, hall⟩ := hrel
    obtain ⟨q0, q1⟩ := rj_cells hr
    by_cases hlt : i < nb
    case neg =>
      obtain rfl : i = nb := by omega
      have hdz : decide ((i : Int) < (i : Int)) = false := by simp
      have e : decide (lj = ls) = true := decide_eq_true (by
        apply List.ext_getElem?
        intro k
        rcases Nat.lt_or_ge k i with h | h
        · exact hall k h
        · rw [List.getElem?_eq_none (by rw [Hl.out, ← Hnb.out]; exact h), List.getElem?_eq_none (by rw [← Hnb.out]; exact h)])
      have HE := Lib.hid (He.out.trans e)
      clear e hall
      go_wp2_with fail
      go_ret
      rw [HE.out]
      exact ⟨rfl, hj, ht⟩
    have hd1 : decide ((i : Int) < (nb : Int)) = true := decide_eq_true (by omega)
    have hi1 : i < lj.length := by rw [Hl.out, ← Hnb.out]; exact hlt
    have hi2 : i < ls.length := by rw [← Hnb.out]; exact hlt
    obtain ⟨gq, cq', hv, _, _, _⟩ := hr.rows.at (fun e => by rw [e] at hi2; simp at hi2)
    simp only [Value.slice.injEq] at hv
    have hgq := hv.1
    clear hv
    subst hgq
    have hrd := jread_any wr F p J hj hn (by omega) (i : Int) (by omega) (by omega)
    rw [live_get HLV.out hi1] at hrd
    have HRD := Lib.hid hrd
    have hb1 := H112j.out _ (List.getElem_mem hi1)
    have hb2 := H112.out _ (List.getElem_mem hi2)
    have HALL := Lib.hid hall
    clear hrd hall
    go_wp2_with fail
    refine HRD.out.mono ?_
    rintro e w4 ⟨u, rfl, hu, j4, t4⟩
    have hn4 := hn.turned hj t4
    have hr4 := hr.aside t4 hsep
    have hu := hu.now
    have hst := run_str (P := Tryd.prog) hu.drew 36 9 5 Tryd.underlying36 Tryd.underlying5 Tryd.underlying9
    obtain ⟨gq', cq'', hv, _, _, hcs⟩ := hr4.rows.at (fun e => by rw [e] at hi2; simp at hi2)
    simp only [Value.slice.injEq, Option.some.injEq, Addr.mk.injEq] at hv
    have hgq := hv.1.1
    clear hv
    subst hgq
    have hcj : w4.drew.cell? ⟨gq, i, none⟩ = _ := hcs i hi2
    have q0' : w4.drew.cell? ⟨q, 0, none⟩ = _ := (rj_cells hr4).1
    obtain ⟨ua2, uc2, hue, _, _⟩ := hu.form
    rw [hb1] at hue
    subst hue
    have HF : Hid (JAt w4.drew F p J ∧ Nib w4.drew ∧ RJ B w4.drew q (.slice (some ⟨gq, 0, none⟩) nb cq) ls seq ∧ Turned (JT F p) w w4.drew) := Lib.hid ⟨j4.drew, hn4, hr4.keep (fun _ _ _ => rfl), (ht.trans t4).drew⟩
    have hli : Hid (lj[i]? = some lj[i] ∧ ls[i]? = some ls[i]) := Lib.hid ⟨List.getElem?_eq_getElem hi1, List.getElem?_eq_getElem hi2⟩
    obtain ⟨bj, hbj⟩ : ∃ b, b = lj[i] := ⟨_, rfl⟩
    obtain ⟨bl, hbl⟩ : ∃ b, b = ls[i] := ⟨_, rfl⟩
    have HBJ := Lib.hid hbj
    have HBL := Lib.hid hbl
    rw [← hbj] at hst hb1
    rw [← hbl] at hcj hb2
    clear hcs hu j4 t4 hj hn hr ht hn4 hr4 q0 q1 HRD hbj hbl
    by_cases hbe : bj = bl
    · subst hbe
      have HN : Hid (∀ k, k < i + 1 → lj[k]? = ls[k]?) := Lib.hid (fun k hk => by
        by_cases he : k = i
        · rw [he, hli.out.1, hli.out.2, ← HBJ.out, ← HBL.out]
        · exact HALL.out k (by omega))
      go_wp2_with fail
      go_region
      go_wp2_with fail
      go_roundw
      case rel => exact ⟨i + 1, by omega, by go_num, HF.out.1, HF.out.2.1, HF.out.2.2.1, HF.out.2.2.2, HN.out⟩
      case measure => simp [intOf]; omega
    · have e : decide (lj = ls) = false := decide_eq_false (fun h => by
        have h1 := congrArg (fun l : List (List UInt8) => l[i]?) h
        change lj[i]? = ls[i]? at h1
        rw [hli.out.1, hli.out.2] at h1
        exact hbe (by rw [HBJ.out, HBL.out]; exact Option.some.inj h1))
      have HE := Lib.hid (He.out.trans e)
      have hne : (bj == bl) = false := by simpa using hbe
      clear e
      go_wp2_with fail
      go_region
      go_wp2_with fail
      go_ret
      rw [HE.out]
      exact ⟨rfl, HF.out.1, HF.out.2.2.2⟩
end Go.Proofs.YtoonlihacbbfdaaDoor

/- again: a journal that is opened behind a crash, and perhaps behind crashes in that. -/
set_option linter.unusedVariables false
set_option linter.unusedSimpArgs false
set_option maxRecDepth 100000
namespace Go.Proofs.YtoonlihacbbfdaaDoor
open Go.RowKit

/-- the cells of falls[i] -/
theorem fall_at {w : World} {a : Option Addr} {n cap : Nat} {xs : List FallJ} (h : IsRow rdFallJ w (.slice a n cap) xs) (i : Nat) (hi : i < xs.length) : ∃ b o va, a = some ⟨b, o, none⟩ ∧
    w.cell? ⟨b, o + i * 2, none⟩ = some (.int .i64 xs[i].cut) ∧ w.cell? ⟨b, o + i * 2 + 1, none⟩ = some va ∧ IsI w va xs[i].stay ∧ (-9223372036854775808 ≤ xs[i].cut ∧ xs[i].cut ≤ 9223372036854775807) := by
  obtain ⟨a', cap', hv, hl, hm, hn, _, hc⟩ := h
  simp only [Value.slice.injEq] at hv
  obtain ⟨rfl, _, rfl⟩ := hv
  cases a with
  | none => have := hn rfl; omega
  | some x =>
    obtain ⟨b, o, s⟩ := x
    obtain ⟨hs, hc⟩ := hc _ rfl
    obtain rfl : s = none := hs (by omega)
    obtain ⟨cs, ⟨c0, c1, he, ⟨e0, a0⟩, ⟨u1, e1, g1⟩⟩, h2⟩ := hc i hi
    simp only [List.cons.injEq, and_true] at e0 e1
    subst e0 e1 he
    exact ⟨b, o, c1, rfl, h2 0 _ rfl, h2 1 _ rfl, g1.isI.1, a0⟩
theorem DB.cutAt {B : Nat} {w0 w w' : World} {F : Ft} {D D' : Dk} (h : DB B w0 w F D) (hd : DkAt w' F D') (ht : Turned (· = F.p) w w') : DB B w0 w' F D' := h.turn hd (ht.mono fun _ _ e => .inl e)
theorem DB.crash {B : Nat} {w0 w w' : World} {F F' : Ft} {D D' : Dk} (h : DB B w0 w F D) (hd : DkAt w' F' D') (hn : F'.new w) (hb : Below w.heap.size w w') : DB B w0 w' F' D' :=
  ⟨hd, h.nib.below hb, h.below.trans (hb.mono h.base), fun k hk => Nat.le_trans h.base (hn k hk), Nat.le_trans h.base hb.size⟩
set_option maxHeartbeats 16000000 in
theorem again06_any (w0 w : World) (F : Ft) (D : Dk) (db : DB w0.heap.size w0 w F D) {n : Nat} {seq : Int} {Bk : List (List UInt8)} {top : Nat} (hf : Fresh n seq Bk top D) (v : Value) (xs : List FallJ) (hv : IsRow rdFallJ w0 v xs) :
    Calls Tryd.prog 25 #[F.ptr, v] w fun e w' => ∃ F' p' J', e = .returned (.tuple #[F'.ptr, jptr p', .bool true]) ∧ JB w0.heap.size w0 w' F' p' J' ∧ Live n J' seq Bk AllOk ∧ J'.last ≤ top ∧ J'.D.cut = -1 ∧ J'.D.ops ≤ (n - 2) / 2 + 1 ∧
      Turned F.has w w' ∧ ∀ k, JT F' p' k → F.has k ∨ w.heap.size ≤ k := by
  obtain ⟨a0, c0, rfl, hc0, hm0⟩ := hv.form
  have HV := Lib.hid hv
  generalize hB : w0.heap.size = B at *
  have HB := Lib.hid hB
  have HDB := Lib.hid (And.intro db hf)
  clear hv hB hf
  go_enter Tryd.func25, Tryd.ntmps25
  go_wp2_with fail
  go_loopw [0, 7] (fun y x wr => ∃ i : Nat, i ≤ xs.length ∧ i ≤ 4 ∧ x = .int .i64 (i : Int) ∧ ∃ F1 D1, y = F1.ptr ∧ DB B w0 wr F1 D1 ∧ Fresh n seq Bk top D1 ∧ Turned F.has w wr ∧ ∀ k, F1.has k → F.has k ∨ w.heap.size ≤ k) (fun _ x _ => 4 - (intOf x).toNat)
  case atStart => exact ⟨0, Nat.zero_le _, by omega, rfl, F, D, rfl, HDB.out.1, HDB.out.2, Turned.refl _ _, fun k hk => .inl hk⟩
  case round =>
    obtain ⟨i, hi, hi4, rfl, F1, D1, rfl, db1, hf1, ht1, hF1⟩ := hrel
    by_cases hlt : i < xs.length ∧ i < 4
    · obtain ⟨hlt, hlt2⟩ := hlt
      have hd1 : decide ((i : Int) < (xs.length : Int)) = true := decide_eq_true (by omega)
      have hd2 : decide ((i : Int) < 4) = true := decide_eq_true (by omega)
      obtain ⟨bs_, os_, vx, rfl, s0, s1, hix, hr1, hr2⟩ := fall_at HV.out i hlt
      have hS0 : (fun W : World => W.cell? ⟨bs_, os_ + i * 2, none⟩ = some (.int .i64 xs[i].cut)) wr.drew := cells_below (by rw [HB.out]; exact db1.below.drew) _ _ s0
      have HO := Lib.hid (ops_any wr.drew F1 D1 db1.dat.drew)
      have HP := Lib.hid (pick_any wr.drew xs[i].cut 50 hr1 hr2 (by omega) (by omega))
      have hpl := pickN_lt xs[i].cut (n := 50) (by omega)
      have hops := hf1.ops
      rw [hops] at HO
      have S0 := Lib.hid s0
      have S1 := Lib.hid s1
      have HIX := Lib.hid hix
      clear s0 s1 hix
      generalize xs[i].cut = cut at *
      generalize xs[i].stay = stay at *
      generalize pickN cut 50 = pk at *
      have db2 : DB B w0 wr.drew F1 D1 := db1.step (Below.refl _ _).drew
      have ht2 := ht1.drew
      have HC := Lib.hid (cutAt_any wr.drew F1 D1 db2.dat (pk : Int) (by omega) (by omega))
      obtain ⟨code, J, hoj, hcode, hfr⟩ := hf1.cut_open (pk : Int) (by omega) (by omega)
      have HFR := Lib.hid hfr
      have HOJ := Lib.hid hoj
      clear hfr hoj db1 ht1 hops
      have hwp : IntKind.i64.wrap (pk : Int) = (pk : Int) := IntWalk.i64_in _ (by omega)
      go_wp2_with fail
      refine wp_region_noPanic ?_
      refine wp_region_held_drew (S := (fun W : World => W.cell? ⟨bs_, os_ + i * 2, none⟩ = some (.int .i64 cut))) (by kernel_rfl) hS0 (fun hH => ?_)
      refine take_at (i := 0) (v := ?_) rfl (by kernel_rfl) (by kernel_rfl) (by kernel_rfl) (fun _ _ _ h => h) (Or.inl ⟨by rfl, ?_⟩) hH ?_
      rotate_left
      · (intro w hSw; have q0 := hSw; go_simp; try with_reducible rfl)
      try simp only [Act.put, List.setIfInBounds_toArray, List.set_cons_zero, List.set_cons_succ]
      refine take_at (i := 1) (v := ?_) rfl (by kernel_rfl) (by kernel_rfl) (by kernel_rfl) (fun _ _ _ h => h) (Or.inl ⟨by rfl, ?_⟩) hH ?_
      rotate_left
      · (intro w hSw; have q0 := hSw; go_simp; try with_reducible rfl)
      try simp only [Act.put, List.setIfInBounds_toArray, List.set_cons_zero, List.set_cons_succ]
      refine take_at (i := 3) (v := ?_) rfl (by kernel_rfl) (by kernel_rfl) (by kernel_rfl) (fun _ _ _ h => h) (Or.inl ⟨by rfl, ?_⟩) hH ?_
      rotate_left
      · (intro w hSw; have q0 := hSw; go_simp; try with_reducible rfl)
      try simp only [Act.put, List.setIfInBounds_toArray, List.set_cons_zero, List.set_cons_succ]
      refine take_at (i := 4) (v := ?_) rfl (by kernel_rfl) (by kernel_rfl) (by kernel_rfl) (fun _ _ _ h => h) (Or.inl ⟨by rfl, ?_⟩) hH ?_
      rotate_left
      · (intro w hSw; have q0 := hSw; go_simp; try with_reducible rfl)
      try simp only [Act.put, List.setIfInBounds_toArray, List.set_cons_zero, List.set_cons_succ]
      refine take_at (i := 5) (v := ?_) rfl (by kernel_rfl) (by kernel_rfl) (by kernel_rfl) (fun _ _ _ h => h) (Or.inl ⟨by rfl, ?_⟩) hH ?_
      rotate_left
      · (intro w hSw; have q0 := hSw; go_simp; try with_reducible rfl)
      try simp only [Act.put, List.setIfInBounds_toArray, List.set_cons_zero, List.set_cons_succ]
      refine take_at (i := 6) (v := ?_) rfl (by kernel_rfl) (by kernel_rfl) (by kernel_rfl) (fun _ _ _ h => h) (Or.inl ⟨by rfl, ?_⟩) hH ?_
      rotate_left
      · (intro w hSw; have q0 := hSw; go_simp; try with_reducible rfl)
      try simp only [Act.put, List.setIfInBounds_toArray, List.set_cons_zero, List.set_cons_succ]
      refine take_at (i := 7) (v := ?_) rfl (by kernel_rfl) (by kernel_rfl) (by kernel_rfl) (fun _ _ _ h => h) (Or.inl ⟨by rfl, ?_⟩) hH ?_
      rotate_left
      · (intro w hSw; have q0 := hSw; go_simp; try with_reducible rfl)
      try simp only [Act.put, List.setIfInBounds_toArray, List.set_cons_zero, List.set_cons_succ]
      refine wpAnyH_ready (rs := [2]) (by kernel_rfl) (by simp) ?_
      refine ready_at rfl (fun K hK => ?_) AllReadyH.nil
      go_simp
      refine HO.out.mono ?_
      rintro e w' ⟨rfl, rfl⟩
      go_wp2_with fail
      refine hK.out _ _ hH (fun _ => ?_)
      clear hK K
      try simp only [Act.put, List.setIfInBounds_toArray, List.set_cons_zero, List.set_cons_succ]
      refine wpAnyH_ready (rs := [8]) (by kernel_rfl) (by simp) ?_
      refine ready_at rfl (fun K hK => ?_) AllReadyH.nil
      go_simp
      refine HP.out.mono ?_
      rintro e w' ⟨rfl, rfl⟩
      go_wp2_with fail
      refine hK.out _ _ hH (fun _ => ?_)
      clear hK K
      try simp only [Act.put, List.setIfInBounds_toArray, List.set_cons_zero, List.set_cons_succ]
      refine take_at (i := 9) (v := ?_) rfl (by kernel_rfl) (by kernel_rfl) (by kernel_rfl) (fun _ _ _ h => h) (Or.inl ⟨by rfl, ?_⟩) hH ?_
      rotate_left
      · (intro w hSw; have q0 := hSw; go_simp; try with_reducible rfl)
      try simp only [Act.put, List.setIfInBounds_toArray, List.set_cons_zero, List.set_cons_succ]
      refine wpAnyH_ready (rs := [10]) (by kernel_rfl) (by simp) ?_
      refine ready_at rfl (fun K hK => ?_) AllReadyH.nil
      go_simp
      refine HC.out.mono ?_
      rintro e w3 ⟨rfl, d3, t3⟩
      have db3 := db2.cutAt d3 t3
      have ht3 := ht2.then (t3.mono fun _ _ e => Or.inl e) (fun k hk hh => (hF1 k hh).resolve_right (fun e => by omega))
      have hHn : w3.cell? ⟨bs_, os_ + i * 2, none⟩ = some (.int .i64 cut) := cells_below (by rw [HB.out]; exact db3.below) _ _ S0.out
      clear d3 t3 db2 ht2 hH
      go_wp2_with fail
      refine hK.out _ _ hHn (fun hH => ?_)
      clear hHn
      clear hK K
      try simp only [Act.put, List.setIfInBounds_toArray, List.set_cons_zero, List.set_cons_succ]
      refine wpAnyH_done (by kernel_rfl) ?_ _
      refine NoPanic.normal ?_
      clear hH
      rcases hcode with rfl | rfl
      all_goals
        go_wp2_with fail
      · refine (open_good w3 F1 _ db3.dat db3.nib HOJ.out).mono ?_
        rintro e w4 ⟨p4, rfl, j4, hp4, t4⟩
        have db4 := (JB.of db3 j4 hp4 t4).disk
        have ht4 := ht3.then t4 (fun k hk hh => (hF1 k hh).resolve_right (fun e => by omega))
        clear j4 hp4 t4 db3 ht3
        have c1 := cells_below (by rw [HB.out]; exact db4.below) _ _ S1.out
        have hcr := crash_any w4 F1 J.D db4.dat vx stay (HIX.out.below (by rw [HB.out]; exact db4.below))
        go_wp2_with fail
        refine hcr.mono ?_
        rintro e w5 ⟨F5, rfl, d5, hn5, hb5⟩
        have db5 := db4.crash d5 hn5 hb5
        have ht5 := ht4.trans (Turned.of_below hb5)
        have hs5 := ht4.size
        have HF := Lib.hid (HFR.out stay)
        clear hcr d5 hb5 db4 ht4 c1
        go_wp2_with fail
        go_roundw
        case rel => exact ⟨i + 1, by omega, by omega, by go_num, F5, _, rfl, db5, HF.out, ht5, fun k hk => .inr (Nat.le_trans hs5 (hn5 k hk))⟩
        case measure => simp [intOf]; omega
      · refine (open_not w3 F1 _ db3.dat db3.nib HOJ.out (by decide)).mono ?_
        rintro e w4 ⟨rfl, d4, t4⟩
        have db4 := db3.turn d4 t4
        have ht4 := ht3.then t4 (fun k hk hh => (hF1 k hh).resolve_right (fun e => by omega))
        clear d4 t4 db3 ht3
        have c1 := cells_below (by rw [HB.out]; exact db4.below) _ _ S1.out
        have hcr := crash_any w4 F1 J.D db4.dat vx stay (HIX.out.below (by rw [HB.out]; exact db4.below))
        go_wp2_with fail
        refine hcr.mono ?_
        rintro e w5 ⟨F5, rfl, d5, hn5, hb5⟩
        have db5 := db4.crash d5 hn5 hb5
        have ht5 := ht4.trans (Turned.of_below hb5)
        have hs5 := ht4.size
        have HF := Lib.hid (HFR.out stay)
        clear hcr d5 hb5 db4 ht4 c1
        go_wp2_with fail
        go_roundw
        case rel => exact ⟨i + 1, by omega, by omega, by go_num, F5, _, rfl, db5, HF.out, ht5, fun k hk => .inr (Nat.le_trans hs5 (hn5 k hk))⟩
        case measure => simp [intOf]; omega
    · obtain ⟨J, hoj, hlv, hla, hcu, hop⟩ := hf1.opens
      have HOJ := Lib.hid hoj
      have HR := Lib.hid (And.intro hlv (And.intro hla (And.intro hcu hop)))
      clear hoj hlv hla hcu hop
      have hcase : (i < xs.length ∧ ¬ i < 4 ∧ decide ((i : Int) < (xs.length : Int)) = true ∧ decide ((i : Int) < 4) = false) ∨ (¬ i < xs.length ∧ decide ((i : Int) < (xs.length : Int)) = false) := by
        by_cases hl1 : i < xs.length
        · exact .inl ⟨hl1, by omega, decide_eq_true (by omega), decide_eq_false (by omega)⟩
        · exact .inr ⟨hl1, decide_eq_false (by omega)⟩
      clear hlt
      rcases hcase with ⟨hl1, hl2, hd1, hd2⟩ | ⟨hl1, hd1⟩
      all_goals
        go_wp2_with fail
        refine (open_good wr F1 D1 db1.dat db1.nib HOJ.out).mono ?_
        rintro e w4 ⟨p4, rfl, j4, hp4, t4⟩
        have jb4 := JB.of db1 j4 hp4 t4
        have ht4 := ht1.then t4 (fun k hk hh => (hF1 k hh).resolve_right (fun e => by omega))
        have hs1 := ht1.size
        clear j4 t4 db1 ht1
        go_wp2_with fail
        go_ret3
        obtain ⟨r1, r2, r3, r4⟩ := HR.out
        exact ⟨F1, p4, J, rfl, jb4, r1, r2, r3, r4, ht4, fun k hk => by
          rcases hk with hk | rfl
          · exact hF1 k hk
          · exact .inr (by omega)⟩
end Go.Proofs.YtoonlihacbbfdaaDoor

/- What a script's region reads. -/
set_option linter.unusedVariables false
set_option linter.unusedSimpArgs false
set_option maxRecDepth 100000
namespace Go.Proofs.YtoonlihacbbfdaaDoor
open Go.RowKit

/-- an op of the script, the document's blocks -/
def ScrAt (b o i q : Nat) (c0 c1 c2 c3 v : Value) (W : World) : Prop :=
  W.cell? ⟨b, o + i * 4, none⟩ = some c0 ∧ W.cell? ⟨b, o + i * 4 + 1, none⟩ = some c1 ∧ W.cell? ⟨b, o + i * 4 + 2, none⟩ = some c2 ∧ W.cell? ⟨b, o + i * 4 + 3, none⟩ = some c3 ∧ W.cell? ⟨q, 0, none⟩ = some v
theorem ScrAt.below {b o i q : Nat} {c0 c1 c2 c3 v : Value} {W W' : World} (h : ScrAt b o i q c0 c1 c2 c3 v W) (hb : Below W.heap.size W W') : ScrAt b o i q c0 c1 c2 c3 v W' :=
  ⟨cells_below hb _ _ h.1, cells_below hb _ _ h.2.1, cells_below hb _ _ h.2.2.1, cells_below hb _ _ h.2.2.2.1, cells_below hb _ _ h.2.2.2.2⟩
end Go.Proofs.YtoonlihacbbfdaaDoor

/- A life where it was laid. -/
set_option linter.unusedVariables false
set_option linter.unusedSimpArgs false
set_option maxRecDepth 100000
namespace Go.Proofs.YtoonlihacbbfdaaDoor
open Go.RowKit

/-- the life where it was laid -/
abbrev lifeRow (vs : Value) (cut : Int) (vi vf : Value) : Obj := .cells #[vs, .int .i64 cut, vi, vf] 56 (0, 0)
theorem life_cells {W : World} {g : Nat} {vs vi vf : Value} {cut : Int} (h : W.heap[g]? = some (lifeRow vs cut vi vf)) :
    W.cell? ⟨g, 0, none⟩ = some vs ∧ W.cell? ⟨g, 1, none⟩ = some (.int .i64 cut) ∧ W.cell? ⟨g, 2, none⟩ = some vi ∧ W.cell? ⟨g, 3, none⟩ = some vf := by
  refine ⟨?_, ?_, ?_, ?_⟩ <;> · rw [cell_of_row _ _ _ _ _ _ h]; rfl
end Go.Proofs.YtoonlihacbbfdaaDoor

/- JournalAnew: a journal that is formatted has nothing of what lay on the disk. -/
set_option linter.unusedVariables false
set_option linter.unusedSimpArgs false
set_option maxRecDepth 100000
namespace Go.Proofs.YtoonlihacbbfdaaDoor
open Go.RowKit

theorem formed_open {n : Nat} {D : Dk} (hok : D.Ok) (hn : D.n = n) (h1 : 32 ≤ n) (h2 : n ≤ 16384) (hoff : D.off = false) (hcut : D.cut < 0) (hflat : D.Flat) (hops : D.ops = 0) : ∃ D1 J, D.format = (0, D1) ∧ D1.openJ = (0, J) ∧ Live n J 0 (zeroB n) AllOk ∧ J.last ≤ 1 ∧ J.D.cut < 0 ∧ J.D.ops ≤ 2 * n + 5 := by
  obtain ⟨D1, f⟩ := format_im (n := n) hok hn h1 hoff hcut hflat (by rw [hops]; omega)
  have ho := f.ops
  have hc : D1.cut = D.cut := f.cut
  obtain ⟨c, J, o⟩ := open_im f.im f.flat f.ok f.hn f.off (by omega)
  have hJo := o.ops
  rcases o.ends with ⟨rfl, hl, _⟩ | ⟨_, h3, _⟩
  · exact ⟨D1, J, f.eq, o.eq, hl, o.last, by rw [o.cut, hc]; exact hcut, by omega⟩
  · omega
/-- a journal that goes on, or that is off -/
def Runs (n : Nat) (J : Jn) (lim : Nat) : Prop := J.D.Ok ∧ J.D.n = n ∧ J.last ≤ lim ∧ J.D.ops ≤ 400 + 100 * lim ∧ 0 ≤ J.seq ∧ J.seq ≤ (lim : Int) ∧ ((∃ seq BB, Live n J seq BB AllOk) ∨ J.off = 43)
theorem Runs.write {n : Nat} {J : Jn} {lim : Nat} (h : Runs n J lim) (hl : lim ≤ 1000) (zs : List Int) (ls : List (List UInt8)) (hz : zs.length ≤ 40) : Runs n (J.write zs ls).2 (lim + 1) := by
  obtain ⟨a1, a2, a3, a4, a5, a6, a7⟩ := h
  rcases a7 with ⟨seq, BB, lv⟩ | ho
  · have cw := cut_write lv zs ls (top := 1002) (by omega) (by omega) (by omega)
    have hs := write_seq J zs ls
    have c1 := cw.last
    have c2 := cw.ops
    rcases cw.ends with ⟨_, hl'⟩ | ⟨_, _, hoff, hok', hn', _⟩
    · exact ⟨hl'.dok, hl'.hn, by omega, by omega, by omega, by omega, .inl ⟨_, _, hl'⟩⟩
    · exact ⟨hok', hn', by omega, by omega, by omega, by omega, .inr hoff⟩
  · rw [write_off ho]
    exact ⟨a1, a2, by show J.last ≤ _; omega, by show J.D.ops ≤ _; omega, a5, by show J.seq ≤ _; omega, .inr ho⟩
set_option maxHeartbeats 16000000 in
theorem anew_walk (w : World) (hn : Nib w) (sec_ : Int) (vs vi vf : Value) (cut : Int) (scr : List OpJ) (stay : List Int) (hsc : IsRow rdOpJ w vs scr) (hst : IsI w vi stay) (va : Value) (xs : List OpJ) (hva : IsRow rdOpJ w va xs)
    (hs1 : -9223372036854775808 ≤ sec_) (hs2 : sec_ ≤ 9223372036854775807) (hc1 : -9223372036854775808 ≤ cut) (hc2 : cut ≤ 9223372036854775807) :
    Calls Tryd.prog 7 #[.int .i64 sec_, .agg #[vs, .int .i64 cut, vi, vf], va] w fun e w' => e = .returned (.bool true) ∧ Below w.heap.size w w' := by
  obtain ⟨a0, c0, rfl, hc0, hm0⟩ := hva.form
  obtain ⟨as_, cs_, rfl, hcs1, hcs2⟩ := hsc.form
  obtain ⟨ai, ci, rfl, _, _⟩ := hst.form
  unfold maxLen at hm0 hcs2
  have HVA := Lib.hid hva
  have HSC := Lib.hid hsc
  have HST := Lib.hid hst
  have HSZ := Lib.hid (fun w : World => size_any w sec_ hs1 hs2)
  have hsz := pickN_lt sec_ (n := 60) (by omega)
  obtain ⟨n, hnn⟩ : ∃ n, n = 32 + pickN sec_ 60 := ⟨_, rfl⟩
  rw [← hnn] at HSZ
  have hn32 : 32 ≤ n := by omega
  have hn92 : n ≤ 92 := by omega
  have hgw : 0 < w.heap.size := World.block_lt_of_cell? w _ (hn 0 (by omega))
  obtain ⟨W1, hW1⟩ : ∃ W1, W1 = w.alloc (.cells #[.slice as_ scr.length cs_, .int .i64 cut, .slice ai stay.length ci, vf] 56) := ⟨_, rfl⟩
  have hlr1 : W1.heap[w.heap.size]? = some (lifeRow (.slice as_ scr.length cs_) cut (.slice ai stay.length ci) vf) := by rw [hW1]; exact heap_alloc_new w _
  have hb1 : Below w.heap.size w W1 := by rw [hW1]; exact (Below.refl _ _).alloc (Nat.le_refl _) _
  have hn1 : Nib W1 := hn.below hb1
  clear hva hs1 hs2 hsz hnn hsc hst hn
  go_enter Tryd.func7, Tryd.ntmps7
  go_upto_region 1 with fail
  rw [← hW1]
  clear hW1
  generalize hg0 : w.heap.size = g0 at *
  have Hg0 := Lib.hid hg0
  clear hg0
  go_wp2_with fail
  refine (shown06_any W1 hn1).mono ?_
  rintro e W2 ⟨rfl, hb2⟩
  have hlr2 := (hb2.block g0 (lt_of_heap hlr1)).trans hlr1
  have hn2 := hn1.below hb2
  have hbw2 := hb1.trans (hb2.mono (Nat.le_of_lt (lt_of_heap hlr1)))
  clear hlr1 hb1 hb2 hn1
  go_wp2_with fail
  refine (HSZ.out W2).mono ?_
  rintro e w' ⟨rfl, rfl⟩
  go_wp2_with fail
  refine (begun06_any W2 hn2 n hn32 (by omega)).mono ?_
  rintro e W3 ⟨F, p, q, v, J, B2, rfl, jb, lv, hl1, hcut, hops, hrj, hsep, hB2⟩
  have hg2 := lt_of_heap hlr2
  have hjgl : ∀ k, JT F p k → g0 < k := fun k hk => Nat.lt_of_lt_of_le hg2 (jb.own k hk)
  have hlr3 := (jb.below.block g0 hg2).trans hlr2
  have jr : JR g0 B2 w W3 F p J q v (zeroB n) 0 := ⟨jb.from hbw2 (Nat.le_of_lt hg2), hrj, (fun k h1 h2 => by have := hsep k h1; have := (hrj.rt_low k h2).1; omega), Nat.le_trans (Nat.le_of_lt hg2) hB2, hgw⟩
  have hlow2 : g0 < B2 := Nat.lt_of_lt_of_le hg2 hB2
  clear jb hrj hsep hB2 hn2 hlr2 hg2 hbw2
  have hzl : (zeroB n).length = (n - 2) / 2 := by simp [zeroB]
  have hS0 : (fun W : World => W.heap[g0]? = some (lifeRow (.slice as_ scr.length cs_) cut (.slice ai stay.length ci) vf)) W3.drew := hlr3
  have jr2 := jr.step (Below.refl _ _).drew
  have hops2 := lv.dok.ops
  have HO := Lib.hid (ops_any W3.drew F J.D jr2.jb.jat.disk)
  have HP := Lib.hid (pick_any W3.drew cut 400 hc1 hc2 (by omega) (by omega))
  have hpl := pickN_lt cut (n := 400) (by omega)
  go_upto_region 6 with fail
  generalize pickN cut 400 = pk at *
  have HC := Lib.hid (cutAt_any W3.drew F J.D jr2.jb.jat.disk ((J.D.ops : Int) + (pk : Int)) (by omega) (by omega))
  have hwp : IntKind.i64.wrap ((J.D.ops : Int) + (pk : Int)) = (J.D.ops : Int) + (pk : Int) := IntWalk.i64_in _ (by omega)
  clear hlr3 jr
  refine wp_region_noPanic ?_
  refine wp_region_held_drew (S := (fun W : World => W.heap[g0]? = some (lifeRow (.slice as_ scr.length cs_) cut (.slice ai stay.length ci) vf))) (by kernel_rfl) hS0 (fun hH => ?_)
  refine take_at (i := 0) (v := ?_) rfl (by kernel_rfl) (by kernel_rfl) (by kernel_rfl) (fun _ _ _ h => h) (Or.inl ⟨by rfl, ?_⟩) hH ?_
  rotate_left
  · (intro w hSw; obtain ⟨z0, z1, z2, z3⟩ := life_cells hSw; go_simp; try with_reducible rfl)
  try simp only [Act.put, List.setIfInBounds_toArray, List.set_cons_zero, List.set_cons_succ]
  refine take_at (i := 1) (v := ?_) rfl (by kernel_rfl) (by kernel_rfl) (by kernel_rfl) (fun _ _ _ h => h) (Or.inl ⟨by rfl, ?_⟩) hH ?_
  rotate_left
  · (intro w hSw; obtain ⟨z0, z1, z2, z3⟩ := life_cells hSw; go_simp; try with_reducible rfl)
  try simp only [Act.put, List.setIfInBounds_toArray, List.set_cons_zero, List.set_cons_succ]
  refine take_at (i := 3) (v := ?_) rfl (by kernel_rfl) (by kernel_rfl) (by kernel_rfl) (fun _ _ _ h => h) (Or.inl ⟨by rfl, ?_⟩) hH ?_
  rotate_left
  · (intro w hSw; obtain ⟨z0, z1, z2, z3⟩ := life_cells hSw; go_simp; try with_reducible rfl)
  try simp only [Act.put, List.setIfInBounds_toArray, List.set_cons_zero, List.set_cons_succ]
  refine take_at (i := 4) (v := ?_) rfl (by kernel_rfl) (by kernel_rfl) (by kernel_rfl) (fun _ _ _ h => h) (Or.inl ⟨by rfl, ?_⟩) hH ?_
  rotate_left
  · (intro w hSw; obtain ⟨z0, z1, z2, z3⟩ := life_cells hSw; go_simp; try with_reducible rfl)
  try simp only [Act.put, List.setIfInBounds_toArray, List.set_cons_zero, List.set_cons_succ]
  refine wpAnyH_ready (rs := [2]) (by kernel_rfl) (by simp) ?_
  refine ready_at rfl (fun K hK => ?_) AllReadyH.nil
  go_simp
  refine HO.out.mono ?_
  rintro e w' ⟨rfl, rfl⟩
  go_wp2_with fail
  refine hK.out _ _ hH (fun _ => ?_)
  clear hK K
  try simp only [Act.put, List.setIfInBounds_toArray, List.set_cons_zero, List.set_cons_succ]
  refine wpAnyH_ready (rs := [5]) (by kernel_rfl) (by simp) ?_
  refine ready_at rfl (fun K hK => ?_) AllReadyH.nil
  go_simp
  refine HP.out.mono ?_
  rintro e w' ⟨rfl, rfl⟩
  go_wp2_with fail
  refine hK.out _ _ hH (fun _ => ?_)
  clear hK K
  try simp only [Act.put, List.setIfInBounds_toArray, List.set_cons_zero, List.set_cons_succ]
  refine take_at (i := 6) (v := ?_) rfl (by kernel_rfl) (by kernel_rfl) (by kernel_rfl) (fun _ _ _ h => h) (Or.inl ⟨by rfl, ?_⟩) hH ?_
  rotate_left
  · (intro w hSw; obtain ⟨z0, z1, z2, z3⟩ := life_cells hSw; go_simp; try with_reducible rfl)
  try simp only [Act.put, List.setIfInBounds_toArray, List.set_cons_zero, List.set_cons_succ]
  refine wpAnyH_ready (rs := [7]) (by kernel_rfl) (by simp) ?_
  refine ready_at rfl (fun K hK => ?_) AllReadyH.nil
  go_simp
  refine HC.out.mono ?_
  rintro e W4 ⟨rfl, d3, t3⟩
  have jr3 := jr2.turnJ (J' := { J with D := { J.D with cut := (J.D.ops : Int) + (pk : Int), off := false } }) (jr2.jb.jat.put_disk d3 (t3.mono fun _ _ e => .inl e)) (t3.mono fun _ _ e => .inl (.inl e))
  have hHn := (t3.block g0 (lt_of_heap hH) (fun e => by have := hjgl g0 (.inl (.inl e)); omega)).trans hH
  clear d3 t3 jr2 hH
  go_wp2_with fail
  refine hK.out _ _ hHn (fun hlr4 => ?_)
  clear hHn
  clear hK K
  try simp only [Act.put, List.setIfInBounds_toArray, List.set_cons_zero, List.set_cons_succ]
  refine wpAnyH_done (by kernel_rfl) ?_ _
  refine NoPanic.normal ?_
  have lv4 := lv.cutAt ((J.D.ops : Int) + (pk : Int)) (by omega) (by omega)
  have hla4 : ({ J with D := { J.D with cut := (J.D.ops : Int) + (pk : Int), off := false } } : Jn).last ≤ 1 := hl1
  have hop4 : ({ J with D := { J.D with cut := (J.D.ops : Int) + (pk : Int), off := false } } : Jn).D.ops ≤ 400 := by show J.D.ops ≤ 400; omega
  have hru : Runs n { J with D := { J.D with cut := (J.D.ops : Int) + (pk : Int), off := false } } 1 := ⟨lv4.dok, lv4.hn, hla4, by omega, by rw [lv4.hseq]; decide, by rw [lv4.hseq]; decide, .inl ⟨_, _, lv4⟩⟩
  clear lv hl1 hcut hops HO HP HC hwp hops2 hpl lv4 hla4 hop4 hS0
  generalize ({ J with D := { J.D with cut := (J.D.ops : Int) + (pk : Int), off := false } } : Jn) = J3 at *
  generalize W4.drew = W5 at *
  obtain ⟨aq, cq, rfl, hcq, hmq⟩ := jr3.rj.form
  rw [hzl] at hcq jr3
  clear hzl
  obtain ⟨nb, hnb⟩ : ∃ nb, nb = (n - 2) / 2 := ⟨_, rfl⟩
  have hnb0 : 0 < nb := by omega
  have hnb8 : nb ≤ 8191 := by omega
  rw [← hnb] at hcq jr3
  have Hnb := Lib.hid hnb
  clear hnb
  have hrgl : ∀ k, RT q (.slice aq nb cq) k → g0 < k := fun k hk => by have := (jr3.rj.rt_low k hk).1; have := jr3.low; have := hlow2; omega
  go_wp2_with fail
  go_loopw [12] (fun y wr => ∃ k : Nat, k ≤ scr.length ∧ k ≤ 25 ∧ y = .int .i64 (k : Int) ∧ ∃ J, JR g0 B2 w wr F p J q (.slice aq nb cq) (zeroB n) 0 ∧ wr.heap[g0]? = some (lifeRow (.slice as_ scr.length cs_) cut (.slice ai stay.length ci) vf) ∧ Runs n J (1 + k)) (fun y _ => 25 - (intOf y).toNat)
  case atStart => exact ⟨0, Nat.zero_le _, by omega, rfl, J3, jr3, hlr4, hru⟩
  case round =>
    clear jr3 hlr4 hru
    obtain ⟨k, hk, hk25, rfl, J, jr, hlr, hru⟩ := hrel
    obtain ⟨z0, z1, z2, z3⟩ := life_cells hlr
    by_cases hlt : k < scr.length ∧ k < 25
    case pos =>
      obtain ⟨hk1, hk2⟩ := hlt
      have hd3 : decide ((k : Int) < (scr.length : Int)) = true := decide_eq_true (by omega)
      have hd4 : decide ((k : Int) < 25) = true := decide_eq_true (by omega)
      obtain ⟨bo, oo, vx, rfl, s0, s1, s2, s3, hix, hzx, hr1, hr2⟩ := script_at (HSC.out.below (by rw [Hg0.out]; exact jr.jb.below)) k hk1
      obtain ⟨q0, q1⟩ := rj_cells jr.rj
      have hjlt : ∀ k, JT F p k → k < wr.drew.heap.size := fun k hk => jr.jb.jat.lt hk
      have hS0 : (fun W : World => ScrAt bo oo k q (.int .i64 scr[k].kind) vx (.int .u8 (scr[k].by_.toNat : Int)) (.int .i64 scr[k].raw) (.slice aq nb cq) W ∧ W.heap[g0]? = some (lifeRow (.slice (some ⟨bo, oo, none⟩) scr.length cs_) cut (.slice ai stay.length ci) vf)) wr.drew := ⟨⟨s0, s1, s2, s3, q0⟩, hlr⟩
      have jr1 := jr.step (Below.refl _ _).drew
      replace hix : IsI wr.drew _ _ := hix
      have HRU := Lib.hid hru
      obtain ⟨_, hJn, hJl, _, hJs0, hJs1, _⟩ := hru
      clear s0 s1 s2 s3 q0 q1 jr hlr
      generalize scr[k] = x at *
      go_upto_region 10 with fail
      clear z0 z1 z2 z3
      refine wp_region_noPanic ?_
      refine wp_region_held_drew (S := (fun W : World => ScrAt bo oo k q (.int .i64 x.kind) vx (.int .u8 (x.by_.toNat : Int)) (.int .i64 x.raw) (.slice aq nb cq) W ∧ W.heap[g0]? = some (lifeRow (.slice (some ⟨bo, oo, none⟩) scr.length cs_) cut (.slice ai stay.length ci) vf))) (by kernel_rfl) hS0 (fun hH => ?_)
      refine take_at (i := 0) (v := ?_) rfl (by kernel_rfl) (by kernel_rfl) (by kernel_rfl) (fun _ _ _ h => h) (Or.inl ⟨by rfl, ?_⟩) hH ?_
      rotate_left
      · (intro w hSw; obtain ⟨⟨q0, q1, q2, q3, q4⟩, ql⟩ := hSw; obtain ⟨z0, z1, z2, z3⟩ := life_cells ql; go_simp; try with_reducible rfl)
      try simp only [Act.put, List.setIfInBounds_toArray, List.set_cons_zero, List.set_cons_succ]
      refine take_at (i := 1) (v := ?_) rfl (by kernel_rfl) (by kernel_rfl) (by kernel_rfl) (fun _ _ _ h => h) (Or.inl ⟨by rfl, ?_⟩) hH ?_
      rotate_left
      · (intro w hSw; obtain ⟨⟨q0, q1, q2, q3, q4⟩, ql⟩ := hSw; obtain ⟨z0, z1, z2, z3⟩ := life_cells ql; go_simp; try with_reducible rfl)
      try simp only [Act.put, List.setIfInBounds_toArray, List.set_cons_zero, List.set_cons_succ]
      refine take_at (i := 2) (v := ?_) rfl (by kernel_rfl) (by kernel_rfl) (by kernel_rfl) (fun _ _ _ h => h) (Or.inl ⟨by rfl, ?_⟩) hH ?_
      rotate_left
      · (intro w hSw; obtain ⟨⟨q0, q1, q2, q3, q4⟩, ql⟩ := hSw; obtain ⟨z0, z1, z2, z3⟩ := life_cells ql; go_simp; try with_reducible rfl)
      try simp only [Act.put, List.setIfInBounds_toArray, List.set_cons_zero, List.set_cons_succ]
      refine take_at (i := 3) (v := ?_) rfl (by kernel_rfl) (by kernel_rfl) (by kernel_rfl) (fun _ _ _ h => h) (Or.inl ⟨by rfl, ?_⟩) hH ?_
      rotate_left
      · (intro w hSw; obtain ⟨⟨q0, q1, q2, q3, q4⟩, ql⟩ := hSw; obtain ⟨z0, z1, z2, z3⟩ := life_cells ql; go_simp; try with_reducible rfl)
      try simp only [Act.put, List.setIfInBounds_toArray, List.set_cons_zero, List.set_cons_succ]
      refine take_at (i := 4) (v := ?_) rfl (by kernel_rfl) (by kernel_rfl) (by kernel_rfl) (fun _ _ _ h => h) (Or.inl ⟨by rfl, ?_⟩) hH ?_
      rotate_left
      · (intro w hSw; obtain ⟨⟨q0, q1, q2, q3, q4⟩, ql⟩ := hSw; obtain ⟨z0, z1, z2, z3⟩ := life_cells ql; go_simp; try with_reducible rfl)
      try simp only [Act.put, List.setIfInBounds_toArray, List.set_cons_zero, List.set_cons_succ]
      refine take_at (i := 5) (v := ?_) rfl (by kernel_rfl) (by kernel_rfl) (by kernel_rfl) (fun _ _ _ h => h) (Or.inl ⟨by rfl, ?_⟩) hH ?_
      rotate_left
      · (intro w hSw; obtain ⟨⟨q0, q1, q2, q3, q4⟩, ql⟩ := hSw; obtain ⟨z0, z1, z2, z3⟩ := life_cells ql; go_simp; try with_reducible rfl)
      try simp only [Act.put, List.setIfInBounds_toArray, List.set_cons_zero, List.set_cons_succ]
      refine take_at (i := 6) (v := ?_) rfl (by kernel_rfl) (by kernel_rfl) (by kernel_rfl) (fun _ _ _ h => h) (Or.inl ⟨by rfl, ?_⟩) hH ?_
      rotate_left
      · (intro w hSw; obtain ⟨⟨q0, q1, q2, q3, q4⟩, ql⟩ := hSw; obtain ⟨z0, z1, z2, z3⟩ := life_cells ql; go_simp; try with_reducible rfl)
      try simp only [Act.put, List.setIfInBounds_toArray, List.set_cons_zero, List.set_cons_succ]
      refine take_at (i := 7) (v := ?_) rfl (by kernel_rfl) (by kernel_rfl) (by kernel_rfl) (fun _ _ _ h => h) (Or.inl ⟨by rfl, ?_⟩) hH ?_
      rotate_left
      · (intro w hSw; obtain ⟨⟨q0, q1, q2, q3, q4⟩, ql⟩ := hSw; obtain ⟨z0, z1, z2, z3⟩ := life_cells ql; go_simp; try with_reducible rfl)
      try simp only [Act.put, List.setIfInBounds_toArray, List.set_cons_zero, List.set_cons_succ]
      refine take_at (i := 8) (v := ?_) rfl (by kernel_rfl) (by kernel_rfl) (by kernel_rfl) (fun _ _ _ h => h) (Or.inl ⟨by rfl, ?_⟩) hH ?_
      rotate_left
      · (intro w hSw; obtain ⟨⟨q0, q1, q2, q3, q4⟩, ql⟩ := hSw; obtain ⟨z0, z1, z2, z3⟩ := life_cells ql; go_simp; try with_reducible rfl)
      try simp only [Act.put, List.setIfInBounds_toArray, List.set_cons_zero, List.set_cons_succ]
      refine take_at (i := 9) (v := ?_) rfl (by kernel_rfl) (by kernel_rfl) (by kernel_rfl) (fun _ _ _ h => h) (Or.inl ⟨by rfl, ?_⟩) hH ?_
      rotate_left
      · (intro w hSw; obtain ⟨⟨q0, q1, q2, q3, q4⟩, ql⟩ := hSw; obtain ⟨z0, z1, z2, z3⟩ := life_cells ql; go_simp; try with_reducible rfl)
      try simp only [Act.put, List.setIfInBounds_toArray, List.set_cons_zero, List.set_cons_succ]
      refine wpAnyH_ready (rs := [10]) (by kernel_rfl) (by simp) ?_
      refine ready_at rfl (fun K hK => ?_) AllReadyH.nil
      go_simp
      refine (blocks06_any _ x.kind _ x.by_ x.raw x.at_ nb hix hr1 hr2 hnb0 (by omega) hzx).mono ?_
      rintro e W5 ⟨u, v5, rfl, hmi5, hml5, hb5⟩
      have hHn := And.intro (hH.1.below hb5) ((hb5.block g0 (lt_of_heap hH.2)).trans hH.2)
      have jr5 := jr1.step hb5
      have hh5 : Held wr.drew.heap.size W5 (fun w => IsI w u (blk x.raw x.by_ nb x.at_).1 ∧ IsBs w v5 (blk x.raw x.by_ nb x.at_).2) := fun w2 h2 => ⟨hmi5.held w2 h2, hml5.held w2 h2⟩
      clear hmi5 hml5 hb5 hH jr1 hix
      go_wp2_with fail
      refine hK.out _ _ hHn (fun hH => ?_)
      clear hHn
      clear hK K
      try simp only [Act.put, List.setIfInBounds_toArray, List.set_cons_zero, List.set_cons_succ]
      refine take_at (i := 11) (v := ?_) rfl (by kernel_rfl) (by kernel_rfl) (by kernel_rfl) (fun _ _ _ h => h) (Or.inl ⟨by rfl, ?_⟩) hH ?_
      rotate_left
      · (intro w hSw; obtain ⟨⟨q0, q1, q2, q3, q4⟩, ql⟩ := hSw; obtain ⟨z0, z1, z2, z3⟩ := life_cells ql; go_simp; try with_reducible rfl)
      try simp only [Act.put, List.setIfInBounds_toArray, List.set_cons_zero, List.set_cons_succ]
      refine take_at (i := 12) (v := ?_) rfl (by kernel_rfl) (by kernel_rfl) (by kernel_rfl) (fun _ _ _ h => h) (Or.inl ⟨by rfl, ?_⟩) hH ?_
      rotate_left
      · (intro w hSw; obtain ⟨⟨q0, q1, q2, q3, q4⟩, ql⟩ := hSw; obtain ⟨z0, z1, z2, z3⟩ := life_cells ql; go_simp; try with_reducible rfl)
      try simp only [Act.put, List.setIfInBounds_toArray, List.set_cons_zero, List.set_cons_succ]
      refine take_at (i := 13) (v := ?_) rfl (by kernel_rfl) (by kernel_rfl) (by kernel_rfl) (fun _ _ _ h => h) (Or.inl ⟨by rfl, ?_⟩) hH ?_
      rotate_left
      · (intro w hSw; obtain ⟨⟨q0, q1, q2, q3, q4⟩, ql⟩ := hSw; obtain ⟨z0, z1, z2, z3⟩ := life_cells ql; go_simp; try with_reducible rfl)
      try simp only [Act.put, List.setIfInBounds_toArray, List.set_cons_zero, List.set_cons_succ]
      refine take_at (i := 14) (v := ?_) rfl (by kernel_rfl) (by kernel_rfl) (by kernel_rfl) (fun _ _ _ h => h) (Or.inl ⟨by rfl, ?_⟩) hH ?_
      rotate_left
      · (intro w hSw; obtain ⟨⟨q0, q1, q2, q3, q4⟩, ql⟩ := hSw; obtain ⟨z0, z1, z2, z3⟩ := life_cells ql; go_simp; try with_reducible rfl)
      try simp only [Act.put, List.setIfInBounds_toArray, List.set_cons_zero, List.set_cons_succ]
      refine take_at (i := 15) (v := ?_) rfl (by kernel_rfl) (by kernel_rfl) (by kernel_rfl) (fun _ _ _ h => h) (Or.inl ⟨by rfl, ?_⟩) hH ?_
      rotate_left
      · (intro w hSw; obtain ⟨⟨q0, q1, q2, q3, q4⟩, ql⟩ := hSw; obtain ⟨z0, z1, z2, z3⟩ := life_cells ql; go_simp; try with_reducible rfl)
      try simp only [Act.put, List.setIfInBounds_toArray, List.set_cons_zero, List.set_cons_succ]
      refine wpAnyH_done (by kernel_rfl) ?_ _
      refine NoPanic.normal ?_
      have hlr5 := hH.2
      clear hH
      have hzi := blk_ints (raw := x.raw) (by_ := x.by_) hnb0 (by omega) hzx
      have hsh := blk_short x.raw x.by_ nb x.at_
      generalize blk x.raw x.by_ nb x.at_ = bk at *
      have hwr := jwrite_any W5 F p J jr5.jb.jat jr5.jb.nib (by omega) _ bk.1 (fun w' ht => ((hh5.turned ht hjlt).now).1) _ bk.2 (fun w' ht => ((hh5.turned ht hjlt).now).2) hzi (by omega) (by omega) (by omega)
      have HW := Lib.hid (HRU.out.write (by omega) bk.1 bk.2 hsh)
      have HWR := Lib.hid hwr
      clear hwr
      go_wp2_with fail
      refine HWR.out.mono ?_
      rintro e W7 ⟨rfl, j7, t7⟩
      have jr7 := jr5.turnJ j7 t7
      have hlr7 := (t7.block g0 (lt_of_heap hlr5) (fun e => by have := hjgl g0 e; omega)).trans hlr5
      clear HWR j7 t7 jr5 hh5 hlr5
      go_wp2_with fail
      go_roundw
      case rel => exact ⟨k + 1, by omega, by omega, by go_num, _, jr7, hlr7, HW.out⟩
      case measure => simp [intOf]; omega
    case neg =>
      have hcase : (k < scr.length ∧ ¬ k < 25 ∧ decide ((k : Int) < (scr.length : Int)) = true ∧ decide ((k : Int) < 25) = false) ∨ (¬ k < scr.length ∧ decide ((k : Int) < (scr.length : Int)) = false) := by
        by_cases h1 : k < scr.length
        · exact .inl ⟨h1, by omega, decide_eq_true (by omega), decide_eq_false (by omega)⟩
        · exact .inr ⟨h1, decide_eq_false (by omega)⟩
      obtain ⟨hJok, hJn, _⟩ := hru
      obtain ⟨D1, J1, e1, e2, lv1, hla1, hcu1, hop1⟩ := formed_open (D := J.D.crash stay) (crash_ok hJok stay) hJn hn32 (by omega) rfl (by show (-1 : Int) < 0; decide) ⟨rfl, rfl⟩ rfl
      have E1 := Lib.hid e1
      have E2 := Lib.hid e2
      have LV1 := Lib.hid lv1
      have HCR := Lib.hid (crash_any wr F J.D jr.jb.jat.disk _ stay (HST.out.below (by rw [Hg0.out]; exact jr.jb.below)))
      have hbwr := jr.jb.below
      have hnib := jr.jb.nib
      have hbase := jr.jb.base
      have hdb := jr.jb.disk
      clear hlt hJok hJn e1 e2 lv1 jr hlr
      rcases hcase with ⟨h1, h2, hd3, hd4⟩ | ⟨h1, hd3⟩
      all_goals
        go_wp2_with fail
        refine HCR.out.mono ?_
        rintro e W12 ⟨F2, rfl, d12, hn12, hb12⟩
        have db12 := hdb.crash d12 hn12 hb12
        clear z0 z1 z2 z3 HCR hdb d12 hn12 hb12
        go_wp2_with fail
        refine (format_any W12 F2 _ db12.dat db12.nib).mono ?_
        rintro e W13 ⟨rfl, d13, t13⟩
        rw [E1.out] at d13 ⊢
        have db13 := db12.turn d13 t13
        clear d13 t13 db12
        go_wp2_with fail
        refine (open_good W13 F2 D1 db13.dat db13.nib E2.out).mono ?_
        rintro e W14 ⟨p2, rfl, j14, hp14, t14⟩
        have jb14 := JB.of db13 j14 hp14 t14
        clear j14 hp14 t14 db13
        go_wp2_with fail
        refine (begunR_any W14 n (by omega) (by omega)).mono ?_
        rintro e W15 ⟨q3, v3, rfl, r15, hb15⟩
        have jr15 : JR g0 W14.heap.size w W15 F2 p2 J1 q3 v3 (zeroB n) 0 := ⟨jb14.step hb15, r15, fun k h1 h2 => by have := jb14.jat.lt h1; have := (r15.rt_low k h2).1; omega, jb14.base, hgw⟩
        clear jb14 r15 hb15
        have hrw := LV1.out.rows
        have HHA := Lib.hid (has06_any W15 jr15.jb.jat jr15.jb.nib LV1.out (by omega) (by omega) jr15.rj hrw.1 hrw.2 jr15.sep)
        have HRW := Lib.hid hrw
        have hds : decide ((0 : Int) = 0 ∧ zeroB n = zeroB n) = true := by simp
        clear hrw
        go_wp2_with fail
        refine HHA.out.mono ?_
        rintro e W16 ⟨rfl, j16, t16⟩
        have jr16 := jr15.turnJ j16 t16
        clear HHA j16 t16 jr15
        rw [hds]
        clear hds
        generalize W14.heap.size = B5 at *
        go_wp2_with fail
        go_loopw [21] (fun y wr => ∃ i : Nat, i ≤ xs.length ∧ i ≤ 20 ∧ y = .int .i64 (i : Int) ∧ ∃ J BB seq, JR g0 B5 w wr F2 p2 J q3 v3 BB seq ∧ Live n J seq BB AllOk ∧ Rows06 n BB ∧ J.last ≤ 1 + i ∧ J.D.cut < 0 ∧ J.D.ops ≤ 400 + i * 100 ∧ 0 ≤ seq ∧ seq ≤ (i : Int)) (fun y _ => 20 - (intOf y).toNat)
        case atStart => exact ⟨0, Nat.zero_le _, by omega, rfl, J1, _, _, jr16, LV1.out, HRW.out, by omega, hcu1, by omega, by omega, by omega⟩
        case round =>
          clear jr16 LV1 HRW hla1 hcu1 hop1
          obtain ⟨i, hi, hi20, rfl, J, BB, seq, jr, lv, hbl, hlast, hcut, hops, hsq0, hsq1⟩ := hrel
          by_cases hlt : i < xs.length ∧ i < 20
          · obtain ⟨hlt, hlt2⟩ := hlt
            have hd1 : decide ((i : Int) < (xs.length : Int)) = true := decide_eq_true (by omega)
            have hd2 : decide ((i : Int) < 20) = true := decide_eq_true (by omega)
            obtain ⟨bs_, os_, vx, rfl, s0, s1, s2, s3, hix, hzx, hr1, hr2⟩ := script_at (HVA.out.below (by rw [Hg0.out]; exact jr.jb.below)) i hlt
            obtain ⟨aq3, cq3, rfl, hcq3, hmq3⟩ := jr.rj.form
            obtain ⟨q0, q1⟩ := rj_cells jr.rj
            have hjlt : ∀ k, JT F2 p2 k → k < wr.drew.heap.size := fun k hk => jr.jlt k hk
            have hrlt : ∀ k, RT q3 (.slice aq3 BB.length cq3) k → k < wr.drew.heap.size := fun k hk => (jr.rj.rt_low k hk).2
            have HLV := Lib.hid lv
            have HROW := Lib.hid hbl
            have hnbb0 : 0 < BB.length := by rw [hbl.1]; omega
            have hnbb8 : BB.length ≤ 8191 := by rw [hbl.1]; omega
            have jr1 := jr.step (Below.refl _ _).drew
            have hJn := lv.hn
            have hJs := lv.hseq
            have hS0 : ScrAt bs_ os_ i q3 (.int .i64 xs[i].kind) vx (.int .u8 (xs[i].by_.toNat : Int)) (.int .i64 xs[i].raw) (.slice aq3 BB.length cq3) wr.drew := ⟨s0, s1, s2, s3, q0⟩
            replace hix : IsI wr.drew _ _ := hix
            clear jr lv hbl s0 s1 s2 s3 q0 q1
            generalize xs[i] = x at *
            go_upto_region 24 with fail
            refine wp_region_noPanic ?_
            refine wp_region_held_drew (S := (ScrAt bs_ os_ i q3 (.int .i64 x.kind) vx (.int .u8 (x.by_.toNat : Int)) (.int .i64 x.raw) (.slice aq3 BB.length cq3))) (by kernel_rfl) hS0 (fun hH => ?_)
            refine take_at (i := 0) (v := ?_) rfl (by kernel_rfl) (by kernel_rfl) (by kernel_rfl) (fun _ _ _ h => h) (Or.inl ⟨by rfl, ?_⟩) hH ?_
            rotate_left
            · (intro w hSw; obtain ⟨q0, q1, q2, q4, q5⟩ := hSw; go_simp; try with_reducible rfl)
            try simp only [Act.put, List.setIfInBounds_toArray, List.set_cons_zero, List.set_cons_succ]
            refine take_at (i := 1) (v := ?_) rfl (by kernel_rfl) (by kernel_rfl) (by kernel_rfl) (fun _ _ _ h => h) (Or.inl ⟨by rfl, ?_⟩) hH ?_
            rotate_left
            · (intro w hSw; obtain ⟨q0, q1, q2, q4, q5⟩ := hSw; go_simp; try with_reducible rfl)
            try simp only [Act.put, List.setIfInBounds_toArray, List.set_cons_zero, List.set_cons_succ]
            refine take_at (i := 2) (v := ?_) rfl (by kernel_rfl) (by kernel_rfl) (by kernel_rfl) (fun _ _ _ h => h) (Or.inl ⟨by rfl, ?_⟩) hH ?_
            rotate_left
            · (intro w hSw; obtain ⟨q0, q1, q2, q4, q5⟩ := hSw; go_simp; try with_reducible rfl)
            try simp only [Act.put, List.setIfInBounds_toArray, List.set_cons_zero, List.set_cons_succ]
            refine take_at (i := 3) (v := ?_) rfl (by kernel_rfl) (by kernel_rfl) (by kernel_rfl) (fun _ _ _ h => h) (Or.inl ⟨by rfl, ?_⟩) hH ?_
            rotate_left
            · (intro w hSw; obtain ⟨q0, q1, q2, q4, q5⟩ := hSw; go_simp; try with_reducible rfl)
            try simp only [Act.put, List.setIfInBounds_toArray, List.set_cons_zero, List.set_cons_succ]
            refine take_at (i := 4) (v := ?_) rfl (by kernel_rfl) (by kernel_rfl) (by kernel_rfl) (fun _ _ _ h => h) (Or.inl ⟨by rfl, ?_⟩) hH ?_
            rotate_left
            · (intro w hSw; obtain ⟨q0, q1, q2, q4, q5⟩ := hSw; go_simp; try with_reducible rfl)
            try simp only [Act.put, List.setIfInBounds_toArray, List.set_cons_zero, List.set_cons_succ]
            refine take_at (i := 5) (v := ?_) rfl (by kernel_rfl) (by kernel_rfl) (by kernel_rfl) (fun _ _ _ h => h) (Or.inl ⟨by rfl, ?_⟩) hH ?_
            rotate_left
            · (intro w hSw; obtain ⟨q0, q1, q2, q4, q5⟩ := hSw; go_simp; try with_reducible rfl)
            try simp only [Act.put, List.setIfInBounds_toArray, List.set_cons_zero, List.set_cons_succ]
            refine take_at (i := 6) (v := ?_) rfl (by kernel_rfl) (by kernel_rfl) (by kernel_rfl) (fun _ _ _ h => h) (Or.inl ⟨by rfl, ?_⟩) hH ?_
            rotate_left
            · (intro w hSw; obtain ⟨q0, q1, q2, q4, q5⟩ := hSw; go_simp; try with_reducible rfl)
            try simp only [Act.put, List.setIfInBounds_toArray, List.set_cons_zero, List.set_cons_succ]
            refine take_at (i := 7) (v := ?_) rfl (by kernel_rfl) (by kernel_rfl) (by kernel_rfl) (fun _ _ _ h => h) (Or.inl ⟨by rfl, ?_⟩) hH ?_
            rotate_left
            · (intro w hSw; obtain ⟨q0, q1, q2, q4, q5⟩ := hSw; go_simp; try with_reducible rfl)
            try simp only [Act.put, List.setIfInBounds_toArray, List.set_cons_zero, List.set_cons_succ]
            refine take_at (i := 8) (v := ?_) rfl (by kernel_rfl) (by kernel_rfl) (by kernel_rfl) (fun _ _ _ h => h) (Or.inl ⟨by rfl, ?_⟩) hH ?_
            rotate_left
            · (intro w hSw; obtain ⟨q0, q1, q2, q4, q5⟩ := hSw; go_simp; try with_reducible rfl)
            try simp only [Act.put, List.setIfInBounds_toArray, List.set_cons_zero, List.set_cons_succ]
            refine wpAnyH_ready (rs := [9]) (by kernel_rfl) (by simp) ?_
            refine ready_at rfl (fun K hK => ?_) AllReadyH.nil
            go_simp
            refine (blocks06_any _ x.kind _ x.by_ x.raw x.at_ BB.length hix hr1 hr2 hnbb0 (by omega) hzx).mono ?_
            rintro e W5 ⟨u, v2, rfl, hmi5, hml5, hb5⟩
            have hHn := hH.below hb5
            have jr5 := jr1.step hb5
            have hh5 : Held wr.drew.heap.size W5 (fun w => IsI w u (blk x.raw x.by_ BB.length x.at_).1 ∧ IsBs w v2 (blk x.raw x.by_ BB.length x.at_).2) := fun w2 h2 => ⟨hmi5.held w2 h2, hml5.held w2 h2⟩
            clear hmi5 hml5 hb5 hH jr1 hix
            go_wp2_with fail
            refine hK.out _ _ hHn (fun hH => ?_)
            clear hHn
            clear hK K
            try simp only [Act.put, List.setIfInBounds_toArray, List.set_cons_zero, List.set_cons_succ]
            refine take_at (i := 10) (v := ?_) rfl (by kernel_rfl) (by kernel_rfl) (by kernel_rfl) (fun _ _ _ h => h) (Or.inl ⟨by rfl, ?_⟩) hH ?_
            rotate_left
            · (intro w hSw; obtain ⟨q0, q1, q2, q4, q5⟩ := hSw; go_simp; try with_reducible rfl)
            try simp only [Act.put, List.setIfInBounds_toArray, List.set_cons_zero, List.set_cons_succ]
            refine take_at (i := 11) (v := ?_) rfl (by kernel_rfl) (by kernel_rfl) (by kernel_rfl) (fun _ _ _ h => h) (Or.inl ⟨by rfl, ?_⟩) hH ?_
            rotate_left
            · (intro w hSw; obtain ⟨q0, q1, q2, q4, q5⟩ := hSw; go_simp; try with_reducible rfl)
            try simp only [Act.put, List.setIfInBounds_toArray, List.set_cons_zero, List.set_cons_succ]
            refine take_at (i := 12) (v := ?_) rfl (by kernel_rfl) (by kernel_rfl) (by kernel_rfl) (fun _ _ _ h => h) (Or.inl ⟨by rfl, ?_⟩) hH ?_
            rotate_left
            · (intro w hSw; obtain ⟨q0, q1, q2, q4, q5⟩ := hSw; go_simp; try with_reducible rfl)
            try simp only [Act.put, List.setIfInBounds_toArray, List.set_cons_zero, List.set_cons_succ]
            refine take_at (i := 13) (v := ?_) rfl (by kernel_rfl) (by kernel_rfl) (by kernel_rfl) (fun _ _ _ h => h) (Or.inl ⟨by rfl, ?_⟩) hH ?_
            rotate_left
            · (intro w hSw; obtain ⟨q0, q1, q2, q4, q5⟩ := hSw; go_simp; try with_reducible rfl)
            try simp only [Act.put, List.setIfInBounds_toArray, List.set_cons_zero, List.set_cons_succ]
            refine take_at (i := 14) (v := ?_) rfl (by kernel_rfl) (by kernel_rfl) (by kernel_rfl) (fun _ _ _ h => h) (Or.inl ⟨by rfl, ?_⟩) hH ?_
            rotate_left
            · (intro w hSw; obtain ⟨q0, q1, q2, q4, q5⟩ := hSw; go_simp; try with_reducible rfl)
            try simp only [Act.put, List.setIfInBounds_toArray, List.set_cons_zero, List.set_cons_succ]
            refine wpAnyH_done (by kernel_rfl) ?_ _
            refine NoPanic.normal ?_
            clear hH
            have hzi := blk_ints (raw := x.raw) (by_ := x.by_) hnbb0 (by omega) hzx
            have hsh := blk_short x.raw x.by_ BB.length x.at_
            generalize blk x.raw x.by_ BB.length x.at_ = bk at *
            have bw := both_write HLV.out hcut bk.1 bk.2 (by omega) (by omega)
            have hwr := jwrite_any W5 F2 p2 J jr5.jb.jat jr5.jb.nib (by omega) _ bk.1 (fun w' ht => ((hh5.turned ht hjlt).now).1) _ bk.2 (fun w' ht => ((hh5.turned ht hjlt).now).2) hzi (by omega) (by omega) (by omega)
            rw [bw.err] at hwr
            have HB := Lib.hid bw
            have HWR := Lib.hid hwr
            clear hwr bw
            go_wp2_with fail
            refine HWR.out.mono ?_
            rintro e W6 ⟨rfl, j6, t6⟩
            have jr6 := jr5.turnJ j6 t6
            have hh6 := hh5.turned t6 hjlt
            clear j6 t6 jr5 hh5 HWR
            have HRWR := Lib.hid (rwrite_any W6 jr6.rj _ bk.1 (fun w' ht => ((hh6.turned ht hrlt).now).1) _ bk.2 (fun w' ht => ((hh6.turned ht hrlt).now).2) hnbb8 hzi (by omega) (by omega))
            go_wp2_with fail
            refine HRWR.out.mono ?_
            rintro e W7 ⟨rfl, r7, t7⟩
            have HJR := Lib.hid (jr6.turnR r7 t7)
            clear r7 t7 jr6 hh6 HRWR
            have hrs := refS_range BB.length seq bk.1 bk.2
            go_wp2_with fail
            go_roundw
            case rel => exact ⟨i + 1, by omega, by omega, by go_num, _, _, _, HJR.out, HB.out.live, HROW.out.refB _ _, by have := HB.out.last; omega, by rw [HB.out.cut]; exact hcut, by have := HB.out.ops; omega, by omega, by omega⟩
            case measure => simp [intOf]; omega
          · have hcase2 : (i < xs.length ∧ ¬ i < 20 ∧ decide ((i : Int) < (xs.length : Int)) = true ∧ decide ((i : Int) < 20) = false) ∨ (¬ i < xs.length ∧ decide ((i : Int) < (xs.length : Int)) = false) := by
              by_cases hl1 : i < xs.length
              · exact .inl ⟨hl1, by omega, decide_eq_true (by omega), decide_eq_false (by omega)⟩
              · exact .inr ⟨hl1, decide_eq_false (by omega)⟩
            have hfr := lv.fresh (top := 100) (by omega) (by omega) []
            obtain ⟨J9, e9, lv9, _⟩ := hfr.opens
            have E9 := Lib.hid e9
            have LV9 := Lib.hid lv9
            have HROW := Lib.hid hbl
            have HCR2 := Lib.hid (crash_any wr F2 J.D jr.jb.jat.disk (.slice none 0 0) [] (IsI.nil wr))
            have hds2 : decide (seq = seq ∧ BB = BB) = true := by simp
            have Hds2 := Lib.hid hds2
            clear hds2 hlt e9 lv9 hfr lv hbl
            rcases hcase2 with ⟨hl1, hl2, hd1, hd2⟩ | ⟨hl1, hd1⟩
            all_goals
              go_wp2_with fail
              refine HCR2.out.mono ?_
              rintro e W17 ⟨F6, rfl, d17, hn17, hb17⟩
              have db17 := jr.jb.disk.crash d17 hn17 hb17
              have jr17 := jr.step hb17
              have hrl17 : ∀ k, RT q3 v3 k → k < wr.heap.size := fun k hk => (jr.rj.rt_low k hk).2
              clear d17 jr
              go_wp2_with fail
              refine (open_good W17 F6 _ db17.dat db17.nib E9.out).mono ?_
              rintro e W18 ⟨p6, rfl, j18, hp18, t18⟩
              have jb18 := JB.of db17 j18 hp18 t18
              have r18 := jr17.rj.aside t18 (fun k hk e => by have := hn17 k hk; have := hrl17 k e; omega)
              have hs18 : ∀ k, JT F6 p6 k → ¬ RT q3 v3 k := fun k h1 h2 => by
                have h3 := hrl17 k h2
                have h4 := hb17.size
                rcases h1 with h1 | rfl
                · have := hn17 k h1; omega
                · omega
              have HH9 := Lib.hid (has06_any W18 jb18.jat jb18.nib LV9.out (by omega) (by omega) r18 HROW.out.1 HROW.out.2 hs18)
              clear db17 jr17 hrl17 j18 hp18 t18 r18 hn17 hb17 hs18
              go_wp2_with fail
              refine HH9.out.mono ?_
              rintro e W19 ⟨rfl, j19, t19⟩
              rw [Hds2.out]
              have jb19 := jb18.turn j19 t19
              clear j19 t19 jb18 HH9
              go_wp2_with fail
              go_ret
              rw [Hg0.out]
              exact ⟨rfl, jb19.below⟩
end Go.Proofs.YtoonlihacbbfdaaDoor

/- The card of JournalAnew: for every input the law answers true, and what came in reads as it did. -/
set_option linter.unusedVariables false
set_option linter.unusedSimpArgs false
set_option maxRecDepth 100000
namespace Go.Proofs.YtoonlihacbbfdaaDoor.cardJournalAnew
open Go.ChangeShapes Go.WideShapes Go.ChangeAt Go.RowKit Go.Deep
open Go.ChangeMaps (open_string shut_string)

theorem gTab : Tryd.prog.globalNamed "usance/wire.nibbles" = some 0 := by kernel_rfl
theorem gTabType : (Tryd.prog.globals[0]?).map (·.type) = some 106 := by kernel_rfl
theorem cellsTab : Tryd.prog.cellsOf 106 = 16 := by kernel_rfl
theorem cellsU32 : Tryd.prog.cellsOf 100 = 1 := by kernel_rfl
/-- what the row lists: the table of the sum -/
theorem table {W : World} (h : laidMetH Tryd.prog Rows.journalAnewRow.laid W) : Nib W := by
  have ht : Lib.TabIs Tryd.prog W "usance/wire.nibbles" .u32 [0, 498536548, 997073096, 651767980, 1994146192, 1802195444, 1303535960, 1342533948, 3988292384, 4027552580, 3604390888, 3412177804, 2607071920, 2262029012, 2685067896, 3183342108] :=
    Lib.tabIs_of_head (rest := []) gTab gTabType Tryd.underlying106 Tryd.underlying100 cellsU32 cellsTab h
  intro i hi
  rw [ht.cell gTab i (by simpa using hi)]
  have e : ∀ i : Fin 16, ([0, 498536548, 997073096, 651767980, 1994146192, 1802195444, 1303535960, 1342533948, 3988292384, 4027552580, 3604390888, 3412177804, 2607071920, 2262029012, 2685067896, 3183342108] : List Int).getD i.val 0 = ((UsCrc.nib.getD i.val 0 : Nat) : Int) := by decide
  rw [e ⟨i, hi⟩]

theorem contract (H : Type) (enc : TypeId × Value → H) (W : World) (base : Nat) (args : Array Value) (ds gs : List (DataW H)) (before : List MemPlace)
    (hval : ∀ (j : Nat) t v, Tryd.f7.params[j]? = some t → args[j]? = some v → Value.okWide Tryd.prog W .any base t v)
    (hW : DataW.Whole enc Tryd.prog Tryd.f7.params.toList Rows.journalAnewSpec.vars false W args.toList ds gs before) (hL : laidMetH Tryd.prog Rows.journalAnewRow.laid W)
    (hsz : (DataW.weightsEach Tryd.prog (Tryd.f7.params.toList ++ (OpenSpec.ofChange Rows.journalAnewSpec).bare.plain.varTypes Tryd.prog) (ds ++ gs)).all (· ≤ reachBytes) = true) :
    Calls Tryd.prog 7 args W fun e W' => ∃ v, e = .returned v ∧ Rows.journalAnewSpec.post enc Tryd.prog Tryd.f7 false true false false W args v W' := by
  have hW' := hW
  obtain ⟨p, q, hA0, hV, rfl, hfz, hnd⟩ := hW
  have hA : DataW.TrodAll enc Tryd.prog W 0 (fun _ => true) true Tryd.f7.params.toList args.toList ds p := hA0
  rw [Tryd.params7] at hA hval hsz
  obtain ⟨v0, vs0, d0, ds0, p0, q0, hargs, rfl, rfl, h0, r0⟩ := trodAll_cons hA
  obtain ⟨v1, vs1, d1, ds1, p1, q1, rfl, rfl, rfl, h1, r1⟩ := trodAll_cons r0
  obtain ⟨v2, vs2, d2, ds2, p2, q2, rfl, rfl, rfl, h2, r2⟩ := trodAll_cons r1
  obtain ⟨rfl, rfl, rfl⟩ := trodAll_nil r2
  obtain rfl : args = #[v0, v1, v2] := by cases args; simp_all
  obtain ⟨rfl, rfl⟩ := trodVars_none hV
  have k0 := h0
  have lt0 : ∀ x ∈ p0, x.block < W.heap.size := by obtain ⟨m, hm⟩ := k0; exact DataW.trod_lt m _ _ _ hm
  have k1 := h1
  have lt1 : ∀ x ∈ p1, x.block < W.heap.size := by obtain ⟨m, hm⟩ := k1; exact DataW.trod_lt m _ _ _ hm
  have k2 := h2
  have lt2 : ∀ x ∈ p2, x.block < W.heap.size := by obtain ⟨m, hm⟩ := k2; exact DataW.trod_lt m _ _ _ hm
  simp only [List.append_nil, List.nil_append, List.cons_append] at hsz
  obtain ⟨x0, rfl, rfl, rfl, w0⟩ := open_int Tryd.underlying3 (hval 0 3 v0 rfl rfl) h0
  have b0 := wf_int64 w0
  obtain ⟨cs1, x1, rfl, hx1⟩ := open_agg rdLifeJ Tryd.underlying56 (hval 1 56 v1 rfl rfl) h1 (light_arg (j := 1) hsz rfl rfl)
  obtain ⟨xs2, ir2⟩ := open_row rdOpJ (by decide) Tryd.underlying46 (hval 2 46 v2 rfl rfl) h2 (light_arg (j := 2) hsz rfl rfl)
  have hnib := table hL
  clear hA0
  obtain ⟨c0, c1, c2, c3, he, ⟨u0, e0, g0⟩, ⟨e1, a1⟩, ⟨u2, e2, g2⟩, ⟨u3, e3, g3⟩⟩ := hx1
  simp only [List.cons.injEq, and_true] at e0 e1 e2 e3
  subst e0 e1 e2 e3
  obtain rfl : cs1 = _ := by have := congrArg List.toArray he; simpa using this
  refine (anew_walk W hnib x0 c0 c2 c3 x1.cut x1.script x1.stay g0 g2.isI.1 v2 xs2 ir2 b0.1 b0.2 a1.1 a1.2).mono fun e W' ⟨he, bel⟩ => ?_
  subst he
  exact ⟨_, rfl, _, _, _, [], _, [], hW', trodAll_mk1 (shut_bool Tryd.underlying4 _), (trodAll_cons_mk (Below.trod laidOut (by kernel_rfl) (of_decide_eq_true (by kernel_rfl)) k0 bel lt0) (trodAll_cons_mk (Below.trod laidOut (by kernel_rfl) (of_decide_eq_true (by kernel_rfl)) k1 bel lt1) (trodAll_cons_mk (Below.trod laidOut (by kernel_rfl) (of_decide_eq_true (by kernel_rfl)) k2 bel lt2) trodAll_mk0))), rfl, bel.frame _, fun h => by cases h⟩

/-- a world for the witness: the table as its initialiser lays it -/
noncomputable def laidWorld (os : Os) : World :=
  { World.holding Tryd.prog os ⟨#[], #[], []⟩ with heap := (World.holding Tryd.prog os ⟨#[], #[], []⟩).heap.modify 0 fun
      | .cells _ t frozen => .cells #[.int .u32 0, .int .u32 498536548, .int .u32 997073096, .int .u32 651767980, .int .u32 1994146192, .int .u32 1802195444, .int .u32 1303535960, .int .u32 1342533948, .int .u32 3988292384, .int .u32 4027552580, .int .u32 3604390888, .int .u32 3412177804, .int .u32 2607071920, .int .u32 2262029012, .int .u32 2685067896, .int .u32 3183342108] t frozen
      | o => o }
theorem laid_met (os : Os) : laidMet Tryd.prog Rows.journalAnewRow.laid ((laidWorld os).forCall (fun _ _ => 0) ⟨#[], #[.int .i64 0, .agg #[.slice none 0 0, .int .i64 0, .slice none 0 0, .slice none 0 0], .slice none 0 0], []⟩).memory :=
  laidMet_of_run' 8 (by kernel_rfl) (by kernel_rfl)
theorem reads (os : Os) {H : Type} (enc : TypeId × Value → H) : ∃ places, DataW.whole enc Tryd.prog ((laidWorld os).forCall (fun _ _ => 0) ⟨#[], #[.int .i64 0, .agg #[.slice none 0 0, .int .i64 0, .slice none 0 0, .slice none 0 0], .slice none 0 0], []⟩).memory Tryd.f7.params.toList Rows.journalAnewSpec.vars false (#[.int .i64 0, .agg #[.slice none 0 0, .int .i64 0, .slice none 0 0, .slice none 0 0], .slice none 0 0] : Array Value).toList 8 = some ([.lit (.int .i64 0), .agg [.nil, .lit (.int .i64 0), .nil, .nil], .nil], [], places) :=
  ⟨[], by kernel_rfl⟩

theorem lifted (os : Os) (started : os.Started) (H : Type) (enc : TypeId × Value → H) (F : Stop.Interp) :
    ReturnsInHanded {} Tryd.checked os 7 .any ((OpenSpec.ofChange Rows.journalAnewSpec).preRow enc Tryd.prog Tryd.f7 Rows.journalAnewRow.domain false Rows.journalAnewRow.laid) (((OpenSpec.ofChange Rows.journalAnewSpec).at F).post enc Tryd.prog Tryd.f7 false true false false) := by
  obtain ⟨places, hx⟩ := reads os enc
  refine returnsInHanded_of_row (C := Tryd.checked) (s := OpenSpec.ofChange Rows.journalAnewSpec) own started (by kernel_rfl) Tryd.func7
    (witness_row_at (enc := enc) (C := Tryd.checked) false (laidWorld os) #[.int .i64 0, .agg #[.slice none 0 0, .int .i64 0, .slice none 0 0, .slice none 0 0], .slice none 0 0] rfl (by kernel_rfl) (by kernel_rfl) (by kernel_rfl)
      (OpenSpec.preRow_of_cond 8 hx (by kernel_rfl) (fun k hk => by cases hk) (by kernel_rfl) (laid_met os))) ?_
  intro W base args ds gs before hval hW _ hcond hsz hL _ _
  exact contract H enc W base args ds gs before hval hW hL hsz

theorem said : Rows.JournalAnewSaid :=
  OpenClaim.holds_of_cond 7 Tryd.f7 rfl rfl rfl rfl rfl rfl rfl ⟨rfl, rfl, rfl, rfl, rfl⟩ rfl rfl rfl rfl rfl (by kernel_rfl) Tryd.func7 (by kernel_rfl)
    (of_decide_eq_true (by kernel_rfl)) (by unfold Func.isWrapper; first | (rw [if_pos (by decide +kernel)]; kernel_rfl) | (rw [if_neg (by decide +kernel)]; exact ⟨rfl, rfl⟩))
    (fun os started H enc _ F => by rw [OpenClaim.pre_eq_preRow]; exact lifted os started H enc F)

theorem plain (f : FuncId) (fn : Func) (hf : Tryd.pinned.checked.prog.funcNamed "usance/usancelaw06.JournalAnew" = some f) (hfn : Tryd.pinned.checked.prog.funcs[f]? = some fn) :
    false = Tryd.pinned.checked.prog.looks [] ∧ ∀ (j : Nat) t, fn.params[j]? = some t → Tryd.pinned.checked.prog.wantsStandIn t = false := by
  obtain rfl : f = 7 := Option.some.inj ((show Tryd.prog.funcNamed "usance/usancelaw06.JournalAnew" = some 7 by kernel_rfl).symm.trans hf) |>.symm
  obtain rfl : fn = Tryd.f7 := (Option.some.inj (Tryd.func7.symm.trans hfn)).symm
  refine ⟨by kernel_rfl, fun j t ht => ?_⟩
  rw [Tryd.params7] at ht
  have hm := Array.mem_of_getElem? ht
  simp only [List.mem_toArray, List.mem_cons, List.not_mem_nil, or_false] at hm
  rcases hm with rfl | rfl | rfl
  · exact (show Tryd.prog.wantsStandIn 3 = false by kernel_rfl)
  · exact (show Tryd.prog.wantsStandIn 56 = false by kernel_rfl)
  · exact (show Tryd.prog.wantsStandIn 46 = false by kernel_rfl)

/-- THE CARD -/
theorem proved : Rows.JournalAnewCardSaid :=
  Claim7.holds_tied_plain_at .later [] _ _ _ _ said (fun _ h => by cases h) (by kernel_rfl) (fun _ h => by cases h) journalAnew_row_tie rfl ⟨rfl, rfl⟩ (by kernel_rfl) rfl plain (by kernel_rfl)
#print axioms proved
end Go.Proofs.YtoonlihacbbfdaaDoor.cardJournalAnew
