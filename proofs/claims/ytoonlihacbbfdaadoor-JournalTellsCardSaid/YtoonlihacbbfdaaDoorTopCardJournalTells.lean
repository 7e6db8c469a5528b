/- The card CardJournalTells: for every input the law answers true, and what came in reads as it did; with what it needs ahead. -/
import Derived.Test.YtoonlihacbbfdaaDoorBase3
import Derived.StillTailTactics
import Derived.BigRegion
import Derived.Test.YtoonlihacbbfdaaDoorCards
import Derived.Test.YtoonlihacbbfdaaDoorTie
/- The document's journal: Refused, Write. -/
set_option linter.unusedVariables false
set_option linter.unusedSimpArgs false
set_option maxRecDepth 100000
namespace Go.Proofs.YtoonlihacbbfdaaDoor
open Go.RowKit

/-- why a write is refused: 0, 2 -/
def refE (nb : Nat) (zs : List Int) (ls : List (List UInt8)) : Int := if rightW nb zs ls = true then 0 else 2
theorem rightW_of {nb : Nat} {zs : List Int} {ls : List (List UInt8)} (hl : zs.length = ls.length) (h : ∀ k (h : k < zs.length) (h2 : k < ls.length), 0 ≤ zs[k] ∧ zs[k] < (nb : Int) ∧ ls[k].length = 112 ∧ ∀ m (hm : m < k), zs[m]'(by omega) ≠ zs[k]) : rightW nb zs ls = true := by
  refine Fit.right ⟨hl, fun z hz => ?_, ?_, fun l hl2 => ?_⟩
  · obtain ⟨k, hk, rfl⟩ := List.getElem_of_mem hz
    obtain ⟨a, b, _⟩ := h k hk (by omega)
    exact ⟨a, b⟩
  · rw [List.Nodup, List.pairwise_iff_getElem]
    intro i j hi hj hij
    exact (h j hj (by omega)).2.2.2 i hij
  · obtain ⟨k, hk, rfl⟩ := List.getElem_of_mem hl2
    exact (h k (by omega) hk).2.2.1
theorem refE_yes {nb : Nat} {zs : List Int} {ls : List (List UInt8)} (hl : zs.length = ls.length) (h : ∀ k (h : k < zs.length) (h2 : k < ls.length), 0 ≤ zs[k] ∧ zs[k] < (nb : Int) ∧ ls[k].length = 112 ∧ ∀ m (hm : m < k), zs[m]'(by omega) ≠ zs[k]) : refE nb zs ls = 0 := by
  rw [refE, if_pos (rightW_of hl h)]
theorem refE_no {nb : Nat} {zs : List Int} {ls : List (List UInt8)} (k : Nat) (hk : k < zs.length) (hk2 : k < ls.length) (h : ¬ (0 ≤ zs[k] ∧ zs[k] < (nb : Int) ∧ ls[k].length = 112 ∧ ∀ m (hm : m < k), zs[m]'(by omega) ≠ zs[k])) : refE nb zs ls = 2 := by
  rw [refE, if_neg]
  intro hr
  obtain ⟨_, hs⟩ := rightW_spec hr
  obtain ⟨a, b, c, d⟩ := hs k hk hk2
  refine h ⟨a, b, c, fun m hm e => d ?_⟩
  rw [← e, List.mem_take_iff_getElem]
  exact ⟨m, by omega, rfl⟩
theorem refE_len {nb : Nat} {zs : List Int} {ls : List (List UInt8)} (h : zs.length ≠ ls.length) : refE nb zs ls = 2 := by
  rw [refE, if_neg]
  intro hr
  exact h (rightW_spec hr).1
theorem rj_cells {B : Nat} {w : World} {q : Nat} {v : Value} {ls : List (List UInt8)} {seq : Int} (h : RJ B w q v ls seq) : w.cell? ⟨q, 0, none⟩ = some v ∧ w.cell? ⟨q, 1, none⟩ = some (.int .i64 seq) := by
  refine ⟨?_, ?_⟩ <;> · rw [cell_of_row _ _ _ _ _ _ h.head]; rfl

section
attribute [local irreducible] wpStill
set_option maxHeartbeats 16000000 in
theorem refused_any (w : World) {B q : Nat} {vq : Value} {ls : List (List UInt8)} {seq : Int} (h : RJ B w q vq ls seq) (u : Value) (az : List Int) (hu : IsI w u az) (v : Value) (bs : List (List UInt8)) (hv : IsBs w v bs) (hls : ls.length ≤ 8191)
    (haz : ∀ n ∈ az, -9223372036854775808 ≤ n ∧ n ≤ 9223372036854775807) :
    Calls Tryd.prog 24 #[rjp q, u, v] w fun e w' => e = .returned (.int .i64 (refE ls.length az bs)) ∧ Below w.heap.size w w' := by
  obtain ⟨au, cu, rfl, hcu, hmu⟩ := hu.form
  obtain ⟨av, cv, rfl, hcv, hmv⟩ := hv.form
  obtain ⟨aq, cq, rfl, hcq, hmq⟩ := h.form
  unfold maxLen at hmu hmv hmq
  by_cases hl : az.length = bs.length
  case neg =>
    have HE := Lib.hid (refE_len (nb := ls.length) hl)
    have hd : (((az.length : Nat) : Int) != ((bs.length : Nat) : Int)) = true := by rw [bne_iff_ne]; omega
    clear hl haz h hu hv
    go_enter Tryd.func24, Tryd.ntmps24
    go_wp2_with fail
    go_ret
    rw [HE.out]
    exact ⟨rfl, Below.refl _ _⟩
  have Hl := Lib.hid hl
  rw [← hl] at hcv ⊢
  have hd : (((az.length : Nat) : Int) != ((az.length : Nat) : Int)) = false := by simp
  have HA := Lib.hid haz
  have HU := Lib.hid hu
  have HV := Lib.hid hv
  have HJ := Lib.hid h
  rw [← hl] at HV
  obtain ⟨nb, hnb⟩ : ∃ nb, nb = ls.length := ⟨_, rfl⟩
  rw [← hnb] at HJ hls hcq ⊢
  obtain ⟨m, hm⟩ : ∃ m, m = az.length := ⟨_, rfl⟩
  rw [← hm] at HU HV hd hcu hcv ⊢
  have Hm := Lib.hid hm
  have Hb : Hid (m = bs.length) := Lib.hid (hm.trans hl)
  clear hm hl h hu hv haz hnb
  go_enter Tryd.func24, Tryd.ntmps24
  go_wp2_with fail
  go_loopw [7] (fun x wr => ∃ i : Nat, i ≤ m ∧ x = .int .i64 (i : Int) ∧ Below w.heap.size w wr ∧ (∀ k (h : k < az.length) (h2 : k < bs.length), k < i → 0 ≤ az[k] ∧ az[k] < (nb : Int) ∧ bs[k].length = 112 ∧ ∀ m (hm : m < k), az[m]'(by omega) ≠ az[k])) (fun x _ => m - (intOf x).toNat)
  case atStart => exact ⟨0, Nat.zero_le _, rfl, Below.refl _ _, fun k _ _ h => by omega⟩
  case round =>
    obtain ⟨i, hi, rfl, hb, hall⟩ := hrel
    by_cases hlt : i < m
    case neg =>
      obtain rfl : i = m := by omega
      have HE := Lib.hid (refE_yes (nb := nb) (Hm.out.symm.trans Hb.out) fun k h1 h2 => hall k h1 h2 (by have := Hm.out; omega))
      have hdz : decide ((i : Int) < (i : Int)) = false := by simp
      clear hall
      go_wp2_with fail
      go_ret
      rw [HE.out]
      exact ⟨rfl, hb⟩
    have hlt1 : i < az.length := by have := Hm.out; omega
    have hlt2 : i < bs.length := by have := Hb.out; omega
    have hdl : decide ((i : Int) < (m : Int)) = true := decide_eq_true (by omega)
    obtain ⟨bu, ou, rfl, cu1⟩ := isI_at HU.out i hlt1
    obtain ⟨bv_, ov, ux, rfl, cv1, hux⟩ := isBs_at HV.out i hlt2
    obtain ⟨ax, cx, rfl, hcx, hmx⟩ := hux.form
    obtain ⟨q0, q1⟩ := rj_cells HJ.out
    have c1 := cells_below hb _ _ cu1
    have c2 := cells_below hb _ _ cv1
    have c3 := cells_below hb _ _ q0
    have HALL := Lib.hid hall
    have HNO := Lib.hid (fun hh => refE_no (nb := nb) (zs := az) (ls := bs) i hlt1 hlt2 hh)
    have HOK : Hid ((0 ≤ az[i] ∧ az[i] < (nb : Int) ∧ bs[i].length = 112) → (∀ m (hm : m < i), az[m]'(by omega) ≠ az[i]) → ∀ k (h : k < az.length) (h2 : k < bs.length), k < i + 1 → 0 ≤ az[k] ∧ az[k] < (nb : Int) ∧ bs[k].length = 112 ∧ ∀ m (hm : m < k), az[m]'(by omega) ≠ az[k]) := Lib.hid (fun h1 h2 k h3 h4 h5 => by
      by_cases he : k = i
      · subst he
        exact ⟨h1.1, h1.2.1, h1.2.2, h2⟩
      · exact HALL.out k h3 h4 (by omega))
    have hza := HA.out az[i] (List.getElem_mem hlt1)
    obtain ⟨hz1, hz2⟩ := hza
    have HZI : Hid (az[i] = az[i]) := Lib.hid rfl
    obtain ⟨z, hz⟩ : ∃ z, z = az[i] := ⟨_, rfl⟩
    have HZ := Lib.hid hz
    rw [← hz] at c1 hz1 hz2 cu1
    have hbl : bs[i].length ≤ 9223372036854775807 := by unfold maxLen at hmx; omega
    obtain ⟨y, hy⟩ : ∃ y, y = bs[i].length := ⟨_, rfl⟩
    have HY := Lib.hid hy
    rw [← hy] at c2 hbl
    clear hall hz hy cu1 cv1 q0 q1 hux hcx hmx
    by_cases hz0 : z < 0
    · have hd1 : decide (z < 0) = true := decide_eq_true hz0
      have HE := Lib.hid (HNO.out (fun hh => by have := HZ.out; omega))
      go_upto_region 6 with fail
      refine wp_region_still_tail 24 (by kernel_rfl) (by kernel_rfl) ?_
      simp only [List.take_succ_cons, List.take_zero, List.drop_succ_cons, List.drop_zero]
      change wpStill _ _ wr.drew (fun a' => wpList _ _ _ _ a' wr.drew) _ _
      have hbd : Below w.heap.size w wr.drew := hb.drew
      clear hb
      replace c1 : wr.drew.cell? _ = _ := c1
      replace c2 : wr.drew.cell? _ = _ := c2
      replace c3 : wr.drew.cell? _ = _ := c3
      generalize wr.drew = W1 at *
      iterate 24 still_step
      refine wpStill_nil ?_
      go_wp2_with fail
      go_ret
      rw [HE.out]
      exact ⟨rfl, hbd⟩
    have hd1 : decide (z < 0) = false := decide_eq_false hz0
    by_cases hzn : (nb : Int) ≤ z
    · have hd2 : decide ((nb : Int) ≤ z) = true := decide_eq_true hzn
      have HE := Lib.hid (HNO.out (fun hh => by have := HZ.out; omega))
      go_upto_region 6 with fail
      refine wp_region_still_tail 24 (by kernel_rfl) (by kernel_rfl) ?_
      simp only [List.take_succ_cons, List.take_zero, List.drop_succ_cons, List.drop_zero]
      change wpStill _ _ wr.drew (fun a' => wpList _ _ _ _ a' wr.drew) _ _
      have hbd : Below w.heap.size w wr.drew := hb.drew
      clear hb
      replace c1 : wr.drew.cell? _ = _ := c1
      replace c2 : wr.drew.cell? _ = _ := c2
      replace c3 : wr.drew.cell? _ = _ := c3
      generalize wr.drew = W1 at *
      iterate 24 still_step
      refine wpStill_nil ?_
      go_wp2_with fail
      go_ret
      rw [HE.out]
      exact ⟨rfl, hbd⟩
    have hd2 : decide ((nb : Int) ≤ z) = false := decide_eq_false hzn
    by_cases hyn : y = 112
    case neg =>
      have hd3 : ((y : Int) != 112) = true := by rw [bne_iff_ne]; omega
      have HE := Lib.hid (HNO.out (fun hh => by have := HY.out; omega))
      go_upto_region 6 with fail
      refine wp_region_still_tail 24 (by kernel_rfl) (by kernel_rfl) ?_
      simp only [List.take_succ_cons, List.take_zero, List.drop_succ_cons, List.drop_zero]
      change wpStill _ _ wr.drew (fun a' => wpList _ _ _ _ a' wr.drew) _ _
      have hbd : Below w.heap.size w wr.drew := hb.drew
      clear hb
      replace c1 : wr.drew.cell? _ = _ := c1
      replace c2 : wr.drew.cell? _ = _ := c2
      replace c3 : wr.drew.cell? _ = _ := c3
      generalize wr.drew = W1 at *
      iterate 24 still_step
      refine wpStill_nil ?_
      go_wp2_with fail
      go_ret
      rw [HE.out]
      exact ⟨rfl, hbd⟩
    have hd3 : ((y : Int) != 112) = false := by rw [bne_eq_false_iff_eq]; omega
    have HOK2 := Lib.hid (HOK.out (by have := HZ.out; have := HY.out; omega))
    clear HOK HY
    go_upto_region 6 with fail
    refine wp_region_still_tail 24 (by kernel_rfl) (by kernel_rfl) ?_
    simp only [List.take_succ_cons, List.take_zero, List.drop_succ_cons, List.drop_zero]
    change wpStill _ _ wr.drew (fun a' => wpList _ _ _ _ a' wr.drew) _ _
    have hbd : Below w.heap.size w wr.drew := hb.drew
    clear hb
    replace c1 : wr.drew.cell? _ = _ := c1
    replace c2 : wr.drew.cell? _ = _ := c2
    replace c3 : wr.drew.cell? _ = _ := c3
    generalize wr.drew = W1 at *
    iterate 24 still_step
    refine wpStill_nil ?_
    go_wp2_with fail
    go_loopw [8] (fun x wr => ∃ k : Nat, k ≤ i ∧ x = .int .i64 (k : Int) ∧ Below w.heap.size w wr ∧ ∀ j (hj : j < k) (h : j < az.length), az[j] ≠ z) (fun x _ => i - (intOf x).toNat)
    case atStart => exact ⟨0, Nat.zero_le _, rfl, hbd, fun j hj => by omega⟩
    case round =>
      obtain ⟨k, hk, rfl, hb, hne⟩ := hrel
      clear hbd c1 c2 c3
      by_cases hki : k < i
      case neg =>
        obtain rfl : k = i := by omega
        have hdz : decide ((k : Int) < (k : Int)) = false := by simp
        have HF := Lib.hid (HOK2.out (fun j hj => by rw [← HZ.out]; exact hne j hj (by omega)))
        clear hne HOK2
        go_wp2_with fail
        go_roundw
        case rel => exact ⟨k + 1, by omega, by go_num, hb, HF.out⟩
        case measure => simp [intOf]; omega
      have hkl : k < az.length := by omega
      have hkm : k < m := by omega
      have hdk : decide ((k : Int) < (i : Int)) = true := decide_eq_true (by omega)
      obtain ⟨b1, o1, he1, ck⟩ := isI_at HU.out k hkl
      obtain ⟨b2, o2, he2, ci⟩ := isI_at HU.out i hlt1
      simp only [Option.some.injEq, Addr.mk.injEq, and_true] at he1 he2
      obtain ⟨rfl, rfl⟩ := he1
      obtain ⟨rfl, rfl⟩ := he2
      rw [← HZ.out] at ci
      obtain ⟨x, hx⟩ : ∃ x, x = az[k] := ⟨_, rfl⟩
      rw [← hx] at ck
      have HX := Lib.hid hx
      clear hx
      have c1 : wr.drew.cell? _ = _ := cells_below hb _ _ ck
      have c2 : wr.drew.cell? _ = _ := cells_below hb _ _ ci
      have hbd : Below w.heap.size w wr.drew := hb.drew
      have HNE := Lib.hid hne
      clear ck ci hb hne
      by_cases hxz : x = z
      · have HE := Lib.hid (HNO.out (fun hh => hh.2.2.2 k hki (HX.out.symm.trans (hxz.trans HZ.out))))
        have hde : (x == z) = true := by simpa using hxz
        clear hxz
        go_upto_region 11 with fail
        refine wp_region_still_tail 8 (by kernel_rfl) (by kernel_rfl) ?_
        simp only [List.take_succ_cons, List.take_zero, List.drop_succ_cons, List.drop_zero]
        change wpStill _ _ wr.drew (fun a' => wpList _ _ _ _ a' wr.drew) _ _
        generalize wr.drew = W1 at *
        iterate 8 still_step
        refine wpStill_nil ?_
        go_wp2_with fail
        go_ret
        rw [HE.out]
        exact ⟨rfl, hbd⟩
      · have hde : (x == z) = false := by simpa using hxz
        have HN2 : Hid (∀ j (hj : j < k + 1) (h : j < az.length), az[j] ≠ z) := Lib.hid (fun j hj h => by
          by_cases he : j = k
          · subst he
            rw [← HX.out]
            exact hxz
          · exact HNE.out j (by omega) h)
        clear hxz HX
        go_upto_region 11 with fail
        refine wp_region_still_tail 8 (by kernel_rfl) (by kernel_rfl) ?_
        simp only [List.take_succ_cons, List.take_zero, List.drop_succ_cons, List.drop_zero]
        change wpStill _ _ wr.drew (fun a' => wpList _ _ _ _ a' wr.drew) _ _
        generalize wr.drew = W1 at *
        iterate 8 still_step
        refine wpStill_nil ?_
        go_wp2_with fail
        go_roundw
        case rel => exact ⟨k + 1, by omega, by go_num, hbd, HN2.out⟩
        case measure => simp [intOf]; omega
end
end Go.Proofs.YtoonlihacbbfdaaDoor

/- The document's journal: Write. -/
set_option linter.unusedVariables false
set_option linter.unusedSimpArgs false
set_option maxRecDepth 100000
namespace Go.Proofs.YtoonlihacbbfdaaDoor
open Go.RowKit

def refB (ls : List (List UInt8)) (az : List Int) (bs : List (List UInt8)) : List (List UInt8) := if rightW ls.length az bs = true then updB ls az bs else ls
def refS (nb : Nat) (seq : Int) (az : List Int) (bs : List (List UInt8)) : Int := if rightW nb az bs = true ∧ az.length ≠ 0 then seq + 1 else seq
theorem updB_step (ls : List (List UInt8)) {az : List Int} {bs : List (List UInt8)} {i : Nat} (h1 : i < az.length) (h2 : i < bs.length) : updB ls (az.take (i + 1)) (bs.take (i + 1)) = (updB ls (az.take i) (bs.take i)).set az[i].toNat bs[i] := by
  rw [List.take_succ_eq_append_getElem h1, List.take_succ_eq_append_getElem h2, updB_append _ _ _ _ _ (by simp; omega)]
  simp [updB]
theorem sv_get (ls : List (List UInt8)) (i : Nat) (h : i < ls.length) : (sv ls)[i]? = some (.string ⟨ls[i].toArray⟩) := by simp [sv, h]
theorem RJ.store {B : Nat} {w : World} {q g cap : Nat} {ls : List (List UInt8)} {seq : Int} {n : Nat} (h : RJ B w q (.slice (some ⟨g, 0, none⟩) n cap) ls seq) (k : Nat) (hk : k < ls.length) (b : List UInt8) :
    (∃ c, w.cell? ⟨g, k, none⟩ = some c) ∧ w.frozen? ⟨g, k, none⟩ = false ∧ RJ B (w.setCell ⟨g, k, none⟩ (.string ⟨b.toArray⟩)) q (.slice (some ⟨g, 0, none⟩) n cap) (ls.set k b) seq ∧ Turned (RT q (.slice (some ⟨g, 0, none⟩) n cap)) w (w.setCell ⟨g, k, none⟩ (.string ⟨b.toArray⟩)) := by
  obtain ⟨hlow, hhead, hrow⟩ := h
  rcases hrow.2 with ⟨h1, _⟩ | ⟨g', cap', cur, hv, hB, hg, hn, hc, hs, htake⟩
  · cases h1
  · simp only [Value.slice.injEq, Option.some.injEq, Addr.mk.injEq] at hv
    obtain ⟨⟨rfl, _⟩, hnl, rfl⟩ := hv
    have hne : q ≠ g := fun e => by
      rw [e, hg] at hhead
      injection hhead with hhead
      injection hhead with _ hhead
      revert hhead
      decide
    have hkc : k < cur.size := by omega
    refine ⟨⟨cur[k], by rw [cell_of_row _ _ _ _ _ _ hg]; exact Array.getElem?_eq_getElem hkc⟩, frozen_p hg k, ⟨hlow, ?_, ?_⟩, ?_⟩
    · rw [Below.heap_setCell _ _ _ _ hne]
      exact hhead
    · refine ⟨by simp [sv], .inr ⟨g, cap, _, by rw [List.length_set, hnl], hB, head_setCell hg _, by rw [List.length_set]; exact hn, hc, by simpa using hs, ?_⟩⟩
      rw [Array.toList_setIfInBounds, List.length_set, List.take_set, htake]
      simp [sv, List.map_set]
    · exact ⟨rfl, rfl, rfl, by simp [World.setCell], fun j hj hn => Below.heap_setCell _ _ _ _ (fun e => hn (.inr (by rw [e]; rfl)))⟩
section
attribute [local irreducible] wpStill
set_option maxHeartbeats 16000000 in
theorem rwrite_any (w : World) {B q : Nat} {vq : Value} {ls : List (List UInt8)} {seq : Int} (h : RJ B w q vq ls seq) (u : Value) (az : List Int) (hku : ∀ w', Turned (RT q vq) w w' → IsI w' u az) (v : Value) (bs : List (List UInt8)) (hkv : ∀ w', Turned (RT q vq) w w' → IsBs w' v bs) (hls : ls.length ≤ 8191)
    (haz : ∀ n ∈ az, -9223372036854775808 ≤ n ∧ n ≤ 9223372036854775807) (hs1 : -9223372036854775808 ≤ seq) (hs2 : seq < 9223372036854775807) :
    Calls Tryd.prog 18 #[rjp q, u, v] w fun e w' => e = .returned (.int .i64 (refE ls.length az bs)) ∧ RJ B w' q vq (refB ls az bs) (refS ls.length seq az bs) ∧ Turned (RT q vq) w w' := by
  have hu := hku w (Turned.refl _ _)
  have hv := hkv w (Turned.refl _ _)
  obtain ⟨au, cu, rfl, hcu, hmu⟩ := hu.form
  obtain ⟨av, cv, rfl, hcv, hmv⟩ := hv.form
  obtain ⟨aq, cq, rfl, hcq, hmq⟩ := h.form
  unfold maxLen at hmu hmv hmq
  have HR := Lib.hid (refused_any w h _ az hu _ bs hv hls haz)
  have HKU := Lib.hid hku
  have HKV := Lib.hid hkv
  have HA := Lib.hid haz
  by_cases hr : rightW ls.length az bs = true
  case neg =>
    have e0 : refE ls.length az bs = 2 := by rw [refE, if_neg hr]
    have e1 : refB ls az bs = ls := by rw [refB, if_neg hr]
    have e2 : refS ls.length seq az bs = seq := by rw [refS, if_neg (fun h => hr h.1)]
    rw [e0, e1, e2]
    rw [e0] at HR
    have HJ := Lib.hid h
    clear e0 e1 e2 hr h hu hv hku hkv haz
    go_enter Tryd.func18, Tryd.ntmps18
    go_wp2_with fail
    refine HR.out.mono ?_
    rintro e w1 ⟨rfl, hb⟩
    go_wp2_with fail
    go_ret
    exact ⟨rfl, HJ.out.below hb, Turned.of_below hb⟩
  have e0 : refE ls.length az bs = 0 := by rw [refE, if_pos hr]
  have e1 : refB ls az bs = updB ls az bs := by rw [refB, if_pos hr]
  rw [e0, e1]
  rw [e0] at HR
  by_cases h0 : az.length = 0
  · have e2 : refS ls.length seq az bs = seq := by rw [refS, if_neg (fun h => h.2 h0)]
    obtain rfl : az = [] := List.eq_nil_of_length_eq_zero h0
    rw [e2, updB_nil]
    have HJ := Lib.hid h
    clear e0 e1 e2 hr h hu hv hku hkv haz h0
    go_enter Tryd.func18, Tryd.ntmps18
    go_wp2_with fail
    refine HR.out.mono ?_
    rintro e w1 ⟨rfl, hb⟩
    go_wp2_with fail
    go_ret
    exact ⟨rfl, HJ.out.below hb, Turned.of_below hb⟩
  have e2 : refS ls.length seq az bs = seq + 1 := by rw [refS, if_pos ⟨hr, h0⟩]
  rw [e2]
  have HSP := Lib.hid (rightW_spec hr)
  have hlen := HSP.out.1
  obtain ⟨gq, rfl⟩ : ∃ g, aq = some ⟨g, 0, none⟩ := by
    rcases h.rows.2 with ⟨h1, h2⟩ | ⟨g, cap, cur, h1, _⟩
    · exfalso
      have h3 := (HSP.out.2 0 (by omega) (by omega)).2.1
      have h4 := (HSP.out.2 0 (by omega) (by omega)).1
      omega
    · simp only [Value.slice.injEq] at h1
      exact ⟨g, h1.1⟩
  rw [← hlen] at hcv HR HKV ⊢
  have HJ := Lib.hid h
  obtain ⟨nb, hnb⟩ : ∃ nb, nb = ls.length := ⟨_, rfl⟩
  have Hnb := Lib.hid hnb
  rw [← hnb] at HKU HKV HSP HJ hls hcq ⊢
  obtain ⟨m, hm⟩ : ∃ m, m = az.length := ⟨_, rfl⟩
  have Hm := Lib.hid hm
  rw [← hm] at HR HKU HKV hcu hcv h0 ⊢
  have Hb : Hid (m = bs.length) := Lib.hid (hm.trans hlen)
  have hq0 : ((m : Nat) == 0) = false := by simpa using h0
  have hq1 : ((m : Int) == 0) = false := by rw [beq_eq_false_iff_ne]; omega
  clear e0 e1 e2 hr h hu hv hku hkv haz hlen hm hnb
  go_enter Tryd.func18, Tryd.ntmps18
  go_wp2_with fail
  refine HR.out.mono ?_
  rintro e w1 ⟨rfl, hb⟩
  have hj1 := HJ.out.below hb
  have ht1 := Turned.of_below (T := RT q (.slice (some ⟨gq, 0, none⟩) nb cq)) hb
  clear hb
  have hj0 : RJ B w1 q (.slice (some ⟨gq, 0, none⟩) nb cq) (updB ls (az.take 0) (bs.take 0)) seq := by rw [List.take_zero, updB_nil]; exact hj1
  clear hj1
  go_wp2_with fail
  go_loopw [8] (fun x wr => ∃ i : Nat, i ≤ m ∧ x = .int .i64 (i : Int) ∧ RJ B wr q (.slice (some ⟨gq, 0, none⟩) nb cq) (updB ls (az.take i) (bs.take i)) seq ∧ Turned (RT q (.slice (some ⟨gq, 0, none⟩) nb cq)) w wr) (fun x _ => m - (intOf x).toNat)
  case atStart => exact ⟨0, Nat.zero_le _, rfl, hj0, ht1⟩
  case round =>
    obtain ⟨i, hi, rfl, hj, ht⟩ := hrel
    clear hj0 ht1
    by_cases hlt : i < m
    case neg =>
      obtain rfl : i = m := by omega
      have hdz : decide ((i : Int) < (i : Int)) = false := by simp
      rw [List.take_of_length_le (by have := Hm.out; omega), List.take_of_length_le (by have := Hb.out; omega)] at hj
      obtain ⟨q0, q1⟩ := rj_cells hj
      have f1 := frozen_p hj.head 1
      have hj2 : RJ B (wr.setCell ⟨q, 1, none⟩ (.int .i64 (seq + 1))) q (.slice (some ⟨gq, 0, none⟩) nb cq) (updB ls az bs) (seq + 1) := ⟨hj.low, head_setCell hj.head _, by
        obtain ⟨h1, h2⟩ := hj.rows
        refine ⟨h1, ?_⟩
        rcases h2 with h2 | ⟨g', cap, cur, hv, hb', hh, r⟩
        · exact .inl h2
        · refine .inr ⟨g', cap, cur, hv, hb', ?_, r⟩
          rw [Below.heap_setCell _ _ _ _ (fun e => ?_)]
          · exact hh
          · have hq := hj.head
            rw [show g' = q from e] at hh
            rw [hh] at hq
            injection hq with hq
            injection hq with _ hq
            revert hq
            decide⟩
      have ht2 : Turned (RT q (.slice (some ⟨gq, 0, none⟩) nb cq)) w (wr.setCell ⟨q, 1, none⟩ (.int .i64 (seq + 1))) := ht.trans ((turned_one wr q 1 _).mono fun _ _ e => .inl e)
      have HF := Lib.hid (And.intro hj2 ht2)
      clear hj ht hj2 ht2
      go_wp2_with fail
      go_ret
      exact ⟨rfl, HF.out⟩
    have hlt1 : i < az.length := by have := Hm.out; omega
    have hlt2 : i < bs.length := by have := Hb.out; omega
    have hdl : decide ((i : Int) < (m : Int)) = true := decide_eq_true (by omega)
    obtain ⟨hz0, hzn, hb112, _⟩ := HSP.out.2 i hlt1 hlt2
    have hstep := updB_step ls hlt1 hlt2
    have hrows : (updB ls (az.take i) (bs.take i)).length = nb := by rw [updB_length]; exact Hnb.out.symm
    obtain ⟨bu, ou, rfl, c1⟩ := isI_at (HKU.out _ ht) i hlt1
    obtain ⟨bv_, ov, ux, rfl, c2, hux⟩ := isBs_at (HKV.out _ ht) i hlt2
    have hst := run_str (P := Tryd.prog) (w := wr.drew) hux 36 9 5 Tryd.underlying36 Tryd.underlying5 Tryd.underlying9
    obtain ⟨ax, cx, hue, _, _⟩ := hux.form
    rw [hb112] at hue
    subst hue
    obtain ⟨q0, q1⟩ := rj_cells hj
    have Hstep := Lib.hid hstep
    clear hstep hux
    generalize az[i] = z at *
    obtain ⟨zn, rfl⟩ := Int.eq_ofNat_of_zero_le hz0
    rw [Int.toNat_natCast] at Hstep
    have hzb : zn < nb := by omega
    have hjd : RJ B wr.drew q (.slice (some ⟨gq, 0, none⟩) nb cq) (updB ls (az.take i) (bs.take i)) seq := hj.keep (fun _ _ _ => rfl)
    obtain ⟨⟨c0, s1⟩, s2, s3, s4⟩ := hjd.store zn (by omega) bs[i]
    rw [← Hstep.out] at s3
    have ht2 := (Turned.drew ht).trans s4
    have HF := Lib.hid (And.intro s3 ht2)
    replace c1 : wr.drew.cell? _ = _ := c1
    replace c2 : wr.drew.cell? _ = _ := c2
    replace q0 : wr.drew.cell? _ = _ := q0
    clear hj hjd s3 s4 ht2 ht q1
    generalize bs[i] = b at *
    go_upto_region 7 with fail
    refine wp_region_still_tail 14 (by kernel_rfl) (by kernel_rfl) ?_
    simp only [List.take_succ_cons, List.take_zero, List.drop_succ_cons, List.drop_zero]
    change wpStill _ _ wr.drew (fun a' => wpList _ _ _ _ a' wr.drew) _ _
    generalize wr.drew = W1 at *
    iterate 14 still_step
    refine wpStill_nil ?_
    go_wp2_with fail
    go_roundw
    case rel => exact ⟨i + 1, by omega, by go_num, HF.out⟩
    case measure => simp [intOf]; omega
end
end Go.Proofs.YtoonlihacbbfdaaDoor

/- A journal and the document's journal beside each other; an op of a script that came in. -/
set_option linter.unusedVariables false
set_option linter.unusedSimpArgs false
set_option maxRecDepth 100000
namespace Go.Proofs.YtoonlihacbbfdaaDoor
open Go.RowKit

theorem own_keep1 {B : Nat} {e : TypeId} {s n : Nat} {w w' : World} {u : Value} {xs : List Value} (h : w.ownsRow B e s u n xs) (hw : ∀ k, some k = u.ownBlock → w'.heap[k]? = w.heap[k]?) : w'.ownsRow B e s u n xs := by
  obtain ⟨h1, h2⟩ := h
  refine ⟨h1, ?_⟩
  rcases h2 with h2 | ⟨g, cap, cur, hv, hb, hh, r⟩
  · exact .inl h2
  · exact .inr ⟨g, cap, cur, hv, hb, by rw [hw g (by rw [hv]; rfl)]; exact hh, r⟩
theorem RJ.keepT {B : Nat} {w w' : World} {q : Nat} {v : Value} {ls : List (List UInt8)} {seq : Int} (h : RJ B w q v ls seq) (hw : ∀ k, RT q v k → w'.heap[k]? = w.heap[k]?) : RJ B w' q v ls seq :=
  ⟨h.low, (hw q (.inl rfl)).trans h.head, own_keep1 h.rows fun k hk => hw k (.inr hk)⟩
theorem RJ.rt_low {B2 : Nat} {w : World} {q : Nat} {v : Value} {ls : List (List UInt8)} {seq : Int} (h : RJ B2 w q v ls seq) : ∀ k, RT q v k → B2 ≤ k ∧ k < w.heap.size := by
  rintro k (rfl | hk)
  · exact ⟨h.low, h.lt⟩
  · obtain ⟨a, c, hc⟩ := own_lt h.rows hk
    exact ⟨a, lt_of_heap hc⟩
theorem RJ.aside {B : Nat} {w w' : World} {q : Nat} {v : Value} {ls : List (List UInt8)} {seq : Int} {T : Nat → Prop} (h : RJ B w q v ls seq) (ht : Turned T w w') (hT : ∀ k, T k → ¬ RT q v k) : RJ B w' q v ls seq :=
  h.keepT fun k hk => ht.block k (h.rt_low k hk).2 fun e => hT k e hk
/-- a journal and the document's, apart -/
structure JR (B B2 : Nat) (w0 w : World) (F : Ft) (p : Nat) (J : Jn) (q : Nat) (v : Value) (ls : List (List UInt8)) (seq : Int) : Prop where
  jb : JB B w0 w F p J
  rj : RJ B2 w q v ls seq
  sep : ∀ k, JT F p k → ¬ RT q v k
  low : B ≤ B2
  nib : 0 < B
section
variable {B B2 : Nat} {w0 w w' : World} {F : Ft} {p p' : Nat} {J J' : Jn} {q : Nat} {v : Value} {ls ls' : List (List UInt8)} {seq seq' : Int} {D : Dk}
theorem JR.step (h : JR B B2 w0 w F p J q v ls seq) (hb : Below w.heap.size w w') : JR B B2 w0 w' F p J q v ls seq := ⟨h.jb.step hb, h.rj.below hb, h.sep, h.low, h.nib⟩
theorem JR.turnJ (h : JR B B2 w0 w F p J q v ls seq) (hj : JAt w' F p J') (ht : Turned (JT F p) w w') : JR B B2 w0 w' F p J' q v ls seq :=
  ⟨h.jb.turn hj ht, h.rj.aside ht h.sep, h.sep, h.low, h.nib⟩
theorem JR.turnR (h : JR B B2 w0 w F p J q v ls seq) (hr : RJ B2 w' q v ls' seq') (ht : Turned (RT q v) w w') : JR B B2 w0 w' F p J q v ls' seq' :=
  ⟨h.jb.other ht (fun k hk => by
    have h1 := h.rj.rt_low k hk
    have h2 := h.low
    have h3 := h.nib
    exact ⟨fun e => h.sep k e hk, by omega, by omega⟩), hr, h.sep, h.low, h.nib⟩
theorem JR.other {T : Nat → Prop} (h : JR B B2 w0 w F p J q v ls seq) (ht : Turned T w w') (hT : ∀ k, T k → ¬ JT F p k ∧ B ≤ k ∧ ¬ RT q v k) : JR B B2 w0 w' F p J q v ls seq :=
  ⟨h.jb.other ht (fun k hk => ⟨(hT k hk).1, (hT k hk).2.1, by have := (hT k hk).2.1; have := h.nib; omega⟩), h.rj.aside ht (fun k hk => (hT k hk).2.2), h.sep, h.low, h.nib⟩
theorem JR.base (h : JR B B2 w0 w F p J q v ls seq) : B ≤ w.heap.size := h.jb.base
theorem JR.jlt (h : JR B B2 w0 w F p J q v ls seq) : ∀ k, JT F p k → k < w.heap.size := fun k hk => h.jb.jat.lt hk
/-- another journal on the same disk -/
theorem JR.anew (h : JR B B2 w0 w F p J q v ls seq) {w1 : World} (hd : DB B w0 w1 F D) (ht : Turned F.has w w1) (hj : JAt w' F p' J') (hp : w1.heap.size ≤ p') (h2 : Turned F.has w1 w') : JR B B2 w0 w' F p' J' q v ls seq :=
  ⟨JB.of hd hj hp h2, (h.rj.aside ht (fun k hk => h.sep k (.inl hk))).aside h2 (fun k hk => h.sep k (.inl hk)), fun k hk => by
    rcases hk with hk | rfl
    · exact h.sep k (.inl hk)
    · intro e
      have h3 := (h.rj.rt_low _ e).2
      have h4 := ht.size
      omega, h.low, h.nib⟩
end
/-- the cells of script[i] -/
theorem script_at {w : World} {a : Option Addr} {n cap : Nat} {xs : List OpJ} (h : IsRow rdOpJ w (.slice a n cap) xs) (i : Nat) (hi : i < xs.length) : ∃ b o va, a = some ⟨b, o, none⟩ ∧
    w.cell? ⟨b, o + i * 4, none⟩ = some (.int .i64 xs[i].kind) ∧ w.cell? ⟨b, o + i * 4 + 1, none⟩ = some va ∧ w.cell? ⟨b, o + i * 4 + 2, none⟩ = some (.int .u8 (xs[i].by_.toNat : Int)) ∧ w.cell? ⟨b, o + i * 4 + 3, none⟩ = some (.int .i64 xs[i].raw) ∧
    IsI w va xs[i].at_ ∧ (∀ z ∈ xs[i].at_, -9223372036854775808 ≤ z ∧ z ≤ 9223372036854775807) ∧ (-9223372036854775808 ≤ xs[i].raw ∧ xs[i].raw ≤ 9223372036854775807) := by
  obtain ⟨a', cap', hv, hl, hm, hn, _, hc⟩ := h
  simp only [Value.slice.injEq] at hv
  obtain ⟨rfl, _, rfl⟩ := hv
  cases a with
  | none => have := hn rfl; omega
  | some x =>
    obtain ⟨b, o, s⟩ := x
    obtain ⟨hs, hc⟩ := hc _ rfl
    obtain rfl : s = none := hs (by omega)
    obtain ⟨cs, ⟨c0, c1, c2, c3, he, ⟨e0, a0⟩, ⟨u1, e1, g1⟩, e2, ⟨e3, a3⟩⟩, h2⟩ := hc i hi
    simp only [List.cons.injEq, and_true] at e0 e1 e3
    obtain rfl : c2 = .int .u8 (xs[i].by_.toNat : Int) := by simpa using (show [c2] = _ from e2)
    subst e0 e1 e3 he
    exact ⟨b, o, c1, rfl, h2 0 _ rfl, h2 1 _ rfl, h2 2 _ rfl, h2 3 _ rfl, g1.isI.1, g1.isI.2, a3⟩
/-- what a write does to a journal that goes on, and to the document's -/
structure Both (n : Nat) (J J' : Jn) (seq : Int) (BB : List (List UInt8)) (zs : List Int) (ls : List (List UInt8)) : Prop where
  live : Live n J' (refS BB.length seq zs ls) (refB BB zs ls) AllOk
  err : (J.write zs ls).1 = refE BB.length zs ls
  last : J'.last ≤ J.last + 1
  cut : J'.D.cut = J.D.cut
  ops : J'.D.ops ≤ J.D.ops + (2 * zs.length + 4)
theorem both_write {n : Nat} {J : Jn} {seq : Int} {BB : List (List UInt8)} (h : Live n J seq BB AllOk) (hcut : J.D.cut < 0) (zs : List Int) (ls : List (List UInt8)) (ht : J.last + 1 < 4611686018427387904) (hb : J.D.ops + (2 * zs.length + 4) ≤ 1048576) : Both n J (J.write zs ls).2 seq BB zs ls := by
  have hl := h.rows.1
  by_cases hr : rightW BB.length zs ls = true
  · have w := write_ok h hcut (by rw [← hl]; exact hr) ht hb
    refine ⟨?_, by rw [w.err, refE, if_pos hr], w.last, w.cut, w.ops⟩
    have hlv := w.live
    rw [refB, if_pos hr, refS]
    by_cases h0 : zs.length = 0
    · rw [if_neg (fun h => h.2 h0)]
      rw [if_pos h0] at hlv
      exact hlv
    · rw [if_pos ⟨hr, h0⟩]
      rw [if_neg h0] at hlv
      exact hlv
  · have e := write_no h (by rw [← hl]; simpa using hr)
    rw [e]
    refine ⟨?_, by rw [e, refE, if_neg hr], by show J.last ≤ _; omega, rfl, by show J.D.ops ≤ _; omega⟩
    rw [refB, if_neg hr, refS, if_neg (fun h => hr h.1)]
    exact h
theorem refB_length (BB : List (List UInt8)) (zs : List Int) (ls : List (List UInt8)) : (refB BB zs ls).length = BB.length := by
  unfold refB
  split
  · exact updB_length _ _ _
  · rfl
theorem refS_range (nb : Nat) (seq : Int) (zs : List Int) (ls : List (List UInt8)) : seq ≤ refS nb seq zs ls ∧ refS nb seq zs ls ≤ seq + 1 := by
  unfold refS
  split <;> omega
end Go.Proofs.YtoonlihacbbfdaaDoor

/- The disk's Poke. -/
set_option linter.unusedVariables false
set_option linter.unusedSimpArgs false
set_option maxRecDepth 100000
namespace Go.Proofs.YtoonlihacbbfdaaDoor
open Go.RowKit

/-- one byte of a loose write laid anew, if it is of sector a -/
def pokeL (a j : Nat) (b : UInt8) (x : Nat × List UInt8) : Nat × List UInt8 := if x.1 = a then (x.1, x.2.set j b) else x
/-- Poke: what it answers, and what is behind it -/
def Dk.poke (D : Dk) (at_ place : Int) (b : UInt8) : Int × Dk :=
  if ¬ (0 ≤ at_ ∧ at_ < D.n) then (41, D) else if place < 0 ∨ 128 ≤ place then (2, D)
  else (0, { D with safe := D.safe.set (at_.toNat * 128 + place.toNat) b, now := D.now.set (at_.toNat * 128 + place.toNat) b, hung := D.hung.map (pokeL at_.toNat place.toNat b) })
theorem pokeL_ok {a j : Nat} {b : UInt8} {x : Nat × List UInt8} {n : Nat} (h : x.1 < n ∧ x.2.length = 128) : (pokeL a j b x).1 < n ∧ (pokeL a j b x).2.length = 128 := by
  unfold pokeL
  split
  · exact ⟨h.1, by simp [h.2]⟩
  · exact h
theorem Sects.set {w : World} {g cap n : Nat} {l : List UInt8} (h : Sects w g cap n l) (i : Nat) (hi : i < n * 128) (b : UInt8) : Sects (w.setCell ⟨g, i, none⟩ (.int .u8 (b.toNat : Int))) g cap n (l.set i b) := by
  obtain ⟨cur, hg, hn, hm, hs, hl, ht⟩ := h
  refine ⟨cur.setIfInBounds i (.int .u8 (b.toNat : Int)), head_setCell hg _, hn, hm, by simpa using hs, by simpa using hl, ?_⟩
  rw [List.length_set, Array.toList_setIfInBounds, List.take_set, ht]
  simp [bv, List.map_set]
theorem Sects.byte {w : World} {g cap n : Nat} {l : List UInt8} (h : Sects w g cap n l) (i : Nat) (hi : i < n * 128) : ∃ c : UInt8, w.cell? ⟨g, i, none⟩ = some (.int .u8 (c.toNat : Int)) ∧ w.frozen? ⟨g, i, none⟩ = false := by
  obtain ⟨cur, hg, hn, hm, hs, hl, ht⟩ := h
  have hil : i < l.length := by omega
  refine ⟨l[i], ?_, frozen_p hg _⟩
  rw [cell_of_row _ _ _ _ _ _ hg]
  have e := bv_get l i hil
  rw [← ht, List.getElem?_take, if_pos hil] at e
  simpa using e
theorem DkAt.put_poke {w : World} {F : Ft} {D : Dk} (h : DkAt w F D) (i : Nat) (hi : i < D.n * 128) (b : UInt8) :
    DkAt ((w.setCell ⟨F.S, i, none⟩ (.int .u8 (b.toNat : Int))).setCell ⟨F.N, i, none⟩ (.int .u8 (b.toNat : Int))) F { D with safe := D.safe.set i b, now := D.now.set i b } := by
  have f := h.ft
  have h1 : ∀ j, j ≠ F.S → (w.setCell ⟨F.S, i, none⟩ (.int .u8 (b.toNat : Int))).heap[j]? = w.heap[j]? := fun j hj => Below.heap_setCell _ _ _ _ hj
  have h2 : ∀ j, j ≠ F.N → ((w.setCell ⟨F.S, i, none⟩ (.int .u8 (b.toNat : Int))).setCell ⟨F.N, i, none⟩ (.int .u8 (b.toNat : Int))).heap[j]? = (w.setCell ⟨F.S, i, none⟩ (.int .u8 (b.toNat : Int))).heap[j]? := fun j hj => Below.heap_setCell _ _ _ _ hj
  refine ⟨f, ⟨h.ok.n1, h.ok.nm, by simpa using h.ok.safe, by simpa using h.ok.now, h.ok.hung, h.ok.loose, h.ok.ops, h.ok.c1, h.ok.c2⟩, ?_, ?_, ?_, ?_⟩
  · rw [h2 _ f.pN, h1 _ f.pS]; exact h.head
  · unfold Sects
    rw [h2 _ f.SN]
    exact h.safe.set i hi b
  · have hN : Sects (w.setCell ⟨F.S, i, none⟩ (.int .u8 (b.toNat : Int))) F.N F.cN D.n D.now := by unfold Sects; rw [h1 _ f.SN.symm]; exact h.now
    exact hN.set i hi b
  · unfold Hung
    rw [h2 _ f.NM.symm, h1 _ f.SM.symm]
    exact h.hung
theorem setCell_swap (w : World) (g g' i i' : Nat) (u v : Value) (h : g ≠ g') : (w.setCell ⟨g, i, none⟩ u).setCell ⟨g', i', none⟩ v = (w.setCell ⟨g', i', none⟩ v).setCell ⟨g, i, none⟩ u := by
  simp only [World.setCell]
  congr 1
  apply Array.ext_getElem?
  intro j
  simp only [Array.getElem?_modify]
  by_cases h1 : g = j
  · subst h1
    simp [Ne.symm h]
  · by_cases h2 : g' = j
    · subst h2
      simp [h]
    · simp [h1, h2]

/-- the loose writes, those below m looked at -/
def hungTo (D : Dk) (a j : Nat) (b : UInt8) (m : Nat) : List (Nat × List UInt8) := (D.hung.take m).map (pokeL a j b) ++ D.hung.drop m
theorem hungTo_zero (D : Dk) (a j : Nat) (b : UInt8) : hungTo D a j b 0 = D.hung := by simp [hungTo]
theorem hungTo_all (D : Dk) (a j : Nat) (b : UInt8) : hungTo D a j b D.hung.length = D.hung.map (pokeL a j b) := by simp [hungTo]
theorem hungTo_length (D : Dk) (a j : Nat) (b : UInt8) (m : Nat) : (hungTo D a j b m).length = D.hung.length := by simp [hungTo]; omega
theorem hungTo_get (D : Dk) (a j : Nat) (b : UInt8) (m : Nat) (h : m < D.hung.length) : (hungTo D a j b m)[m]'(by rw [hungTo_length]; exact h) = D.hung[m] := by
  unfold hungTo
  rw [List.getElem_append_right (by simp; omega)]
  simp [Nat.min_eq_left (Nat.le_of_lt h)]
theorem hungTo_set (D : Dk) (a j : Nat) (b : UInt8) (m : Nat) (h : m < D.hung.length) : (hungTo D a j b m).set m (pokeL a j b D.hung[m]) = hungTo D a j b (m + 1) := by
  unfold hungTo
  rw [List.set_append_right _ _ (by simp; omega)]
  simp only [List.length_map, List.length_take, Nat.min_eq_left (Nat.le_of_lt h), Nat.sub_self]
  rw [List.drop_eq_getElem_cons h, List.set_cons_zero, List.take_add_one, List.getElem?_eq_getElem h, Option.toList_some, List.map_append, List.append_assoc]
  rfl
theorem info_writeS : (Tryd.prog.info? 90).map (fun i => i.size) = some 129 := by kernel_rfl
theorem one_cells (n : Int) (l : List UInt8) : ∀ v ∈ ((.int .i64 n) :: bv l : List Value), v.oneCell' = true := by
  intro v hv
  rcases List.mem_cons.1 hv with rfl | hv
  · rfl
  · exact bv_oneCell l v hv
section
variable {ops : Array Oper} {w : World} {Q : Exit → Act → World → Prop} {a : Act} {o : Oper} {rest : List Oper}
theorem wpList_look (x y : Operand) (ho : o.op = .lookup 84 x y false) (M : Nat) (L : List (Nat × List UInt8)) (hH : Hung w M L) (i : Nat) (hi : i < L.length) (hx : a.eval x = .map (some M)) (hy : a.eval y = .int .i64 (i : Int)) (hg : o.guard = none)
    (h : wpList Tryd.prog ops Q rest (a.put o.dst (loose L[i])) w) : wpList Tryd.prog ops Q (o :: rest) a w := by
  refine wpList_value _ w hg ?_ h
  unfold execOp
  simp only [ho, hx, hy, Sem.run_bind, run_look_hung hH i hi, Result.andThen_ok]
  rfl
theorem wpList_alloc_write (hg : o.guard = none) (ho : o.op = .alloc 90)
    (h : ∀ Z : List Value, Z.length = 129 → wpList Tryd.prog ops Q rest (a.put o.dst (.pointer (some ⟨w.heap.size, 0, none⟩))) (w.alloc (.cells Z.toArray 90))) : wpList Tryd.prog ops Q (o :: rest) a w := by
  obtain ⟨Z, hZ, hz⟩ : ∃ Z : List Value, Z.length = 129 ∧ ∀ w, (zeroValue 90).run Tryd.prog w = .ok (.agg Z.toArray) w := ⟨(.int .i64 0) :: List.replicate 128 (.int .u8 0), by simp, fun w => by kernel_rfl⟩
  refine wpList_value _ _ hg ?_ (h Z hZ)
  unfold execOp
  simp only [ho, Instr.alloc, Sem.run_bind, hz, Result.andThen_ok]
  rfl
end

theorem hungTo_ok {D : Dk} (h : D.Ok) (a j : Nat) (b : UInt8) (m : Nat) : ∀ x ∈ hungTo D a j b m, x.1 < D.n ∧ x.2.length = 128 := by
  intro x hx
  rcases List.mem_append.1 hx with hx | hx
  · obtain ⟨y, hy, rfl⟩ := List.mem_map.1 hx
    exact pokeL_ok (h.hung y (List.mem_of_mem_take hy))
  · exact h.hung x (List.mem_of_mem_drop hx)
theorem DkAt.lay_hung {w w' : World} {F : Ft} {D : Dk} {L : List (Nat × List UInt8)} (h : DkAt w F D) (hH : Hung w' F.M L) (hw : ∀ j, j ≠ F.M → w'.heap[j]? = w.heap[j]?) (hl : L.length = D.hung.length) (hok : ∀ x ∈ L, x.1 < D.n ∧ x.2.length = 128) : DkAt w' F { D with hung := L } := by
  have f := h.ft
  exact ⟨f, ⟨h.ok.n1, h.ok.nm, h.ok.safe, h.ok.now, hok, by rw [hl]; exact h.ok.loose, h.ok.ops, h.ok.c1, h.ok.c2⟩, (hw _ f.pM).trans h.head, by unfold Sects; rw [hw _ f.SM]; exact h.safe, by unfold Sects; rw [hw _ f.NM]; exact h.now, hH⟩
theorem wpList_lay {ops : Array Oper} {w w' : World} {Q : Exit → Act → World → Prop} {a : Act} {o : Oper} {rest : List Oper} (x y z : Operand) (ho : o.op = .mapUpdate 84 x y z) (M i : Nat) (v : Nat × List UInt8) (hx : a.eval x = .map (some M)) (hy : a.eval y = .int .i64 (i : Int)) (hz : a.eval z = loose v) (hg : o.guard = none)
    (hr : (Instr.mapUpdate 84 (.map (some M)) (.int .i64 (i : Int)) (loose v)).run Tryd.prog w = .ok () w') (h : wpList Tryd.prog ops Q rest (a.put o.dst undef) w') : wpList Tryd.prog ops Q (o :: rest) a w := by
  refine wpList_skip w' hg ?_ h
  unfold execOp
  simp only [ho, hx, hy, hz, Sem.run_bind, hr, Result.andThen_ok]
  rfl

set_option maxHeartbeats 8000000 in
theorem poke_any (w : World) (F : Ft) (D : Dk) (h : DkAt w F D) (at_ place : Int) (b : UInt8) (h1 : -9223372036854775808 ≤ at_) (h2 : at_ ≤ 9223372036854775807) (h3 : -9223372036854775808 ≤ place) (h4 : place ≤ 9223372036854775807) :
    Calls Tryd.prog 20 #[F.ptr, .int .i64 at_, .int .i64 place, .int .u8 (b.toNat : Int)] w fun e w' => e = .returned (.int .i64 (D.poke at_ place b).1) ∧ DkAt w' F (D.poke at_ place b).2 ∧ Turned F.has w w' := by
  obtain ⟨c0, c1, c2, c3, c4, c5⟩ := h.cells
  by_cases hin : 0 ≤ at_ ∧ at_ < (D.n : Int)
  · obtain ⟨k, rfl⟩ := Int.eq_ofNat_of_zero_le hin.1
    have hk : k < D.n := by omega
    by_cases hp0 : place < 0
    · have e1 : D.poke k place b = (2, D) := by simp only [Dk.poke]; simp [hk, hp0]
      rw [e1]
      have d0 : decide (place < 0) = true := by simpa using hp0
      go_enter Tryd.func20, Tryd.ntmps20
      go_wp2_with fail
      refine (has_any w F D h k h1 h2).mono ?_
      rintro e w1 ⟨rfl, rfl⟩
      rw [decide_eq_true hin]
      go_wp2_with fail
      go_ret
      exact ⟨rfl, h, Turned.refl _ _⟩
    · have d0 : decide (place < 0) = false := by simpa using hp0
      by_cases hp1 : 128 ≤ place
      · have e1 : D.poke k place b = (2, D) := by simp only [Dk.poke]; simp [hk, hp1]
        rw [e1]
        have d1 : decide ((128 : Int) ≤ place) = true := by simpa using hp1
        go_enter Tryd.func20, Tryd.ntmps20
        go_wp2_with fail
        refine (has_any w F D h k h1 h2).mono ?_
        rintro e w1 ⟨rfl, rfl⟩
        rw [decide_eq_true hin]
        go_wp2_with fail
        go_ret
        exact ⟨rfl, h, Turned.refl _ _⟩
      · have d1 : decide ((128 : Int) ≤ place) = false := by simpa using hp1
        obtain ⟨q, rfl⟩ := Int.eq_ofNat_of_zero_le (show 0 ≤ place by omega)
        have hq : q < 128 := by omega
        have e1 : D.poke k q b = (0, { D with safe := D.safe.set (k * 128 + q) b, now := D.now.set (k * 128 + q) b, hung := D.hung.map (pokeL k q b) }) := by
          simp only [Dk.poke]
          rw [if_neg (fun hn => hn hin), if_neg (by omega)]
          simp
        rw [e1]
        have hkq : k * 128 + q < D.n * 128 := by omega
        obtain ⟨cS, s1, s2⟩ := h.safe.byte (k * 128 + q) hkq
        obtain ⟨cN, n1, n2⟩ := h.now.byte (k * 128 + q) hkq
        have hd2 := h.put_poke (k * 128 + q) hkq b
        have hsw := setCell_swap w.drew F.S F.N (k * 128 + q) (k * 128 + q) (.int .u8 (b.toNat : Int)) (.int .u8 (b.toNat : Int)) h.ft.SN
        have hSN := h.ft.SN
        have hNS := h.ft.SN.symm
        have i0 : (0 : Int) ≤ (k : Int) := by omega
        have i1 : (k : Int) < (D.n : Int) := by omega
        have j0 : (0 : Int) ≤ (q : Int) := by omega
        have j1 : (q : Int) < 128 := by omega
        have Hsw := Lib.hid hsw
        have Hd2 := Lib.hid hd2
        clear hsw hd2
        go_enter Tryd.func20, Tryd.ntmps20
        go_wp2_with fail
        refine (has_any w F D h k h1 h2).mono ?_
        rintro e w1 ⟨rfl, rfl⟩
        rw [decide_eq_true hin]
        go_wp2_with fail
        go_region
        have ht2 : Turned F.has w ((w.setCell ⟨F.S, k * 128 + q, none⟩ (.int .u8 (b.toNat : Int))).setCell ⟨F.N, k * 128 + q, none⟩ (.int .u8 (b.toNat : Int))).drew :=
          ⟨rfl, rfl, rfl, by simp [World.setCell], fun j hj hn => (Below.heap_setCell _ _ _ _ (fun e => hn (.inr (.inr (.inl e))))).trans (Below.heap_setCell _ _ _ _ (fun e => hn (.inr (.inl e))))⟩
        have hd3 := Hd2.out.drew
        generalize ((w.setCell ⟨F.S, k * 128 + q, none⟩ (.int .u8 (b.toNat : Int))).setCell ⟨F.N, k * 128 + q, none⟩ (.int .u8 (b.toNat : Int))).drew = W at *
        have hloose := h.ok.loose
        have hopsb := h.ok.ops
        have hft := h.ft
        have hhu := h.ok.hung
        clear Hsw Hd2 s1 s2 n1 n2 c0 c1 c2 c3 c4 c5 e1
        obtain ⟨c0, c1, c2, c3, c4, c5⟩ := hd3.cells
        have hlen := run_len_hung hd3.hung 3
        dsimp only at c0 c1 c2 c3 c4 c5 hlen
        go_wp2_with fail
        clear c0 c1 c2 c3 c4 c5 hlen
        go_loopw [9, 10, 49, 50, 51, 52, 53, 54, 55, 56, 57, 58, 59, 60, 61, 62, 63, 64, 65, 66, 67, 68, 69, 70, 71, 72] (fun _ _ i _ _ _ _ _ _ _ _ _ _ _ _ _ _ _ _ _ _ _ _ _ _ _ wr => ∃ m : Nat, m ≤ D.hung.length ∧ i = .int .i64 (m : Int) ∧ DkAt wr F { D with safe := D.safe.set (k * 128 + q) b, now := D.now.set (k * 128 + q) b, hung := hungTo D k q b m } ∧ Turned F.has w wr) (fun _ _ i _ _ _ _ _ _ _ _ _ _ _ _ _ _ _ _ _ _ _ _ _ _ _ _ => D.hung.length - (intOf i).toNat)
        case atStart => exact ⟨0, Nat.zero_le _, rfl, by rw [hungTo_zero]; exact hd3, ht2⟩
        case round =>
          obtain ⟨m, hm, rfl, dr, tr⟩ := hrel
          clear hd3 ht2
          by_cases hml : m < D.hung.length
          · have hdm : decide ((m : Int) < (D.hung.length : Int)) = true := by simpa using hml
            have hml2 : m < (hungTo D k q b m).length := by rw [hungTo_length]; exact hml
            have hget : (hungTo D k q b m)[m] = D.hung[m] := hungTo_get D k q b m hml
            obtain ⟨hx1, hx2⟩ := hhu D.hung[m] (List.getElem_mem hml)
            have hset := hungTo_set D k q b m hml
            have hH := dr.hung
            obtain ⟨c0, c1, c2, c3, c4, c5⟩ := dr.cells
            dsimp only at c0 c1 c2 c3 c4 c5 hH
            go_upto_region 12 with (first | (refine wpList_look (.tmp 55) (.tmp 56) rfl F.M (hungTo D k q b m) hH m hml2 rfl rfl rfl ?_; rw [hget]) | (refine wpList_alloc_write rfl rfl ?_; intro Z hZ) | (refine wpList_store_last 90 (.tmp 10) (.tmp 57) rfl _ ((.int .i64 (D.hung[m].1 : Int)) :: bv D.hung[m].2).toArray rfl rfl rfl (by rw [info_writeS]; simp [bv_length, hx2]) (by simp [bv_length, hx2, hZ]) (all_oneCell_toArray (one_cells _ _)) ?_; clear hZ))
            generalize D.hung[m] = x at *
            obtain ⟨xa, xb⟩ := x
            dsimp only at hx1 hx2 hset hget
            have q5 := heap_alloc_new wr (.cells ((.int .i64 (xa : Int)) :: bv xb).toArray 90)
            have hb5 : Below wr.heap.size wr (wr.alloc (.cells ((.int .i64 (xa : Int)) :: bv xb).toArray 90)) := (Below.refl _ _).alloc (Nat.le_refl _) _
            have hFs : ∀ j, F.has j → j ≠ wr.heap.size := fun j hj e => by have := dr.lt hj; omega
            generalize wr.alloc (.cells ((.int .i64 (xa : Int)) :: bv xb).toArray 90) = W5 at *
            have d5 := dr.below hb5
            have t5 : Turned F.has w W5 := tr.trans (Turned.of_below hb5)
            have hsw : w.heap.size ≤ wr.heap.size := tr.size
            clear dr tr hb5 hH c0 c1 c2 c3 c4 c5
            generalize wr.heap.size = sz at *
            have g0 : W5.cell? ⟨sz, 0, none⟩ = some (.int .i64 (xa : Int)) := by rw [cell_of_row _ _ _ _ _ _ q5]; rfl
            by_cases he : xa = k
            · subst he
              have hbe : ((xa : Int) == (xa : Int)) = true := by simp
              have hpk : pokeL xa q b (xa, xb) = (xa, xb.set q b) := by simp [pokeL]
              rw [hpk] at hset
              have g1 : W5.cell? ⟨sz, 1 + q, none⟩ = some (.int .u8 ((xb[q]'(by omega)).toNat : Int)) := by
                rw [cell_of_row _ _ _ _ _ _ q5, Nat.add_comm 1 q]
                simp only [List.getElem?_toArray, List.getElem?_cons_succ]
                exact bv_get xb q (by omega)
              have f1 := frozen_p q5 (1 + q)
              have q6 := head_setCell (i := 1 + q) q5 (.int .u8 (b.toNat : Int))
              have e6 : ((.int .i64 (xa : Int)) :: bv xb : List Value).toArray.setIfInBounds (1 + q) (.int .u8 (b.toNat : Int)) = ((.int .i64 (xa : Int)) :: bv (xb.set q b)).toArray := by
                rw [Nat.add_comm 1 q]
                simp [bv, List.map_set]
              rw [e6] at q6
              have d6 : DkAt (W5.setCell ⟨sz, 1 + q, none⟩ (.int .u8 (b.toNat : Int))) F _ := d5.keep fun j hj => Below.heap_setCell _ _ _ _ (hFs j hj)
              have t6 : Turned F.has w (W5.setCell ⟨sz, 1 + q, none⟩ (.int .u8 (b.toNat : Int))) :=
                ⟨t5.os, t5.tape, t5.output, Nat.le_trans t5.size (by simp [World.setCell]), fun j hj hn => (Below.heap_setCell _ _ _ _ (show j ≠ sz by omega)).trans (t5.block j hj hn)⟩
              have hbl : (bv (xb.set q b)).length = 128 := by rw [bv_length, List.length_set, hx2]
              have hx2' : (xb.set q b).length = 128 := by rw [List.length_set, hx2]
              go_upto_region 14 with fail
              generalize W5.setCell ⟨sz, 1 + q, none⟩ (.int .u8 (b.toNat : Int)) = W6 at *
              generalize xb.set q b = xc at *
              clear d5 t5 q5 g0 g1 f1 e6
              refine wp_region_still_tail 6 (by kernel_rfl) (by kernel_rfl) ?_
              simp only [List.take_succ_cons, List.take_zero, List.drop_succ_cons, List.drop_zero]
              change wpStill _ _ W6.drew (fun a' => wpList _ _ _ _ a' W6.drew) _ _
              have d7 := d6.drew
              have t7 := t6.drew
              have q7 : W6.drew.heap[sz]? = some (.cells ((.int .i64 (xa : Int)) :: bv xc).toArray 90 (0, 0)) := q6
              clear d6 t6 q6
              generalize W6.drew = W7 at *
              obtain ⟨c0, c1, c2, c3, c4, c5⟩ := d7.cells
              dsimp only at c0 c1 c2 c3 c4 c5
              have hrg : W7.rangeAt sz 0 ((.int .i64 (xa : Int)) :: bv xc) := by
                have := World.rangeAt_of_block q7 0 129
                intro j v hj
                rw [cell_of_row _ _ _ _ _ _ q7, Nat.zero_add]
                simpa using hj
              obtain ⟨es, cl, hme, hmu, hHs⟩ := run_lay_hung d7.hung m hml2 (xa, xc)
              dsimp only at hmu hHs
              rw [hset] at hHs
              obtain ⟨W8, hmu', hH', hw8, t8⟩ : ∃ W8, (Instr.mapUpdate 84 (.map (some F.M)) (.int .i64 (m : Int)) (loose (xa, xc))).run Tryd.prog W7 = .ok () W8 ∧ Hung W8 F.M (hungTo D xa q b (m + 1)) ∧ (∀ j, j ≠ F.M → W8.heap[j]? = W7.heap[j]?) ∧ Turned F.has W7 W8 :=
                ⟨_, hmu, hHs, fun j hj => (MapKept.heap_set hme).2 j hj, rfl, rfl, rfl, by simp, fun j _ hn => (MapKept.heap_set hme).2 j (fun e => hn (.inr (.inr (.inr e))))⟩
              iterate 5 still_step
              refine still_load 90 (.tmp 10) rfl sz 0 rfl ((.int .i64 (xa : Int)) :: bv xc) _ rfl hrg Tryd.underlying90 rfl (by rw [info_writeS, List.length_cons, hbl]) ?_
              simp only [Act.put, List.setIfInBounds_toArray, List.set_cons_zero, List.set_cons_succ]
              refine wpStill_nil ?_
              refine wpList_lay (.tmp 69) (.tmp 70) (.tmp 71) rfl F.M m (xa, xc) rfl rfl rfl rfl hmu' ?_
              refine wpList_nil ?_
              have d8 := d7.lay_hung hH' hw8 (by rw [hungTo_length, hungTo_length]) (hungTo_ok h.ok xa q b (m + 1))
              have t9 := t7.trans t8
              clear d7 t7 t8 q7 c0 c1 c2 c3 c4 c5 hrg hmu hmu' hHs hme hH' hw8
              dsimp only at d8
              go_wp2_with fail
              go_roundw
              case rel => exact ⟨m + 1, by omega, by go_num, d8, t9⟩
              case measure => simp [intOf]; omega
            · have hbe : ((xa : Int) == (k : Int)) = false := by simp; omega
              have hpk : pokeL k q b (xa, xb) = (xa, xb) := by simp [pokeL, he]
              rw [hpk, ← hget, List.set_getElem_self] at hset
              rw [hset] at d5
              clear hset hget q5
              go_wp2_with fail
              go_roundw
              case rel => exact ⟨m + 1, by omega, by go_num, d5, t5⟩
              case measure => simp [intOf]; omega
          · obtain rfl : m = D.hung.length := by omega
            have hdm : decide ((D.hung.length : Int) < (D.hung.length : Int)) = false := by simp
            rw [hungTo_all] at dr
            go_wp2_with fail
            go_ret
            exact ⟨rfl, dr, tr⟩
  · have e1 : D.poke at_ place b = (41, D) := by simp only [Dk.poke]; simp [hin]
    rw [e1]
    go_enter Tryd.func20, Tryd.ntmps20
    go_wp2_with fail
    refine (has_any w F D h at_ h1 h2).mono ?_
    rintro e w1 ⟨rfl, rfl⟩
    rw [decide_eq_false hin]
    go_wp2_with fail
    go_ret
    exact ⟨rfl, h, Turned.refl _ _⟩
end Go.Proofs.YtoonlihacbbfdaaDoor

/- One byte that is another one is told, or makes no difference. Plain lists. -/
set_option linter.unusedVariables false
set_option linter.unusedSimpArgs false
set_option maxRecDepth 100000
namespace Go.Proofs.YtoonlihacbbfdaaDoor
open Go.RowKit

theorem sec_set_same (l : List UInt8) (k p : Nat) (y : UInt8) (hp : p < 128) : sec (l.set (k * 128 + p) y) k = (sec l k).set p y := by
  rw [sec, List.drop_set, if_neg (by omega), show k * 128 + p - k * 128 = p by omega, List.take_set, sec]
theorem sec_set_other (l : List UInt8) (k p i : Nat) (y : UInt8) (hp : p < 128) (hi : i ≠ k) : sec (l.set (k * 128 + p) y) i = sec l i := by
  rcases Nat.lt_or_gt_of_ne hi with h | h
  · rw [sec, List.drop_set, if_neg (by omega), List.take_set_of_le (by omega), sec]
  · rw [sec, List.drop_set, if_pos (by omega), sec]
theorem sec_getD (l : List UInt8) (k p : Nat) (hp : p < 128) : (sec l k).getD p 0 = l.getD (k * 128 + p) 0 := by
  rw [sec, List.getD_eq_getElem?_getD, List.getD_eq_getElem?_getD, List.getElem?_take, if_pos hp, List.getElem?_drop]
theorem read_home {n : Nat} {J : Jn} {seq : Int} {B : List (List UInt8)} {ok : Nat → Prop} (h : Live n J seq B ok) {i : Nat} (hi : i < (n - 2) / 2) (hh : HomeOk n J.D.now B i) {b : List UInt8} (hb : B[i]? = some b) : J.read (i : Int) = (b, 0, J) := by
  have h' : Live n J seq B (fun j => j = i) := by
    obtain ⟨w, pl, him⟩ := h.im
    refine ⟨h.off, h.doff, h.flat, h.dok, h.hn, h.hseq, ⟨w, pl, him.move him.len (fun _ _ => rfl) fun j hj e => ?_⟩, fun j hj e => by rw [show j = i from e]; exact hh⟩
    rw [show j = i from e]
    exact .inl hh
  exact read_live h' hi rfl hb
/-- what an opening of a poked disk tells -/
structure Told (n : Nat) (D' : Dk) (seq : Int) (B : List (List UInt8)) (un : Prop) : Prop where
  hn : D'.n = n
  ends : (un ∧ ∃ J', D'.openJ = (62, J')) ∨ ∃ J', D'.openJ = (0, J') ∧ J'.seq = seq ∧ J'.D.n = n ∧ J'.D.blocks = (n - 2) / 2 ∧ ∀ i b, i < (n - 2) / 2 → B[i]? = some b → J'.read (i : Int) = (b, 0, J') ∨ (un ∧ J'.read (i : Int) = ([], 62, J'))
set_option maxHeartbeats 1000000 in
theorem tells_plain {n : Nat} {J : Jn} {seq : Int} {B : List (List UInt8)} (h : Live n J seq B AllOk) (hcut : J.D.cut < 0) (hops : J.D.ops + ((n - 2) / 2 + 1) ≤ 1048576) {k p : Nat} (hk : k < n) (hp : p < 128) (y : UInt8) :
    ∃ D', J.D.poke (k : Int) (p : Int) y = (0, D') ∧ Told n D' seq B (y ≠ (sec J.D.now k).getD p 0) := by
  obtain ⟨w, pl, him⟩ := h.im
  have hlo := him.lo
  have hhi := him.hi
  have htt := him.tt
  have hnow := h.dok.now
  have hsafe := h.dok.safe
  obtain ⟨fl1, fl2⟩ := h.flat
  obtain ⟨D', hD'⟩ : ∃ D', D' = (J.D.poke (k : Int) (p : Int) y).2 := ⟨_, rfl⟩
  have hpk : J.D.poke (k : Int) (p : Int) y = (0, { J.D with safe := J.D.safe.set (k * 128 + p) y, now := J.D.now.set (k * 128 + p) y, hung := J.D.hung.map (pokeL k p y) }) := by
    rw [Dk.poke, if_neg (by rw [h.hn]; omega), if_neg (by omega)]
    simp only [Int.toNat_natCast]
  rw [hpk] at hD'
  have e1 : D'.now = J.D.now.set (k * 128 + p) y := by rw [hD']
  have e2 : D'.safe = J.D.safe.set (k * 128 + p) y := by rw [hD']
  have e3 : D'.hung = [] := by rw [hD']; show J.D.hung.map _ = []; rw [fl1]; rfl
  have e4 : D'.n = n := by rw [hD']; exact h.hn
  have e5 : D'.off = false := by rw [hD']; exact h.doff
  have e6 : D'.cut = J.D.cut := by rw [hD']
  have e7 : D'.ops = J.D.ops := by rw [hD']
  refine ⟨D', by rw [hpk, hD'], e4, ?_⟩
  clear hpk hD'
  have hf : D'.Flat := ⟨e3, by rw [e1, e2, fl2]⟩
  have hok : D'.Ok := ⟨by omega, by omega, by rw [e2, List.length_set, hsafe, h.hn, e4], by rw [e1, List.length_set, hnow, h.hn, e4], (fun x hx => (by rw [e3] at hx; cases hx)), by rw [e3]; exact Nat.zero_le _, by rw [e7]; exact h.dok.ops, by rw [e6]; exact h.dok.c1, by rw [e6]; exact h.dok.c2⟩
  have hln : D'.now.length = n * 128 := by rw [hok.now, e4]
  have hbl : D'.blocks = (n - 2) / 2 := by rw [Dk.blocks, e4]
  have hb0 : J.D.blocks = (n - 2) / 2 := h.blocks
  have hot : ∀ i, i ≠ k → sec D'.now i = sec J.D.now i := fun i hi => by rw [e1]; exact sec_set_other _ _ _ _ _ hp hi
  have hsm : sec D'.now k = (sec J.D.now k).set p y := by rw [e1]; exact sec_set_same _ _ _ _ hp
  have hsl : (sec J.D.now k).length = 128 := sec_length hnow (by rw [h.hn]; exact hk)
  by_cases hy : y = (sec J.D.now k).getD p 0
  · have hsame : D'.now = J.D.now := by
      rw [e1, hy, sec_getD _ _ _ hp, List.getD_eq_getElem?_getD, List.getElem?_eq_getElem (by rw [hnow, h.hn]; omega), Option.getD_some, List.set_getElem_self]
    obtain ⟨c, J', o⟩ := open_im (n := n) (D := D') (w := w) (pl := pl) (by rw [hsame]; exact him) hf hok e4 e5 (by rw [e7]; exact hops)
    rcases o.ends with ⟨rfl, hl, _⟩ | ⟨_, h3, _⟩
    · exact .inr ⟨J', o.eq, hl.hseq, hl.hn, hl.blocks, fun i b hi hb => .inl (read_live hl hi trivial hb)⟩
    · rw [e6] at h3; omega
  · obtain ⟨m0, m1, _⟩ := him.marks (l := J.D.now) h.hn
    have hbad : fright (sec J.D.now k) = true → fright (sec D'.now k) = false := fun hr => by rw [hsm]; exact fright_poke hsl hr p hp y hy
    have hmk : ∀ i, i ≠ k → D'.markOk i = J.D.markOk i := fun i hi => by rw [Dk.markOk, Dk.markOk, hot i hi, hbl, hb0]
    by_cases hk2 : k < 2
    · refine .inl ⟨hy, ⟨D', 0, 0, 0⟩, ?_⟩
      have hmb : D'.markOk k = false := by
        have hr : fright (sec J.D.now k) = true := by
          have : J.D.markOk k = true := by
            rcases (show k = 0 ∨ k = 1 by omega) with rfl | rfl
            · exact m0
            · exact m1
          rw [Dk.markOk] at this
          simp only [Bool.and_eq_true] at this
          exact this.1.1.1
        rw [Dk.markOk, hbad hr]; rfl
      rw [Dk.openJ, if_neg (by omega), if_neg (by simp [e5])]
      rcases (show k = 0 ∨ k = 1 by omega) with rfl | rfl
      · rw [if_neg (by rw [hmk 1 (by omega), m1]; simp), if_pos (.inl hmb)]
      · rw [if_neg (by rw [hmk 0 (by omega), m0]; simp), if_pos (.inr hmb)]
    · by_cases hkn : k < 2 + (n - 2) / 2
      · refine .inl ⟨hy, ⟨D', 0, 0, 0⟩, ?_⟩
        have hnb : D'.noteOk (k - 2) = false := by
          have hr : fright (sec J.D.now k) = true := by
            have := (him.note_of (k := k - 2) (by omega)).1
            rwa [show 2 + (k - 2) = k by omega] at this
          rw [Dk.noteOk, show 2 + (k - 2) = k by omega, hbad hr, Bool.false_and, Bool.false_and]
        rw [Dk.openJ, if_neg (by omega), if_neg (by simp [e5]), if_neg (by rw [hmk 0 (by omega), m0]; simp), if_neg (by rw [hmk 0 (by omega), hmk 1 (by omega), m0, m1]; simp), if_pos ⟨k - 2, by omega, hnb⟩]
      · have him2 : Im n D'.now w pl seq J.last B (fun i => 2 + (n - 2) / 2 + i ≠ k) := him.move hln (fun i hi => hot i (by omega)) fun i hi hne => .inl (by
          obtain ⟨v, b, a1, a2, a3⟩ := h.home i hi trivial
          exact ⟨v, b, a1, a2, by rw [hot _ hne]; exact a3⟩)
        obtain ⟨c, J', o⟩ := open_im him2 hf hok e4 e5 (by rw [e7]; exact hops)
        rcases o.ends with ⟨rfl, hl, hst⟩ | ⟨_, h3, _⟩
        · refine .inr ⟨J', o.eq, hl.hseq, hl.hn, hl.blocks, fun i b hi hb => ?_⟩
          by_cases hik : 2 + (n - 2) / 2 + i = k
          · rcases hst i hi with h4 | h4
            · exact .inl (read_home hl hi h4 hb)
            · refine .inr ⟨hy, read_hole hl hi ?_⟩
              rw [h4, hik]
              refine hbad ?_
              obtain ⟨v, b', _, _, a3⟩ := h.home i hi trivial
              rw [← hik, a3]
              exact fright_mkF _ _ _
          · exact .inl (read_live hl hi hik hb)
        · rw [e6] at h3; omega
end Go.Proofs.YtoonlihacbbfdaaDoor

/- JournalTells: one byte that is another one is told, or makes no difference. -/
set_option linter.unusedVariables false
set_option linter.unusedSimpArgs false
set_option maxRecDepth 100000
namespace Go.Proofs.YtoonlihacbbfdaaDoor
open Go.RowKit

/-- what the script's region reads: an op of the script, the document's blocks -/
def ScrAt (b o i q : Nat) (c0 c1 c2 c3 v : Value) (W : World) : Prop :=
  W.cell? ⟨b, o + i * 4, none⟩ = some c0 ∧ W.cell? ⟨b, o + i * 4 + 1, none⟩ = some c1 ∧ W.cell? ⟨b, o + i * 4 + 2, none⟩ = some c2 ∧ W.cell? ⟨b, o + i * 4 + 3, none⟩ = some c3 ∧ W.cell? ⟨q, 0, none⟩ = some v
theorem ScrAt.below {b o i q : Nat} {c0 c1 c2 c3 v : Value} {W W' : World} (h : ScrAt b o i q c0 c1 c2 c3 v W) (hb : Below W.heap.size W W') : ScrAt b o i q c0 c1 c2 c3 v W' :=
  ⟨cells_below hb _ _ h.1, cells_below hb _ _ h.2.1, cells_below hb _ _ h.2.2.1, cells_below hb _ _ h.2.2.2.1, cells_below hb _ _ h.2.2.2.2⟩
set_option maxHeartbeats 16000000 in
theorem tells_walk (w : World) (hn : Nib w) (sec_ : Int) (va : Value) (xs : List OpJ) (hva : IsRow rdOpJ w va xs) (at_ place : Int) (by_ : UInt8)
    (hs1 : -9223372036854775808 ≤ sec_) (hs2 : sec_ ≤ 9223372036854775807) (ha1 : -9223372036854775808 ≤ at_) (ha2 : at_ ≤ 9223372036854775807) (hp1 : -9223372036854775808 ≤ place) (hp2 : place ≤ 9223372036854775807) :
    Calls Tryd.prog 5 #[.int .i64 sec_, va, .int .i64 at_, .int .i64 place, .int .u8 (by_.toNat : Int)] w fun e w' => e = .returned (.bool true) ∧ Below w.heap.size w w' := by
  obtain ⟨a0, c0, rfl, hc0, hm0⟩ := hva.form
  unfold maxLen at hm0
  have HVA := Lib.hid hva
  have HSZ := Lib.hid (fun w : World => size_any w sec_ hs1 hs2)
  have hsz := pickN_lt sec_ (n := 60) (by omega)
  obtain ⟨n, hnn⟩ : ∃ n, n = 32 + pickN sec_ 60 := ⟨_, rfl⟩
  rw [← hnn] at HSZ
  have hn32 : 32 ≤ n := by omega
  have hn92 : n ≤ 92 := by omega
  have HKA := Lib.hid (fun w : World => pick_any w at_ n ha1 ha2 (by omega) (by omega))
  have HKP := Lib.hid (fun w : World => pick_any w place 128 hp1 hp2 (by omega) (by omega))
  have hgw : 0 < w.heap.size := World.block_lt_of_cell? w _ (hn 0 (by omega))
  clear hva hs1 hs2 hsz hnn ha1 ha2 hp1 hp2
  generalize hg0 : w.heap.size = g0 at *
  have Hg0 := Lib.hid hg0
  clear hg0
  go_enter Tryd.func5, Tryd.ntmps5
  go_wp2_with fail
  refine (shown06_any w hn).mono ?_
  rintro e W2 ⟨rfl, hb2⟩
  have hn2 := hn.below hb2
  go_wp2_with fail
  refine (HSZ.out W2).mono ?_
  rintro e w' ⟨rfl, rfl⟩
  go_wp2_with fail
  refine (begun06_any W2 hn2 n hn32 (by omega)).mono ?_
  rintro e W3 ⟨F, p, q, v, J, B2, rfl, jb, lv, hl1, hcut, hops, hrj, hsep, hB2⟩
  have jr : JR g0 B2 w W3 F p J q v (zeroB n) 0 := ⟨jb.from (by rw [← Hg0.out]; exact hb2) (by rw [← Hg0.out]; exact hb2.size), hrj, (fun k h1 h2 => by have := hsep k h1; have := (hrj.rt_low k h2).1; omega), Nat.le_trans (by rw [← Hg0.out]; exact hb2.size) hB2, hgw⟩
  clear jb hrj hsep hB2 hn2 hb2 hn hgw
  go_wp2_with fail
  have hzl : (zeroB n).length = (n - 2) / 2 := by simp [zeroB]
  go_loopw [16] (fun x wr => ∃ i : Nat, i ≤ xs.length ∧ i ≤ 20 ∧ x = .int .i64 (i : Int) ∧ ∃ J BB seq, JR g0 B2 w wr F p J q v BB seq ∧ Live n J seq BB AllOk ∧ BB.length = (n - 2) / 2 ∧ J.last ≤ 1 + i ∧ J.D.cut < 0 ∧ J.D.ops ≤ 400 + i * 100 ∧ 0 ≤ seq ∧ seq ≤ (i : Int)) (fun x _ => 20 - (intOf x).toNat)
  case atStart => exact ⟨0, Nat.zero_le _, by omega, rfl, J, _, _, jr, lv, hzl, by omega, hcut, by omega, by omega, by omega⟩
  case round =>
    obtain ⟨i, hi, hi20, rfl, J, BB, seq, jr, lv, hbl, hlast, hcut, hops, hsq0, hsq1⟩ := hrel
    by_cases hlt : i < xs.length ∧ i < 20
    · obtain ⟨hlt, hlt2⟩ := hlt
      have hd1 : decide ((i : Int) < (xs.length : Int)) = true := decide_eq_true (by omega)
      have hd2 : decide ((i : Int) < 20) = true := decide_eq_true (by omega)
      obtain ⟨bs_, os_, vx, rfl, s0, s1, s2, s3, hix, hzx, hr1, hr2⟩ := script_at (HVA.out.below (by rw [Hg0.out]; exact jr.jb.below)) i hlt
      obtain ⟨aq, cq, rfl, hcq, hmq⟩ := jr.rj.form
      obtain ⟨q0, q1⟩ := rj_cells jr.rj
      have hnb0 : 0 < (n - 2) / 2 := by omega
      have hjlt := jr.jlt
      have hrlt : ∀ k, RT q (.slice aq BB.length cq) k → k < wr.heap.size := fun k hk => (jr.rj.rt_low k hk).2
      have HLV := Lib.hid lv
      have jr1 := jr.step (Below.refl _ _).drew
      have Hbl := Lib.hid hbl
      obtain ⟨nb, hnb⟩ : ∃ nb, nb = BB.length := ⟨_, rfl⟩
      have Hnb := Lib.hid hnb
      rw [← hnb] at q0 hcq hrlt jr1 hbl
      have hnb0' : 0 < nb := by omega
      have hnb8 : nb ≤ 8191 := by omega
      have hJn := lv.hn
      have hJs := lv.hseq
      clear hnb jr lv hbl hnb0
      replace s0 : wr.drew.cell? _ = _ := s0
      replace s1 : wr.drew.cell? _ = _ := s1
      replace s2 : wr.drew.cell? _ = _ := s2
      replace s3 : wr.drew.cell? _ = _ := s3
      replace q0 : wr.drew.cell? _ = _ := q0
      replace hix : IsI wr.drew _ _ := hix
      generalize xs[i] = x at *
      go_upto_region 9 with fail
      have hjlt1 : ∀ k, JT F p k → k < wr.drew.heap.size := hjlt
      have hrlt1 : ∀ k, RT q (.slice aq nb cq) k → k < wr.drew.heap.size := hrlt
      have hS0 : ScrAt bs_ os_ i q (.int .i64 x.kind) vx (.int .u8 (x.by_.toNat : Int)) (.int .i64 x.raw) (.slice aq nb cq) wr.drew := ⟨s0, s1, s2, s3, q0⟩
      clear hjlt hrlt s0 s1 s2 s3 q0
      refine wp_region_noPanic ?_
      refine wp_region_held_drew (S := (ScrAt bs_ os_ i q (.int .i64 x.kind) vx (.int .u8 (x.by_.toNat : Int)) (.int .i64 x.raw) (.slice aq nb cq))) (by kernel_rfl) hS0 (fun hH => ?_)
      refine take_at (i := 0) (v := ?_) rfl (by kernel_rfl) (by kernel_rfl) (by kernel_rfl) (fun _ _ _ h => h) (Or.inl ⟨by rfl, ?_⟩) hH ?_
      rotate_left
      · (intro w hSw; obtain ⟨q0, q1, q2, q3, q4⟩ := hSw; go_simp; try with_reducible rfl)
      try simp only [Act.put, List.setIfInBounds_toArray, List.set_cons_zero, List.set_cons_succ]
      refine take_at (i := 1) (v := ?_) rfl (by kernel_rfl) (by kernel_rfl) (by kernel_rfl) (fun _ _ _ h => h) (Or.inl ⟨by rfl, ?_⟩) hH ?_
      rotate_left
      · (intro w hSw; obtain ⟨q0, q1, q2, q3, q4⟩ := hSw; go_simp; try with_reducible rfl)
      try simp only [Act.put, List.setIfInBounds_toArray, List.set_cons_zero, List.set_cons_succ]
      refine take_at (i := 2) (v := ?_) rfl (by kernel_rfl) (by kernel_rfl) (by kernel_rfl) (fun _ _ _ h => h) (Or.inl ⟨by rfl, ?_⟩) hH ?_
      rotate_left
      · (intro w hSw; obtain ⟨q0, q1, q2, q3, q4⟩ := hSw; go_simp; try with_reducible rfl)
      try simp only [Act.put, List.setIfInBounds_toArray, List.set_cons_zero, List.set_cons_succ]
      refine take_at (i := 3) (v := ?_) rfl (by kernel_rfl) (by kernel_rfl) (by kernel_rfl) (fun _ _ _ h => h) (Or.inl ⟨by rfl, ?_⟩) hH ?_
      rotate_left
      · (intro w hSw; obtain ⟨q0, q1, q2, q3, q4⟩ := hSw; go_simp; try with_reducible rfl)
      try simp only [Act.put, List.setIfInBounds_toArray, List.set_cons_zero, List.set_cons_succ]
      refine take_at (i := 4) (v := ?_) rfl (by kernel_rfl) (by kernel_rfl) (by kernel_rfl) (fun _ _ _ h => h) (Or.inl ⟨by rfl, ?_⟩) hH ?_
      rotate_left
      · (intro w hSw; obtain ⟨q0, q1, q2, q3, q4⟩ := hSw; go_simp; try with_reducible rfl)
      try simp only [Act.put, List.setIfInBounds_toArray, List.set_cons_zero, List.set_cons_succ]
      refine take_at (i := 5) (v := ?_) rfl (by kernel_rfl) (by kernel_rfl) (by kernel_rfl) (fun _ _ _ h => h) (Or.inl ⟨by rfl, ?_⟩) hH ?_
      rotate_left
      · (intro w hSw; obtain ⟨q0, q1, q2, q3, q4⟩ := hSw; go_simp; try with_reducible rfl)
      try simp only [Act.put, List.setIfInBounds_toArray, List.set_cons_zero, List.set_cons_succ]
      refine take_at (i := 6) (v := ?_) rfl (by kernel_rfl) (by kernel_rfl) (by kernel_rfl) (fun _ _ _ h => h) (Or.inl ⟨by rfl, ?_⟩) hH ?_
      rotate_left
      · (intro w hSw; obtain ⟨q0, q1, q2, q3, q4⟩ := hSw; go_simp; try with_reducible rfl)
      try simp only [Act.put, List.setIfInBounds_toArray, List.set_cons_zero, List.set_cons_succ]
      refine take_at (i := 7) (v := ?_) rfl (by kernel_rfl) (by kernel_rfl) (by kernel_rfl) (fun _ _ _ h => h) (Or.inl ⟨by rfl, ?_⟩) hH ?_
      rotate_left
      · (intro w hSw; obtain ⟨q0, q1, q2, q3, q4⟩ := hSw; go_simp; try with_reducible rfl)
      try simp only [Act.put, List.setIfInBounds_toArray, List.set_cons_zero, List.set_cons_succ]
      refine take_at (i := 8) (v := ?_) rfl (by kernel_rfl) (by kernel_rfl) (by kernel_rfl) (fun _ _ _ h => h) (Or.inl ⟨by rfl, ?_⟩) hH ?_
      rotate_left
      · (intro w hSw; obtain ⟨q0, q1, q2, q3, q4⟩ := hSw; go_simp; try with_reducible rfl)
      try simp only [Act.put, List.setIfInBounds_toArray, List.set_cons_zero, List.set_cons_succ]
      refine wpAnyH_ready (rs := [9]) (by kernel_rfl) (by simp) ?_
      refine ready_at rfl (fun K hK => ?_) AllReadyH.nil
      go_simp
      refine (blocks06_any _ x.kind _ x.by_ x.raw x.at_ nb hix hr1 hr2 hnb0' (by omega) hzx).mono ?_
      rintro e W5 ⟨u, v2, rfl, hmi5, hml5, hb5⟩
      have hHn := hH.below hb5
      have jr5 := jr1.step hb5
      have hh5 : Held wr.drew.heap.size W5 (fun w => IsI w u (blk x.raw x.by_ nb x.at_).1 ∧ IsBs w v2 (blk x.raw x.by_ nb x.at_).2) := fun w2 h2 => ⟨hmi5.held w2 h2, hml5.held w2 h2⟩
      clear hmi5 hml5 hb5 hH jr1 hix
      go_wp2_with fail
      refine hK.out _ _ hHn (fun hH => ?_)
      clear hHn
      clear hK K
      try simp only [Act.put, List.setIfInBounds_toArray, List.set_cons_zero, List.set_cons_succ]
      refine take_at (i := 10) (v := ?_) rfl (by kernel_rfl) (by kernel_rfl) (by kernel_rfl) (fun _ _ _ h => h) (Or.inl ⟨by rfl, ?_⟩) hH ?_
      rotate_left
      · (intro w hSw; obtain ⟨q0, q1, q2, q3, q4⟩ := hSw; go_simp; try with_reducible rfl)
      try simp only [Act.put, List.setIfInBounds_toArray, List.set_cons_zero, List.set_cons_succ]
      refine take_at (i := 11) (v := ?_) rfl (by kernel_rfl) (by kernel_rfl) (by kernel_rfl) (fun _ _ _ h => h) (Or.inl ⟨by rfl, ?_⟩) hH ?_
      rotate_left
      · (intro w hSw; obtain ⟨q0, q1, q2, q3, q4⟩ := hSw; go_simp; try with_reducible rfl)
      try simp only [Act.put, List.setIfInBounds_toArray, List.set_cons_zero, List.set_cons_succ]
      refine take_at (i := 12) (v := ?_) rfl (by kernel_rfl) (by kernel_rfl) (by kernel_rfl) (fun _ _ _ h => h) (Or.inl ⟨by rfl, ?_⟩) hH ?_
      rotate_left
      · (intro w hSw; obtain ⟨q0, q1, q2, q3, q4⟩ := hSw; go_simp; try with_reducible rfl)
      try simp only [Act.put, List.setIfInBounds_toArray, List.set_cons_zero, List.set_cons_succ]
      refine take_at (i := 13) (v := ?_) rfl (by kernel_rfl) (by kernel_rfl) (by kernel_rfl) (fun _ _ _ h => h) (Or.inl ⟨by rfl, ?_⟩) hH ?_
      rotate_left
      · (intro w hSw; obtain ⟨q0, q1, q2, q3, q4⟩ := hSw; go_simp; try with_reducible rfl)
      try simp only [Act.put, List.setIfInBounds_toArray, List.set_cons_zero, List.set_cons_succ]
      refine take_at (i := 14) (v := ?_) rfl (by kernel_rfl) (by kernel_rfl) (by kernel_rfl) (fun _ _ _ h => h) (Or.inl ⟨by rfl, ?_⟩) hH ?_
      rotate_left
      · (intro w hSw; obtain ⟨q0, q1, q2, q3, q4⟩ := hSw; go_simp; try with_reducible rfl)
      try simp only [Act.put, List.setIfInBounds_toArray, List.set_cons_zero, List.set_cons_succ]
      refine wpAnyH_done (by kernel_rfl) ?_ _
      refine NoPanic.normal ?_
      clear hH
      have hzi := blk_ints (raw := x.raw) (by_ := x.by_) hnb0' (by omega) hzx
      have hsh := blk_short x.raw x.by_ nb x.at_
      generalize blk x.raw x.by_ nb x.at_ = bk at *
      have bw := both_write HLV.out hcut bk.1 bk.2 (by omega) (by omega)
      have hwr := jwrite_any W5 F p J jr5.jb.jat jr5.jb.nib (by omega) _ bk.1 (fun w' ht => ((hh5.turned ht hjlt1).now).1) _ bk.2 (fun w' ht => ((hh5.turned ht hjlt1).now).2) hzi (by omega) (by omega) (by omega)
      have HB := Lib.hid bw
      have HWR := Lib.hid hwr
      clear hwr bw
      go_wp2_with fail
      refine HWR.out.mono ?_
      rintro e W6 ⟨rfl, j6, t6⟩
      have jr6 := jr5.turnJ j6 t6
      have hh6 := hh5.turned t6 hjlt1
      clear j6 t6 jr5 hh5 HWR
      have hrw := rwrite_any W6 jr6.rj _ bk.1 (fun w' ht => ((hh6.turned ht hrlt1).now).1) _ bk.2 (fun w' ht => ((hh6.turned ht hrlt1).now).2) (by rw [← Hnb.out]; exact hnb8) hzi (by omega) (by omega)
      have HRW := Lib.hid hrw
      clear hrw
      go_wp2_with fail
      refine HRW.out.mono ?_
      rintro e W7 ⟨rfl, r7, t7⟩
      have jr7 := jr6.turnR r7 t7
      clear r7 t7 jr6 hh6 HRW
      have hrs := refS_range BB.length seq bk.1 bk.2
      rw [Hnb.out] at jr7
      have HJR := Lib.hid jr7
      clear jr7
      go_wp2_with fail
      go_roundw
      case rel => exact ⟨i + 1, by omega, by omega, by go_num, _, _, _, HJR.out, HB.out.live, by rw [refB_length]; exact Hbl.out, by have := HB.out.last; omega, by rw [HB.out.cut]; exact hcut, by have := HB.out.ops; omega, by omega, by omega⟩
      case measure => simp [intOf]; omega
    · have hkp := pickN_lt place (n := 128) (by omega)
      have hkk := pickN_lt at_ (n := n) (by omega)
      obtain ⟨k, hk⟩ : ∃ k, k = pickN at_ n := ⟨_, rfl⟩
      obtain ⟨pp, hpp⟩ : ∃ pp, pp = pickN place 128 := ⟨_, rfl⟩
      rw [← hk] at hkk HKA
      rw [← hpp] at hkp HKP
      obtain ⟨s, hs⟩ : ∃ s, s = sec J.D.now k := ⟨_, rfl⟩
      have hsl : s.length = 128 := by rw [hs]; exact sec_length lv.dok.now (by rw [lv.hn]; exact hkk)
      obtain ⟨D', hpk, htd⟩ := tells_plain lv hcut (by omega) hkk hkp (s.getD pp 0 ^^^ by_)
      rw [← hs] at htd
      have hps : pp < s.length := by omega
      have hgd : s.getD pp 0 = s[pp] := by rw [List.getD_eq_getElem?_getD, List.getElem?_eq_getElem hps]; rfl
      have hrd : J.D.read (k : Int) = (s, 0) := by rw [Dk.read, if_neg (by simp [lv.doff]), if_pos (by rw [lv.hn]; omega), Int.toNat_natCast, hs]
      have hxor : bits .xor .u8 ((s[pp].toNat : Nat) : Int) ((by_.toNat : Nat) : Int) = (((s[pp] ^^^ by_).toNat : Nat) : Int) := by
        rw [u8_xor_nat _ _ s[pp].toNat_lt by_.toNat_lt, UInt8.toNat_xor]
      have hun : (s.getD pp 0 ^^^ by_ ≠ s.getD pp 0) → by_ ≠ 0 := fun h e => h (by rw [e, UInt8.xor_zero])
      rw [hgd] at hpk htd hun
      have Htd := Lib.hid htd
      have Hun := Lib.hid hun
      have Hpk := Lib.hid hpk
      have Hbl := Lib.hid hbl
      have Hrows := Lib.hid lv.rows
      have hrd2 := read_any wr F J.D jr.jb.jat.disk (k : Int) (by omega) (by omega)
      rw [hrd] at hrd2
      have HRD := Lib.hid hrd2
      have HJR := Lib.hid jr
      clear hrd2 hrd hpk htd hun hgd hs hk hpp jr lv hbl hcut hops hlast
      generalize hx : s[pp] = x at *
      have HXS := Lib.hid hx
      clear hx
      have hcase : (i < xs.length ∧ ¬ i < 20 ∧ decide ((i : Int) < (xs.length : Int)) = true ∧ decide ((i : Int) < 20) = false) ∨ (¬ i < xs.length ∧ decide ((i : Int) < (xs.length : Int)) = false) := by
        by_cases hl1 : i < xs.length
        · exact .inl ⟨hl1, by omega, decide_eq_true (by omega), decide_eq_false (by omega)⟩
        · exact .inr ⟨hl1, decide_eq_false (by omega)⟩
      clear hlt
      rcases hcase with ⟨hl1, hl2, hd1, hd2⟩ | ⟨hl1, hd1⟩
      all_goals
        go_wp2_with fail
        refine (HKA.out wr).mono ?_
        rintro e w1 ⟨rfl, rfl⟩
        go_wp2_with fail
        refine (HKP.out wr).mono ?_
        rintro e w1 ⟨rfl, rfl⟩
        go_wp2_with fail
        refine HRD.out.mono ?_
        rintro e w1 ⟨vs, rfl, hgot⟩
        have hb1 := hgot.below
        have jr1 := HJR.out.step hb1
        obtain ⟨rfl, hcx⟩ : vs = .slice (some ⟨wr.heap.size, 0, none⟩) 128 128 ∧ w1.cell? ⟨wr.heap.size, pp, none⟩ = some (.int .u8 (x.toNat : Int)) := by
          rcases hgot with ⟨h1, _⟩ | ⟨_, h1, h2⟩
          · rw [h1] at hsl; simp at hsl
          · refine ⟨h1, ?_⟩
            rw [h2, cell_of_row _ _ _ _ _ _ (heap_alloc_new wr _), List.getElem?_toArray, bv_get s pp hps, HXS.out]
        clear hgot hb1
        have hpo := poke_any w1 F J.D jr1.jb.jat.disk (k : Int) (pp : Int) (x ^^^ by_) (by omega) (by omega) (by omega) (by omega)
        rw [Hpk.out] at hpo
        have HPO := Lib.hid hpo
        clear hpo
        go_wp2_with fail
        refine HPO.out.mono ?_
        rintro e w2 ⟨rfl, d2, t2⟩
        have db2 := jr1.jb.disk.turn d2 t2
        clear d2 hcx HPO
        go_wp2_with fail
        rcases Htd.out.ends with ⟨un, J', hoj⟩ | ⟨J', hoj, hsq, hnn, hbb, hread⟩
        · have hby : (((by_.toNat : Nat) : Int) == 0) = false := by
            rw [beq_eq_false_iff_ne]
            intro e
            exact Hun.out un (UInt8.toNat_inj.1 (by simpa using e))
          refine (open_not w2 F D' db2.dat db2.nib hoj (by decide)).mono ?_
          rintro e w3 ⟨rfl, d3, t3⟩
          have db3 := db2.turn d3 t3
          clear hoj un d3 t3
          go_wp2_with fail
          go_ret
          exact ⟨rfl, db3.below⟩
        · refine (open_good w2 F D' db2.dat db2.nib hoj).mono ?_
          rintro e w3 ⟨p', rfl, j3, hp', t3⟩
          have jr3 := jr1.anew db2 t2 j3 hp' t3
          clear hoj j3 hp' t3 t2 db2 jr1
          go_wp2_with fail
          obtain ⟨aq, cq, rfl, hcq, hmq⟩ := jr3.rj.form
          have hS0 : (fun W : World => W.cell? ⟨q, 1, none⟩ = some (.int .i64 seq)) w3.drew := (rj_cells jr3.rj).2
          have jr4 := jr3.step (Below.refl _ _).drew
          have hsq1 := seq_any _ F p' J' jr4.jb.jat
          rw [hsq] at hsq1
          have HSQ := Lib.hid hsq1
          clear jr3 hsq1
          refine wp_region_noPanic ?_
          refine wp_region_held_drew (S := (fun W : World => W.cell? ⟨q, 1, none⟩ = some (.int .i64 seq))) (by kernel_rfl) hS0 (fun hH => ?_)
          refine take_at (i := 0) (v := ?_) rfl (by kernel_rfl) (by kernel_rfl) (by kernel_rfl) (fun _ _ _ h => h) (Or.inl ⟨by rfl, ?_⟩) hH ?_
          rotate_left
          · (intro w hSw; have q1 := hSw; go_simp; try with_reducible rfl)
          try simp only [Act.put, List.setIfInBounds_toArray, List.set_cons_zero, List.set_cons_succ]
          refine take_at (i := 2) (v := ?_) rfl (by kernel_rfl) (by kernel_rfl) (by kernel_rfl) (fun _ _ _ h => h) (Or.inl ⟨by rfl, ?_⟩) hH ?_
          rotate_left
          · (intro w hSw; have q1 := hSw; go_simp; try with_reducible rfl)
          try simp only [Act.put, List.setIfInBounds_toArray, List.set_cons_zero, List.set_cons_succ]
          refine take_at (i := 3) (v := ?_) rfl (by kernel_rfl) (by kernel_rfl) (by kernel_rfl) (fun _ _ _ h => h) (Or.inl ⟨by rfl, ?_⟩) hH ?_
          rotate_left
          · (intro w hSw; have q1 := hSw; go_simp; try with_reducible rfl)
          try simp only [Act.put, List.setIfInBounds_toArray, List.set_cons_zero, List.set_cons_succ]
          refine take_at (i := 4) (v := ?_) rfl (by kernel_rfl) (by kernel_rfl) (by kernel_rfl) (fun _ _ _ h => h) (Or.inl ⟨by rfl, ?_⟩) hH ?_
          rotate_left
          · (intro w hSw; have q1 := hSw; go_simp; try with_reducible rfl)
          try simp only [Act.put, List.setIfInBounds_toArray, List.set_cons_zero, List.set_cons_succ]
          refine take_at (i := 5) (v := ?_) rfl (by kernel_rfl) (by kernel_rfl) (by kernel_rfl) (fun _ _ _ h => h) (Or.inl ⟨by rfl, ?_⟩) hH ?_
          rotate_left
          · (intro w hSw; have q1 := hSw; go_simp; try with_reducible rfl)
          try simp only [Act.put, List.setIfInBounds_toArray, List.set_cons_zero, List.set_cons_succ]
          refine wpAnyH_ready (rs := [1]) (by kernel_rfl) (by simp) ?_
          refine ready_at rfl (fun K hK => ?_) AllReadyH.nil
          go_simp
          refine HSQ.out.mono ?_
          rintro e w' ⟨rfl, rfl⟩
          go_wp2_with fail
          refine hK.out _ _ hH (fun _ => ?_)
          clear hK K
          try simp only [Act.put, List.setIfInBounds_toArray, List.set_cons_zero, List.set_cons_succ]
          refine take_at (i := 6) (v := ?_) rfl (by kernel_rfl) (by kernel_rfl) (by kernel_rfl) (fun _ _ _ h => h) (Or.inl ⟨by rfl, ?_⟩) hH ?_
          rotate_left
          · (intro w hSw; have q1 := hSw; go_simp; try with_reducible rfl)
          try simp only [Act.put, List.setIfInBounds_toArray, List.set_cons_zero, List.set_cons_succ]
          refine wpAnyH_done (by kernel_rfl) ?_ _
          refine NoPanic.normal ?_
          clear hH
          have hbbl := Hbl.out
          have hread' : Hid (∀ i b, i < BB.length → BB[i]? = some b → J'.read (i : Int) = (b, 0, J') ∨ (x ^^^ by_ ≠ x) ∧ J'.read (i : Int) = ([], 62, J')) := Lib.hid (fun i b h1 h2 => hread i b (by rw [← hbbl]; exact h1) h2)
          clear hread hsq hbb Htd
          generalize w3.drew = W4 at *
          have hb112 := Hrows.out.2
          have Hb112 := Lib.hid hb112
          obtain ⟨nb, hnb⟩ : ∃ nb, nb = BB.length := ⟨_, rfl⟩
          have hnb8 : nb ≤ 8191 := by omega
          have Hnb := Lib.hid hnb
          rw [← hnb] at jr4
          clear hbbl hb112 hnb HSQ HJR Hrows Hbl Hpk HRD
          go_wp2_with fail
          go_loopw [26] (fun y wr => ∃ j : Nat, j ≤ nb ∧ y = .int .i64 (j : Int) ∧ JR g0 B2 w wr F p' J' q (.slice aq nb cq) BB seq) (fun y _ => nb - (intOf y).toNat)
          case atStart => exact ⟨0, Nat.zero_le _, rfl, jr4⟩
          case round =>
            obtain ⟨j, hj, rfl, jr⟩ := hrel
            clear jr4
            obtain ⟨q0, q1⟩ := rj_cells jr.rj
            by_cases hlt : j < nb
            · have hd : decide ((j : Int) < (nb : Int)) = true := decide_eq_true (by omega)
              have hjb : j < BB.length := by have := Hnb.out; omega
              have hbb : BB[j]? = some BB[j] := List.getElem?_eq_getElem hjb
              have hb1 := Hb112.out _ (List.getElem_mem hjb)
              obtain ⟨gq, cq', hv, _, _, _⟩ := jr.rj.rows.at (fun e => by rw [e] at hjb; simp at hjb)
              simp only [Value.slice.injEq] at hv
              have hgq := hv.1
              clear hv
              subst hgq
              have hrd := jread_any wr F p' J' jr.jb.jat jr.jb.nib (by rw [hnn]; omega) (j : Int) (by omega) (by omega)
              have hk9 := hread'.out j _ hjb hbb
              rcases hk9 with hk9 | ⟨un, hk9⟩
              · rw [hk9] at hrd
                have HRD := Lib.hid hrd
                clear hrd hk9 hbb
                go_wp2_with fail
                refine HRD.out.mono ?_
                rintro e w4 ⟨u, rfl, hu, j4, t4⟩
                have jr5 := jr.turnJ j4 t4
                have hu := hu.now
                have hst := run_str (P := Tryd.prog) hu.drew 36 9 5 Tryd.underlying36 Tryd.underlying5 Tryd.underlying9
                obtain ⟨gq', cq'', hv, _, _, hcs⟩ := jr5.rj.rows.at (fun e => by rw [e] at hjb; simp at hjb)
                simp only [Value.slice.injEq, Option.some.injEq, Addr.mk.injEq] at hv
                have hgq := hv.1.1
                clear hv
                subst hgq
                have hcj : w4.drew.cell? ⟨gq, j, none⟩ = _ := hcs j hjb
                have q0' : w4.drew.cell? ⟨q, 0, none⟩ = _ := (rj_cells jr5.rj).1
                obtain ⟨ua2, uc2, hue, _, _⟩ := hu.form
                rw [hb1] at hue
                subst hue
                have HJ5 := Lib.hid (jr5.step (Below.refl _ _).drew)
                clear hcs hu j4 t4 jr jr5 q0 q1 HRD
                generalize BB[j] = b at *
                go_wp2_with fail
                go_region
                go_wp2_with fail
                go_roundw
                case rel => exact ⟨j + 1, by omega, by go_num, HJ5.out⟩
                case measure => simp [intOf]; omega
              · rw [hk9] at hrd
                have HRD := Lib.hid hrd
                have hby : (((by_.toNat : Nat) : Int) != 0) = true := by
                  rw [bne_iff_ne]
                  intro e
                  exact Hun.out un (UInt8.toNat_inj.1 (by simpa using e))
                clear hrd hk9 hbb un
                go_wp2_with fail
                refine HRD.out.mono ?_
                rintro e w4 ⟨u, rfl, hu, j4, t4⟩
                have HJ5 := Lib.hid (jr.turnJ j4 t4)
                obtain ⟨ua2, uc2, hue, _, _⟩ := hu.now.form
                rw [List.length_nil] at hue
                subst hue
                clear hu j4 t4 jr q0 q1 HRD
                go_wp2_with fail
                go_roundw
                case rel => exact ⟨j + 1, by omega, by go_num, HJ5.out⟩
                case measure => simp [intOf]; omega
            · obtain rfl : j = nb := by omega
              have hdz : decide ((j : Int) < (j : Int)) = false := by simp
              go_wp2_with fail
              go_ret
              exact ⟨rfl, jr.jb.below⟩
end Go.Proofs.YtoonlihacbbfdaaDoor

/- The card of JournalTells: for every input the law answers true, and what came in reads as it did. -/
set_option linter.unusedVariables false
set_option linter.unusedSimpArgs false
set_option maxRecDepth 100000
namespace Go.Proofs.YtoonlihacbbfdaaDoor.cardJournalTells
open Go.ChangeShapes Go.WideShapes Go.ChangeAt Go.RowKit Go.Deep
open Go.ChangeMaps (open_string shut_string)

theorem gTab : Tryd.prog.globalNamed "usance/wire.nibbles" = some 0 := by kernel_rfl
theorem gTabType : (Tryd.prog.globals[0]?).map (·.type) = some 106 := by kernel_rfl
theorem cellsTab : Tryd.prog.cellsOf 106 = 16 := by kernel_rfl
theorem cellsU32 : Tryd.prog.cellsOf 100 = 1 := by kernel_rfl
/-- what the row lists: the table of the sum -/
theorem table {W : World} (h : laidMetH Tryd.prog Rows.journalTellsRow.laid W) : Nib W := by
  have ht : Lib.TabIs Tryd.prog W "usance/wire.nibbles" .u32 [0, 498536548, 997073096, 651767980, 1994146192, 1802195444, 1303535960, 1342533948, 3988292384, 4027552580, 3604390888, 3412177804, 2607071920, 2262029012, 2685067896, 3183342108] :=
    Lib.tabIs_of_head (rest := []) gTab gTabType Tryd.underlying106 Tryd.underlying100 cellsU32 cellsTab h
  intro i hi
  rw [ht.cell gTab i (by simpa using hi)]
  have e : ∀ i : Fin 16, ([0, 498536548, 997073096, 651767980, 1994146192, 1802195444, 1303535960, 1342533948, 3988292384, 4027552580, 3604390888, 3412177804, 2607071920, 2262029012, 2685067896, 3183342108] : List Int).getD i.val 0 = ((UsCrc.nib.getD i.val 0 : Nat) : Int) := by decide
  rw [e ⟨i, hi⟩]

theorem contract (H : Type) (enc : TypeId × Value → H) (W : World) (base : Nat) (args : Array Value) (ds gs : List (DataW H)) (before : List MemPlace)
    (hval : ∀ (j : Nat) t v, Tryd.f5.params[j]? = some t → args[j]? = some v → Value.okWide Tryd.prog W .any base t v)
    (hW : DataW.Whole enc Tryd.prog Tryd.f5.params.toList Rows.journalTellsSpec.vars false W args.toList ds gs before) (hL : laidMetH Tryd.prog Rows.journalTellsRow.laid W)
    (hsz : (DataW.weightsEach Tryd.prog (Tryd.f5.params.toList ++ (OpenSpec.ofChange Rows.journalTellsSpec).bare.plain.varTypes Tryd.prog) (ds ++ gs)).all (· ≤ reachBytes) = true) :
    Calls Tryd.prog 5 args W fun e W' => ∃ v, e = .returned v ∧ Rows.journalTellsSpec.post enc Tryd.prog Tryd.f5 false true false false W args v W' := by
  have hW' := hW
  obtain ⟨p, q, hA0, hV, rfl, hfz, hnd⟩ := hW
  have hA : DataW.TrodAll enc Tryd.prog W 0 (fun _ => true) true Tryd.f5.params.toList args.toList ds p := hA0
  rw [Tryd.params5] at hA hval hsz
  obtain ⟨v0, vs0, d0, ds0, p0, q0, hargs, rfl, rfl, h0, r0⟩ := trodAll_cons hA
  obtain ⟨v1, vs1, d1, ds1, p1, q1, rfl, rfl, rfl, h1, r1⟩ := trodAll_cons r0
  obtain ⟨v2, vs2, d2, ds2, p2, q2, rfl, rfl, rfl, h2, r2⟩ := trodAll_cons r1
  obtain ⟨v3, vs3, d3, ds3, p3, q3, rfl, rfl, rfl, h3, r3⟩ := trodAll_cons r2
  obtain ⟨v4, vs4, d4, ds4, p4, q4, rfl, rfl, rfl, h4, r4⟩ := trodAll_cons r3
  obtain ⟨rfl, rfl, rfl⟩ := trodAll_nil r4
  obtain rfl : args = #[v0, v1, v2, v3, v4] := by cases args; simp_all
  obtain ⟨rfl, rfl⟩ := trodVars_none hV
  have k0 := h0
  have lt0 : ∀ x ∈ p0, x.block < W.heap.size := by obtain ⟨m, hm⟩ := k0; exact DataW.trod_lt m _ _ _ hm
  have k1 := h1
  have lt1 : ∀ x ∈ p1, x.block < W.heap.size := by obtain ⟨m, hm⟩ := k1; exact DataW.trod_lt m _ _ _ hm
  have k2 := h2
  have lt2 : ∀ x ∈ p2, x.block < W.heap.size := by obtain ⟨m, hm⟩ := k2; exact DataW.trod_lt m _ _ _ hm
  have k3 := h3
  have lt3 : ∀ x ∈ p3, x.block < W.heap.size := by obtain ⟨m, hm⟩ := k3; exact DataW.trod_lt m _ _ _ hm
  have k4 := h4
  have lt4 : ∀ x ∈ p4, x.block < W.heap.size := by obtain ⟨m, hm⟩ := k4; exact DataW.trod_lt m _ _ _ hm
  simp only [List.append_nil, List.nil_append, List.cons_append] at hsz
  obtain ⟨x0, rfl, rfl, rfl, w0⟩ := open_int Tryd.underlying3 (hval 0 3 v0 rfl rfl) h0
  have b0 := wf_int64 w0
  obtain ⟨xs1, ir1⟩ := open_row rdOpJ (by decide) Tryd.underlying46 (hval 1 46 v1 rfl rfl) h1 (light_arg (j := 1) hsz rfl rfl)
  obtain ⟨x2, rfl, rfl, rfl, w2⟩ := open_int Tryd.underlying3 (hval 2 3 v2 rfl rfl) h2
  have b2 := wf_int64 w2
  obtain ⟨x3, rfl, rfl, rfl, w3⟩ := open_int Tryd.underlying3 (hval 3 3 v3 rfl rfl) h3
  have b3 := wf_int64 w3
  obtain ⟨x4, rfl, rfl, rfl, w4⟩ := open_int Tryd.underlying5 (hval 4 5 v4 rfl rfl) h4
  have b4 := wf_byte w4
  obtain ⟨y4, rfl⟩ := b4
  have hnib := table hL
  clear hA0
  refine (tells_walk W hnib x0 v1 xs1 ir1 x2 x3 y4 b0.1 b0.2 b2.1 b2.2 b3.1 b3.2).mono fun e W' ⟨he, bel⟩ => ?_
  subst he
  exact ⟨_, rfl, _, _, _, [], _, [], hW', trodAll_mk1 (shut_bool Tryd.underlying4 _), (trodAll_cons_mk (Below.trod laidOut (by kernel_rfl) (of_decide_eq_true (by kernel_rfl)) k0 bel lt0) (trodAll_cons_mk (Below.trod laidOut (by kernel_rfl) (of_decide_eq_true (by kernel_rfl)) k1 bel lt1) (trodAll_cons_mk (Below.trod laidOut (by kernel_rfl) (of_decide_eq_true (by kernel_rfl)) k2 bel lt2) (trodAll_cons_mk (Below.trod laidOut (by kernel_rfl) (of_decide_eq_true (by kernel_rfl)) k3 bel lt3) (trodAll_cons_mk (Below.trod laidOut (by kernel_rfl) (of_decide_eq_true (by kernel_rfl)) k4 bel lt4) trodAll_mk0))))), rfl, bel.frame _, fun h => by cases h⟩

/-- a world for the witness: the table as its initialiser lays it -/
noncomputable def laidWorld (os : Os) : World :=
  { World.holding Tryd.prog os ⟨#[], #[], []⟩ with heap := (World.holding Tryd.prog os ⟨#[], #[], []⟩).heap.modify 0 fun
      | .cells _ t frozen => .cells #[.int .u32 0, .int .u32 498536548, .int .u32 997073096, .int .u32 651767980, .int .u32 1994146192, .int .u32 1802195444, .int .u32 1303535960, .int .u32 1342533948, .int .u32 3988292384, .int .u32 4027552580, .int .u32 3604390888, .int .u32 3412177804, .int .u32 2607071920, .int .u32 2262029012, .int .u32 2685067896, .int .u32 3183342108] t frozen
      | o => o }
theorem laid_met (os : Os) : laidMet Tryd.prog Rows.journalTellsRow.laid ((laidWorld os).forCall (fun _ _ => 0) ⟨#[], #[.int .i64 0, .slice none 0 0, .int .i64 0, .int .i64 0, .int .u8 0], []⟩).memory :=
  laidMet_of_run' 8 (by kernel_rfl) (by kernel_rfl)
theorem reads (os : Os) {H : Type} (enc : TypeId × Value → H) : ∃ places, DataW.whole enc Tryd.prog ((laidWorld os).forCall (fun _ _ => 0) ⟨#[], #[.int .i64 0, .slice none 0 0, .int .i64 0, .int .i64 0, .int .u8 0], []⟩).memory Tryd.f5.params.toList Rows.journalTellsSpec.vars false (#[.int .i64 0, .slice none 0 0, .int .i64 0, .int .i64 0, .int .u8 0] : Array Value).toList 8 = some ([.lit (.int .i64 0), .nil, .lit (.int .i64 0), .lit (.int .i64 0), .lit (.int .u8 0)], [], places) :=
  ⟨[], by kernel_rfl⟩

theorem lifted (os : Os) (started : os.Started) (H : Type) (enc : TypeId × Value → H) (F : Stop.Interp) :
    ReturnsInHanded {} Tryd.checked os 5 .any ((OpenSpec.ofChange Rows.journalTellsSpec).preRow enc Tryd.prog Tryd.f5 Rows.journalTellsRow.domain false Rows.journalTellsRow.laid) (((OpenSpec.ofChange Rows.journalTellsSpec).at F).post enc Tryd.prog Tryd.f5 false true false false) := by
  obtain ⟨places, hx⟩ := reads os enc
  refine returnsInHanded_of_row (C := Tryd.checked) (s := OpenSpec.ofChange Rows.journalTellsSpec) own started (by kernel_rfl) Tryd.func5
    (witness_row_at (enc := enc) (C := Tryd.checked) false (laidWorld os) #[.int .i64 0, .slice none 0 0, .int .i64 0, .int .i64 0, .int .u8 0] rfl (by kernel_rfl) (by kernel_rfl) (by kernel_rfl)
      (OpenSpec.preRow_of_cond 8 hx (by kernel_rfl) (fun k hk => by cases hk) (by kernel_rfl) (laid_met os))) ?_
  intro W base args ds gs before hval hW _ hcond hsz hL _ _
  exact contract H enc W base args ds gs before hval hW hL hsz

theorem said : Rows.JournalTellsSaid :=
  OpenClaim.holds_of_cond 5 Tryd.f5 rfl rfl rfl rfl rfl rfl rfl ⟨rfl, rfl, rfl, rfl, rfl⟩ rfl rfl rfl rfl rfl (by kernel_rfl) Tryd.func5 (by kernel_rfl)
    (of_decide_eq_true (by kernel_rfl)) (by unfold Func.isWrapper; first | (rw [if_pos (by decide +kernel)]; kernel_rfl) | (rw [if_neg (by decide +kernel)]; exact ⟨rfl, rfl⟩))
    (fun os started H enc _ F => by rw [OpenClaim.pre_eq_preRow]; exact lifted os started H enc F)

theorem plain (f : FuncId) (fn : Func) (hf : Tryd.pinned.checked.prog.funcNamed "usance/usancelaw06.JournalTells" = some f) (hfn : Tryd.pinned.checked.prog.funcs[f]? = some fn) :
    false = Tryd.pinned.checked.prog.looks [] ∧ ∀ (j : Nat) t, fn.params[j]? = some t → Tryd.pinned.checked.prog.wantsStandIn t = false := by
  obtain rfl : f = 5 := Option.some.inj ((show Tryd.prog.funcNamed "usance/usancelaw06.JournalTells" = some 5 by kernel_rfl).symm.trans hf) |>.symm
  obtain rfl : fn = Tryd.f5 := (Option.some.inj (Tryd.func5.symm.trans hfn)).symm
  refine ⟨by kernel_rfl, fun j t ht => ?_⟩
  rw [Tryd.params5] at ht
  have hm := Array.mem_of_getElem? ht
  simp only [List.mem_toArray, List.mem_cons, List.not_mem_nil, or_false] at hm
  rcases hm with rfl | rfl | rfl | rfl | rfl
  · exact (show Tryd.prog.wantsStandIn 3 = false by kernel_rfl)
  · exact (show Tryd.prog.wantsStandIn 46 = false by kernel_rfl)
  · exact (show Tryd.prog.wantsStandIn 3 = false by kernel_rfl)
  · exact (show Tryd.prog.wantsStandIn 3 = false by kernel_rfl)
  · exact (show Tryd.prog.wantsStandIn 5 = false by kernel_rfl)

/-- THE CARD -/
theorem proved : Rows.JournalTellsCardSaid :=
  Claim7.holds_tied_plain_at .later [] _ _ _ _ said (fun _ h => by cases h) (by kernel_rfl) (fun _ h => by cases h) journalTells_row_tie rfl ⟨rfl, rfl⟩ (by kernel_rfl) rfl plain (by kernel_rfl)
#print axioms proved
end Go.Proofs.YtoonlihacbbfdaaDoor.cardJournalTells
