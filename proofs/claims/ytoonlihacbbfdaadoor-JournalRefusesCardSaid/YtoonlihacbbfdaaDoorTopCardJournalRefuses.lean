/- The card CardJournalRefuses: for every input the law answers true, and what came in reads as it did; with what it needs ahead. -/
import Derived.Test.YtoonlihacbbfdaaDoorBase3
import Derived.StillTailTactics
import Derived.Test.YtoonlihacbbfdaaDoorCards
import Derived.Test.YtoonlihacbbfdaaDoorTie
/- JournalRefuses: a write that is refused changes nothing. -/
set_option linter.unusedVariables false
set_option linter.unusedSimpArgs false
set_option maxRecDepth 100000
namespace Go.Proofs.YtoonlihacbbfdaaDoor
open Go.RowKit

theorem JB.from {B B' : Nat} {w0 w0' w : World} {F : Ft} {p : Nat} {J : Jn} (h : JB B w0 w F p J) (hb : Below B' w0' w0) (hB : B' ≤ B) : JB B' w0' w F p J :=
  ⟨h.jat, h.nib, hb.trans (h.below.mono hB), fun k hk => Nat.le_trans hB (h.own k hk), Nat.le_trans hB h.base⟩
theorem op_cells {W : World} {g : Nat} {kind : Int} {va : Value} {by_ : UInt8} {raw : Int} (h : W.heap[g]? = some (opRow kind va by_ raw)) :
    W.cell? ⟨g, 0, none⟩ = some (.int .i64 kind) ∧ W.cell? ⟨g, 1, none⟩ = some va ∧ W.cell? ⟨g, 2, none⟩ = some (.int .u8 (by_.toNat : Int)) ∧ W.cell? ⟨g, 3, none⟩ = some (.int .i64 raw) := by
  refine ⟨?_, ?_, ?_, ?_⟩ <;> · rw [cell_of_row _ _ _ _ _ _ h]; rfl

theorem MineS.form {B : Nat} {w : World} {v : Value} {ls : List (List UInt8)} (h : MineS B w v ls) : ∃ a cap, v = .slice a ls.length cap ∧ ls.length ≤ cap ∧ cap ≤ maxLen := by
  rcases h.2 with ⟨rfl, hn⟩ | ⟨g, cap, cur, rfl, hb, hg, hn, hc, hs, htake⟩
  · exact ⟨none, 0, by rw [hn], by omega, by simp [maxLen]⟩
  · exact ⟨_, cap, rfl, hn, hc⟩
theorem Live.rows {n : Nat} {J : Jn} {seq : Int} {B : List (List UInt8)} {ok : Nat → Prop} (h : Live n J seq B ok) : B.length = (n - 2) / 2 ∧ ∀ b ∈ B, b.length = 112 := by
  obtain ⟨w, pl, him⟩ := h.im
  exact ⟨him.rows, him.each⟩

set_option maxHeartbeats 16000000 in
theorem refuses_walk (w : World) (hn : Nib w) (sec_ kind raw : Int) (va : Value) (by_ : UInt8) (zs : List Int) (ua : Value) (az : List Int) (ub : Value) (bs : List (List UInt8)) (hva : IsI w va zs) (hua : IsI w ua az) (hub : IsBs w ub bs)
    (hs1 : -9223372036854775808 ≤ sec_) (hs2 : sec_ ≤ 9223372036854775807) (hzs : ∀ z ∈ zs, -9223372036854775808 ≤ z ∧ z ≤ 9223372036854775807) (has : ∀ z ∈ az, -9223372036854775808 ≤ z ∧ z ≤ 9223372036854775807) :
    Calls Tryd.prog 4 #[.int .i64 sec_, .agg #[.int .i64 kind, va, .int .u8 (by_.toNat : Int), .int .i64 raw], ua, ub] w fun e w' => e = .returned (.bool true) ∧ Below w.heap.size w w' := by
  obtain ⟨a0, c0, rfl, _, _⟩ := hva.form
  obtain ⟨a1, c1, rfl, hc1, hm1⟩ := hua.form
  obtain ⟨a2, c2, rfl, hc2, hm2⟩ := hub.form
  unfold maxLen at hm1 hm2
  have HVA := Lib.hid hva
  have HUA := Lib.hid hua
  have HUB := Lib.hid hub
  have HZS := Lib.hid hzs
  have HAS := Lib.hid has
  have HSZ := Lib.hid (fun w : World => size_any w sec_ hs1 hs2)
  have hsz := pickN_lt sec_ (n := 60) (by omega)
  obtain ⟨n, hnn⟩ : ∃ n, n = 32 + pickN sec_ 60 := ⟨_, rfl⟩
  rw [← hnn] at HSZ
  have hn32 : 32 ≤ n := by omega
  have hn92 : n ≤ 92 := by omega
  obtain ⟨W1, hW1⟩ : ∃ W1, W1 = w.alloc (.cells #[.int .i64 kind, .slice a0 zs.length c0, .int .u8 (by_.toNat : Int), .int .i64 raw] 24) := ⟨_, rfl⟩
  have hop1 : W1.heap[w.heap.size]? = some (opRow kind (.slice a0 zs.length c0) by_ raw) := by rw [hW1]; exact heap_alloc_new w _
  have hb1 : Below w.heap.size w W1 := by rw [hW1]; exact (Below.refl _ _).alloc (Nat.le_refl _) _
  have hn1 : Nib W1 := hn.below hb1
  have hgw : 0 < w.heap.size := World.block_lt_of_cell? w _ (hn 0 (by omega))
  clear hva hua hub hzs has hs1 hs2 hn hsz hnn
  go_enter Tryd.func4, Tryd.ntmps4
  go_upto_region 1 with fail
  rw [← hW1]
  clear hW1
  generalize hg0 : w.heap.size = g0 at *
  have Hg0 := Lib.hid hg0
  clear hg0
  go_wp2_with fail
  refine (shown06_any W1 hn1).mono ?_
  rintro e W2 ⟨rfl, hb2⟩
  have hop2 := (hb2.block g0 (lt_of_heap hop1)).trans hop1
  have hn2 := hn1.below hb2
  have hbw2 := hb1.trans (hb2.mono (Nat.le_of_lt (lt_of_heap hop1)))
  clear hop1 hb1 hb2 hn1
  go_wp2_with fail
  refine (HSZ.out W2).mono ?_
  rintro e w' ⟨rfl, rfl⟩
  go_wp2_with fail
  refine (begun06_any W2 hn2 n hn32 (by omega)).mono ?_
  rintro e W3 ⟨F, p, q, v, J, B2, rfl, jb, lv, hl1, hcut, hops, _, _, _⟩
  have hop3 := (jb.below.block g0 (lt_of_heap hop2)).trans hop2
  have hg2 := lt_of_heap hop2
  have hja : ∀ k, JT F p k → g0 < k := fun k hk => Nat.lt_of_lt_of_le hg2 (jb.own k hk)
  have jb3 := jb.from hbw2 (Nat.le_of_lt hg2)
  clear jb hbw2 hop2 hg2 hn2
  have k3 := (op_cells hop3).2.2.2
  have f3 := frozen_p hop3 3
  have hop4 := head_setCell (i := 3) hop3 (.int .i64 2)
  have ht4 := turned_one W3 g0 3 (.int .i64 2)
  have jb4 := jb3.other ht4 (fun k hk => by subst hk; exact ⟨fun e => Nat.lt_irrefl _ (hja _ e), Nat.le_refl _, by omega⟩)
  clear hop3 jb3 ht4
  go_upto_region 6 with fail
  clear k3 f3
  generalize W3.setCell ⟨g0, 3, none⟩ (.int .i64 2) = W4 at *
  have hop4' : W4.heap[g0]? = some (opRow kind (.slice a0 zs.length c0) by_ 2) := hop4
  clear hop4
  have jb5 := jb4.step (Below.refl _ _).drew
  have hS0 : (fun W : World => W.heap[g0]? = some (opRow kind (.slice a0 zs.length c0) by_ 2)) W4.drew := hop4'
  have hjl : ∀ k, JT F p k → k < W4.heap.size := fun k hk => jb4.jat.lt hk
  have hbl : J.D.blocks = (n - 2) / 2 := lv.blocks
  have hnb0 : 0 < (n - 2) / 2 := by omega
  have hJn := lv.hn
  clear jb4 hop4'
  refine wp_region_noPanic ?_
  refine wp_region_held_drew (S := (fun W : World => W.heap[g0]? = some (opRow kind (.slice a0 zs.length c0) by_ 2))) (by kernel_rfl) hS0 (fun hH => ?_)
  refine take_at (i := 0) (v := ?_) rfl (by kernel_rfl) (by kernel_rfl) (by kernel_rfl) (fun _ _ _ h => h) (Or.inl ⟨by rfl, ?_⟩) hH ?_
  rotate_left
  · (intro w hSw; obtain ⟨q0, q1, q2, q3⟩ := op_cells hSw; go_simp; try with_reducible rfl)
  try simp only [Act.put, List.setIfInBounds_toArray, List.set_cons_zero, List.set_cons_succ]
  refine take_at (i := 1) (v := ?_) rfl (by kernel_rfl) (by kernel_rfl) (by kernel_rfl) (fun _ _ _ h => h) (Or.inl ⟨by rfl, ?_⟩) hH ?_
  rotate_left
  · (intro w hSw; obtain ⟨q0, q1, q2, q3⟩ := op_cells hSw; go_simp; try with_reducible rfl)
  try simp only [Act.put, List.setIfInBounds_toArray, List.set_cons_zero, List.set_cons_succ]
  refine wpAnyH_ready (rs := [2]) (by kernel_rfl) (by simp) ?_
  refine ready_at rfl (fun K hK => ?_) AllReadyH.nil
  go_simp
  have hbk := blocks_any _ F p J jb5.jat (by omega)
  rw [hbl] at hbk
  refine hbk.mono ?_
  rintro e w' ⟨rfl, rfl⟩
  clear hbk
  go_wp2_with fail
  refine hK.out _ _ hH (fun _ => ?_)
  clear hK K
  try simp only [Act.put, List.setIfInBounds_toArray, List.set_cons_zero, List.set_cons_succ]
  refine wpAnyH_ready (rs := [3]) (by kernel_rfl) (by simp) ?_
  refine ready_at rfl (fun K hK => ?_) AllReadyH.nil
  go_simp
  refine (blocks06_any _ kind _ by_ 2 zs ((n - 2) / 2) (HVA.out.below (by rw [Hg0.out]; exact jb5.below)) (by decide) (by decide) hnb0 (by omega) HZS.out).mono ?_
  rintro e W5 ⟨u, v, rfl, hh5, hb5⟩
  have hHn : W5.heap[g0]? = some (opRow kind (.slice a0 zs.length c0) by_ 2) := (hb5.block g0 (lt_of_heap hH)).trans hH
  have jb6 := jb5.step hb5
  clear hb5 hH jb5
  go_wp2_with fail
  refine hK.out _ _ hHn (fun hH => ?_)
  clear hHn
  clear hK K
  try simp only [Act.put, List.setIfInBounds_toArray, List.set_cons_zero, List.set_cons_succ]
  refine take_at (i := 4) (v := ?_) rfl (by kernel_rfl) (by kernel_rfl) (by kernel_rfl) (fun _ _ _ h => h) (Or.inl ⟨by rfl, ?_⟩) hH ?_
  rotate_left
  · (intro w hSw; obtain ⟨q0, q1, q2, q3⟩ := op_cells hSw; go_simp; try with_reducible rfl)
  try simp only [Act.put, List.setIfInBounds_toArray, List.set_cons_zero, List.set_cons_succ]
  refine take_at (i := 5) (v := ?_) rfl (by kernel_rfl) (by kernel_rfl) (by kernel_rfl) (fun _ _ _ h => h) (Or.inl ⟨by rfl, ?_⟩) hH ?_
  rotate_left
  · (intro w hSw; obtain ⟨q0, q1, q2, q3⟩ := op_cells hSw; go_simp; try with_reducible rfl)
  try simp only [Act.put, List.setIfInBounds_toArray, List.set_cons_zero, List.set_cons_succ]
  refine take_at (i := 6) (v := ?_) rfl (by kernel_rfl) (by kernel_rfl) (by kernel_rfl) (fun _ _ _ h => h) (Or.inl ⟨by rfl, ?_⟩) hH ?_
  rotate_left
  · (intro w hSw; obtain ⟨q0, q1, q2, q3⟩ := op_cells hSw; go_simp; try with_reducible rfl)
  try simp only [Act.put, List.setIfInBounds_toArray, List.set_cons_zero, List.set_cons_succ]
  refine take_at (i := 7) (v := ?_) rfl (by kernel_rfl) (by kernel_rfl) (by kernel_rfl) (fun _ _ _ h => h) (Or.inl ⟨by rfl, ?_⟩) hH ?_
  rotate_left
  · (intro w hSw; obtain ⟨q0, q1, q2, q3⟩ := op_cells hSw; go_simp; try with_reducible rfl)
  try simp only [Act.put, List.setIfInBounds_toArray, List.set_cons_zero, List.set_cons_succ]
  refine take_at (i := 8) (v := ?_) rfl (by kernel_rfl) (by kernel_rfl) (by kernel_rfl) (fun _ _ _ h => h) (Or.inl ⟨by rfl, ?_⟩) hH ?_
  rotate_left
  · (intro w hSw; obtain ⟨q0, q1, q2, q3⟩ := op_cells hSw; go_simp; try with_reducible rfl)
  try simp only [Act.put, List.setIfInBounds_toArray, List.set_cons_zero, List.set_cons_succ]
  refine wpAnyH_done (by kernel_rfl) ?_ _
  refine NoPanic.normal ?_
  clear hH
  have hft := blk_fit hnb0 by_ zs
  have hzi := blk_ints (raw := 2) (by_ := by_) hnb0 (by omega) HZS.out
  have hsh := blk_short 2 by_ ((n - 2) / 2) zs
  generalize blk 2 by_ ((n - 2) / 2) zs = bk at *
  have wok := write_ok lv hcut hft.right (by omega) (by omega)
  have hwr := jwrite_any W5 F p J jb6.jat jb6.nib (by omega) _ bk.1 (fun w' ht => ((hh5.turned ht hjl).now).1) _ bk.2 (fun w' ht => ((hh5.turned ht hjl).now).2) hzi (by omega) (by rw [lv.hseq]; decide) (by rw [lv.hseq]; decide)
  rw [wok.err] at hwr
  have HWR := Lib.hid hwr
  have lv2 := wok.live
  have hl2 : (J.write bk.1 bk.2).2.last ≤ 2 := by have := wok.last; omega
  have hcut2 : (J.write bk.1 bk.2).2.D.cut < 0 := by rw [wok.cut]; exact hcut
  have hops2 : (J.write bk.1 bk.2).2.D.ops ≤ 400 := by have := wok.ops; omega
  have hsq2 : (0 : Int) ≤ (if bk.1.length = 0 then 0 else 0 + 1) ∧ (if bk.1.length = 0 then (0 : Int) else 0 + 1) ≤ 1 := by split <;> decide
  generalize (if bk.1.length = 0 then (0 : Int) else 0 + 1) = sq2 at *
  generalize updB (zeroB n) bk.1 bk.2 = BB at *
  obtain ⟨hrow, heach⟩ := lv2.rows
  clear hwr hft hzi wok
  generalize (J.write bk.1 bk.2).2 = J2 at *
  go_wp2_with fail
  refine HWR.out.mono ?_
  rintro e W6 ⟨rfl, j6, t6⟩
  have jb7 := jb6.turn j6 t6
  have hmS := MineS.nil W6.heap.size W6
  have hjl3 : ∀ k, JT F p k → k < W6.heap.size := fun k hk => jb7.jat.lt hk
  have hgB : g0 ≤ W6.heap.size := jb7.base
  have hnB : 0 < W6.heap.size := by omega
  clear j6 t6 jb6 HWR hh5 hjl lv hcut hops hsh hl1
  obtain ⟨B3, hB3⟩ : ∃ B3, B3 = W6.heap.size := ⟨_, rfl⟩
  rw [← hB3] at hmS hjl3 hgB hnB
  have hB36 : B3 ≤ W6.heap.size := Nat.le_of_eq hB3
  clear hB3
  have HBB := Lib.hid lv2
  have hbl2 := lv2.blocks
  have hn2 : J2.D.n = n := lv2.hn
  have hsq3 := lv2.hseq
  clear lv2
  generalize hnb : (n - 2) / 2 = nb at *
  have hnb8 : nb ≤ 8191 := by omega
  have Hnb := Lib.hid hnb
  clear hnb
  go_wp2_with fail
  go_loopw [15, 16] (fun x y wr => ∃ k : Nat, k ≤ nb ∧ y = .int .i64 (k : Int) ∧ JB g0 w wr F p J2 ∧ MineS B3 wr x (BB.take k) ∧ B3 ≤ wr.heap.size) (fun _ y _ => nb - (intOf y).toNat)
  case atStart => exact ⟨0, Nat.zero_le _, rfl, jb7, hmS, hB36⟩
  case round =>
    obtain ⟨k, hk, rfl, jb, hms, hB3⟩ := hrel
    clear jb7 hmS hB36
    have hbk := blocks_any wr F p J2 jb.jat (by omega)
    rw [hbl2] at hbk
    go_wp2_with fail
    refine hbk.mono ?_
    rintro e w1 ⟨rfl, rfl⟩
    clear hbk
    by_cases hlt : k < nb
    · have hd : decide ((k : Int) < (nb : Int)) = true := decide_eq_true (by omega)
      have hbb : BB[k]? = some BB[k] := List.getElem?_eq_getElem (by omega)
      have hrd := jread_any wr F p J2 jb.jat jb.nib (by omega) (k : Int) (by omega) (by omega)
      rw [read_live HBB.out (by rw [Hnb.out]; exact hlt) trivial hbb] at hrd
      have htk : BB.take (k + 1) = BB.take k ++ [BB[k]] := List.take_succ_eq_append_getElem (by omega)
      have hb112 := heach _ (List.getElem_mem (show k < BB.length by omega))
      have Htk := Lib.hid htk
      clear htk hbb
      generalize BB[k] = b at *
      go_wp2_with fail
      refine hrd.mono ?_
      rintro e w2 ⟨u, rfl, hu, j2, t2⟩
      have jb2 := jb.turn j2 t2
      have hm2 := hms.keep (fun j hj hl => t2.block j hl (fun e => by have := hjl3 j e; omega))
      have hsz2 := t2.size
      have hst := run_str (P := Tryd.prog) hu 36 9 5 Tryd.underlying36 Tryd.underlying5 Tryd.underlying9
      obtain ⟨ua2, uc2, hue, _, _⟩ := hu.form
      rw [hb112] at hue
      subst hue
      clear hu j2 t2 jb hms hrd
      have hba : Below w2.heap.size w2 (w2.alloc (.cells #[.string ⟨b.toArray⟩] 9)) := (Below.refl _ _).alloc (Nat.le_refl _) _
      have hsa := hba.size
      obtain ⟨v3, w3, hr3, hm3, hg3⟩ := (hm2.below hba).grow (by omega) (by rw [List.length_take]; omega) b w2.heap.size (heap_alloc_new _ _)
      have ht3 := grown_turned (hm2.below hba) hg3
      have jb3 := (jb2.step hba).other ht3 (fun j hj => ⟨fun e => by have := hjl3 j e; omega, by omega, by omega⟩)
      have hB4 : B3 ≤ w3.heap.size := Nat.le_trans (by omega) ht3.size
      obtain ⟨a15, c15, hx15, _, _⟩ := hm2.form
      rw [show (BB.take k).length = k by rw [List.length_take]; omega] at hx15
      subst hx15
      rw [← Htk.out] at hm3
      clear hm2 hba hg3 ht3 jb2 hsa
      go_wp2_with (at_builtin; refine wpList_append_run rfl (.tmp 64) (.tmp 67) 44 44 rfl _ _ _ rfl rfl hr3 ?_; clear hr3)
      go_roundw
      case rel => exact ⟨k + 1, by omega, by go_num, jb3, hm3, hB4⟩
      case measure => simp [intOf]; omega
    · obtain rfl : k = nb := by omega
      rw [List.take_of_length_le (by omega)] at hms
      have hdz : decide ((k : Int) < (k : Int)) = false := by simp
      have hsq := seq_any wr F p J2 jb.jat
      rw [hsq3] at hsq
      have hop := ops_any wr F J2.D jb.jat.disk
      have hku : ∀ w', Turned (JT F p) wr w' → IsI w' (.slice a1 az.length c1) az := fun w' ht => HUA.out.below (by rw [Hg0.out]; exact jb.below.trans (ht.below jb.base jb.own))
      have hkv : ∀ w', Turned (JT F p) wr w' → IsBs w' (.slice a2 bs.length c2) bs := fun w' ht => HUB.out.below (by rw [Hg0.out]; exact jb.below.trans (ht.below jb.base jb.own))
      have hwr := jwrite_any wr F p J2 jb.jat jb.nib (by omega) _ az hku _ bs hkv HAS.out (by omega) (by omega) (by omega)
      have hsne : (sq2 == sq2 + 1) = false := by rw [beq_eq_false_iff_ne]; omega
      have hopb : ((J2.D.ops : Int) == (J2.D.ops : Int)) = true := by simp
      clear hku hkv
      go_wp2_with fail
      refine hsq.mono ?_
      rintro e w1 ⟨rfl, rfl⟩
      clear hsq
      go_wp2_with fail
      refine hop.mono ?_
      rintro e w1 ⟨rfl, rfl⟩
      clear hop
      go_wp2_with fail
      by_cases hr : rightW k az bs = true
      · by_cases h0 : az.length = 0
        · have e1 : J2.write az bs = (0, J2) := by
            obtain rfl : az = [] := List.eq_nil_of_length_eq_zero h0
            exact write_nil HBB.out (by rw [Hnb.out]; exact hr)
          rw [e1] at hwr
          have hq1 : (((az.length : Nat) : Int) == 0) = true := by rw [h0]; rfl
          have hq2 : decide ((0 : Int) < (az.length : Int)) = false := decide_eq_false (by omega)
          refine hwr.mono ?_
          rintro e w2 ⟨rfl, j2, t2⟩
          have jb2 := jb.turn j2 t2
          clear hwr j2 t2 jb hms
          have hsq' := seq_any w2 F p J2 jb2.jat
          rw [hsq3] at hsq'
          have hop' := ops_any w2 F J2.D jb2.jat.disk
          go_wp2_with fail
          refine hsq'.mono ?_
          rintro e w1 ⟨rfl, rfl⟩
          go_wp2_with fail
          refine hsq'.mono ?_
          rintro e w1 ⟨rfl, rfl⟩
          go_wp2_with fail
          refine hop'.mono ?_
          rintro e w1 ⟨rfl, rfl⟩
          go_wp2_with fail
          go_ret
          rw [Hg0.out]
          exact ⟨rfl, jb2.below⟩
        · have hfw := rightW_few hr
          have wok2 := write_ok HBB.out hcut2 (by rw [Hnb.out]; exact hr) (by omega) (by omega)
          have lv3 := wok2.live
          rw [if_neg h0] at lv3
          have hsq4 := lv3.hseq
          rw [wok2.err] at hwr
          have hq2 : decide ((0 : Int) < (az.length : Int)) = true := decide_eq_true (by omega)
          have hq3 : 0 < az.length := by omega
          clear wok2 lv3
          refine hwr.mono ?_
          rintro e w2 ⟨rfl, j2, t2⟩
          have jb2 := jb.turn j2 t2
          clear hwr j2 t2 jb hms
          generalize (J2.write az bs).2 = J3 at *
          have hsq' := seq_any w2 F p J3 jb2.jat
          rw [hsq4] at hsq'
          go_wp2_with fail
          refine hsq'.mono ?_
          rintro e w1 ⟨rfl, rfl⟩
          go_wp2_with fail
          go_ret
          rw [Hg0.out]
          exact ⟨rfl, jb2.below⟩
      · have hrf : rightW k az bs = false := by simpa using hr
        have e1 : J2.write az bs = (2, J2) := write_no HBB.out (by rw [Hnb.out]; exact hrf)
        rw [e1] at hwr
        clear e1 hrf hr
        refine hwr.mono ?_
        rintro e w2 ⟨rfl, j2, t2⟩
        have jb2 := jb.turn j2 t2
        have hms2 := hms.keep (fun j hj hl => t2.block j hl (fun e => by have := hjl3 j e; omega))
        clear hwr j2 t2 jb hms hrow heach
        obtain ⟨heach, hrow⟩ : (∀ b ∈ BB, b.length = 112) ∧ BB.length = k := by
          obtain ⟨h1, h2⟩ := HBB.out.rows
          exact ⟨h2, by rw [h1]; exact Hnb.out⟩
        obtain ⟨g15, c15, hx15, _, _, hcs⟩ := hms2.at (fun e => by rw [e] at hrow; simp at hrow; omega)
        clear hcs
        rw [hrow] at hx15
        subst hx15
        go_wp2_with fail
        go_loopw [22] (fun y wr => ∃ j : Nat, j ≤ k ∧ y = .int .i64 (j : Int) ∧ JB g0 w wr F p J2 ∧ MineS B3 wr (.slice (some ⟨g15, 0, none⟩) k c15) BB) (fun y _ => k - (intOf y).toNat)
        case atStart => exact ⟨0, Nat.zero_le _, rfl, jb2, hms2⟩
        case round =>
          obtain ⟨j, hj, rfl, jb, hms⟩ := hrel
          clear jb2 hms2
          have hbk := blocks_any wr F p J2 jb.jat (by omega)
          rw [hbl2] at hbk
          go_wp2_with fail
          refine hbk.mono ?_
          rintro e w1 ⟨rfl, rfl⟩
          clear hbk
          by_cases hlt : j < k
          · have hd : decide ((j : Int) < (k : Int)) = true := decide_eq_true (by omega)
            have hbb : BB[j]? = some BB[j] := List.getElem?_eq_getElem (by omega)
            have hrd := jread_any wr F p J2 jb.jat jb.nib (by omega) (j : Int) (by omega) (by omega)
            rw [read_live HBB.out (by rw [Hnb.out]; exact hlt) trivial hbb] at hrd
            have hb112 := heach _ (List.getElem_mem (show j < BB.length by omega))
            obtain ⟨g, cc, hv, _, _, hcs⟩ := hms.at (fun e => by rw [e] at hrow; simp at hrow; omega)
            simp only [Value.slice.injEq, Option.some.injEq, Addr.mk.injEq] at hv
            have hgq := hv.1.1
            clear hv
            subst hgq
            have hg15 : g15 < wr.heap.size := World.block_lt_of_cell? wr _ (hcs j (by omega))
            have hgB3 : ¬ JT F p g15 := fun e => by
              have h1 := hjl3 _ e
              obtain ⟨h2, _⟩ := own_lt hms (k := g15) rfl
              omega
            have hcj := hcs j (by omega)
            clear hcs hbb
            generalize BB[j] = b at *
            go_wp2_with fail
            refine hrd.mono ?_
            rintro e w3 ⟨u, rfl, hu, j3, t3⟩
            have jb3 := (jb.turn j3 t3).step (Below.refl _ _).drew
            have hms3 : MineS B3 w3.drew (.slice (some ⟨g15, 0, none⟩) k c15) BB := hms.keep (fun j hj hl => t3.block j hl (fun e => by have := hjl3 j e; omega))
            have hcj3 : w3.cell? ⟨g15, j, none⟩ = some (.string ⟨b.toArray⟩) := by rw [World.cell?_of_block (a := ⟨g15, j, none⟩) (t3.block g15 hg15 hgB3)]; exact hcj
            have hst := run_str (P := Tryd.prog) hu.drew 36 9 5 Tryd.underlying36 Tryd.underlying5 Tryd.underlying9
            obtain ⟨ua2, uc2, hue, _, _⟩ := hu.form
            rw [hb112] at hue
            subst hue
            clear hu j3 t3 jb hms hrd hcj
            go_wp2_with fail
            go_region
            go_wp2_with fail
            go_roundw
            case rel => exact ⟨j + 1, by omega, by go_num, jb3, hms3⟩
            case measure => simp [intOf]; omega
          · obtain rfl : j = k := by omega
            have hdz : decide ((j : Int) < (j : Int)) = false := by simp
            have hsq' := seq_any wr F p J2 jb.jat
            rw [hsq3] at hsq'
            have hop' := ops_any wr F J2.D jb.jat.disk
            clear hms
            go_wp2_with fail
            refine hsq'.mono ?_
            rintro e w1 ⟨rfl, rfl⟩
            clear hsq'
            go_wp2_with fail
            refine hop'.mono ?_
            rintro e w1 ⟨rfl, rfl⟩
            go_wp2_with fail
            go_ret
            rw [Hg0.out]
            exact ⟨rfl, jb.below⟩
end Go.Proofs.YtoonlihacbbfdaaDoor

/- The card of JournalRefuses: for every input the law answers true, and what came in reads as it did. -/
set_option linter.unusedVariables false
set_option linter.unusedSimpArgs false
set_option maxRecDepth 100000
namespace Go.Proofs.YtoonlihacbbfdaaDoor.cardJournalRefuses
open Go.ChangeShapes Go.WideShapes Go.ChangeAt Go.RowKit Go.Deep
open Go.ChangeMaps (open_string shut_string)

theorem gTab : Tryd.prog.globalNamed "usance/wire.nibbles" = some 0 := by kernel_rfl
theorem gTabType : (Tryd.prog.globals[0]?).map (·.type) = some 106 := by kernel_rfl
theorem cellsTab : Tryd.prog.cellsOf 106 = 16 := by kernel_rfl
theorem cellsU32 : Tryd.prog.cellsOf 100 = 1 := by kernel_rfl
/-- what the row lists: the table of the sum -/
theorem table {W : World} (h : laidMetH Tryd.prog Rows.journalRefusesRow.laid W) : Nib W := by
  have ht : Lib.TabIs Tryd.prog W "usance/wire.nibbles" .u32 [0, 498536548, 997073096, 651767980, 1994146192, 1802195444, 1303535960, 1342533948, 3988292384, 4027552580, 3604390888, 3412177804, 2607071920, 2262029012, 2685067896, 3183342108] :=
    Lib.tabIs_of_head (rest := []) gTab gTabType Tryd.underlying106 Tryd.underlying100 cellsU32 cellsTab h
  intro i hi
  rw [ht.cell gTab i (by simpa using hi)]
  have e : ∀ i : Fin 16, ([0, 498536548, 997073096, 651767980, 1994146192, 1802195444, 1303535960, 1342533948, 3988292384, 4027552580, 3604390888, 3412177804, 2607071920, 2262029012, 2685067896, 3183342108] : List Int).getD i.val 0 = ((UsCrc.nib.getD i.val 0 : Nat) : Int) := by decide
  rw [e ⟨i, hi⟩]

theorem contract (H : Type) (enc : TypeId × Value → H) (W : World) (base : Nat) (args : Array Value) (ds gs : List (DataW H)) (before : List MemPlace)
    (hval : ∀ (j : Nat) t v, Tryd.f4.params[j]? = some t → args[j]? = some v → Value.okWide Tryd.prog W .any base t v)
    (hW : DataW.Whole enc Tryd.prog Tryd.f4.params.toList Rows.journalRefusesSpec.vars false W args.toList ds gs before) (hL : laidMetH Tryd.prog Rows.journalRefusesRow.laid W)
    (hsz : (DataW.weightsEach Tryd.prog (Tryd.f4.params.toList ++ (OpenSpec.ofChange Rows.journalRefusesSpec).bare.plain.varTypes Tryd.prog) (ds ++ gs)).all (· ≤ reachBytes) = true) :
    Calls Tryd.prog 4 args W fun e W' => ∃ v, e = .returned v ∧ Rows.journalRefusesSpec.post enc Tryd.prog Tryd.f4 false true false false W args v W' := by
  have hW' := hW
  obtain ⟨p, q, hA0, hV, rfl, hfz, hnd⟩ := hW
  have hA : DataW.TrodAll enc Tryd.prog W 0 (fun _ => true) true Tryd.f4.params.toList args.toList ds p := hA0
  rw [Tryd.params4] at hA hval hsz
  obtain ⟨v0, vs0, d0, ds0, p0, q0, hargs, rfl, rfl, h0, r0⟩ := trodAll_cons hA
  obtain ⟨v1, vs1, d1, ds1, p1, q1, rfl, rfl, rfl, h1, r1⟩ := trodAll_cons r0
  obtain ⟨v2, vs2, d2, ds2, p2, q2, rfl, rfl, rfl, h2, r2⟩ := trodAll_cons r1
  obtain ⟨v3, vs3, d3, ds3, p3, q3, rfl, rfl, rfl, h3, r3⟩ := trodAll_cons r2
  obtain ⟨rfl, rfl, rfl⟩ := trodAll_nil r3
  obtain rfl : args = #[v0, v1, v2, v3] := by cases args; simp_all
  obtain ⟨rfl, rfl⟩ := trodVars_none hV
  have k0 := h0
  have lt0 : ∀ x ∈ p0, x.block < W.heap.size := by obtain ⟨m, hm⟩ := k0; exact DataW.trod_lt m _ _ _ hm
  have k1 := h1
  have lt1 : ∀ x ∈ p1, x.block < W.heap.size := by obtain ⟨m, hm⟩ := k1; exact DataW.trod_lt m _ _ _ hm
  have k2 := h2
  have lt2 : ∀ x ∈ p2, x.block < W.heap.size := by obtain ⟨m, hm⟩ := k2; exact DataW.trod_lt m _ _ _ hm
  have k3 := h3
  have lt3 : ∀ x ∈ p3, x.block < W.heap.size := by obtain ⟨m, hm⟩ := k3; exact DataW.trod_lt m _ _ _ hm
  simp only [List.append_nil, List.nil_append, List.cons_append] at hsz
  obtain ⟨x0, rfl, rfl, rfl, w0⟩ := open_int Tryd.underlying3 (hval 0 3 v0 rfl rfl) h0
  have b0 := wf_int64 w0
  obtain ⟨cs1, x1, rfl, hx1⟩ := open_agg rdOpJ Tryd.underlying24 (hval 1 24 v1 rfl rfl) h1 (light_arg (j := 1) hsz rfl rfl)
  obtain ⟨xs2, ir2⟩ := open_row rdInt (by decide) Tryd.underlying22 (hval 2 22 v2 rfl rfl) h2 (light_arg (j := 2) hsz rfl rfl)
  obtain ⟨xs3, ir3⟩ := open_row rdBytes (by decide) Tryd.underlying32 (hval 3 32 v3 rfl rfl) h3 (light_arg (j := 3) hsz rfl rfl)
  have hnib := table hL
  clear hA0
  obtain ⟨c0, c1, c2, c3, he, ⟨e0, a0⟩, ⟨u1, e1, g1⟩, e2, ⟨e3, a3⟩⟩ := hx1
  simp only [List.cons.injEq, and_true] at e0 e1 e3
  obtain rfl : c2 = .int .u8 (x1.by_.toNat : Int) := by simpa using (show [c2] = _ from e2)
  subst e0 e1 e3
  obtain rfl : cs1 = _ := by have := congrArg List.toArray he; simpa using this
  refine (refuses_walk W hnib x0 x1.kind x1.raw c1 x1.by_ x1.at_ v2 xs2 v3 xs3 g1.isI.1 ir2.isI.1 ir3.isBs b0.1 b0.2 g1.isI.2 ir2.isI.2).mono fun e W' ⟨he, bel⟩ => ?_
  subst he
  exact ⟨_, rfl, _, _, _, [], _, [], hW', trodAll_mk1 (shut_bool Tryd.underlying4 _), (trodAll_cons_mk (Below.trod laidOut (by kernel_rfl) (of_decide_eq_true (by kernel_rfl)) k0 bel lt0) (trodAll_cons_mk (Below.trod laidOut (by kernel_rfl) (of_decide_eq_true (by kernel_rfl)) k1 bel lt1) (trodAll_cons_mk (Below.trod laidOut (by kernel_rfl) (of_decide_eq_true (by kernel_rfl)) k2 bel lt2) (trodAll_cons_mk (Below.trod laidOut (by kernel_rfl) (of_decide_eq_true (by kernel_rfl)) k3 bel lt3) trodAll_mk0)))), rfl, bel.frame _, fun h => by cases h⟩

/-- a world for the witness: the table as its initialiser lays it -/
noncomputable def laidWorld (os : Os) : World :=
  { World.holding Tryd.prog os ⟨#[], #[], []⟩ with heap := (World.holding Tryd.prog os ⟨#[], #[], []⟩).heap.modify 0 fun
      | .cells _ t frozen => .cells #[.int .u32 0, .int .u32 498536548, .int .u32 997073096, .int .u32 651767980, .int .u32 1994146192, .int .u32 1802195444, .int .u32 1303535960, .int .u32 1342533948, .int .u32 3988292384, .int .u32 4027552580, .int .u32 3604390888, .int .u32 3412177804, .int .u32 2607071920, .int .u32 2262029012, .int .u32 2685067896, .int .u32 3183342108] t frozen
      | o => o }
theorem laid_met (os : Os) : laidMet Tryd.prog Rows.journalRefusesRow.laid ((laidWorld os).forCall (fun _ _ => 0) ⟨#[], #[.int .i64 0, .agg #[.int .i64 0, .slice none 0 0, .int .u8 0, .int .i64 0], .slice none 0 0, .slice none 0 0], []⟩).memory :=
  laidMet_of_run' 8 (by kernel_rfl) (by kernel_rfl)
theorem reads (os : Os) {H : Type} (enc : TypeId × Value → H) : ∃ places, DataW.whole enc Tryd.prog ((laidWorld os).forCall (fun _ _ => 0) ⟨#[], #[.int .i64 0, .agg #[.int .i64 0, .slice none 0 0, .int .u8 0, .int .i64 0], .slice none 0 0, .slice none 0 0], []⟩).memory Tryd.f4.params.toList Rows.journalRefusesSpec.vars false (#[.int .i64 0, .agg #[.int .i64 0, .slice none 0 0, .int .u8 0, .int .i64 0], .slice none 0 0, .slice none 0 0] : Array Value).toList 8 = some ([.lit (.int .i64 0), .agg [.lit (.int .i64 0), .nil, .lit (.int .u8 0), .lit (.int .i64 0)], .nil, .nil], [], places) :=
  ⟨[], by kernel_rfl⟩

theorem lifted (os : Os) (started : os.Started) (H : Type) (enc : TypeId × Value → H) (F : Stop.Interp) :
    ReturnsInHanded {} Tryd.checked os 4 .any ((OpenSpec.ofChange Rows.journalRefusesSpec).preRow enc Tryd.prog Tryd.f4 Rows.journalRefusesRow.domain false Rows.journalRefusesRow.laid) (((OpenSpec.ofChange Rows.journalRefusesSpec).at F).post enc Tryd.prog Tryd.f4 false true false false) := by
  obtain ⟨places, hx⟩ := reads os enc
  refine returnsInHanded_of_row (C := Tryd.checked) (s := OpenSpec.ofChange Rows.journalRefusesSpec) own started (by kernel_rfl) Tryd.func4
    (witness_row_at (enc := enc) (C := Tryd.checked) false (laidWorld os) #[.int .i64 0, .agg #[.int .i64 0, .slice none 0 0, .int .u8 0, .int .i64 0], .slice none 0 0, .slice none 0 0] rfl (by kernel_rfl) (by kernel_rfl) (by kernel_rfl)
      (OpenSpec.preRow_of_cond 8 hx (by kernel_rfl) (fun k hk => by cases hk) (by kernel_rfl) (laid_met os))) ?_
  intro W base args ds gs before hval hW _ hcond hsz hL _ _
  exact contract H enc W base args ds gs before hval hW hL hsz

theorem said : Rows.JournalRefusesSaid :=
  OpenClaim.holds_of_cond 4 Tryd.f4 rfl rfl rfl rfl rfl rfl rfl ⟨rfl, rfl, rfl, rfl, rfl⟩ rfl rfl rfl rfl rfl (by kernel_rfl) Tryd.func4 (by kernel_rfl)
    (of_decide_eq_true (by kernel_rfl)) (by unfold Func.isWrapper; first | (rw [if_pos (by decide +kernel)]; kernel_rfl) | (rw [if_neg (by decide +kernel)]; exact ⟨rfl, rfl⟩))
    (fun os started H enc _ F => by rw [OpenClaim.pre_eq_preRow]; exact lifted os started H enc F)

theorem plain (f : FuncId) (fn : Func) (hf : Tryd.pinned.checked.prog.funcNamed "usance/usancelaw06.JournalRefuses" = some f) (hfn : Tryd.pinned.checked.prog.funcs[f]? = some fn) :
    false = Tryd.pinned.checked.prog.looks [] ∧ ∀ (j : Nat) t, fn.params[j]? = some t → Tryd.pinned.checked.prog.wantsStandIn t = false := by
  obtain rfl : f = 4 := Option.some.inj ((show Tryd.prog.funcNamed "usance/usancelaw06.JournalRefuses" = some 4 by kernel_rfl).symm.trans hf) |>.symm
  obtain rfl : fn = Tryd.f4 := (Option.some.inj (Tryd.func4.symm.trans hfn)).symm
  refine ⟨by kernel_rfl, fun j t ht => ?_⟩
  rw [Tryd.params4] at ht
  have hm := Array.mem_of_getElem? ht
  simp only [List.mem_toArray, List.mem_cons, List.not_mem_nil, or_false] at hm
  rcases hm with rfl | rfl | rfl | rfl
  · exact (show Tryd.prog.wantsStandIn 3 = false by kernel_rfl)
  · exact (show Tryd.prog.wantsStandIn 24 = false by kernel_rfl)
  · exact (show Tryd.prog.wantsStandIn 22 = false by kernel_rfl)
  · exact (show Tryd.prog.wantsStandIn 32 = false by kernel_rfl)

/-- THE CARD -/
theorem proved : Rows.JournalRefusesCardSaid :=
  Claim7.holds_tied_plain_at .later [] _ _ _ _ said (fun _ h => by cases h) (by kernel_rfl) (fun _ h => by cases h) journalRefuses_row_tie rfl ⟨rfl, rfl⟩ (by kernel_rfl) rfl plain (by kernel_rfl)
#print axioms proved
end Go.Proofs.YtoonlihacbbfdaaDoor.cardJournalRefuses
