/- The card CardJournalOrders: for every input the law answers true, and what came in reads as it did; with what it needs ahead. -/
import Derived.Test.YtoonlihacbbfdaaDoorBase3
import Derived.StillTailTactics
import Derived.Test.YtoonlihacbbfdaaDoorCards
import Derived.Test.YtoonlihacbbfdaaDoorTie
/- JournalOrders: the order of a batch, and how blocks are put into batches, makes no difference. -/
set_option linter.unusedVariables false
set_option linter.unusedSimpArgs false
set_option maxRecDepth 100000
namespace Go.Proofs.YtoonlihacbbfdaaDoor
open Go.RowKit

/-- three journals beside each other -/
structure J3 (B : Nat) (w0 w : World) (F1 : Ft) (p1 : Nat) (J1 : Jn) (F2 : Ft) (p2 : Nat) (J2 : Jn) (F3 : Ft) (p3 : Nat) (Jc : Jn) : Prop where
  a : JB B w0 w F1 p1 J1
  b : JB B w0 w F2 p2 J2
  c : JB B w0 w F3 p3 Jc
  ab : ∀ k, JT F1 p1 k → ¬ JT F2 p2 k
  ac : ∀ k, JT F1 p1 k → ¬ JT F3 p3 k
  bc : ∀ k, JT F2 p2 k → ¬ JT F3 p3 k
  nib : 0 < B
section
variable {B : Nat} {w0 w w' : World} {F1 : Ft} {p1 : Nat} {J1 : Jn} {F2 : Ft} {p2 : Nat} {J2 : Jn} {F3 : Ft} {p3 : Nat} {J3' J : Jn}
theorem J3.step (h : J3 B w0 w F1 p1 J1 F2 p2 J2 F3 p3 J3') (hb : Below w.heap.size w w') : J3 B w0 w' F1 p1 J1 F2 p2 J2 F3 p3 J3' :=
  ⟨h.a.step hb, h.b.step hb, h.c.step hb, h.ab, h.ac, h.bc, h.nib⟩
theorem JB.beside {Fa Fb : Ft} {pa pb : Nat} {Ja Jb : Jn} (h : JB B w0 w Fa pa Ja) (k : JB B w0 w Fb pb Jb) (hn : 0 < B) (hd : ∀ k, JT Fa pa k → ¬ JT Fb pb k) (ht : Turned (JT Fb pb) w w') : JB B w0 w' Fa pa Ja :=
  h.other ht fun i hi => ⟨fun e => hd i e hi, k.own i hi, fun e => by have := k.own i hi; omega⟩
theorem J3.turn1 (h : J3 B w0 w F1 p1 J1 F2 p2 J2 F3 p3 J3') (hj : JAt w' F1 p1 J) (ht : Turned (JT F1 p1) w w') : J3 B w0 w' F1 p1 J F2 p2 J2 F3 p3 J3' :=
  ⟨h.a.turn hj ht, h.b.beside h.a h.nib (fun k h1 h2 => h.ab k h2 h1) ht, h.c.beside h.a h.nib (fun k h1 h2 => h.ac k h2 h1) ht, h.ab, h.ac, h.bc, h.nib⟩
theorem J3.turn2 (h : J3 B w0 w F1 p1 J1 F2 p2 J2 F3 p3 J3') (hj : JAt w' F2 p2 J) (ht : Turned (JT F2 p2) w w') : J3 B w0 w' F1 p1 J1 F2 p2 J F3 p3 J3' :=
  ⟨h.a.beside h.b h.nib h.ab ht, h.b.turn hj ht, h.c.beside h.b h.nib (fun k h1 h2 => h.bc k h2 h1) ht, h.ab, h.ac, h.bc, h.nib⟩
theorem J3.turn3 (h : J3 B w0 w F1 p1 J1 F2 p2 J2 F3 p3 J3') (hj : JAt w' F3 p3 J) (ht : Turned (JT F3 p3) w w') : J3 B w0 w' F1 p1 J1 F2 p2 J2 F3 p3 J :=
  ⟨h.a.beside h.c h.nib h.ac ht, h.b.beside h.c h.nib h.bc ht, h.c.turn hj ht, h.ab, h.ac, h.bc, h.nib⟩
theorem J3.other {T : Nat → Prop} (h : J3 B w0 w F1 p1 J1 F2 p2 J2 F3 p3 J3') (ht : Turned T w w') (hT : ∀ k, T k → ¬ JT F1 p1 k ∧ ¬ JT F2 p2 k ∧ ¬ JT F3 p3 k ∧ B ≤ k) : J3 B w0 w' F1 p1 J1 F2 p2 J2 F3 p3 J3' := by
  have hn := h.nib
  refine ⟨h.a.other ht fun k hk => ?_, h.b.other ht fun k hk => ?_, h.c.other ht fun k hk => ?_, h.ab, h.ac, h.bc, h.nib⟩ <;> obtain ⟨a1, a2, a3, a4⟩ := hT k hk
  · exact ⟨a1, a4, by omega⟩
  · exact ⟨a2, a4, by omega⟩
  · exact ⟨a3, a4, by omega⟩
theorem J3.lt (h : J3 B w0 w F1 p1 J1 F2 p2 J2 F3 p3 J3') : ∀ k, JT F1 p1 k ∨ JT F2 p2 k ∨ JT F3 p3 k → k < w.heap.size := by
  rintro k (h1 | h1 | h1)
  · exact h.a.jat.lt h1
  · exact h.b.jat.lt h1
  · exact h.c.jat.lt h1
end

set_option maxHeartbeats 16000000 in
theorem orders_walk (w : World) (hn : Nib w) (sec_ kind raw : Int) (va : Value) (by_ : UInt8) (zs : List Int) (cut : Int) (hva : IsI w va zs)
    (hs1 : -9223372036854775808 ≤ sec_) (hs2 : sec_ ≤ 9223372036854775807) (hzs : ∀ z ∈ zs, -9223372036854775808 ≤ z ∧ z ≤ 9223372036854775807) (hc1 : -9223372036854775808 ≤ cut) (hc2 : cut ≤ 9223372036854775807) :
    Calls Tryd.prog 3 #[.int .i64 sec_, .agg #[.int .i64 kind, va, .int .u8 (by_.toNat : Int), .int .i64 raw], .int .i64 cut] w fun e w' => e = .returned (.bool true) ∧ Below w.heap.size w w' := by
  obtain ⟨a0, c0, rfl, _, _⟩ := hva.form
  have HVA := Lib.hid hva
  have HZS := Lib.hid hzs
  have HSZ := Lib.hid (fun w : World => size_any w sec_ hs1 hs2)
  have hsz := pickN_lt sec_ (n := 60) (by omega)
  obtain ⟨n, hnn⟩ : ∃ n, n = 32 + pickN sec_ 60 := ⟨_, rfl⟩
  rw [← hnn] at HSZ
  have hn32 : 32 ≤ n := by omega
  have hn92 : n ≤ 92 := by omega
  obtain ⟨W1, hW1⟩ : ∃ W1, W1 = w.alloc (.cells #[.int .i64 kind, .slice a0 zs.length c0, .int .u8 (by_.toNat : Int), .int .i64 raw] 24) := ⟨_, rfl⟩
  have hop1 : W1.heap[w.heap.size]? = some (opRow kind (.slice a0 zs.length c0) by_ raw) := by rw [hW1]; exact heap_alloc_new w _
  have hb1 : Below w.heap.size w W1 := by rw [hW1]; exact (Below.refl _ _).alloc (Nat.le_refl _) _
  have hn1 : Nib W1 := hn.below hb1
  have hgw : 0 < w.heap.size := World.block_lt_of_cell? w _ (hn 0 (by omega))
  have HC := Lib.hid (And.intro hc1 hc2)
  clear hva hzs hs1 hs2 hn hsz hnn hc1 hc2
  go_enter Tryd.func3, Tryd.ntmps3
  go_upto_region 1 with fail
  rw [← hW1]
  clear hW1
  generalize hg0 : w.heap.size = g0 at *
  have Hg0 := Lib.hid hg0
  clear hg0
  go_wp2_with fail
  refine (shown06_any W1 hn1).mono ?_
  rintro e W2 ⟨rfl, hb2⟩
  have hop2 := (hb2.block g0 (lt_of_heap hop1)).trans hop1
  have hn2 := hn1.below hb2
  have hbw2 := hb1.trans (hb2.mono (Nat.le_of_lt (lt_of_heap hop1)))
  clear hop1 hb1 hb2 hn1
  go_wp2_with fail
  refine (HSZ.out W2).mono ?_
  rintro e w' ⟨rfl, rfl⟩
  go_wp2_with fail
  refine (begun06_any W2 hn2 n hn32 (by omega)).mono ?_
  rintro e W3 ⟨F1, p1, q1, v1, J1, B2, rfl, jb1, lv1, hl1, hcut1, hops1, _, _, _⟩
  have hop3 := (jb1.below.block g0 (lt_of_heap hop2)).trans hop2
  have hg2 := lt_of_heap hop2
  have hja1 : ∀ k, JT F1 p1 k → g0 < k := fun k hk => Nat.lt_of_lt_of_le hg2 (jb1.own k hk)
  have ja := jb1.from hbw2 (Nat.le_of_lt hg2)
  have hl3 : ∀ k, JT F1 p1 k → k < W3.heap.size := fun k hk => jb1.jat.lt hk
  clear jb1 hbw2 hop2 hg2 hn2
  go_wp2_with fail
  refine (HSZ.out W3).mono ?_
  rintro e w' ⟨rfl, rfl⟩
  go_wp2_with fail
  refine (begun06_any W3 ja.nib n hn32 (by omega)).mono ?_
  rintro e W4 ⟨F2, p2, q2, v2, J2, B3, rfl, jb2, lv2, hl2, hcut2, hops2, _, _, _⟩
  have hop4 := (jb2.below.block g0 (lt_of_heap hop3)).trans hop3
  have ja4 := ja.step jb2.below
  have jb4 := jb2.from ja.below ja.base
  have hab : ∀ k, JT F1 p1 k → ¬ JT F2 p2 k := fun k h1 h2 => by have := hl3 k h1; have := jb2.own k h2; omega
  have hja2 : ∀ k, JT F2 p2 k → g0 < k := fun k hk => Nat.lt_of_lt_of_le (lt_of_heap hop3) (jb2.own k hk)
  clear jb2 ja hop3 hl3
  go_wp2_with fail
  refine (HSZ.out W4).mono ?_
  rintro e w' ⟨rfl, rfl⟩
  go_wp2_with fail
  refine (begun06_any W4 jb4.nib n hn32 (by omega)).mono ?_
  rintro e W5 ⟨F3, p3, q3, v3, J3_, B4, rfl, jb3, lv3, hl3, hcut3, hops3, _, _, _⟩
  have hop5 := (jb3.below.block g0 (lt_of_heap hop4)).trans hop4
  have hja3 : ∀ k, JT F3 p3 k → g0 < k := fun k hk => Nat.lt_of_lt_of_le (lt_of_heap hop4) (jb3.own k hk)
  have jt : J3 g0 w W5 F1 p1 J1 F2 p2 J2 F3 p3 J3_ := ⟨ja4.step jb3.below, jb4.step jb3.below, jb3.from jb4.below jb4.base, hab,
    fun k h1 h2 => by have := ja4.jat.lt h1; have := jb3.own k h2; omega, fun k h1 h2 => by have := jb4.jat.lt h1; have := jb3.own k h2; omega, hgw⟩
  clear jb3 ja4 jb4 hop4 hab
  have k3 := (op_cells hop5).2.2.2
  have f3 := frozen_p hop5 3
  have hop6 := head_setCell (i := 3) hop5 (.int .i64 2)
  have ht6 := turned_one W5 g0 3 (.int .i64 2)
  have jt6 := jt.other ht6 (fun k hk => by subst hk; exact ⟨fun e => Nat.lt_irrefl _ (hja1 _ e), fun e => Nat.lt_irrefl _ (hja2 _ e), fun e => Nat.lt_irrefl _ (hja3 _ e), Nat.le_refl _⟩)
  clear hop5 jt ht6 hja1 hja2 hja3
  go_upto_region 8 with fail
  clear k3 f3
  generalize W5.setCell ⟨g0, 3, none⟩ (.int .i64 2) = W6 at *
  have hop6' : W6.heap[g0]? = some (opRow kind (.slice a0 zs.length c0) by_ 2) := hop6
  clear hop6
  have jt7 := jt6.step (Below.refl _ _).drew
  have hS0 : (fun W : World => W.heap[g0]? = some (opRow kind (.slice a0 zs.length c0) by_ 2)) W6.drew := hop6'
  have hjl : ∀ k, JT F1 p1 k ∨ JT F2 p2 k ∨ JT F3 p3 k → k < W6.heap.size := jt6.lt
  have hbl : J1.D.blocks = (n - 2) / 2 := lv1.blocks
  have hnb0 : 0 < (n - 2) / 2 := by omega
  have hJn := lv1.hn
  clear jt6 hop6'
  refine wp_region_noPanic ?_
  refine wp_region_held_drew (S := (fun W : World => W.heap[g0]? = some (opRow kind (.slice a0 zs.length c0) by_ 2))) (by kernel_rfl) hS0 (fun hH => ?_)
  refine take_at (i := 0) (v := ?_) rfl (by kernel_rfl) (by kernel_rfl) (by kernel_rfl) (fun _ _ _ h => h) (Or.inl ⟨by rfl, ?_⟩) hH ?_
  rotate_left
  · (intro w hSw; obtain ⟨q0, q1, q2, q3⟩ := op_cells hSw; go_simp; try with_reducible rfl)
  try simp only [Act.put, List.setIfInBounds_toArray, List.set_cons_zero, List.set_cons_succ]
  refine take_at (i := 1) (v := ?_) rfl (by kernel_rfl) (by kernel_rfl) (by kernel_rfl) (fun _ _ _ h => h) (Or.inl ⟨by rfl, ?_⟩) hH ?_
  rotate_left
  · (intro w hSw; obtain ⟨q0, q1, q2, q3⟩ := op_cells hSw; go_simp; try with_reducible rfl)
  try simp only [Act.put, List.setIfInBounds_toArray, List.set_cons_zero, List.set_cons_succ]
  refine wpAnyH_ready (rs := [2]) (by kernel_rfl) (by simp) ?_
  refine ready_at rfl (fun K hK => ?_) AllReadyH.nil
  go_simp
  have hbk := blocks_any _ F1 p1 J1 jt7.a.jat (by omega)
  rw [hbl] at hbk
  refine hbk.mono ?_
  rintro e w' ⟨rfl, rfl⟩
  clear hbk
  go_wp2_with fail
  refine hK.out _ _ hH (fun _ => ?_)
  clear hK K
  try simp only [Act.put, List.setIfInBounds_toArray, List.set_cons_zero, List.set_cons_succ]
  refine wpAnyH_ready (rs := [3]) (by kernel_rfl) (by simp) ?_
  refine ready_at rfl (fun K hK => ?_) AllReadyH.nil
  go_simp
  refine (blocks06_any _ kind _ by_ 2 zs ((n - 2) / 2) (HVA.out.below (by rw [Hg0.out]; exact jt7.a.below)) (by decide) (by decide) hnb0 (by omega) HZS.out).mono ?_
  rintro e W8 ⟨u, v, rfl, hmi8, hml8, hb8⟩
  have hHn : W8.heap[g0]? = some (opRow kind (.slice a0 zs.length c0) by_ 2) := (hb8.block g0 (lt_of_heap hH)).trans hH
  have jt8 := jt7.step hb8
  have hsz8 := hb8.size
  clear hb8 hH jt7
  go_wp2_with fail
  refine hK.out _ _ hHn (fun hH => ?_)
  clear hHn
  clear hK K
  try simp only [Act.put, List.setIfInBounds_toArray, List.set_cons_zero, List.set_cons_succ]
  refine take_at (i := 4) (v := ?_) rfl (by kernel_rfl) (by kernel_rfl) (by kernel_rfl) (fun _ _ _ h => h) (Or.inl ⟨by rfl, ?_⟩) hH ?_
  rotate_left
  · (intro w hSw; obtain ⟨q0, q1, q2, q3⟩ := op_cells hSw; go_simp; try with_reducible rfl)
  try simp only [Act.put, List.setIfInBounds_toArray, List.set_cons_zero, List.set_cons_succ]
  refine take_at (i := 5) (v := ?_) rfl (by kernel_rfl) (by kernel_rfl) (by kernel_rfl) (fun _ _ _ h => h) (Or.inl ⟨by rfl, ?_⟩) hH ?_
  rotate_left
  · (intro w hSw; obtain ⟨q0, q1, q2, q3⟩ := op_cells hSw; go_simp; try with_reducible rfl)
  try simp only [Act.put, List.setIfInBounds_toArray, List.set_cons_zero, List.set_cons_succ]
  refine take_at (i := 6) (v := ?_) rfl (by kernel_rfl) (by kernel_rfl) (by kernel_rfl) (fun _ _ _ h => h) (Or.inl ⟨by rfl, ?_⟩) hH ?_
  rotate_left
  · (intro w hSw; obtain ⟨q0, q1, q2, q3⟩ := op_cells hSw; go_simp; try with_reducible rfl)
  try simp only [Act.put, List.setIfInBounds_toArray, List.set_cons_zero, List.set_cons_succ]
  refine take_at (i := 7) (v := ?_) rfl (by kernel_rfl) (by kernel_rfl) (by kernel_rfl) (fun _ _ _ h => h) (Or.inl ⟨by rfl, ?_⟩) hH ?_
  rotate_left
  · (intro w hSw; obtain ⟨q0, q1, q2, q3⟩ := op_cells hSw; go_simp; try with_reducible rfl)
  try simp only [Act.put, List.setIfInBounds_toArray, List.set_cons_zero, List.set_cons_succ]
  refine take_at (i := 8) (v := ?_) rfl (by kernel_rfl) (by kernel_rfl) (by kernel_rfl) (fun _ _ _ h => h) (Or.inl ⟨by rfl, ?_⟩) hH ?_
  rotate_left
  · (intro w hSw; obtain ⟨q0, q1, q2, q3⟩ := op_cells hSw; go_simp; try with_reducible rfl)
  try simp only [Act.put, List.setIfInBounds_toArray, List.set_cons_zero, List.set_cons_succ]
  refine wpAnyH_done (by kernel_rfl) ?_ _
  refine NoPanic.normal ?_
  clear hH
  have hft := blk_fit hnb0 by_ zs
  have hzi := blk_ints (raw := 2) (by_ := by_) hnb0 (by omega) HZS.out
  have hsh := blk_short 2 by_ ((n - 2) / 2) zs
  rcases hbk : blk 2 by_ ((n - 2) / 2) zs with ⟨bz, bl⟩
  rw [hbk] at hft hzi hsh hmi8 hml8
  clear hbk
  simp only at hft hzi hsh hmi8 hml8
  obtain ⟨us, hrow8, hel8⟩ := hml8.els
  have hul := hel8.1
  have hlen := hft.len
  obtain ⟨au, cu, rfl, hcu1, hcu2⟩ := hmi8.isI.form
  obtain ⟨av, cv, rfl, hcv1, hcv2⟩ := hrow8.form
  have hum : us.length = bz.length := by omega
  have hcv3 : bz.length ≤ cv := by omega
  rw [hum] at hrow8 ⊢
  obtain ⟨m, hm⟩ : ∃ m, m = bz.length := ⟨_, rfl⟩
  rw [← hm] at hrow8 hmi8 hum hlen hsh hcu1 hcv3 ⊢
  have Hm := Lib.hid hm
  have Hul := Lib.hid hum
  have Hlen := Lib.hid hlen
  have hdm : bz.drop m = [] := List.drop_of_length_le (by omega)
  have hdu : us.drop m = [] := List.drop_of_length_le (by omega)
  have hi0 := MineI.nil W8.heap.size W8
  have hr0 := RowV.nil W8.heap.size W8
  rw [← List.reverse_nil, ← hdm] at hi0
  rw [← List.reverse_nil, ← hdu] at hr0
  clear hm hul hum hlen hml8 hcv1 hdm hdu
  have HHI := Lib.hid hmi8
  have HHR := Lib.hid hrow8
  have HEL := Lib.hid hel8
  clear hmi8 hrow8 hel8
  have hzm : (m : Int) - 1 = (m : Int) - 1 := rfl
  clear hzm
  go_wp2_with fail
  go_loopw [19, 20, 21] (fun x y z wr => ∃ i : Nat, i ≤ m ∧ z = .int .i64 ((i : Int) - 1) ∧ Below W8.heap.size W8 wr ∧ MineI W8.heap.size wr x (bz.drop i).reverse ∧ RowV W8.heap.size wr y (us.drop i).reverse) (fun _ _ z _ => (intOf z + 1).toNat)
  case atStart => exact ⟨m, Nat.le_refl _, rfl, Below.refl _ _, hi0, hr0⟩
  case round =>
    obtain ⟨i, hi, rfl, hb, hx, hy⟩ := hrel
    clear hi0 hr0
    have hsb := hb.size
    by_cases hlt : 0 < i
    · obtain ⟨k, rfl⟩ : ∃ k, i = k + 1 := ⟨i - 1, by omega⟩
      have hkz : ((k + 1 : Nat) : Int) - 1 = (k : Int) := by omega
      rw [hkz]
      clear hkz
      obtain ⟨gu, cu', hv, _, _, hcell⟩ := (MineI.below HHI.out (hb.mono (Nat.le_refl _))).cell (fun e => by have q := Hm.out; rw [e] at q; simp at q; omega)
      simp only [Value.slice.injEq] at hv
      have hau := hv.1
      clear hv
      subst hau
      obtain ⟨gv, cv', hv, _, _, hcellv⟩ := (HHR.out.below hb).cell (fun e => by have q := Hul.out; rw [e] at q; simp at q; omega)
      simp only [Value.slice.injEq] at hv
      have hav := hv.1
      clear hv
      subst hav
      have hd : decide ((0 : Int) ≤ (k : Int)) = true := decide_eq_true (by omega)
      have hkb : k < bz.length := by have := Hm.out; omega
      have hku : k < us.length := by have := Hul.out; omega
      have hbz40 : bz.length ≤ 1000000 := by have := Hm.out; omega
      have hus40 : us.length ≤ 1000000 := by have := Hul.out; omega
      have hc1 := hcell k hkb
      have hc2 := hcellv k hku
      have hx0 : (bz.drop k).reverse = (bz.drop (k + 1)).reverse ++ [bz[k]] := by rw [← List.reverse_cons, List.getElem_cons_drop]
      have hy0 : (us.drop k).reverse = (us.drop (k + 1)).reverse ++ [us[k]] := by rw [← List.reverse_cons, List.getElem_cons_drop]
      obtain ⟨nu, xu, hou, hbu⟩ := HEL.out.2 k (by have := Hlen.out; omega) hku
      obtain ⟨auk, cuk, huke, _⟩ := hbu
      have Hx0 := Lib.hid hx0
      have Hy0 := Lib.hid hy0
      clear hx0 hy0 hcell hcellv hou
      have hgv : gv < W8.heap.size := by
        have h1 := own_lt HHR.out (k := gv) rfl
        obtain ⟨_, c, hc⟩ := h1
        exact lt_of_heap hc
      generalize bz[k] = z at *
      generalize us[k] = uk at *
      generalize (bl[k]'_).length = lk at huke
      subst huke
      have huk : (Value.slice auk lk cuk).oneCell' = true := rfl
      obtain ⟨ax, cx, hxe, _, _⟩ := hx.isI.form
      obtain ⟨ay, cy, hye, _, _⟩ := hy.form
      rw [List.length_reverse, List.length_drop, ← Hm.out] at hxe
      rw [List.length_reverse, List.length_drop, Hul.out] at hye
      subst hxe hye
      have hba : Below wr.heap.size wr (wr.alloc (.cells #[.int .i64 z] 3)) := (Below.refl _ _).alloc (Nat.le_refl _) _
      have hsa := hba.size
      obtain ⟨x3, w3, hr3, hx3, hg3⟩ := (hx.below hba).grow (by omega) (by simp; omega) z wr.heap.size (heap_alloc_new _ _)
      have hy3 : RowV W8.heap.size w3 _ _ := own_other (hy.below hba) (hx.below hba) (by decide) hg3
      have hb3 : Below W8.heap.size W8 w3 := (hb.trans (hba.mono hsb)).trans ((grown_turned (hx.below hba) hg3).below (by omega) (fun j hj => hj))
      have hc3 : w3.cell? ⟨gv, k, none⟩ = some (.slice auk lk cuk) := by
        rw [World.cell?_of_block (a := ⟨gv, k, none⟩) (hb3.block gv hgv), ← World.cell?_of_block (a := ⟨gv, k, none⟩) (hb.block gv hgv)]
        exact hc2
      have hs3 := hb3.size
      have hbb : Below w3.heap.size w3 (w3.alloc (.cells #[.slice auk lk cuk] 36)) := (Below.refl _ _).alloc (Nat.le_refl _) _
      have hsb2 := hbb.size
      obtain ⟨y4, w4, hr4, hy4, hg4⟩ := (hy3.below hbb).grow (by omega) (by simp; omega) _ huk w3.heap.size (heap_alloc_new _ _)
      have hx4 : MineI W8.heap.size w4 _ _ := own_other (hx3.below hbb) (hy3.below hbb) (by decide) hg4
      have hb4 : Below W8.heap.size W8 w4 := (hb3.trans (hbb.mono hs3)).trans ((grown_turned (hy3.below hbb) hg4).below (by omega) (fun j hj => hj))
      rw [← Hx0.out] at hx4
      rw [← Hy0.out] at hy4
      obtain ⟨ax3, cx3, hxe, _, _⟩ := hx3.isI.form
      rw [List.length_append, List.length_reverse, List.length_drop, ← Hm.out, List.length_singleton] at hxe
      subst hxe
      clear hx hy hb hba hsa hx3 hg3 hy3 hb3 hs3 hbb hsb2 hg4 hgv
      go_wp2_with (at_builtin; first | (refine wpList_append_run rfl (.tmp 85) (.tmp 90) 22 22 rfl _ _ _ rfl rfl hr3 ?_; clear hr3) | (refine wpList_append_run rfl (.tmp 92) (.tmp 97) 32 32 rfl _ _ _ rfl rfl hr4 ?_))
      go_roundw
      case rel => exact ⟨k, by omega, by go_num, hb4, hx4, hy4⟩
      case measure => simp [intOf]
    · obtain rfl : i = 0 := by omega
      have hdz : decide ((0 : Int) ≤ ((0 : Nat) : Int) - 1) = false := by decide
      rw [List.drop_zero] at hx hy
      have hkeep : Held W6.heap.size wr (fun w => IsI w (.slice au m cu) bz ∧ IsBs w (.slice av m cv) bl ∧ IsI w u19 bz.reverse ∧ IsBs w u20 bl.reverse) := by
        have k1 := (MineI.held HHI.out).below hb
        have k2 := (HHR.out.held HEL.out).below hb
        have k3 := (hx.low hsz8).held
        have k4 := RowV.held (own_low hy hsz8) (HEL.out.below hb).reverse
        exact fun w2 h2 => ⟨k1 w2 h2, k2 w2 h2, k3 w2 h2, k4 w2 h2⟩
      have hJ1 : ∀ k, JT F1 p1 k → k < W6.heap.size := fun k h => hjl k (.inl h)
      have hJ2 : ∀ k, JT F2 p2 k → k < W6.heap.size := fun k h => hjl k (.inr (.inl h))
      have hJ3 : ∀ k, JT F3 p3 k → k < W6.heap.size := fun k h => hjl k (.inr (.inr h))
      have jtr := jt8.step hb
      have hn1' := lv1.hn
      have hn2' := lv2.hn
      have hn3' := lv3.hn
      obtain ⟨n2, hn2⟩ : ∃ n2, n2 = pickN cut (m + 1) := ⟨_, rfl⟩
      have hn2m : n2 ≤ m := by have := pickN_lt cut (n := m + 1) (by omega); omega
      have hpk := pick_any wr cut (m + 1) HC.out.1 HC.out.2 (by omega) (by omega)
      rw [← hn2, show ((m + 1 : Nat) : Int) = (m : Int) + 1 by omega] at hpk
      have hzl : (zeroB n).length = (n - 2) / 2 := by simp [zeroB]
      have wok1 := write_ok lv1 hcut1 hft.right (by omega) (by have := Hm.out; omega)
      have wok2 := write_ok lv2 hcut2 hft.reverse.right (by omega) (by rw [List.length_reverse]; have := Hm.out; omega)
      have wok3 := write_ok lv3 hcut3 (hft.take n2).right (by omega) (by rw [List.length_take]; have := Hm.out; omega)
      have hl33 := wok3.last
      have ho33 := wok3.ops
      have wok4 := write_ok wok3.live (by rw [wok3.cut]; exact hcut3) (hft.drop n2).right (by omega) (by rw [List.length_take] at ho33; rw [List.length_drop]; have := Hm.out; omega)
      have lvA := wok1.live
      have lvB := wok2.live
      have lvC := wok4.live
      rw [updB_reverse hft hzl, List.length_reverse] at lvB
      rw [updB_cut hft.len] at lvC
      have hzr : ∀ z ∈ bz.reverse, -9223372036854775808 ≤ z ∧ z ≤ 9223372036854775807 := fun z hz => hzi z (List.mem_reverse.1 hz)
      have hzt : ∀ z ∈ bz.take n2, -9223372036854775808 ≤ z ∧ z ≤ 9223372036854775807 := fun z hz => hzi z (List.mem_of_mem_take hz)
      have hzd : ∀ z ∈ bz.drop n2, -9223372036854775808 ≤ z ∧ z ≤ 9223372036854775807 := fun z hz => hzi z (List.mem_of_mem_drop hz)
      have hkt := hkeep.imp (Q := fun w => IsI w (.slice au n2 cu) (bz.take n2) ∧ IsBs w (.slice av n2 cv) (bl.take n2)) (fun w h => ⟨h.1.front n2 (by have := Hm.out; omega), h.2.1.front n2 (by have := Hlen.out; omega)⟩)
      have hkd := hkeep.imp (Q := fun w => IsI w (.slice (cutA au cu n2) (m - n2) (cu - n2)) (bz.drop n2) ∧ IsBs w (.slice (cutA av cv n2) (m - n2) (cv - n2)) (bl.drop n2)) (fun w h => ⟨h.1.cut n2 (by have := Hm.out; omega), h.2.1.cut n2 (by have := Hlen.out; omega)⟩)
      have hw1 := jwrite_any wr F1 p1 J1 jtr.a.jat jtr.a.nib (by omega) _ bz (fun w' ht => (hkeep.turned ht hJ1).now.1) _ bl (fun w' ht => (hkeep.turned ht hJ1).now.2.1) hzi (by omega) (by rw [lv1.hseq]; decide) (by rw [lv1.hseq]; decide)
      rw [wok1.err] at hw1
      go_wp2_with fail
      refine hpk.mono ?_
      rintro e w1 ⟨rfl, rfl⟩
      clear hpk hn2 hx hy hb hi
      go_wp2_with fail
      refine hw1.mono ?_
      rintro e W9 ⟨rfl, j9, t9⟩
      have jt9 := jtr.turn1 j9 t9
      have hk9 := hkeep.turned t9 hJ1
      have ht9 := hkt.turned t9 hJ1
      have hd9 := hkd.turned t9 hJ1
      clear hw1 j9 t9 jtr hkeep hkt hkd
      have hw2 := jwrite_any W9 F2 p2 J2 jt9.b.jat jt9.b.nib (by omega) _ bz.reverse (fun w' ht => (hk9.turned ht hJ2).now.2.2.1) _ bl.reverse (fun w' ht => (hk9.turned ht hJ2).now.2.2.2) hzr (by omega) (by rw [lv2.hseq]; decide) (by rw [lv2.hseq]; decide)
      rw [wok2.err] at hw2
      go_wp2_with fail
      refine hw2.mono ?_
      rintro e W10 ⟨rfl, j10, t10⟩
      have jt10 := jt9.turn2 j10 t10
      have ht10 := (ht9.turned t10 hJ2).drew
      have hd10 := (hd9.turned t10 hJ2).drew
      clear hw2 j10 t10 jt9 hk9 ht9 hd9
      have jt11 := jt10.step (Below.refl _ _).drew
      have hn2c : n2 ≤ cu := by omega
      have hn2v : n2 ≤ cv := by omega
      go_wp2_with fail
      refine wp_region_still_tail 7 (by kernel_rfl) (by kernel_rfl) ?_
      simp only [List.take_succ_cons, List.take_zero, List.drop_succ_cons, List.drop_zero]
      change wpStill _ _ W10.drew (fun a' => wpList _ _ _ _ a' W10.drew) _ _
      generalize W10.drew = W11 at *
      iterate 7 still_step
      refine wpStill_nil ?_
      go_wp2_with fail
      have hw3 := jwrite_any W11 F3 p3 J3_ jt11.c.jat jt11.c.nib (by omega) _ (bz.take n2) (fun w' ht => (ht10.turned ht hJ3).now.1) _ (bl.take n2) (fun w' ht => (ht10.turned ht hJ3).now.2) hzt (by omega) (by rw [lv3.hseq]; decide) (by rw [lv3.hseq]; decide)
      rw [wok3.err] at hw3
      refine hw3.mono ?_
      rintro e W12 ⟨rfl, j12, t12⟩
      have jt12 := jt11.turn3 j12 t12
      have hd12 := (hd10.turned t12 hJ3).drew
      clear hw3 j12 t12 jt11 ht10 hd10
      have jt13 := jt12.step (Below.refl _ _).drew
      go_wp2_with fail
      refine wp_region_still_tail 7 (by kernel_rfl) (by kernel_rfl) ?_
      simp only [List.take_succ_cons, List.take_zero, List.drop_succ_cons, List.drop_zero]
      change wpStill _ _ W12.drew (fun a' => wpList _ _ _ _ a' W12.drew) _ _
      generalize W12.drew = W13 at *
      iterate 7 still_step
      rw [show (if cu = n2 then au else Option.map (fun x => x.add n2) au) = cutA au cu n2 from rfl, show (if cv = n2 then av else Option.map (fun x => x.add n2) av) = cutA av cv n2 from rfl]
      refine wpStill_nil ?_
      go_wp2_with fail
      have hsq3 := wok3.live.hseq
      have hw4 := jwrite_any W13 F3 p3 _ jt13.c.jat jt13.c.nib (by rw [wok3.live.hn]; omega) _ (bz.drop n2) (fun w' ht => (hd12.turned ht hJ3).now.1) _ (bl.drop n2) (fun w' ht => (hd12.turned ht hJ3).now.2) hzd (by omega) (by rw [hsq3]; split <;> decide) (by rw [hsq3]; split <;> decide)
      rw [wok4.err] at hw4
      refine hw4.mono ?_
      rintro e W14 ⟨rfl, j14, t14⟩
      have jt14 := jt13.turn3 j14 t14
      clear hw4 j14 t14 jt13 hd12
      have hA1 := lvA.hseq
      have hB1 := lvB.hseq
      have hA2 := lvA.hn
      have hB2 := lvB.hn
      have hC2 := lvC.hn
      have hA3 := lvA.blocks
      have HA := Lib.hid lvA
      have HB := Lib.hid lvB
      have HCC := Lib.hid lvC
      obtain ⟨hrow, heach⟩ := lvA.rows
      clear wok1 wok2 wok3 wok4 lvA lvB lvC hl33 ho33 hn1' hn2' hn3' hzl hsq3 hzr hzt hzd
      rw [← Hm.out] at hA1 hB1
      generalize (J1.write bz bl).2 = K1 at *
      generalize (J2.write bz.reverse bl.reverse).2 = K2 at *
      generalize ((J3_.write (bz.take n2) (bl.take n2)).2.write (bz.drop n2) (bl.drop n2)).2 = K3 at *
      generalize updB (zeroB n) bz bl = BB at *
      have hq1 := seq_any W14 F1 p1 K1 jt14.a.jat
      have hq2 := seq_any W14 F2 p2 K2 jt14.b.jat
      rw [hA1] at hq1
      rw [hB1] at hq2
      generalize (if m = 0 then (0 : Int) else 0 + 1) = sq at *
      clear hA1 hB1
      go_wp2_with fail
      refine hq1.mono ?_
      rintro e w1 ⟨rfl, rfl⟩
      go_wp2_with fail
      refine hq2.mono ?_
      rintro e w1 ⟨rfl, rfl⟩
      clear hq1 hq2
      have hn1 : K1.D.n = n := hA2
      have hnb8 : (n - 2) / 2 ≤ 8191 := by omega
      generalize hnb : (n - 2) / 2 = nb at *
      have Hnb := Lib.hid hnb
      clear hnb
      go_wp2_with fail
      go_loopw [27] (fun x wr => ∃ i : Nat, i ≤ nb ∧ x = .int .i64 (i : Int) ∧ J3 g0 w wr F1 p1 K1 F2 p2 K2 F3 p3 K3) (fun x _ => nb - (intOf x).toNat)
      case atStart => exact ⟨0, Nat.zero_le _, rfl, jt14⟩
      case round =>
        obtain ⟨i, hi, rfl, jt⟩ := hrel
        clear jt14
        have hbk := blocks_any wr F1 p1 K1 jt.a.jat (by omega)
        rw [hA3] at hbk
        go_wp2_with fail
        refine hbk.mono ?_
        rintro e w1 ⟨rfl, rfl⟩
        clear hbk
        by_cases hlt : i < nb
        · have hd : decide ((i : Int) < (nb : Int)) = true := decide_eq_true (by omega)
          have hbb : BB[i]? = some BB[i] := List.getElem?_eq_getElem (by omega)
          have hr1 := read_live HA.out (by rw [Hnb.out]; exact hlt) trivial hbb
          have hr2 := read_live HB.out (by rw [Hnb.out]; exact hlt) trivial hbb
          have hr3 := read_live HCC.out (by rw [Hnb.out]; exact hlt) trivial hbb
          have hb112 := heach _ (List.getElem_mem (show i < BB.length by omega))
          clear hbb
          generalize BB[i] = b at *
          have hd1 := jread_any wr F1 p1 K1 jt.a.jat jt.a.nib (by omega) (i : Int) (by omega) (by omega)
          rw [hr1] at hd1
          go_wp2_with fail
          refine hd1.mono ?_
          rintro e w2 ⟨ux, rfl, hx2, j2, t2⟩
          have jt2 := jt.turn1 j2 t2
          have hlw := jt.lt
          have hsz2 := t2.size
          clear hd1 hr1 j2 t2
          have hd2 := jread_any w2 F2 p2 K2 jt2.b.jat jt2.b.nib (by omega) (i : Int) (by omega) (by omega)
          rw [hr2] at hd2
          go_wp2_with fail
          refine hd2.mono ?_
          rintro e w3 ⟨uy, rfl, hy3, j3, t3⟩
          have jt3 := jt2.turn2 j3 t3
          have hx3 := hx2.turned t3 (fun k hk => hlw k (.inr (.inl hk)))
          have hsz3 := t3.size
          clear hd2 hr2 j3 t3 jt2 hx2
          have hd3 := jread_any w3 F3 p3 K3 jt3.c.jat jt3.c.nib (by omega) (i : Int) (by omega) (by omega)
          rw [hr3] at hd3
          go_wp2_with fail
          refine hd3.mono ?_
          rintro e w4 ⟨uz, rfl, hz4, j4, t4⟩
          have jt4 := jt3.turn3 j4 t4
          have hx4 := (hx3.turned t4 (fun k hk => hlw k (.inr (.inr hk)))).now
          have hy4 := (hy3.turned t4 (fun k hk => Nat.lt_of_lt_of_le (hlw k (.inr (.inr hk))) hsz2)).now
          have hz4 := hz4.now
          clear hd3 hr3 j4 t4 jt3 hx3 hy3 jt
          have s1 := run_str (P := Tryd.prog) hx4 36 9 5 Tryd.underlying36 Tryd.underlying5 Tryd.underlying9
          have s2 := run_str (P := Tryd.prog) hy4 36 9 5 Tryd.underlying36 Tryd.underlying5 Tryd.underlying9
          have s3 := run_str (P := Tryd.prog) hz4 36 9 5 Tryd.underlying36 Tryd.underlying5 Tryd.underlying9
          obtain ⟨xa, xc, hxe, _, _⟩ := hx4.form
          obtain ⟨ya, yc, hye, _, _⟩ := hy4.form
          obtain ⟨za, zc, hze, _, _⟩ := hz4.form
          rw [hb112] at hxe hye hze
          subst hxe hye hze
          clear hx4 hy4 hz4 hsz2 hsz3 hlw
          go_wp2_with fail
          go_roundw
          case rel => exact ⟨i + 1, by omega, by go_num, jt4⟩
          case measure => simp [intOf]; omega
        · obtain rfl : i = nb := by omega
          have hdz : decide ((i : Int) < (i : Int)) = false := by simp
          go_wp2_with fail
          go_ret
          rw [Hg0.out]
          exact ⟨rfl, jt.a.below⟩
end Go.Proofs.YtoonlihacbbfdaaDoor

/- The card of JournalOrders: for every input the law answers true, and what came in reads as it did. -/
set_option linter.unusedVariables false
set_option linter.unusedSimpArgs false
set_option maxRecDepth 100000
namespace Go.Proofs.YtoonlihacbbfdaaDoor.cardJournalOrders
open Go.ChangeShapes Go.WideShapes Go.ChangeAt Go.RowKit Go.Deep
open Go.ChangeMaps (open_string shut_string)

theorem gTab : Tryd.prog.globalNamed "usance/wire.nibbles" = some 0 := by kernel_rfl
theorem gTabType : (Tryd.prog.globals[0]?).map (·.type) = some 106 := by kernel_rfl
theorem cellsTab : Tryd.prog.cellsOf 106 = 16 := by kernel_rfl
theorem cellsU32 : Tryd.prog.cellsOf 100 = 1 := by kernel_rfl
/-- what the row lists: the table of the sum -/
theorem table {W : World} (h : laidMetH Tryd.prog Rows.journalOrdersRow.laid W) : Nib W := by
  have ht : Lib.TabIs Tryd.prog W "usance/wire.nibbles" .u32 [0, 498536548, 997073096, 651767980, 1994146192, 1802195444, 1303535960, 1342533948, 3988292384, 4027552580, 3604390888, 3412177804, 2607071920, 2262029012, 2685067896, 3183342108] :=
    Lib.tabIs_of_head (rest := []) gTab gTabType Tryd.underlying106 Tryd.underlying100 cellsU32 cellsTab h
  intro i hi
  rw [ht.cell gTab i (by simpa using hi)]
  have e : ∀ i : Fin 16, ([0, 498536548, 997073096, 651767980, 1994146192, 1802195444, 1303535960, 1342533948, 3988292384, 4027552580, 3604390888, 3412177804, 2607071920, 2262029012, 2685067896, 3183342108] : List Int).getD i.val 0 = ((UsCrc.nib.getD i.val 0 : Nat) : Int) := by decide
  rw [e ⟨i, hi⟩]

theorem contract (H : Type) (enc : TypeId × Value → H) (W : World) (base : Nat) (args : Array Value) (ds gs : List (DataW H)) (before : List MemPlace)
    (hval : ∀ (j : Nat) t v, Tryd.f3.params[j]? = some t → args[j]? = some v → Value.okWide Tryd.prog W .any base t v)
    (hW : DataW.Whole enc Tryd.prog Tryd.f3.params.toList Rows.journalOrdersSpec.vars false W args.toList ds gs before) (hL : laidMetH Tryd.prog Rows.journalOrdersRow.laid W)
    (hsz : (DataW.weightsEach Tryd.prog (Tryd.f3.params.toList ++ (OpenSpec.ofChange Rows.journalOrdersSpec).bare.plain.varTypes Tryd.prog) (ds ++ gs)).all (· ≤ reachBytes) = true) :
    Calls Tryd.prog 3 args W fun e W' => ∃ v, e = .returned v ∧ Rows.journalOrdersSpec.post enc Tryd.prog Tryd.f3 false true false false W args v W' := by
  have hW' := hW
  obtain ⟨p, q, hA0, hV, rfl, hfz, hnd⟩ := hW
  have hA : DataW.TrodAll enc Tryd.prog W 0 (fun _ => true) true Tryd.f3.params.toList args.toList ds p := hA0
  rw [Tryd.params3] at hA hval hsz
  obtain ⟨v0, vs0, d0, ds0, p0, q0, hargs, rfl, rfl, h0, r0⟩ := trodAll_cons hA
  obtain ⟨v1, vs1, d1, ds1, p1, q1, rfl, rfl, rfl, h1, r1⟩ := trodAll_cons r0
  obtain ⟨v2, vs2, d2, ds2, p2, q2, rfl, rfl, rfl, h2, r2⟩ := trodAll_cons r1
  obtain ⟨rfl, rfl, rfl⟩ := trodAll_nil r2
  obtain rfl : args = #[v0, v1, v2] := by cases args; simp_all
  obtain ⟨rfl, rfl⟩ := trodVars_none hV
  have k0 := h0
  have lt0 : ∀ x ∈ p0, x.block < W.heap.size := by obtain ⟨m, hm⟩ := k0; exact DataW.trod_lt m _ _ _ hm
  have k1 := h1
  have lt1 : ∀ x ∈ p1, x.block < W.heap.size := by obtain ⟨m, hm⟩ := k1; exact DataW.trod_lt m _ _ _ hm
  have k2 := h2
  have lt2 : ∀ x ∈ p2, x.block < W.heap.size := by obtain ⟨m, hm⟩ := k2; exact DataW.trod_lt m _ _ _ hm
  simp only [List.append_nil, List.nil_append, List.cons_append] at hsz
  obtain ⟨x0, rfl, rfl, rfl, w0⟩ := open_int Tryd.underlying3 (hval 0 3 v0 rfl rfl) h0
  have b0 := wf_int64 w0
  obtain ⟨cs1, x1, rfl, hx1⟩ := open_agg rdOpJ Tryd.underlying24 (hval 1 24 v1 rfl rfl) h1 (light_arg (j := 1) hsz rfl rfl)
  obtain ⟨x2, rfl, rfl, rfl, w2⟩ := open_int Tryd.underlying3 (hval 2 3 v2 rfl rfl) h2
  have b2 := wf_int64 w2
  have hnib := table hL
  clear hA0
  obtain ⟨c0, c1, c2, c3, he, ⟨e0, a0⟩, ⟨u1, e1, g1⟩, e2, ⟨e3, a3⟩⟩ := hx1
  simp only [List.cons.injEq, and_true] at e0 e1 e3
  obtain rfl : c2 = .int .u8 (x1.by_.toNat : Int) := by simpa using (show [c2] = _ from e2)
  subst e0 e1 e3
  obtain rfl : cs1 = _ := by have := congrArg List.toArray he; simpa using this
  refine (orders_walk W hnib x0 x1.kind x1.raw c1 x1.by_ x1.at_ x2 g1.isI.1 b0.1 b0.2 g1.isI.2 b2.1 b2.2).mono fun e W' ⟨he, bel⟩ => ?_
  subst he
  exact ⟨_, rfl, _, _, _, [], _, [], hW', trodAll_mk1 (shut_bool Tryd.underlying4 _), (trodAll_cons_mk (Below.trod laidOut (by kernel_rfl) (of_decide_eq_true (by kernel_rfl)) k0 bel lt0) (trodAll_cons_mk (Below.trod laidOut (by kernel_rfl) (of_decide_eq_true (by kernel_rfl)) k1 bel lt1) (trodAll_cons_mk (Below.trod laidOut (by kernel_rfl) (of_decide_eq_true (by kernel_rfl)) k2 bel lt2) trodAll_mk0))), rfl, bel.frame _, fun h => by cases h⟩

/-- a world for the witness: the table as its initialiser lays it -/
noncomputable def laidWorld (os : Os) : World :=
  { World.holding Tryd.prog os ⟨#[], #[], []⟩ with heap := (World.holding Tryd.prog os ⟨#[], #[], []⟩).heap.modify 0 fun
      | .cells _ t frozen => .cells #[.int .u32 0, .int .u32 498536548, .int .u32 997073096, .int .u32 651767980, .int .u32 1994146192, .int .u32 1802195444, .int .u32 1303535960, .int .u32 1342533948, .int .u32 3988292384, .int .u32 4027552580, .int .u32 3604390888, .int .u32 3412177804, .int .u32 2607071920, .int .u32 2262029012, .int .u32 2685067896, .int .u32 3183342108] t frozen
      | o => o }
theorem laid_met (os : Os) : laidMet Tryd.prog Rows.journalOrdersRow.laid ((laidWorld os).forCall (fun _ _ => 0) ⟨#[], #[.int .i64 0, .agg #[.int .i64 0, .slice none 0 0, .int .u8 0, .int .i64 0], .int .i64 0], []⟩).memory :=
  laidMet_of_run' 8 (by kernel_rfl) (by kernel_rfl)
theorem reads (os : Os) {H : Type} (enc : TypeId × Value → H) : ∃ places, DataW.whole enc Tryd.prog ((laidWorld os).forCall (fun _ _ => 0) ⟨#[], #[.int .i64 0, .agg #[.int .i64 0, .slice none 0 0, .int .u8 0, .int .i64 0], .int .i64 0], []⟩).memory Tryd.f3.params.toList Rows.journalOrdersSpec.vars false (#[.int .i64 0, .agg #[.int .i64 0, .slice none 0 0, .int .u8 0, .int .i64 0], .int .i64 0] : Array Value).toList 8 = some ([.lit (.int .i64 0), .agg [.lit (.int .i64 0), .nil, .lit (.int .u8 0), .lit (.int .i64 0)], .lit (.int .i64 0)], [], places) :=
  ⟨[], by kernel_rfl⟩

theorem lifted (os : Os) (started : os.Started) (H : Type) (enc : TypeId × Value → H) (F : Stop.Interp) :
    ReturnsInHanded {} Tryd.checked os 3 .any ((OpenSpec.ofChange Rows.journalOrdersSpec).preRow enc Tryd.prog Tryd.f3 Rows.journalOrdersRow.domain false Rows.journalOrdersRow.laid) (((OpenSpec.ofChange Rows.journalOrdersSpec).at F).post enc Tryd.prog Tryd.f3 false true false false) := by
  obtain ⟨places, hx⟩ := reads os enc
  refine returnsInHanded_of_row (C := Tryd.checked) (s := OpenSpec.ofChange Rows.journalOrdersSpec) own started (by kernel_rfl) Tryd.func3
    (witness_row_at (enc := enc) (C := Tryd.checked) false (laidWorld os) #[.int .i64 0, .agg #[.int .i64 0, .slice none 0 0, .int .u8 0, .int .i64 0], .int .i64 0] rfl (by kernel_rfl) (by kernel_rfl) (by kernel_rfl)
      (OpenSpec.preRow_of_cond 8 hx (by kernel_rfl) (fun k hk => by cases hk) (by kernel_rfl) (laid_met os))) ?_
  intro W base args ds gs before hval hW _ hcond hsz hL _ _
  exact contract H enc W base args ds gs before hval hW hL hsz

theorem said : Rows.JournalOrdersSaid :=
  OpenClaim.holds_of_cond 3 Tryd.f3 rfl rfl rfl rfl rfl rfl rfl ⟨rfl, rfl, rfl, rfl, rfl⟩ rfl rfl rfl rfl rfl (by kernel_rfl) Tryd.func3 (by kernel_rfl)
    (of_decide_eq_true (by kernel_rfl)) (by unfold Func.isWrapper; first | (rw [if_pos (by decide +kernel)]; kernel_rfl) | (rw [if_neg (by decide +kernel)]; exact ⟨rfl, rfl⟩))
    (fun os started H enc _ F => by rw [OpenClaim.pre_eq_preRow]; exact lifted os started H enc F)

theorem plain (f : FuncId) (fn : Func) (hf : Tryd.pinned.checked.prog.funcNamed "usance/usancelaw06.JournalOrders" = some f) (hfn : Tryd.pinned.checked.prog.funcs[f]? = some fn) :
    false = Tryd.pinned.checked.prog.looks [] ∧ ∀ (j : Nat) t, fn.params[j]? = some t → Tryd.pinned.checked.prog.wantsStandIn t = false := by
  obtain rfl : f = 3 := Option.some.inj ((show Tryd.prog.funcNamed "usance/usancelaw06.JournalOrders" = some 3 by kernel_rfl).symm.trans hf) |>.symm
  obtain rfl : fn = Tryd.f3 := (Option.some.inj (Tryd.func3.symm.trans hfn)).symm
  refine ⟨by kernel_rfl, fun j t ht => ?_⟩
  rw [Tryd.params3] at ht
  have hm := Array.mem_of_getElem? ht
  simp only [List.mem_toArray, List.mem_cons, List.not_mem_nil, or_false] at hm
  rcases hm with rfl | rfl | rfl
  · exact (show Tryd.prog.wantsStandIn 3 = false by kernel_rfl)
  · exact (show Tryd.prog.wantsStandIn 24 = false by kernel_rfl)
  · exact (show Tryd.prog.wantsStandIn 3 = false by kernel_rfl)

/-- THE CARD -/
theorem proved : Rows.JournalOrdersCardSaid :=
  Claim7.holds_tied_plain_at .later [] _ _ _ _ said (fun _ h => by cases h) (by kernel_rfl) (fun _ h => by cases h) journalOrders_row_tie rfl ⟨rfl, rfl⟩ (by kernel_rfl) rfl plain (by kernel_rfl)
#print axioms proved
end Go.Proofs.YtoonlihacbbfdaaDoor.cardJournalOrders
