/- Contracts of the functions that the statements of this seat reach, part 4: each says what the call answers and what it leaves of the memory. -/
import Derived.Test.YtbmmcaoifkboiaaGreatDoorBase3
import Derived.Deep.Onto
import Derived.LoopTactic
import Derived.Deep.OwnRows
import Derived.StillTailTactics
import Derived.Test.YtbmmcaoifkboiaaGreatDoorRows
import Derived.Deep.Matrix
import Derived.Deep.Slices
import Derived.Deep.Fields
import Derived.ProofKit
import Derived.OpenShut
import Derived.Deep.DeepHandedRow
import Derived.Lib.LaidTab
import Derived.SizedLaws
/- pager.Open. -/
set_option linter.unusedVariables false
set_option linter.unusedSimpArgs false
set_option maxRecDepth 100000
namespace Go.Proofs.YtbmmcaoifkboiaaGreatDoor
open Go.RowKit

theorem run_build_pager (w : World) (p g n c M : Nat) (a2 : Option Addr) (n2 c2 : Nat) (r r2 : Int) : (Instr.build 77 #[(0, jptr p), (1, .agg #[.slice (some ⟨g, 0, none⟩) n c, .int .i64 r]), (2, .agg #[.slice a2 n2 c2, .int .i64 r2]), (3, .map (some M))]).run Tryz.prog w =
    .ok (.agg #[jptr p, .slice (some ⟨g, 0, none⟩) n c, .int .i64 r, .slice a2 n2 c2, .int .i64 r2, .map (some M), .bool false, .int .i64 0]) w := by kernel_rfl
theorem Jn.read_len2 {w : World} {F : Ft} {p : Nat} {J : Jn} (h : JAt w F p J) {a : Int} (h0 : (J.read a).2.1 = 0) : (J.read a).1.length = 112 := by
  have hf : ∀ k, k < J.D.n → (fbytes (sec J.D.now k)).length = 112 := fun k hk => by
    have := sec_length h.disk.ok.now hk
    simp [fbytes, this]
  unfold Jn.read at h0 ⊢
  split at h0
  · rename_i h1
    exact absurd h0 h1
  · rename_i h1
    rw [if_neg h1]
    split at h0
    · cases h0
    · rename_i h2
      rw [if_neg h2]
      split at h0
      · cases h0
      · rename_i h3
        rw [if_neg h3]
        split at h0
        · rename_i h4
          rw [if_pos h4]
          exact hf _ (Dk.home_lt (by omega))
        · cases h0
theorem Jn.reads_len2 {w : World} {F : Ft} {p : Nat} {J : Jn} (h : JAt w F p J) {a : Int} : ∀ {k : Nat}, (J.reads a k).2.1 = 0 → (J.reads a k).1.length = 112 * k
  | 0, _ => rfl
  | k + 1, h0 => by
    have h1 : (J.reads a k).2.1 = 0 := by
      refine Decidable.byContradiction fun e => ?_
      rw [Jn.reads_err e (k + 1) (by omega)] at h0
      exact e h0
    have h2 : (J.read (a + k)).2.1 = 0 := by
      refine Decidable.byContradiction fun e => ?_
      rw [Jn.reads_stop h1 e] at h0
      exact e h0
    have ih := Jn.reads_len2 h h1
    have h3 := Jn.read_len2 h h2
    rw [Jn.reads_next h1 h2, List.length_append, ih, h3]
    omega
/-- what Open leaves -/
def POpenEnd (w : World) (F : Ft) (p : Nat) (J : Jn) (e : Ending) (w' : World) : Prop :=
  (∀ c J', J.popen = (c, J', none) → e = .returned (.tuple #[.pointer none, .int .i64 c]) ∧ JAt w' F p J') ∧
  (∀ c J' P, J.popen = (c, J', some P) → ∃ f, e = .returned (.tuple #[qptr f.q, .int .i64 c]) ∧ PgAt w' F p f P ∧ (∀ k, PT f k → w.heap.size ≤ k)) ∧ Turned (JT F p) w w'
theorem POpenEnd.bad {w : World} {F : Ft} {p : Nat} {J J' : Jn} {c : Int} {w' : World} (h : J.popen = (c, J', none)) (hj : JAt w' F p J') (ht : Turned (JT F p) w w') : POpenEnd w F p J (.returned (.tuple #[.pointer none, .int .i64 c])) w' :=
  ⟨fun c2 J2 e => by rw [h] at e; cases e; exact ⟨rfl, hj⟩, fun c2 J2 P e => (by rw [h] at e; cases e), ht⟩
theorem POpenEnd.good {w : World} {F : Ft} {p : Nat} {J J' : Jn} {P : Pg} {f : Pf} {c : Int} {w' : World} (h : J.popen = (c, J', some P)) (hp : PgAt w' F p f P) (hf : ∀ k, PT f k → w.heap.size ≤ k) (ht : Turned (JT F p) w w') : POpenEnd w F p J (.returned (.tuple #[qptr f.q, .int .i64 c])) w' :=
  ⟨fun c2 J2 e => (by rw [h] at e; cases e), fun c2 J2 P e => (by rw [h] at e; cases e; exact ⟨f, rfl, hp, hf⟩), ht⟩
theorem PgAt.opened {w W : World} {F : Ft} {p : Nat} {f : Pf} {P : Pg} (hj : JAt w F p P.J) (hn : Nib w) (hb : Below w.heap.size w W) (hkv : f.kv = []) (hown : P.own = []) (hco : P.off = P.off) (head : W.heap[f.q]? = some (pgRow p f P)) (now : BoR W f.gn f.cn P.now) (was : BoR W f.gw f.cw P.was) (tab : OTab W f.M []) (ok : Pok P)
    (h1 : w.heap.size ≤ f.q) (h2 : w.heap.size ≤ f.gn) (h3 : w.heap.size ≤ f.gw) (h4 : w.heap.size ≤ f.M) (sep : f.gn ≠ f.gw) : PgAt W F p f P ∧ ∀ k, PT f k → w.heap.size ≤ k := by
  have hPT : ∀ k, PT f k → w.heap.size ≤ k ∧ k < W.heap.size := by
    rintro k (e | e | e | e | ⟨x, hx, _⟩)
    · rw [e]; exact ⟨h1, lt_of_heap head⟩
    · rw [e]; exact ⟨h2, now.lt⟩
    · rw [e]; exact ⟨h3, was.lt⟩
    · rw [e]; exact ⟨h4, tab.lt⟩
    · rw [hkv] at hx; cases hx
  refine ⟨⟨hj.below hb, hn.below hb, head, now, was, by rw [hkv]; exact tab, by rw [hkv, hown]; trivial, ok, fun k hk => ?_, sep⟩, fun k hk => (hPT k hk).1⟩
  have := hPT k hk
  refine ⟨fun e => ?_, fun e => ?_, this.2⟩
  · have := hj.lt e
    omega
  · have := nib_lt hn
    omega
theorem planOk_spec {b : List UInt8} {n : Nat} (h : planOk b n = true) : rootOf b < (n : Int) := by
  simp only [planOk, Bool.and_eq_true, decide_eq_true_eq] at h
  exact h.1.1
theorem rootOf_ge (b : List UInt8) : -1 ≤ rootOf b := by unfold rootOf; omega
set_option maxHeartbeats 16000000 in
theorem popen_any (w : World) (F : Ft) (p : Nat) (J : Jn) (h : JAt w F p J) (hn : Nib w) (h22 : 22 ≤ J.D.n) : Calls Tryz.prog 18 #[jptr p] w (POpenEnd w F p J) := by
  have HE := Lib.hid (show J.popen = if (J.reads 0 2).2.1 ≠ 0 then ((J.reads 0 2).2.1, (J.reads 0 2).2.2, none) else if planOk (J.reads 0 2).1 (J.reads 0 2).2.2.pages = false then (82, (J.reads 0 2).2.2, none)
    else (0, (J.reads 0 2).2.2, some ⟨(J.reads 0 2).2.2, takenOf (J.reads 0 2).1 (J.reads 0 2).2.2.pages, rootOf (J.reads 0 2).1, takenOf (J.reads 0 2).1 (J.reads 0 2).2.2.pages, rootOf (J.reads 0 2).1, [], false, 0⟩) from rfl)
  have HH := Lib.hid h
  have HN := Lib.hid hn
  clear h hn
  go_enter Tryz.func18, Tryz.ntmps18
  go_wp2_with fail
  go_loopw [4, 12] (fun b x wr => ∃ k : Nat, k ≤ 2 ∧ x = .int .i64 (k : Int) ∧ (J.reads 0 k).2.1 = 0 ∧ Mine 5 w.heap.size wr b (J.reads 0 k).1 ∧ JAt wr F p J ∧ Nib wr ∧ Turned (JT F p) w wr) (fun _ x _ => 2 - (intOf x).toNat)
  case atStart => exact ⟨0, Nat.zero_le _, rfl, rfl, Mine.nil _ _ _, HH.out, HN.out, Turned.refl _ _⟩
  case round =>
    obtain ⟨k, hk, rfl, hok, hm, hj, hnb, ht⟩ := hrel
    obtain ⟨a, c, rfl, _, _⟩ := hm.isB.form
    have hsz := ht.size
    by_cases hlt : k < 2
    · have hd : decide ((k : Int) < 2) = true := decide_eq_true (by omega)
      have HJ := Lib.hid (jread_any wr F p J hj hnb (by omega) (k : Int) (by omega) (by omega))
      have HM := Lib.hid hm
      have HT := Lib.hid ht
      have HNB := Lib.hid hnb
      have HJJ := Lib.hid hj
      have HOK := Lib.hid hok
      have hlen := Jn.reads_len J 0 k
      clear hj hnb ht hm hok
      go_wp2_with fail
      refine HJ.out.mono ?_
      rintro e w4 ⟨v, rfl, hv, hj4, ht4⟩
      have hm4 := HM.out.keep (w' := w4) fun k h1 h2 => ht4.block k h2 fun e => by
        have := HH.out.lt e
        omega
      obtain ⟨va, vc, rfl, _, _⟩ := hv.now.form
      have hlen2 := Jn.read_len J (k : Int)
      have hk0 : (0 : Int) + (k : Int) = (k : Int) := by omega
      by_cases hz : (J.read (k : Int)).2.1 = 0
      · have hd2 : ((J.read (k : Int)).2.1 != 0) = false := by simpa using hz
        have HN2 := Lib.hid (Jn.reads_next HOK.out (by rw [hk0]; exact hz))
        rw [hk0] at HN2
        have HJ4 : Hid (JAt w4 F p J) := Lib.hid (by rw [Jn.read_ok hz] at hj4; exact hj4)
        have HNB4 := Lib.hid (HNB.out.turned HJJ.out ht4)
        have HT4 := Lib.hid (HT.out.trans ht4)
        have HB := Lib.hid hv.now
        have HM4 := Lib.hid hm4
        clear hj4 ht4 hv hm4 hz hk0
        generalize (J.read (k : Int)) = R at *
        generalize (J.reads 0 k) = L at *
        have hsz4 := HT4.out.size
        go_wp2_with (at_builtin; refine wpList_bytes rfl (.tmp 24) (.tmp 25) 44 rfl w.heap.size 5 info_byte Tryz.underlying44 _ L.1 rfl HM4.out _ R.1 rfl HB.out (by omega) hsz4 ?_)
        intro v' w6 hm6 _ hb6 _ _
        obtain ⟨a6, c6, rfl, _, _⟩ := hm6.isB.form
        have HM6 := Lib.hid hm6
        clear hm6
        go_wp2_with fail
        go_roundw
        case rel => exact ⟨k + 1, by omega, by go_num, by rw [HN2.out], by rw [HN2.out]; exact HM6.out, HJ4.out.keep fun k hk => hb6.block k (HH.out.lt hk), HNB4.out.of_turned (T := fun k => ¬ k < w.heap.size) ⟨hb6.os, hb6.tape, hb6.output, hb6.size, fun k _ hn => hb6.block k (Decidable.not_not.1 hn)⟩ (fun e => e (nib_lt HN.out)), HT4.out.on hb6⟩
        case measure => simp [intOf]; omega
      · have hd2 : ((J.read (k : Int)).2.1 != 0) = true := by simpa using hz
        have HN2 := Lib.hid (Jn.reads_stop HOK.out (by rw [hk0]; exact hz))
        rw [hk0] at HN2
        have HX : Hid (J.popen = ((J.read (k : Int)).2.1, (J.read (k : Int)).2.2, none)) := Lib.hid (by
          have h8 := Jn.reads_err (J := J) (a := 0) (k := k + 1) (by rw [HN2.out]; exact hz) 2 (by omega)
          rw [HE.out, h8, HN2.out, if_pos hz])
        have HT4 := Lib.hid (HT.out.trans ht4)
        have HJ4 := Lib.hid hj4
        clear hj4 ht4 hv hm4 hz hk0
        generalize (J.read (k : Int)) = R at *
        go_wp2_with fail
        go_ret2
        exact POpenEnd.bad HX.out HJ4.out HT4.out
    · obtain rfl : k = 2 := by omega
      have hl := Jn.reads_len2 hj hok
      have hpl := hj.pages_le
      have hpn : 0 < J.pages := by unfold Jn.pages Dk.blocks; omega
      obtain ⟨n, hN⟩ : ∃ n, n = J.pages := ⟨_, rfl⟩
      obtain ⟨L, hL⟩ : ∃ L, L = (J.reads 0 2).1 := ⟨_, rfl⟩
      have HX1 : Hid (planOk L n = false → J.popen = (82, J, none)) := Lib.hid fun e => by
        rw [HE.out, if_neg (by simp [hok]), Jn.reads_ok hok, ← hL, ← hN, if_pos e]
      have HX2 : Hid (planOk L n = true → J.popen = (0, J, some ⟨J, takenOf L n, rootOf L, takenOf L n, rootOf L, [], false, 0⟩)) := Lib.hid fun e => by
        rw [HE.out, if_neg (by simp [hok]), Jn.reads_ok hok, ← hL, ← hN, if_neg (by simp [e])]
      have HPO := Lib.hid (pagesOf_any wr F p J hj (by omega))
      rw [← hL] at hm hl ⊢
      rw [← hN] at HPO hpl hpn
      have hl2 : L.length = 224 := hl
      have HPD := Lib.hid (planned_any wr _ L n hm.isB hl2 hpl)
      have HNE := Lib.hid hN
      have HJ := Lib.hid hj
      have HNB := Lib.hid hnb
      have HT := Lib.hid ht
      rw [hok] at *
      clear hj hnb ht hm hl hl2 hok hN hL
      go_wp2_with (first | (go_at_call 60; refine HPO.out.mono ?_; rintro e w9 ⟨rfl, hw9⟩; rw [← hw9]; clear hw9 w9))
      refine HPD.out.mono ?_
      rintro e w5 ⟨u, rfl, hu, hb5⟩
      have htl := takenOf_length L n
      obtain ⟨g, c2, rfl, hg, hbo⟩ := hu.boR (by rw [htl]; exact hpn)
      rw [htl] at *
      have HBO := Lib.hid hbo
      have HB5 := Lib.hid hb5
      have HTL := Lib.hid htl
      obtain ⟨R, hR⟩ : ∃ R, R = rootOf L := ⟨_, rfl⟩
      rw [← hR]
      have HR := Lib.hid hR
      clear hu hbo hb5 htl hR
      cases hpo : planOk L n with
      | false =>
        have HX := Lib.hid (HX1.out hpo)
        go_wp2_with fail
        go_ret2
        have hb6 : Below wr.heap.size wr (w5.alloc (.cells #[.slice (some ⟨g, 0, none⟩) n c2, .int .i64 R] 73)) := HB5.out.trans ((Below.refl _ _).alloc HB5.out.size _)
        exact POpenEnd.bad HX.out (HJ.out.below hb6) (HT.out.trans (Turned.of_below hb6))
      | true =>
        have HX := Lib.hid (HX2.out hpo)
        have HSP := Lib.hid (planOk_spec hpo)
        clear hpo
        have hmm := fun w => run_makeMap (P := Tryz.prog) 75 w
        have hbu := fun w g' c' M => run_build_pager w p g' n c' M (some ⟨g, 0, none⟩) n c2 R R
        obtain ⟨W5, hW5⟩ : ∃ W5, W5 = w5.alloc (.cells #[.slice (some ⟨g, 0, none⟩) n c2, .int .i64 R] 73) := ⟨_, rfl⟩
        have hpl5 : W5.heap[w5.heap.size]? = some (planRow (.slice (some ⟨g, 0, none⟩) n c2) R) := by rw [hW5]; exact heap_alloc_new w5 _
        have hb55 : Below w5.heap.size w5 W5 := by rw [hW5]; exact (Below.refl _ _).alloc (Nat.le_refl _) _
        have HCL : Hid (∀ W, Below W5.heap.size W5 W → Calls Tryz.prog 37 #[.agg #[.slice (some ⟨g, 0, none⟩) n c2, .int .i64 R]] W fun e w' => ∃ u, e = .returned (.agg #[u, .int .i64 R]) ∧ MineO W.heap.size w' u (takenOf L n) ∧ Below W.heap.size W w') := Lib.hid fun W hW => by
          have hb := (HBO.out.keep (hb55.block _ HBO.out.lt)).keep (hW.block _ (Nat.lt_of_lt_of_le HBO.out.lt hb55.size))
          have := hb.mine 0 (Nat.zero_le _)
          rw [takenOf_length] at this
          exact pclone_any W 0 _ (takenOf L n) R this (by rw [takenOf_length]; omega)
        have HB55 := Lib.hid hb55
        have HW5 := Lib.hid hW5
        clear hb55 hW5
        go_upto_region 15 with fail
        rw [← HW5.out]
        clear HW5
        have hS0 : (fun W : World => W.heap[w5.heap.size]? = some (planRow (.slice (some ⟨g, 0, none⟩) n c2) R)) W5.drew := hpl5
        have hbW := (Below.refl W5.heap.size W5).drew
        refine wp_region_noPanic ?_
        refine wp_region_held_drew (S := (fun W : World => W.heap[w5.heap.size]? = some (planRow (.slice (some ⟨g, 0, none⟩) n c2) R))) (by kernel_rfl) hS0 (fun hH => ?_)
        generalize W5.drew = W5d at *
        refine take_at (i := 0) (v := ?_) rfl (by kernel_rfl) (by kernel_rfl) (by kernel_rfl) (fun _ _ _ h => h) (Or.inl ⟨by rfl, ?_⟩) hH ?_
        rotate_left
        · (intro w hSw; have hpc := plan_cells hSw; obtain ⟨q0, q1⟩ := hpc; go_simp; try with_reducible rfl)
        try simp only [Act.put, List.setIfInBounds_toArray, List.set_cons_zero, List.set_cons_succ]
        refine take_at (i := 1) (v := ?_) rfl (by kernel_rfl) (by kernel_rfl) (by kernel_rfl) (fun _ _ _ h => h) (Or.inl ⟨by rfl, ?_⟩) hH ?_
        rotate_left
        · (intro w hSw; have hpc := plan_cells hSw; obtain ⟨q0, q1⟩ := hpc; go_simp; try with_reducible rfl)
        try simp only [Act.put, List.setIfInBounds_toArray, List.set_cons_zero, List.set_cons_succ]
        refine take_at (i := 3) (v := ?_) rfl (by kernel_rfl) (by kernel_rfl) (by kernel_rfl) (fun _ _ _ h => h) (Or.inl ⟨by rfl, ?_⟩) hH ?_
        rotate_left
        · (intro w hSw; have hpc := plan_cells hSw; obtain ⟨q0, q1⟩ := hpc; go_simp; try with_reducible rfl)
        try simp only [Act.put, List.setIfInBounds_toArray, List.set_cons_zero, List.set_cons_succ]
        refine wpAnyH_ready (rs := [2, 4]) (by kernel_rfl) (by simp) ?_
        refine ready_at rfl (fun K hK => ?_) ?_
        · go_simp
          refine (HCL.out W5d hbW).mono ?_
          rintro e W3 ⟨u3, rfl, hm3, hb3⟩
          obtain ⟨g3, c3, rfl, hg3, hbo3⟩ := hm3.boR (by rw [takenOf_length]; exact hpn)
          rw [takenOf_length]
          have hHn := (hb3.block _ (lt_of_heap hH)).trans hH
          have hs3 := hbW.size
          replace hbW := hbW.trans (hb3.mono hbW.size)
          clear hH hm3 hb3
          go_wp2_with fail
          refine hK.out _ _ hHn (fun hH => ?_)
          clear hHn
          clear hK K
          try simp only [Act.put, List.setIfInBounds_toArray, List.set_cons_zero, List.set_cons_succ]
          refine wpAnyH_ready (rs := [4]) (by kernel_rfl) (by simp) ?_
          refine ready_at rfl (fun K hK => ?_) AllReadyH.nil
          go_simp
          have hb4 : Below W3.heap.size W3 (W3.alloc (.map #[] 0)) := (Below.refl _ _).alloc (Nat.le_refl _) _
          have htab := OTab.made W3
          have hs4 : W3.heap.size < (W3.alloc (.map #[] 0)).heap.size := by simp
          have hHn := (hb4.block _ (lt_of_heap hH)).trans hH
          have hs5 := hbW.size
          replace hbW := hbW.trans (hb4.mono hbW.size)
          have hg3n : g3 < W3.heap.size := hbo3.lt
          replace hbo3 := hbo3.keep (hb4.block _ hbo3.lt)
          clear hH hb4
          go_wp2_with fail
          generalize W3.alloc (.map #[] 0) = W4 at *
          generalize hM4 : W3.heap.size = M4 at *
          refine hK.out _ _ hHn (fun hH => ?_)
          clear hHn
          clear hK K
          try simp only [Act.put, List.setIfInBounds_toArray, List.set_cons_zero, List.set_cons_succ]
          refine take_at (i := 5) (v := ?_) rfl (by kernel_rfl) (by kernel_rfl) (by kernel_rfl) (fun _ _ _ h => h) (Or.inl ⟨by rfl, ?_⟩) hH ?_
          rotate_left
          · (intro w hSw; have hpc := plan_cells hSw; obtain ⟨q0, q1⟩ := hpc; go_simp; try with_reducible rfl)
          try simp only [Act.put, List.setIfInBounds_toArray, List.set_cons_zero, List.set_cons_succ]
          refine wpAnyH_ready (rs := [6]) (by kernel_rfl) (by simp) ?_
          refine ready_at rfl (fun K hK => ?_) AllReadyH.nil
          go_simp
          have hb6 : Below W4.heap.size W4 (W4.alloc (.cells #[jptr p, .slice (some ⟨g3, 0, none⟩) n c3, .int .i64 R, .slice (some ⟨g, 0, none⟩) n c2, .int .i64 R, .map (some M4), .bool false, .int .i64 0] 77)) := (Below.refl _ _).alloc (Nat.le_refl _) _
          have hq6 := heap_alloc_new W4 (.cells #[jptr p, .slice (some ⟨g3, 0, none⟩) n c3, .int .i64 R, .slice (some ⟨g, 0, none⟩) n c2, .int .i64 R, .map (some M4), .bool false, .int .i64 0] 77)
          have hs6 : W4.heap.size < (W4.alloc (.cells #[jptr p, .slice (some ⟨g3, 0, none⟩) n c3, .int .i64 R, .slice (some ⟨g, 0, none⟩) n c2, .int .i64 R, .map (some M4), .bool false, .int .i64 0] 77)).heap.size := by simp
          have hHn := (hb6.block _ (lt_of_heap hH)).trans hH
          have hlM : M4 < W4.heap.size := htab.lt
          have hl3 : g3 < W4.heap.size := hbo3.lt
          have hs7 := hbW.size
          replace htab := htab.keep (hb6.block _ htab.lt)
          replace hbo3 := hbo3.keep (hb6.block _ hbo3.lt)
          replace hbW := hbW.trans (hb6.mono hbW.size)
          have hne3 : g3 ≠ M4 := by omega
          clear hH hb6
          go_wp2_with fail
          generalize W4.alloc (.cells #[jptr p, .slice (some ⟨g3, 0, none⟩) n c3, .int .i64 R, .slice (some ⟨g, 0, none⟩) n c2, .int .i64 R, .map (some M4), .bool false, .int .i64 0] 77) = W6 at *
          generalize hq : W4.heap.size = q at *
          refine hK.out _ _ hHn (fun hH => ?_)
          clear hHn
          clear hK K
          try simp only [Act.put, List.setIfInBounds_toArray, List.set_cons_zero, List.set_cons_succ]
          refine take_at (i := 7) (v := ?_) rfl (by kernel_rfl) (by kernel_rfl) (by kernel_rfl) (fun _ _ _ h => h) (Or.inl ⟨by rfl, ?_⟩) hH ?_
          rotate_left
          · (intro w hSw; have hpc := plan_cells hSw; obtain ⟨q0, q1⟩ := hpc; go_simp; try with_reducible rfl)
          try simp only [Act.put, List.setIfInBounds_toArray, List.set_cons_zero, List.set_cons_succ]
          refine take_at (i := 8) (v := ?_) rfl (by kernel_rfl) (by kernel_rfl) (by kernel_rfl) (fun _ _ _ h => h) (Or.inl ⟨by rfl, ?_⟩) hH ?_
          rotate_left
          · (intro w hSw; have hpc := plan_cells hSw; obtain ⟨q0, q1⟩ := hpc; go_simp; try with_reducible rfl)
          try simp only [Act.put, List.setIfInBounds_toArray, List.set_cons_zero, List.set_cons_succ]
          refine wpAnyH_done (by kernel_rfl) ?_ _
          refine NoPanic.normal ?_
          clear hH
          have hgl := HBO.out.lt
          have hw1 := HB5.out.size
          have hw2 := HB55.out.size
          have hbo5 := (HBO.out.keep (HB55.out.block _ hgl)).keep (hbW.block _ (by omega))
          have hbb := HB5.out.trans ((HB55.out.trans (hbW.mono hw2)).mono hw1)
          have HPA := Lib.hid (PgAt.opened (f := ⟨q, g3, c3, g, c2, M4, []⟩) (P := ⟨J, takenOf L n, rootOf L, takenOf L n, rootOf L, [], false, 0⟩) HJ.out HNB.out hbb rfl rfl rfl (by simp only [pgRow, takenOf_length, ← HR.out]; exact hq6) hbo3 hbo5 htab ⟨by simp only [takenOf_length]; exact hpn, by simp only [takenOf_length]; exact hpl, rfl, rootOf_ge L, by simp only [takenOf_length]; exact HSP.out, rootOf_ge L, by simp only [takenOf_length]; exact HSP.out, fun x hx => (by cases hx), by simp only [takenOf_length]; exact HNE.out⟩ (by dsimp only; omega) (by dsimp only; omega) (by dsimp only; omega) (by dsimp only; omega) (by dsimp only; omega))
          have HT6 := Lib.hid (HT.out.trans (Turned.of_below hbb))
          clear hbo3 hbo5 htab hbW hbb hq6
          go_wp2_with fail
          go_ret2
          exact POpenEnd.good HX.out HPA.out.1 (fun k hk => Nat.le_trans hsz (HPA.out.2 k hk)) HT6.out
        refine ready_at rfl (fun K hK => ?_) ?_
        · go_simp
          have hb4 : Below W5d.heap.size W5d (W5d.alloc (.map #[] 0)) := (Below.refl _ _).alloc (Nat.le_refl _) _
          have htab := OTab.made W5d
          have hs4 : W5d.heap.size < (W5d.alloc (.map #[] 0)).heap.size := by simp
          have hHn := (hb4.block _ (lt_of_heap hH)).trans hH
          have hs5 := hbW.size
          replace hbW := hbW.trans (hb4.mono hbW.size)
          clear hH hb4
          go_wp2_with fail
          generalize W5d.alloc (.map #[] 0) = W4 at *
          generalize hM4 : W5d.heap.size = M4 at *
          refine hK.out _ _ hHn (fun hH => ?_)
          clear hHn
          clear hK K
          try simp only [Act.put, List.setIfInBounds_toArray, List.set_cons_zero, List.set_cons_succ]
          refine wpAnyH_ready (rs := [2]) (by kernel_rfl) (by simp) ?_
          refine ready_at rfl (fun K hK => ?_) AllReadyH.nil
          go_simp
          refine (HCL.out W4 hbW).mono ?_
          rintro e W3 ⟨u3, rfl, hm3, hb3⟩
          obtain ⟨g3, c3, rfl, hg3, hbo3⟩ := hm3.boR (by rw [takenOf_length]; exact hpn)
          rw [takenOf_length]
          have hHn := (hb3.block _ (lt_of_heap hH)).trans hH
          have hs3 := hbW.size
          replace hbW := hbW.trans (hb3.mono hbW.size)
          replace htab := htab.keep (hb3.block _ htab.lt)
          have hg3n : g3 ≠ M4 := by omega
          have hM4n := hM4
          clear hH hm3 hb3
          go_wp2_with fail
          refine hK.out _ _ hHn (fun hH => ?_)
          clear hHn
          clear hK K
          try simp only [Act.put, List.setIfInBounds_toArray, List.set_cons_zero, List.set_cons_succ]
          refine take_at (i := 5) (v := ?_) rfl (by kernel_rfl) (by kernel_rfl) (by kernel_rfl) (fun _ _ _ h => h) (Or.inl ⟨by rfl, ?_⟩) hH ?_
          rotate_left
          · (intro w hSw; have hpc := plan_cells hSw; obtain ⟨q0, q1⟩ := hpc; go_simp; try with_reducible rfl)
          try simp only [Act.put, List.setIfInBounds_toArray, List.set_cons_zero, List.set_cons_succ]
          refine wpAnyH_ready (rs := [6]) (by kernel_rfl) (by simp) ?_
          refine ready_at rfl (fun K hK => ?_) AllReadyH.nil
          go_simp
          have hb6 : Below W3.heap.size W3 (W3.alloc (.cells #[jptr p, .slice (some ⟨g3, 0, none⟩) n c3, .int .i64 R, .slice (some ⟨g, 0, none⟩) n c2, .int .i64 R, .map (some M4), .bool false, .int .i64 0] 77)) := (Below.refl _ _).alloc (Nat.le_refl _) _
          have hq6 := heap_alloc_new W3 (.cells #[jptr p, .slice (some ⟨g3, 0, none⟩) n c3, .int .i64 R, .slice (some ⟨g, 0, none⟩) n c2, .int .i64 R, .map (some M4), .bool false, .int .i64 0] 77)
          have hs6 : W3.heap.size < (W3.alloc (.cells #[jptr p, .slice (some ⟨g3, 0, none⟩) n c3, .int .i64 R, .slice (some ⟨g, 0, none⟩) n c2, .int .i64 R, .map (some M4), .bool false, .int .i64 0] 77)).heap.size := by simp
          have hHn := (hb6.block _ (lt_of_heap hH)).trans hH
          have hlM : M4 < W3.heap.size := htab.lt
          have hl3 : g3 < W3.heap.size := hbo3.lt
          have hs7 := hbW.size
          replace htab := htab.keep (hb6.block _ htab.lt)
          replace hbo3 := hbo3.keep (hb6.block _ hbo3.lt)
          replace hbW := hbW.trans (hb6.mono hbW.size)
          have hne3 : g3 ≠ M4 := by omega
          clear hH hb6
          go_wp2_with fail
          generalize W3.alloc (.cells #[jptr p, .slice (some ⟨g3, 0, none⟩) n c3, .int .i64 R, .slice (some ⟨g, 0, none⟩) n c2, .int .i64 R, .map (some M4), .bool false, .int .i64 0] 77) = W6 at *
          generalize hq : W3.heap.size = q at *
          refine hK.out _ _ hHn (fun hH => ?_)
          clear hHn
          clear hK K
          try simp only [Act.put, List.setIfInBounds_toArray, List.set_cons_zero, List.set_cons_succ]
          refine take_at (i := 7) (v := ?_) rfl (by kernel_rfl) (by kernel_rfl) (by kernel_rfl) (fun _ _ _ h => h) (Or.inl ⟨by rfl, ?_⟩) hH ?_
          rotate_left
          · (intro w hSw; have hpc := plan_cells hSw; obtain ⟨q0, q1⟩ := hpc; go_simp; try with_reducible rfl)
          try simp only [Act.put, List.setIfInBounds_toArray, List.set_cons_zero, List.set_cons_succ]
          refine take_at (i := 8) (v := ?_) rfl (by kernel_rfl) (by kernel_rfl) (by kernel_rfl) (fun _ _ _ h => h) (Or.inl ⟨by rfl, ?_⟩) hH ?_
          rotate_left
          · (intro w hSw; have hpc := plan_cells hSw; obtain ⟨q0, q1⟩ := hpc; go_simp; try with_reducible rfl)
          try simp only [Act.put, List.setIfInBounds_toArray, List.set_cons_zero, List.set_cons_succ]
          refine wpAnyH_done (by kernel_rfl) ?_ _
          refine NoPanic.normal ?_
          clear hH
          have hgl := HBO.out.lt
          have hw1 := HB5.out.size
          have hw2 := HB55.out.size
          have hbo5 := (HBO.out.keep (HB55.out.block _ hgl)).keep (hbW.block _ (by omega))
          have hbb := HB5.out.trans ((HB55.out.trans (hbW.mono hw2)).mono hw1)
          have HPA := Lib.hid (PgAt.opened (f := ⟨q, g3, c3, g, c2, M4, []⟩) (P := ⟨J, takenOf L n, rootOf L, takenOf L n, rootOf L, [], false, 0⟩) HJ.out HNB.out hbb rfl rfl rfl (by simp only [pgRow, takenOf_length, ← HR.out]; exact hq6) hbo3 hbo5 htab ⟨by simp only [takenOf_length]; exact hpn, by simp only [takenOf_length]; exact hpl, rfl, rootOf_ge L, by simp only [takenOf_length]; exact HSP.out, rootOf_ge L, by simp only [takenOf_length]; exact HSP.out, fun x hx => (by cases hx), by simp only [takenOf_length]; exact HNE.out⟩ (by dsimp only; omega) (by dsimp only; omega) (by dsimp only; omega) (by dsimp only; omega) (by dsimp only; omega))
          have HT6 := Lib.hid (HT.out.trans (Turned.of_below hbb))
          clear hbo3 hbo5 htab hbW hbb hq6
          go_wp2_with fail
          go_ret2
          exact POpenEnd.good HX.out HPA.out.1 (fun k hk => Nat.le_trans hsz (HPA.out.2 k hk)) HT6.out
        exact AllReadyH.nil
end Go.Proofs.YtbmmcaoifkboiaaGreatDoor

/- A nil pager. -/
set_option linter.unusedVariables false
set_option linter.unusedSimpArgs false
set_option maxRecDepth 100000
namespace Go.Proofs.YtbmmcaoifkboiaaGreatDoor
open Go.RowKit

abbrev nilp : Value := .pointer none
theorem failsN (w : World) (page : Int) : Calls Tryz.prog 31 #[nilp, .int .i64 page] w fun e w' => e = .returned (.int .i64 1) ∧ w' = w := by
  go_enter Tryz.func31, Tryz.ntmps31
  go_wp2
  go_ret
  exact ⟨rfl, rfl⟩
theorem mustN (w : World) (page : Int) : Calls Tryz.prog 39 #[nilp, .int .i64 page] w fun e w' => e = .returned (.int .i64 1) ∧ w' = w := by
  have HF := Lib.hid (failsN w page)
  go_enter Tryz.func39, Tryz.ntmps39
  go_wp2_with (go_at_call 31; refine HF.out.mono ?_; rintro e w2 ⟨rfl, rfl⟩)
  go_ret
  exact ⟨rfl, rfl⟩
theorem allocN (w : World) : Calls Tryz.prog 12 #[nilp] w fun e w' => e = .returned (.tuple #[.int .i64 0, .int .i64 1]) ∧ w' = w := by
  have HF := Lib.hid (failsN w (-1))
  go_enter Tryz.func12, Tryz.ntmps12
  go_wp2_with (go_at_call 31; refine HF.out.mono ?_; rintro e w2 ⟨rfl, rfl⟩)
  go_ret2
  exact ⟨rfl, rfl⟩
theorem freeNilP (w : World) (page : Int) : Calls Tryz.prog 24 #[nilp, .int .i64 page] w fun e w' => e = .returned (.int .i64 1) ∧ w' = w := by
  have HF := Lib.hid (mustN w page)
  go_enter Tryz.func24, Tryz.ntmps24
  go_wp2_with (go_at_call 39; refine HF.out.mono ?_; rintro e w2 ⟨rfl, rfl⟩)
  go_ret
  exact ⟨rfl, rfl⟩
theorem readN (w : World) (page : Int) : Calls Tryz.prog 13 #[nilp, .int .i64 page] w fun e w' => e = .returned (.tuple #[.slice none 0 0, .int .i64 1]) ∧ w' = w := by
  have HF := Lib.hid (mustN w page)
  go_enter Tryz.func13, Tryz.ntmps13
  go_wp2_with (go_at_call 39; refine HF.out.mono ?_; rintro e w2 ⟨rfl, rfl⟩)
  go_ret2
  exact ⟨rfl, rfl⟩
theorem writeN (w : World) (page : Int) : Calls Tryz.prog 46 #[nilp, .int .i64 page, .slice none 0 0] w fun e w' => e = .returned (.int .i64 1) ∧ w' = w := by
  have HF := Lib.hid (mustN w page)
  go_enter Tryz.func46, Tryz.ntmps46
  go_wp2_with (go_at_call 39; refine HF.out.mono ?_; rintro e w2 ⟨rfl, rfl⟩)
  go_ret
  exact ⟨rfl, rfl⟩
theorem setrootN (w : World) (page : Int) : Calls Tryz.prog 23 #[nilp, .int .i64 page] w fun e w' => e = .returned (.int .i64 1) ∧ w' = w := by
  have HF := Lib.hid (failsN w page)
  go_enter Tryz.func23, Tryz.ntmps23
  go_wp2_with (go_at_call 31; refine HF.out.mono ?_; rintro e w2 ⟨rfl, rfl⟩)
  go_ret
  exact ⟨rfl, rfl⟩
theorem commitN (w : World) : Calls Tryz.prog 10 #[nilp] w fun e w' => e = .returned (.int .i64 1) ∧ w' = w := by
  have HF := Lib.hid (failsN w (-1))
  go_enter Tryz.func10, Tryz.ntmps10
  go_wp2_with (go_at_call 31; refine HF.out.mono ?_; rintro e w2 ⟨rfl, rfl⟩)
  go_ret
  exact ⟨rfl, rfl⟩
theorem abortN (w : World) : Calls Tryz.prog 49 #[nilp] w fun e w' => e = .returned (.tuple #[]) ∧ w' = w := by
  have HF := Lib.hid (failsN w (-1))
  go_enter Tryz.func49, Tryz.ntmps49
  go_wp2_with (go_at_call 31; refine HF.out.mono ?_; rintro e w2 ⟨rfl, rfl⟩)
  go_end0
  exact ⟨rfl, rfl⟩
theorem pagesN (w : World) : Calls Tryz.prog 20 #[nilp] w fun e w' => e = .returned (.int .i64 0) ∧ w' = w := by
  go_enter Tryz.func20, Tryz.ntmps20
  go_wp2
  go_ret
  exact ⟨rfl, rfl⟩
theorem rootN (w : World) : Calls Tryz.prog 22 #[nilp] w fun e w' => e = .returned (.int .i64 (-1)) ∧ w' = w := by
  go_enter Tryz.func22, Tryz.ntmps22
  go_wp2
  go_ret
  exact ⟨rfl, rfl⟩
theorem leftN (w : World) : Calls Tryz.prog 21 #[nilp] w fun e w' => e = .returned (.int .i64 0) ∧ w' = w := by
  have HF := Lib.hid (pagesN w)
  go_enter Tryz.func21, Tryz.ntmps21
  go_wp2_with (go_at_call 20; refine HF.out.mono ?_; rintro e w9 ⟨rfl, hw9⟩; rw [hw9]; clear hw9 w9)
  refine wp_loop_rounds 1 ?_
  rw [rounds_succ]
  go_wp2
  go_ret
  exact ⟨rfl, rfl⟩
theorem formatN (w : World) : Calls Tryz.prog 27 #[nilp] w fun e w' => e = .returned (.int .i64 1) ∧ w' = w := by
  go_enter Tryz.func27, Tryz.ntmps27
  go_wp2
  go_ret
  exact ⟨rfl, rfl⟩
theorem openN (w : World) : Calls Tryz.prog 18 #[nilp] w fun e w' => e = .returned (.tuple #[nilp, .int .i64 1]) ∧ w' = w := by
  go_enter Tryz.func18, Tryz.ntmps18
  go_wp2
  go_ret2
  exact ⟨rfl, rfl⟩
end Go.Proofs.YtbmmcaoifkboiaaGreatDoor

/- Writes that go through, in plain lists; the document's examples. -/
set_option linter.unusedVariables false
set_option linter.unusedSimpArgs false
set_option maxRecDepth 100000
namespace Go.Proofs.YtbmmcaoifkboiaaGreatDoor
open Go.RowKit

theorem Live.blocks {n : Nat} {J : Jn} {seq : Int} {B : List (List UInt8)} {ok : Nat → Prop} (h : Live n J seq B ok) : J.D.blocks = (n - 2) / 2 := by rw [Dk.blocks, h.hn]
theorem updB_nil (B : List (List UInt8)) (ls : List (List UInt8)) : updB B [] ls = B := by rw [updB]
/-- what a write answers: refused, or done, or the power went -/
theorem write_no {n : Nat} {J : Jn} {seq : Int} {B : List (List UInt8)} {ok : Nat → Prop} (h : Live n J seq B ok) {zs : List Int} {ls : List (List UInt8)} (hr : rightW ((n - 2) / 2) zs ls = false) : J.write zs ls = (2, J) := by
  rw [Jn.write, if_neg (by simp [h.off]), h.blocks, if_pos hr]
theorem write_nil {n : Nat} {J : Jn} {seq : Int} {B : List (List UInt8)} {ok : Nat → Prop} (h : Live n J seq B ok) {ls : List (List UInt8)} (hr : rightW ((n - 2) / 2) [] ls = true) : J.write [] ls = (0, J) := by
  rw [Jn.write, if_neg (by simp [h.off]), h.blocks, if_neg (by simp [hr]), if_pos List.length_nil]
theorem write_yes {n : Nat} {J : Jn} {seq : Int} {B : List (List UInt8)} {ok : Nat → Prop} (h : Live n J seq B ok) {zs : List Int} {ls : List (List UInt8)} (hr : rightW ((n - 2) / 2) zs ls = true) (h0 : zs.length ≠ 0) : J.write zs ls = ((J.writes zs ls).off, J.writes zs ls) := by
  rw [Jn.write, if_neg (by simp [h.off]), h.blocks, if_neg (by simp [hr]), if_neg h0]
structure WroteOk (n : Nat) (J : Jn) (seq : Int) (B : List (List UInt8)) (zs : List Int) (ls : List (List UInt8)) : Prop where
  err : (J.write zs ls).1 = 0
  live : Live n (J.write zs ls).2 (if zs.length = 0 then seq else seq + 1) (updB B zs ls) AllOk
  last : (J.write zs ls).2.last ≤ J.last + 1
  cut : (J.write zs ls).2.D.cut = J.D.cut
  ops : (J.write zs ls).2.D.ops ≤ J.D.ops + (2 * zs.length + 4)
  same : zs.length = 0 → (J.write zs ls).2 = J
theorem write_ok {n : Nat} {J : Jn} {seq : Int} {B : List (List UInt8)} {zs : List Int} {ls : List (List UInt8)} (h : Live n J seq B AllOk) (hcut : J.D.cut < 0) (hr : rightW ((n - 2) / 2) zs ls = true) (ht : J.last + 1 < 4611686018427387904) (hb : J.D.ops + (2 * zs.length + 4) ≤ 1048576) : WroteOk n J seq B zs ls := by
  by_cases h0 : zs.length = 0
  · obtain rfl : zs = [] := List.eq_nil_of_length_eq_zero h0
    have e := write_nil h hr
    refine ⟨by rw [e], ?_, by rw [e]; show J.last ≤ _; omega, by rw [e], by rw [e]; show J.D.ops ≤ _; omega, fun _ => by rw [e]⟩
    rw [e, if_pos List.length_nil, updB_nil]
    exact h
  · have e := write_yes h hr h0
    have w := writes_live h hr ht hb
    rcases w.ends with ⟨a1, a2⟩ | ⟨_, a2, _⟩
    · refine ⟨by rw [e]; exact a1, ?_, by rw [e]; exact Nat.le_of_eq w.last, by rw [e]; exact w.cut, by rw [e]; exact w.ops, fun h => absurd h h0⟩
      rw [e, if_neg h0]
      exact a2
    · omega
/-- the bytes of the document's example -/
def exX : List UInt8 := (List.replicate 112 0).set 5 7
theorem exX_length : exX.length = 112 := by simp [exX]
theorem shown06_plain : ∃ D1 J, (Dk.new 40).openJ = (60, ⟨Dk.new 40, 0, 0, 0⟩) ∧ (Dk.new 40).format = (0, D1) ∧ D1.openJ = (0, J) ∧ J.D.n = 40 ∧ J.D.blocks = 19 ∧ J.last ≤ 1 ∧ J.seq = 0 ∧ (J.write [3] [exX]).1 = 0 ∧ (J.write [3] [exX]).2.D.n = 40 ∧ (J.write [3] [exX]).2.seq = 1 ∧
    (J.write [3] [exX]).2.read 3 = (exX, 0, (J.write [3] [exX]).2) := by
  obtain ⟨D1, J, e1, e2, hl, h3, h4, h5⟩ := begun_plain (n := 40) (by omega) (by omega)
  have hr : rightW ((40 - 2) / 2) [3] [exX] = true := by simp [rightW, rightGo, exX_length]
  have w := write_ok hl h4 hr (by omega) (by show J.D.ops + (2 * 1 + 4) ≤ _; omega)
  have hlv := w.live
  refine ⟨D1, J, open_zero (n := 40) rfl rfl (by omega) rfl, e1, e2, hl.hn, hl.blocks, h3, hl.hseq, w.err, hlv.hn, hlv.hseq, ?_⟩
  exact read_live hlv (i := 3) (by omega) trivial (by
    show (updB (zeroB 40) [3] [exX])[3]? = some exX
    rw [updB, updB_nil]
    rw [show (3 : Int).toNat = 3 from rfl, List.getElem?_set_self (by simp [zeroB])])
end Go.Proofs.YtbmmcaoifkboiaaGreatDoor

/- Blocks behind a Commit. Plain lists. -/
set_option linter.unusedVariables false
set_option linter.unusedSimpArgs false
set_option maxRecDepth 100000
namespace Go.Proofs.YtbmmcaoifkboiaaGreatDoor
open Go.RowKit

/-- m blocks from one on, one behind the other -/
def blocksAt (B : List (List UInt8)) (from_ m : Nat) : List UInt8 := (List.range m).flatMap fun i => B.getD (from_ + i) []
theorem placesFrom_cons (f m : Nat) : placesFrom (f : Int) (m + 1) = (f : Int) :: placesFrom ((f + 1 : Nat) : Int) m := by
  rw [placesFrom, List.range_succ_eq_map, List.map_cons, List.map_map, placesFrom]
  have e : ((fun (i : Nat) => (f : Int) + (i : Int)) ∘ Nat.succ) = fun (i : Nat) => ((f + 1 : Nat) : Int) + (i : Int) := by
    funext i
    simp only [Function.comp]
    omega
  rw [e]
  simp
theorem updB_run : ∀ (m f : Nat) (b : List UInt8) (B : List (List UInt8)) (i : Nat), f + m ≤ B.length → (updB B (placesFrom (f : Int) m) (chunks m b))[i]? = if f ≤ i ∧ i < f + m then some ((b.drop (112 * (i - f))).take 112) else B[i]?
  | 0, f, b, B, i, _ => by
    rw [if_neg (by omega)]
    simp [placesFrom, chunks, updB]
  | m + 1, f, b, B, i, h => by
    rw [placesFrom_cons, chunks, updB, updB_run m (f + 1) (b.drop 112) _ i (by simp; omega), Int.toNat_natCast, List.drop_drop, List.getElem?_set]
    by_cases h1 : f + 1 ≤ i ∧ i < f + 1 + m
    · rw [if_pos h1, if_pos (by omega)]
      congr 3
      omega
    · rw [if_neg h1]
      by_cases h2 : f = i
      · subst h2
        rw [if_pos rfl, if_pos (by omega), if_pos (by omega), Nat.sub_self]
        rfl
      · rw [if_neg h2, if_neg (by omega)]
theorem updB_app : ∀ (zs zs' : List Int) (ls ls' B : List (List UInt8)), zs.length = ls.length → updB B (zs ++ zs') (ls ++ ls') = updB (updB B zs ls) zs' ls'
  | [], _, [], _, _, _ => by simp [updB]
  | [], _, _ :: _, _, _, h => by simp at h
  | _ :: _, _, [], _, _, h => by simp at h
  | z :: zs, zs', l :: ls, ls', B, h => by
    simp only [List.cons_append, updB]
    exact updB_app zs zs' ls ls' _ (by simpa using h)
theorem chunks_flat : ∀ (m : Nat) (b : List UInt8), b.length = 112 * m → ((List.range m).flatMap fun i => (b.drop (112 * i)).take 112) = b
  | 0, b, h => by
    have : b = [] := List.eq_nil_of_length_eq_zero (by omega)
    simp [this]
  | m + 1, b, h => by
    have ih := chunks_flat m (b.drop 112) (by rw [List.length_drop]; omega)
    rw [List.range_succ_eq_map, List.flatMap_cons, List.flatMap_map]
    simp only [Nat.mul_zero, List.drop_zero]
    have e : ((List.range m).flatMap fun i => (b.drop (112 * (i + 1))).take 112) = b.drop 112 := by
      rw [← ih]
      simp only [List.drop_drop]
      congr 1
      funext i
      congr 2
      omega
    show b.take 112 ++ ((List.range m).flatMap fun i => (b.drop (112 * (i + 1))).take 112) = b
    rw [e, List.take_append_drop]
theorem flatMap_congr' {α β : Type} {l : List α} {f g : α → List β} (h : ∀ x ∈ l, f x = g x) : l.flatMap f = l.flatMap g := by
  induction l with
  | nil => rfl
  | cons x r ih => rw [List.flatMap_cons, List.flatMap_cons, h x (by simp), ih fun y hy => h y (by simp [hy])]
theorem blocksAt_run {m f : Nat} {b : List UInt8} {B : List (List UInt8)} (h : f + m ≤ B.length) (hb : b.length = 112 * m) : blocksAt (updB B (placesFrom (f : Int) m) (chunks m b)) f m = b := by
  rw [blocksAt]
  conv => rhs; rw [← chunks_flat m b hb]
  refine flatMap_congr' fun i hi => ?_
  have := List.mem_range.1 hi
  rw [List.getD_eq_getElem?_getD, updB_run m f b B (f + i) h, if_pos (by omega), Option.getD_some, Nat.add_sub_cancel_left]
theorem blocksAt_other {m f m' f' : Nat} {b : List UInt8} {B : List (List UInt8)} (h : f + m ≤ B.length) (hd : f' + m' ≤ f ∨ f + m ≤ f') : blocksAt (updB B (placesFrom (f : Int) m) (chunks m b)) f' m' = blocksAt B f' m' := by
  rw [blocksAt, blocksAt]
  refine flatMap_congr' fun i hi => ?_
  have := List.mem_range.1 hi
  rw [List.getD_eq_getElem?_getD, updB_run m f b B (f' + i) h, if_neg (by omega), ← List.getD_eq_getElem?_getD]
/-- the blocks of page k -/
abbrev pageAt (B : List (List UInt8)) (k : Nat) : List UInt8 := blocksAt B (2 + 8 * k) 8
theorem page_place (k : Nat) : (2 + (k : Int) * 8) = ((2 + 8 * k : Nat) : Int) := by omega
theorem pages_upd (o : List (Int × List UInt8)) (ho : ∀ k b, oLook o k = some b → b.length = 896) : ∀ (ks : List Int) (B : List (List UInt8)), ks.Nodup → (∀ k ∈ ks, 0 ≤ k ∧ 2 + 8 * k.toNat + 8 ≤ B.length) → (∀ k ∈ ks, ∃ b, oLook o k = some b) →
    (updB B (ks.flatMap fun k => placesFrom (2 + k * 8) 8) (ks.flatMap fun k => chunks 8 ((oLook o k).getD []))).length = B.length ∧
    blocksAt (updB B (ks.flatMap fun k => placesFrom (2 + k * 8) 8) (ks.flatMap fun k => chunks 8 ((oLook o k).getD []))) 0 2 = blocksAt B 0 2 ∧
    ∀ k : Nat, pageAt (updB B (ks.flatMap fun k => placesFrom (2 + k * 8) 8) (ks.flatMap fun k => chunks 8 ((oLook o k).getD []))) k = if (k : Int) ∈ ks then (oLook o k).getD [] else pageAt B k
  | [], B, _, _, _ => by simp [updB]
  | x :: ks, B, hn, hb, hl => by
    obtain ⟨x0, x1⟩ := hb x (by simp)
    obtain ⟨bx, hx⟩ := hl x (by simp)
    have hxl := ho x bx hx
    have ex : x = ((x.toNat : Nat) : Int) := by omega
    obtain ⟨y, hy⟩ : ∃ y, y = x.toNat := ⟨_, rfl⟩
    rw [← hy] at ex x1
    rw [List.nodup_cons] at hn
    rw [List.flatMap_cons, List.flatMap_cons, updB_app _ _ _ _ _ (by rw [placesFrom_length, chunks_length]), hx, Option.getD_some]
    have e1 : placesFrom (2 + x * 8) 8 = placesFrom ((2 + 8 * y : Nat) : Int) 8 := by rw [ex, page_place]
    rw [e1]
    obtain ⟨i1, i2, i3⟩ := pages_upd o ho ks (updB B (placesFrom ((2 + 8 * y : Nat) : Int) 8) (chunks 8 bx)) hn.2 (fun k hk => by rw [updB_length]; exact hb k (by simp [hk])) (fun k hk => hl k (by simp [hk]))
    refine ⟨i1.trans (updB_length _ _ _), by rw [i2, blocksAt_other (by omega) (by omega)], fun k => ?_⟩
    rw [i3 k]
    by_cases hk : (k : Int) ∈ ks
    · rw [if_pos hk, if_pos (by simp [hk])]
    · rw [if_neg hk]
      by_cases he : (k : Int) = x
      · have : k = y := by omega
        subst this
        rw [if_pos (by simp [he]), he, hx, Option.getD_some]
        exact blocksAt_run (by omega) (by omega)
      · rw [if_neg (by simp [hk, he])]
        exact blocksAt_other (by omega) (by omega)
/-- all blocks behind a Commit -/
theorem commit_upd {P : Pg} {B : List (List UInt8)} (ho : ∀ k b, oLook P.own k = some b → b.length = 896) (ks : List Int) (h2 : 2 ≤ B.length) (hn : ks.Nodup) (hb : ∀ k ∈ ks, 0 ≤ k ∧ 2 + 8 * k.toNat + 8 ≤ B.length) (hl : ∀ k ∈ ks, ∃ b, oLook P.own k = some b) :
    (updB B (commitPlaces ks) (commitBlocks P ks)).length = B.length ∧ blocksAt (updB B (commitPlaces ks) (commitBlocks P ks)) 0 2 = planB P.now P.root ∧
    ∀ k : Nat, pageAt (updB B (commitPlaces ks) (commitBlocks P ks)) k = if (k : Int) ∈ ks then (oLook P.own k).getD [] else pageAt B k := by
  rw [commitPlaces, commitBlocks, updB_app _ _ _ _ _ (by rw [placesFrom_length, chunks_length])]
  have hl0 : (updB B (placesFrom 0 2) (chunks 2 (planB P.now P.root))).length = B.length := updB_length _ _ _
  obtain ⟨i1, i2, i3⟩ := pages_upd P.own ho ks (updB B (placesFrom 0 2) (chunks 2 (planB P.now P.root))) hn (fun k hk => by rw [hl0]; exact hb k hk) hl
  have e0 : (0 : Int) = ((0 : Nat) : Int) := rfl
  refine ⟨i1.trans hl0, ?_, fun k => ?_⟩
  · rw [i2, e0]
    exact blocksAt_run (by omega) (by rw [planB_length])
  · rw [i3 k]
    split
    · rfl
    · rw [e0]
      exact blocksAt_other (by omega) (by omega)
end Go.Proofs.YtbmmcaoifkboiaaGreatDoor

/- The document's pager in memory; taken, lay. -/
set_option linter.unusedVariables false
set_option linter.unusedSimpArgs false
set_option maxRecDepth 100000
namespace Go.Proofs.YtbmmcaoifkboiaaGreatDoor
open Go.RowKit

/-- the document's pager: pages (none: free) and the root, as they are, as they were; is there a change -/
structure Rp where
  pages : List (Option (List UInt8))
  root : Int
  was : List (Option (List UInt8))
  wroot : Int
  change : Bool
def Rp.taken (R : Rp) (page : Int) : Bool := decide (0 ≤ page) && (decide (page < (R.pages.length : Int)) && (R.pages.getD page.toNat none).isSome)
def Rp.lay (R : Rp) (k : Nat) (b : List UInt8) : Rp := { R with pages := R.pages.set k (some b), change := true }
def freeR (l : List (Option (List UInt8))) : Option Nat := l.findIdx? fun x => x.isNone
def Rp.alloc (R : Rp) : (Int × Int) × Rp := match freeR R.pages with | some k => (((k : Int), 0), R.lay k z896) | none => ((0, 80), R)
def Rp.free (R : Rp) (page : Int) : Int × Rp := if R.taken page = false then (81, R) else if R.root = page then (2, R) else (0, { R with pages := R.pages.set page.toNat none, change := true })
def Rp.read (R : Rp) (page : Int) : List UInt8 × Int := if R.taken page = false then ([], 81) else ((R.pages.getD page.toNat none).getD [], 0)
def Rp.write (R : Rp) (page : Int) (b : List UInt8) : Int × Rp := if R.taken page = false then (81, R) else if b.length ≠ 896 then (2, R) else (0, R.lay page.toNat b)
def Rp.setRoot (R : Rp) (page : Int) : Int × Rp := if R.taken page = false ∧ page ≠ -1 then (81, R) else (0, { R with root := page, change := true })
def Rp.commit (R : Rp) : Rp := { R with was := R.pages, wroot := R.root, change := false }
def Rp.abort (R : Rp) : Rp := { R with pages := R.was, root := R.wroot, change := false }
def Rp.left (R : Rp) : Nat := R.pages.countP fun x => x.isNone
def Rp.begun (blocks : Nat) : Rp := ⟨List.replicate ((blocks - 2) / 8) none, -1, List.replicate ((blocks - 2) / 8) none, -1, false⟩

/-- block g holds these values, one cell each -/
def VRow (w : World) (T : TypeId) (g c : Nat) (vs : List Value) : Prop := ∃ cur : Array Value, w.heap[g]? = some (.cells cur T (0, 0)) ∧ vs.length ≤ c ∧ c ≤ maxLen ∧ cur.size = c ∧ cur.toList.take vs.length = vs
section
variable {w w' : World} {T : TypeId} {g c : Nat} {vs : List Value}
theorem VRow.lt (h : VRow w T g c vs) : g < w.heap.size := by obtain ⟨cur, h1, _⟩ := h; exact lt_of_heap h1
theorem VRow.keep (h : VRow w T g c vs) (hw : w'.heap[g]? = w.heap[g]?) : VRow w' T g c vs := by
  obtain ⟨cur, h1, h2⟩ := h
  exact ⟨cur, hw.trans h1, h2⟩
theorem VRow.cell (h : VRow w T g c vs) (i : Nat) (hi : i < vs.length) : w.cell? ⟨g, i, none⟩ = some vs[i] := by
  obtain ⟨cur, h1, h2, h3, h4, h5⟩ := h
  rw [cell_of_row _ _ _ _ _ _ h1]
  have e : vs[i]? = some vs[i] := List.getElem?_eq_getElem hi
  conv at e => lhs; rw [← h5]
  rw [List.getElem?_take, if_pos (by omega)] at e
  simpa using e
theorem VRow.frozen (h : VRow w T g c vs) (i : Nat) : w.frozen? ⟨g, i, none⟩ = false := by
  obtain ⟨cur, h1, _⟩ := h
  exact frozen_p h1 i
theorem VRow.set (h : VRow w T g c vs) (i : Nat) (v : Value) : VRow (w.setCell ⟨g, i, none⟩ v) T g c (vs.set i v) := by
  obtain ⟨cur, h1, h2, h3, h4, h5⟩ := h
  refine ⟨_, head_setCell h1 (i := i) v, by simpa using h2, h3, by simpa using h4, ?_⟩
  rw [Array.toList_setIfInBounds, List.length_set]
  conv => rhs; rw [← h5]
  apply List.ext_getElem?
  intro j
  by_cases hj : j < vs.length
  · rw [List.getElem?_take_of_lt hj, List.getElem?_set, List.getElem?_set, List.getElem?_take_of_lt hj]
    simp only [List.length_take]
    by_cases hij : i = j
    · subst hij
      have hc : i < cur.toList.length := by simp; omega
      rw [if_pos rfl, if_pos rfl, if_pos hc, if_pos (by omega)]
    · rw [if_neg hij, if_neg hij]
  · rw [List.getElem?_take_eq_none (by omega), List.getElem?_eq_none (by simp; omega)]
theorem VRow.own (h : VRow w T g c vs) (B : Nat) (hB : B ≤ g) : w.ownsRow B T 1 (.slice (some ⟨g, 0, none⟩) vs.length c) vs.length vs := by
  obtain ⟨cur, h1, h2, h3, h4, h5⟩ := h
  exact ⟨by simp, .inr ⟨g, c, cur, rfl, hB, h1, h2, h3, by simp [h4], by simpa using h5⟩⟩
end
theorem own_vrow {B : Nat} {w : World} {T : TypeId} {v : Value} {vs : List Value} (h : w.ownsRow B T 1 v vs.length vs) (h0 : 0 < vs.length) : ∃ g c, v = .slice (some ⟨g, 0, none⟩) vs.length c ∧ B ≤ g ∧ VRow w T g c vs := by
  rcases h.2 with ⟨rfl, hn⟩ | ⟨g, cap, cur, rfl, hb, hg, hnc, hcm, hcs, htake⟩
  · omega
  · exact ⟨g, cap, rfl, hb, cur, hg, hnc, hcm, by simpa using hcs, by simpa using htake⟩
abbrev strO (b : List UInt8) : Obj := .cells #[.string ⟨b.toArray⟩] 9 (0, 0)
/-- a pointer to a page's string, or none -/
def PtrIs (w : World) (v : Value) (x : Option (List UInt8)) : Prop := match x with
  | none => v = .pointer none
  | some b => ∃ k, v = .pointer (some ⟨k, 0, none⟩) ∧ w.heap[k]? = some (strO b)
def pBlk : Value → Option Nat | .pointer (some a) => some a.block | _ => none
theorem PtrIs.keep {w w' : World} {v : Value} {x : Option (List UInt8)} (h : PtrIs w v x) (hw : ∀ k, pBlk v = some k → w'.heap[k]? = w.heap[k]?) : PtrIs w' v x := by
  cases x with
  | none => exact h
  | some b =>
    obtain ⟨k, rfl, h2⟩ := h
    exact ⟨k, rfl, (hw k rfl).trans h2⟩
def Ptrs (w : World) (vs : List Value) (l : List (Option (List UInt8))) : Prop := vs.length = l.length ∧ ∀ i (h1 : i < vs.length) (h2 : i < l.length), PtrIs w vs[i] l[i]
theorem Ptrs.keep {w w' : World} {vs : List Value} {l : List (Option (List UInt8))} (h : Ptrs w vs l) (hw : ∀ v ∈ vs, ∀ k, pBlk v = some k → w'.heap[k]? = w.heap[k]?) : Ptrs w' vs l :=
  ⟨h.1, fun i h1 h2 => (h.2 i h1 h2).keep (hw _ (List.getElem_mem h1))⟩
theorem Ptrs.set {w : World} {vs : List Value} {l : List (Option (List UInt8))} (h : Ptrs w vs l) (k : Nat) (v : Value) (x : Option (List UInt8)) (hx : PtrIs w v x) : Ptrs w (vs.set k v) (l.set k x) := by
  refine ⟨by simpa using h.1, fun i h1 h2 => ?_⟩
  rw [List.getElem_set, List.getElem_set]
  split
  · exact hx
  · exact h.2 i (by simpa using h1) (by simpa using h2)
structure Rf where
  q : Nat
  gs : Nat
  cs : Nat
  gw : Nat
  cw : Nat
  vs : List Value
  ws : List Value
def RT8 (f : Rf) (k : Nat) : Prop := k = f.q ∨ k = f.gs ∨ k = f.gw ∨ (∃ v ∈ f.vs, pBlk v = some k) ∨ ∃ v ∈ f.ws, pBlk v = some k
abbrev rfRow (f : Rf) (R : Rp) : Obj := .cells #[.slice (some ⟨f.gs, 0, none⟩) R.pages.length f.cs, .int .i64 R.root, .slice (some ⟨f.gw, 0, none⟩) R.was.length f.cw, .int .i64 R.wroot, .bool R.change] 69 (0, 0)
structure RfAt (w : World) (f : Rf) (R : Rp) : Prop where
  head : w.heap[f.q]? = some (rfRow f R)
  now : VRow w 125 f.gs f.cs f.vs
  was : VRow w 125 f.gw f.cw f.ws
  ptr : Ptrs w f.vs R.pages
  wptr : Ptrs w f.ws R.was
  n0 : 0 < R.pages.length
  n1 : R.pages.length ≤ 1023
  nw : R.was.length = R.pages.length
  lt : ∀ k, RT8 f k → k < w.heap.size
  sep : f.gs ≠ f.gw
section
variable {w w' : World} {f : Rf} {R : Rp}
theorem RfAt.keep (h : RfAt w f R) (hw : ∀ k, RT8 f k → w'.heap[k]? = w.heap[k]?) (hs : w.heap.size ≤ w'.heap.size) : RfAt w' f R :=
  ⟨(hw _ (.inl rfl)).trans h.head, h.now.keep (hw _ (.inr (.inl rfl))), h.was.keep (hw _ (.inr (.inr (.inl rfl)))), h.ptr.keep fun v hv k hk => hw k (.inr (.inr (.inr (.inl ⟨v, hv, hk⟩)))), h.wptr.keep fun v hv k hk => hw k (.inr (.inr (.inr (.inr ⟨v, hv, hk⟩)))),
   h.n0, h.n1, h.nw, fun k hk => Nat.lt_of_lt_of_le (h.lt k hk) hs, h.sep⟩
theorem RfAt.turned {T : Nat → Prop} (h : RfAt w f R) (ht : Turned T w w') (hT : ∀ k, RT8 f k → ¬ T k) : RfAt w' f R := h.keep (fun k hk => ht.block k (h.lt k hk) (hT k hk)) ht.size
theorem RfAt.below (h : RfAt w f R) (hb : Below w.heap.size w w') : RfAt w' f R := h.keep (fun k hk => hb.block k (h.lt k hk)) hb.size
theorem RfAt.cells (h : RfAt w f R) : w.cell? ⟨f.q, 0, none⟩ = some (.slice (some ⟨f.gs, 0, none⟩) R.pages.length f.cs) ∧ w.cell? ⟨f.q, 1, none⟩ = some (.int .i64 R.root) ∧ w.cell? ⟨f.q, 2, none⟩ = some (.slice (some ⟨f.gw, 0, none⟩) R.was.length f.cw) ∧ w.cell? ⟨f.q, 3, none⟩ = some (.int .i64 R.wroot) ∧ w.cell? ⟨f.q, 4, none⟩ = some (.bool R.change) := by
  refine ⟨?_, ?_, ?_, ?_, ?_⟩ <;> · rw [cell_of_row _ _ _ _ _ _ h.head]; rfl
theorem RfAt.frozen (h : RfAt w f R) (i : Nat) : w.frozen? ⟨f.q, i, none⟩ = false := frozen_p h.head i
theorem Ptrs.str {vs : List Value} {l : List (Option (List UInt8))} (h : Ptrs w vs l) : ∀ v ∈ vs, ∀ k, pBlk v = some k → ∃ b, w.heap[k]? = some (strO b) := by
  intro v hv k hk
  obtain ⟨i, hi, rfl⟩ := List.getElem_of_mem hv
  have := h.2 i hi (by rw [← h.1]; exact hi)
  generalize l[i]'(by rw [← h.1]; exact hi) = x at this
  cases x with
  | none => rw [this] at hk; cases hk
  | some b =>
    obtain ⟨j, e, h2⟩ := this
    rw [e] at hk
    cases hk
    exact ⟨b, h2⟩
theorem RfAt.qn (h : RfAt w f R) : f.q ≠ f.gs ∧ f.q ≠ f.gw ∧ (∀ v ∈ f.vs, pBlk v ≠ some f.q) ∧ (∀ v ∈ f.ws, pBlk v ≠ some f.q) ∧ (∀ v ∈ f.vs, pBlk v ≠ some f.gs) ∧ (∀ v ∈ f.ws, pBlk v ≠ some f.gs) ∧ (∀ v ∈ f.vs, pBlk v ≠ some f.gw) ∧ (∀ v ∈ f.ws, pBlk v ≠ some f.gw) := by
  obtain ⟨c1, n1, _⟩ := h.now
  obtain ⟨c2, n2, _⟩ := h.was
  have hq := h.head
  refine ⟨fun e => ?_, fun e => ?_, fun v hv e => ?_, fun v hv e => ?_, fun v hv e => ?_, fun v hv e => ?_, fun v hv e => ?_, fun v hv e => ?_⟩
  · rw [e, n1] at hq; simp at hq
  · rw [e, n2] at hq; simp at hq
  · obtain ⟨b, hb⟩ := h.ptr.str v hv _ e; rw [hb] at hq; simp at hq
  · obtain ⟨b, hb⟩ := h.wptr.str v hv _ e; rw [hb] at hq; simp at hq
  · obtain ⟨b, hb⟩ := h.ptr.str v hv _ e; rw [hb] at n1; simp at n1
  · obtain ⟨b, hb⟩ := h.wptr.str v hv _ e; rw [hb] at n1; simp at n1
  · obtain ⟨b, hb⟩ := h.ptr.str v hv _ e; rw [hb] at n2; simp at n2
  · obtain ⟨b, hb⟩ := h.wptr.str v hv _ e; rw [hb] at n2; simp at n2
end
/-- its head, and its rows -/
def RH8 (f : Rf) (k : Nat) : Prop := k = f.q ∨ k = f.gs ∨ k = f.gw
theorem RH8.rt {f : Rf} {k : Nat} (h : RH8 f k) : RT8 f k := h.imp id fun e => e.imp id .inl
def RfTo (w : World) (f : Rf) (w' : World) (R' : Rp) : Prop := ∃ f', RfAt w' f' R' ∧ f'.q = f.q ∧ (∀ k, RT8 f' k → RT8 f k ∨ w.heap.size ≤ k) ∧ Turned (RH8 f) w w'
theorem RfTo.same {w : World} {f : Rf} {R : Rp} (h : RfAt w f R) : RfTo w f w R := ⟨f, h, rfl, fun _ hk => .inl hk, Turned.refl _ _⟩
theorem RfTo.then {w w1 w2 : World} {f f1 : Rf} {R2 : Rp} (hq : f1.q = f.q) (hk : ∀ k, RT8 f1 k → RT8 f k ∨ w.heap.size ≤ k) (ht : Turned (RH8 f) w w1) (h2 : RfTo w1 f1 w2 R2) (hh : ∀ k, RH8 f1 k → RH8 f k ∨ w.heap.size ≤ k := by exact fun _ hk => .inl hk) : RfTo w f w2 R2 := by
  obtain ⟨f2, a, b, c, d⟩ := h2
  refine ⟨f2, a, b.trans hq, fun k hk2 => ?_, ht.then d fun i hi hp => ?_⟩
  · rcases c k hk2 with h | h
    · exact hk k h
    · exact .inr (Nat.le_trans ht.size h)
  · rcases hh i hp with h | h
    · exact h
    · omega
section
variable {w : World} {f : Rf} {R : Rp}
set_option maxHeartbeats 4000000 in
theorem taken_any (h : RfAt w f R) (page : Int) : Calls Tryz.prog 73 #[qptr f.q, .int .i64 page] w fun e w' => e = .returned (.bool (R.taken page)) ∧ w' = w := by
  obtain ⟨c0, c1, c2, c3, c4⟩ := h.cells
  obtain ⟨n, hN⟩ : ∃ n, n = R.pages.length := ⟨_, rfl⟩
  have HN := Lib.hid hN
  by_cases h1 : 0 ≤ page
  case neg =>
    have e : R.taken page = false := by simp [Rp.taken, h1]
    have d1 : decide (0 ≤ page) = false := decide_eq_false h1
    rw [e]
    clear h e h1
    go_enter Tryz.func73, Tryz.ntmps73
    go_wp2
    go_ret
    exact ⟨rfl, rfl⟩
  have d1 : decide (0 ≤ page) = true := decide_eq_true h1
  by_cases h2 : page < (n : Int)
  case neg =>
    have e : R.taken page = false := by simp [Rp.taken, h1, ← hN, h2]
    have d2 : decide (page < (n : Int)) = false := decide_eq_false h2
    rw [e]
    rw [← hN] at c0
    clear h e hN
    go_enter Tryz.func73, Tryz.ntmps73
    go_wp2
    go_ret
    exact ⟨rfl, rfl⟩
  have d2 : decide (page < (n : Int)) = true := decide_eq_true h2
  have hlt : page.toNat < f.vs.length := by have := h.ptr.1; omega
  have hlt2 : page.toNat < R.pages.length := by omega
  have hlt3 : page.toNat < n := by omega
  have hc := h.now.cell page.toNat hlt
  have hp := h.ptr.2 page.toNat hlt hlt2
  have e : R.taken page = (R.pages[page.toNat]).isSome := by
    rw [Rp.taken, d1, ← hN, d2, List.getD_eq_getElem?_getD, List.getElem?_eq_getElem hlt2]
    rfl
  rw [e]
  rw [← hN] at c0
  clear h e hN
  generalize R.pages[page.toNat] = x at *
  cases x with
  | none =>
    rw [show f.vs[page.toNat] = .pointer none from hp] at hc
    go_enter Tryz.func73, Tryz.ntmps73
    go_wp2
    go_ret
    exact ⟨rfl, rfl⟩
  | some b =>
    obtain ⟨k, hk, _⟩ := hp
    rw [hk] at hc
    go_enter Tryz.func73, Tryz.ntmps73
    go_wp2
    go_ret
    exact ⟨rfl, rfl⟩
end
end Go.Proofs.YtbmmcaoifkboiaaGreatDoor

/- A pager that stands as the document's: each call keeps it so. Plain lists. -/
set_option linter.unusedVariables false
set_option linter.unusedSimpArgs false
set_option maxRecDepth 100000
namespace Go.Proofs.YtbmmcaoifkboiaaGreatDoor
open Go.RowKit

theorem oLook_cons (x : Int × List UInt8) (r : List (Int × List UInt8)) (n : Int) : oLook (x :: r) n = if x.1 = n then some x.2 else oLook r n := by
  by_cases h : x.1 = n
  · simp [oLook, List.find?_cons, h]
  · simp [oLook, List.find?_cons, h]
theorem oLook_app (a b : List (Int × List UInt8)) (n : Int) : oLook (a ++ b) n = (oLook a n).or (oLook b n) := by
  induction a with
  | nil => rfl
  | cons x a ih => rw [List.cons_append, oLook_cons, oLook_cons, ih]; split <;> simp
theorem oLook_over (k : Int) (b : List UInt8) (j : Int) : ∀ (o : List (Int × List UInt8)), (oLook o k).isSome → oLook (o.map fun x => if x.1 = k then (k, b) else x) j = if j = k then some b else oLook o j
  | [], h => by simp [oLook] at h
  | x :: r, h => by
    rw [oLook_cons] at h
    rw [List.map_cons, oLook_cons, oLook_cons]
    by_cases hx : x.1 = k
    · rw [if_pos hx]
      by_cases hj : j = k
      · simp [hj]
      · have hk : ¬ k = j := fun e => hj e.symm
        rw [if_neg hk, if_neg hj, if_neg (by rw [hx]; exact hk)]
        have hr : ∀ r : List (Int × List UInt8), oLook (r.map fun x => if x.1 = k then (k, b) else x) j = oLook r j := by
          intro r
          induction r with
          | nil => rfl
          | cons y r ih =>
            rw [List.map_cons, oLook_cons, oLook_cons, ih]
            by_cases hy : y.1 = k
            · rw [if_pos hy, if_neg hk, if_neg (by rw [hy]; exact hk)]
            · rw [if_neg hy]
        exact hr r
    · rw [if_neg hx] at h ⊢
      rw [oLook_over k b j r h]
      by_cases hj : j = k
      · have : ¬ x.1 = j := fun e => hx (e.trans hj)
        rw [if_neg this, if_pos hj, if_pos hj]
      · rw [if_neg hj, if_neg hj]
theorem oLook_put (o : List (Int × List UInt8)) (k : Int) (b : List UInt8) (j : Int) : oLook (oPut o k b) j = if j = k then some b else oLook o j := by
  unfold oPut
  split
  · rename_i h; exact oLook_over k b j o h
  · rename_i h
    have hn : oLook o k = none := by simpa using h
    rw [oLook_app, oLook_cons]
    by_cases hj : j = k
    · subst hj; simp [hn]
    · have : ¬ k = j := fun e => hj e.symm
      simp [hj, this, oLook]
theorem oLook_del (o : List (Int × List UInt8)) (k j : Int) : oLook (oDel o k) j = if j = k then none else oLook o j := by
  induction o with
  | nil => simp [oDel, oLook]
  | cons x r ih =>
    unfold oDel at ih ⊢
    rw [List.filter_cons]
    by_cases hx : x.1 = k
    · rw [if_neg (by simpa using hx), ih, oLook_cons]
      by_cases hj : j = k
      · rw [if_pos hj, if_pos hj]
      · rw [if_neg hj, if_neg hj, if_neg (by rw [hx]; exact fun e => hj e.symm)]
    · rw [if_pos (by simpa using hx), oLook_cons, oLook_cons, ih]
      by_cases hj : j = k
      · rw [if_neg (by rw [hj]; exact hx), if_pos hj, if_pos hj]
      · rw [if_neg hj, if_neg hj]
theorem oPut_nodup {o : List (Int × List UInt8)} (h : (o.map (·.1)).Nodup) (k : Int) (b : List UInt8) : ((oPut o k b).map (·.1)).Nodup := by
  unfold oPut
  split
  · have e : (o.map fun x => if x.1 = k then (k, b) else x).map (·.1) = o.map (·.1) := by
      rw [List.map_map]
      apply List.map_congr_left
      intro x _
      simp only [Function.comp]
      split
      · rename_i hx; exact hx.symm
      · rfl
    rw [e]
    exact h
  · rename_i hk
    rw [List.map_append, List.map_cons, List.map_nil]
    refine List.nodup_append.2 ⟨h, by simp, fun a ha c hc e => ?_⟩
    rw [List.mem_singleton.1 hc] at e
    subst e
    have := oLook_mem ha
    exact hk (Option.isSome_iff_ne_none.2 this)
theorem oDel_nodup {o : List (Int × List UInt8)} (h : (o.map (·.1)).Nodup) (k : Int) : ((oDel o k).map (·.1)).Nodup := h.sublist (List.filter_sublist.map _)
theorem oLook_some {o : List (Int × List UInt8)} {k : Int} {b : List UInt8} (h : oLook o k = some b) : k ∈ o.map (·.1) := by
  simp only [oLook, Option.map_eq_some_iff] at h
  obtain ⟨x, hx, _⟩ := h
  have h1 := List.mem_of_find?_eq_some hx
  have h2 := List.find?_some hx
  simp only [beq_iff_eq] at h2
  exact List.mem_map.2 ⟨x, h1, h2⟩
/-- the pager P stands as the document's R, on a journal with the blocks B -/
structure Sim (n : Nat) (P : Pg) (R : Rp) (seq : Int) (B : List (List UInt8)) : Prop where
  live : Live n P.J seq B AllOk
  off : P.off = 0
  now : P.now = R.pages.map (·.isSome)
  was : P.was = R.was.map (·.isSome)
  root : P.root = R.root
  wroot : P.wroot = R.wroot
  len : R.pages.length = ((n - 2) / 2 - 2) / 8
  lenw : R.was.length = R.pages.length
  plan : blocksAt B 0 2 = planB P.was P.wroot
  rok : RootOk P.now P.root
  wok : RootOk P.was P.wroot
  pagew : ∀ (k : Nat) b, R.was[k]? = some (some b) → b.length = 896 ∧ pageAt B k = b
  pagen : ∀ (k : Nat) b, R.pages[k]? = some (some b) → b.length = 896 ∧ (oLook P.own k = some b ∨ (oLook P.own k = none ∧ R.was[k]? = some (some b)))
  free : ∀ (k : Int) b, oLook P.own k = some b → 0 ≤ k ∧ R.pages[k.toNat]? = some (some b)
  nodup : (P.own.map (·.1)).Nodup
  clean : P.change = false → P.own = [] ∧ R.pages = R.was ∧ R.root = R.wroot
section
variable {n : Nat} {P : Pg} {R : Rp} {seq : Int} {B : List (List UInt8)}
theorem Sim.nlen (h : Sim n P R seq B) : P.now.length = R.pages.length := by rw [h.now, List.length_map]
theorem Sim.at (h : Sim n P R seq B) (k : Nat) : P.now.getD k false = (R.pages.getD k none).isSome := by
  rw [h.now, List.getD_eq_getElem?_getD, List.getElem?_map, List.getD_eq_getElem?_getD]
  cases R.pages[k]? <;> rfl
theorem taken_iff {R : Rp} {page : Int} : R.taken page = true ↔ 0 ≤ page ∧ page < (R.pages.length : Int) ∧ (R.pages.getD page.toNat none).isSome = true := by
  simp only [Rp.taken, Bool.and_eq_true, decide_eq_true_eq]
theorem Sim.fails (h : Sim n P R seq B) (page : Int) : P.fails page = if R.taken page = false ∧ page ≠ -1 then 81 else 0 := by
  rw [Pg.fails, if_neg (by simp [h.off]), h.nlen, h.at]
  cases ht : R.taken page with
  | true =>
    obtain ⟨a, b, c⟩ := taken_iff.1 ht
    rw [if_neg (by
      rintro (e | e | ⟨_, e⟩)
      · omega
      · omega
      · rw [c] at e; cases e), if_neg (by simp)]
  | false =>
    by_cases hp : page = -1
    · rw [if_neg (by rintro (e | e | ⟨e, _⟩) <;> omega), if_neg (fun e => e.2 hp)]
    · have hL : (R.pages.length : Int) ≤ page ∨ page < -1 ∨ 0 ≤ page ∧ (R.pages.getD page.toNat none).isSome = false := by
        refine Decidable.byContradiction fun hno => ?_
        have h1 : ¬ (R.pages.length : Int) ≤ page := fun e => hno (.inl e)
        have h2 : ¬ page < -1 := fun e => hno (.inr (.inl e))
        have h3 : R.taken page = true := taken_iff.2 ⟨by omega, by omega, by
          cases hx : (R.pages.getD page.toNat none).isSome with
          | true => rfl
          | false => exact absurd (.inr (.inr ⟨by omega, hx⟩)) hno⟩
        rw [ht] at h3
        cases h3
      rw [if_pos hL, if_pos ⟨rfl, hp⟩]
theorem Sim.must (h : Sim n P R seq B) (page : Int) : P.must page = if R.taken page = false then 81 else 0 := by
  rw [Pg.must, h.fails]
  by_cases h2 : page = -1
  · subst h2
    have : R.taken (-1) = false := by simp [Rp.taken]
    simp [this]
  · cases hx : R.taken page <;> simp [h2]
theorem Sim.fails1 (h : Sim n P R seq B) : P.fails (-1) = 0 := by rw [h.fails, if_neg (by simp)]
theorem Sim.freeAt (h : Sim n P R seq B) : freeAt P.now = freeR R.pages := by
  rw [Go.Proofs.YtbmmcaoifkboiaaGreatDoor.freeAt, h.now, List.findIdx?_map, freeR]
  congr 1
  funext x
  cases x <;> rfl
theorem set_map_some (l : List (Option (List UInt8))) (k : Nat) (x : Option (List UInt8)) : (l.set k x).map (·.isSome) = (l.map (·.isSome)).set k x.isSome := by rw [List.map_set]
/-- a page gets bytes -/
theorem Sim.lay (h : Sim n P R seq B) (k : Nat) (b : List UInt8) (hk : k < R.pages.length) (hb : b.length = 896) (now' : List Bool) (hnow : now' = P.now.set k true) : Sim n { P with now := now', own := oPut P.own k b, change := true } (R.lay k b) seq B := by
  have hl : (R.pages.set k (some b)).length = R.pages.length := by simp
  refine ⟨h.live, h.off, by rw [hnow, Rp.lay, set_map_some, ← h.now]; rfl, h.was, h.root, h.wroot, hl.trans h.len, h.lenw.trans hl.symm, h.plan, ?_, h.wok, h.pagew, fun j c hj => ?_, fun j c hj => ?_, oPut_nodup h.nodup _ _, fun e => by cases e⟩
  · obtain ⟨a1, a2, a3⟩ := h.rok
    refine ⟨a1, by rw [hnow]; simpa using a2, a3.imp id fun a => ?_⟩
    show now'.getD P.root.toNat false = true
    rw [hnow, List.getD_eq_getElem?_getD, List.getElem?_set]
    split
    · split <;> rename_i h1 h2
      · rfl
      · rw [h.nlen] at h2; exact absurd hk h2
    · rw [← List.getD_eq_getElem?_getD]; exact a
  · simp only [Rp.lay] at hj
    rw [List.getElem?_set] at hj
    show c.length = 896 ∧ (oLook (oPut P.own k b) j = some c ∨ _)
    rw [oLook_put]
    by_cases e : k = j
    · subst e
      rw [if_pos rfl, if_pos hk] at hj
      cases hj
      exact ⟨hb, .inl (by rw [if_pos rfl])⟩
    · rw [if_neg e] at hj
      have e2 : ¬ (j : Int) = (k : Int) := by omega
      rw [if_neg e2]
      exact h.pagen j c hj
  · simp only [Rp.lay]
    replace hj : oLook (oPut P.own k b) j = some c := hj
    rw [oLook_put] at hj
    by_cases e : j = (k : Int)
    · subst e
      rw [if_pos rfl] at hj
      cases hj
      exact ⟨by omega, by rw [Int.toNat_natCast, List.getElem?_set, if_pos rfl, if_pos hk]⟩
    · rw [if_neg e] at hj
      obtain ⟨a1, a2⟩ := h.free j c hj
      exact ⟨a1, by rw [List.getElem?_set, if_neg (by omega)]; exact a2⟩
theorem Sim.alloc (h : Sim n P R seq B) : P.alloc.1 = R.alloc.1 ∧ Sim n P.alloc.2 R.alloc.2 seq B := by
  have hf := h.freeAt
  cases hx : freeR R.pages with
  | none =>
    rw [Pg.alloc, if_neg (by simp [h.fails1]), hf, hx, Rp.alloc, hx]
    exact ⟨rfl, h⟩
  | some k =>
    rw [Pg.alloc, if_neg (by simp [h.fails1]), hf, hx, Rp.alloc, hx]
    have hk : k < R.pages.length := (List.findIdx?_eq_some_iff_getElem.1 hx).1
    exact ⟨rfl, h.lay k z896 hk z896_length _ rfl⟩
theorem taken_get {R : Rp} {page : Int} (h : R.taken page = true) : 0 ≤ page ∧ page.toNat < R.pages.length ∧ ∃ b, R.pages[page.toNat]? = some (some b) := by
  simp only [Rp.taken, Bool.and_eq_true, decide_eq_true_eq] at h
  obtain ⟨h1, h2, h3⟩ := h
  have h4 : page.toNat < R.pages.length := by omega
  refine ⟨h1, h4, ?_⟩
  rw [List.getD_eq_getElem?_getD, List.getElem?_eq_getElem h4] at h3
  rw [List.getElem?_eq_getElem h4]
  simp only [Option.getD_some] at h3
  exact ⟨_, congrArg some (Option.some_get h3).symm⟩
theorem Sim.write (h : Sim n P R seq B) (page : Int) (b : List UInt8) : (P.write page b).1 = (R.write page b).1 ∧ Sim n (P.write page b).2 (R.write page b).2 seq B := by
  cases ht : R.taken page with
  | false => rw [Pg.write, Rp.write, h.must, ht]; exact ⟨rfl, h⟩
  | true =>
    rw [Pg.write, Rp.write, h.must, ht]
    simp only [Bool.true_eq_false, if_false, ne_eq, not_true_eq_false]
    by_cases hb : b.length = 896
    · rw [if_neg (by simp [hb]), if_neg (by simp [hb])]
      obtain ⟨a1, a2, c, a3⟩ := taken_get ht
      have e : page = ((page.toNat : Nat) : Int) := by omega
      refine ⟨rfl, ?_⟩
      have hs : P.now = P.now.set page.toNat true := by
        have h1 : P.now[page.toNat]? = some true := by rw [h.now, List.getElem?_map, a3]; rfl
        have h2 : page.toNat < P.now.length := by rw [h.nlen]; exact a2
        rw [List.getElem?_eq_getElem h2] at h1
        rw [← Option.some.inj h1, List.set_getElem_self]
      have := h.lay page.toNat b a2 hb P.now hs
      rw [← e] at this
      exact this
    · rw [if_pos (by simp [hb]), if_pos (by simp [hb])]
      exact ⟨rfl, h⟩
theorem Sim.freed (h : Sim n P R seq B) (page : Int) : (P.free page).1 = (R.free page).1 ∧ Sim n (P.free page).2 (R.free page).2 seq B := by
  cases ht : R.taken page with
  | false => rw [Pg.free, Rp.free, h.must, ht]; exact ⟨rfl, h⟩
  | true =>
    rw [Pg.free, Rp.free, h.must, ht]
    simp only [Bool.true_eq_false, if_false, ne_eq, not_true_eq_false]
    by_cases hr : R.root = page
    · rw [if_pos (h.root.trans hr).symm, if_pos hr]
      exact ⟨rfl, h⟩
    · rw [if_neg (fun e => hr (h.root.symm.trans e.symm)), if_neg hr]
      obtain ⟨a1, a2, c, a3⟩ := taken_get ht
      have hl : (R.pages.set page.toNat none).length = R.pages.length := by simp
      refine ⟨rfl, h.live, h.off, by simp only; rw [set_map_some, ← h.now]; rfl, h.was, h.root, h.wroot, hl.trans h.len, h.lenw.trans hl.symm, h.plan, ?_, h.wok, h.pagew, fun j d hj => ?_, fun j d hj => ?_, oDel_nodup h.nodup _, fun e => by cases e⟩
      · obtain ⟨b1, b2, b3⟩ := h.rok
        refine ⟨b1, by simpa using b2, ?_⟩
        by_cases hneg : P.root < 0
        · exact .inl hneg
        · refine .inr ?_
          have a := b3.resolve_left hneg
          show (P.now.set page.toNat false).getD P.root.toNat false = true
          rw [List.getD_eq_getElem?_getD, List.getElem?_set, if_neg (by have := h.root; omega), ← List.getD_eq_getElem?_getD]
          exact a
      · simp only at hj
        rw [List.getElem?_set] at hj
        by_cases e : page.toNat = j
        · rw [if_pos e] at hj
          split at hj <;> cases hj
        · rw [if_neg e] at hj
          show d.length = 896 ∧ (oLook (oDel P.own page) j = some d ∨ (oLook (oDel P.own page) j = none ∧ _))
          rw [oLook_del, if_neg (by omega)]
          exact h.pagen j d hj
      · simp only
        replace hj : oLook (oDel P.own page) j = some d := hj
        rw [oLook_del] at hj
        by_cases e : j = page
        · rw [if_pos e] at hj; cases hj
        · rw [if_neg e] at hj
          obtain ⟨c1, c2⟩ := h.free j d hj
          exact ⟨c1, by rw [List.getElem?_set, if_neg (by omega)]; exact c2⟩
end
end Go.Proofs.YtbmmcaoifkboiaaGreatDoor

/- A pager that stands as the document's: Read, SetRoot, Abort, Commit, Open, Format. Plain lists. -/
set_option linter.unusedVariables false
set_option linter.unusedSimpArgs false
set_option maxRecDepth 100000
namespace Go.Proofs.YtbmmcaoifkboiaaGreatDoor
open Go.RowKit

section
variable {n : Nat} {P : Pg} {R : Rp} {seq : Int} {B : List (List UInt8)}
theorem live_rows {J : Jn} {ok : Nat → Prop} (h : Live n J seq B ok) : B.length = (n - 2) / 2 ∧ ∀ b ∈ B, b.length = 112 := by
  obtain ⟨w, pl, him⟩ := h.im
  exact ⟨him.rows, him.each⟩
theorem blocksAt_succ (B : List (List UInt8)) (f m : Nat) : blocksAt B f (m + 1) = blocksAt B f m ++ B.getD (f + m) [] := by
  rw [blocksAt, List.range_succ, List.flatMap_append, blocksAt]
  simp
theorem reads_live {J : Jn} (h : Live n J seq B AllOk) (f : Nat) : ∀ (m : Nat), f + m ≤ (n - 2) / 2 → J.reads (f : Int) m = (blocksAt B f m, 0, J)
  | 0, _ => by simp [Jn.reads, blocksAt]
  | m + 1, hm => by
    have ih := reads_live h f m (by omega)
    have hl := (live_rows h).1
    have hi : f + m < B.length := by omega
    have hr := read_live h (i := f + m) (by omega) trivial (List.getElem?_eq_getElem hi)
    have e : ((f : Int) + (m : Int)) = ((f + m : Nat) : Int) := by omega
    rw [blocksAt_succ, List.getD_eq_getElem?_getD, List.getElem?_eq_getElem hi, Option.getD_some]
    have h0 : (J.reads (f : Int) m).2.1 = 0 := by rw [ih]
    have h1 : (J.read ((f : Int) + (m : Int))).2.1 = 0 := by rw [e, hr]
    rw [Jn.reads_next h0 h1, ih, e, hr]
theorem Sim.pagesn (h : Sim n P R seq B) {k : Nat} (hk : k < R.pages.length) : 2 + 8 * k + 8 ≤ (n - 2) / 2 := by
  have := h.len
  omega
theorem Sim.read (h : Sim n P R seq B) (page : Int) : P.read page = ((R.read page).1, (R.read page).2, P) := by
  cases ht : R.taken page with
  | false => rw [Pg.read, Rp.read, h.must, ht]; rfl
  | true =>
    obtain ⟨a1, a2, b, a3⟩ := taken_get ht
    have e : page = ((page.toNat : Nat) : Int) := by omega
    obtain ⟨k, hk⟩ : ∃ k, k = page.toNat := ⟨_, rfl⟩
    rw [← hk] at a2 a3 e
    have er : R.read page = (b, 0) := by rw [Rp.read, if_neg (by simp [ht]), ← hk, List.getD_eq_getElem?_getD, a3]; rfl
    rw [er, Pg.read, h.must, ht]
    simp only [Bool.true_eq_false, if_false, ne_eq, not_true_eq_false]
    obtain ⟨c1, c2 | ⟨c2, c3⟩⟩ := h.pagen k b a3
    · rw [e, c2]
    · rw [e, c2]
      obtain ⟨d1, d2⟩ := h.pagew k b c3
      have hp := h.pagesn a2
      simp only
      rw [page_place, reads_live h.live (2 + 8 * k) 8 (by omega)]
      simp only [not_true_eq_false, if_false]
      have : blocksAt B (2 + 8 * k) 8 = b := d2
      rw [this]
theorem Sim.setRoot (h : Sim n P R seq B) (page : Int) : (P.setRoot page).1 = (R.setRoot page).1 ∧ Sim n (P.setRoot page).2 (R.setRoot page).2 seq B := by
  rw [Pg.setRoot, Rp.setRoot, h.fails]
  by_cases hc : R.taken page = false ∧ page ≠ -1
  · rw [if_pos hc, if_pos (by decide), if_pos hc]
    exact ⟨rfl, h⟩
  · rw [if_neg hc, if_neg (by decide), if_neg hc]
    refine ⟨rfl, h.live, h.off, h.now, h.was, rfl, h.wroot, h.len, h.lenw, h.plan, ?_, h.wok, h.pagew, h.pagen, h.free, h.nodup, fun e => by cases e⟩
    by_cases hp : page = -1
    · subst hp
      exact ⟨Int.le_refl (-1), by show (-1 : Int) < _; omega, .inl (by show (-1 : Int) < 0; omega)⟩
    · have ht : R.taken page = true := by
        cases hx : R.taken page with
        | true => rfl
        | false => exact absurd ⟨hx, hp⟩ hc
      obtain ⟨a, b, c⟩ := taken_iff.1 ht
      refine ⟨by show -1 ≤ page; omega, ?_, .inr ?_⟩
      · show page < (P.now.length : Int)
        rw [h.nlen]; exact b
      · show P.now.getD page.toNat false = true
        rw [h.at]; exact c
theorem Sim.opened (h : Sim n P R seq B) {P' : Pg} (e : P' = { P with now := P.was, root := P.wroot, own := [], change := false }) : Sim n P' R.abort seq B := by
  subst e
  refine ⟨h.live, h.off, h.was, h.was, h.wroot, h.wroot, h.lenw.trans h.len, rfl, h.plan, h.wok, h.wok, h.pagew, fun k b hk => ⟨(h.pagew k b hk).1, .inr ⟨rfl, hk⟩⟩, fun k b hk => (by cases hk), List.nodup_nil, fun _ => ⟨rfl, rfl, rfl⟩⟩
theorem Sim.abort (h : Sim n P R seq B) : Sim n P.abort R.abort seq B := by
  rw [Pg.abort, if_pos h.fails1]
  exact h.opened rfl
theorem Sim.popen (h : Sim n P R seq B) (h1 : R.pages.length ≤ 1023) (hn : 6 ≤ n) : ∃ P', P.J.popen = (0, P.J, some P') ∧ P'.J = P.J ∧ Sim n P' R.abort seq B := by
  have hr := reads_live h.live 0 2 (by omega)
  rw [h.plan] at hr
  have hpg : P.J.pages = P.was.length := by
    rw [Jn.pages, Dk.blocks, h.live.hn, h.was, List.length_map, h.lenw, h.len]
  have hl : P.was.length ≤ 1728 := by rw [h.was, List.length_map, h.lenw]; omega
  have hro : rootOf (planB P.was P.wroot) = P.wroot := rootOf_planB _ _ h.wok.1 (by have := h.wok.2.1; omega)
  refine ⟨⟨P.J, P.was, P.wroot, P.was, P.wroot, [], false, 0⟩, ?_, rfl, h.opened (by rw [← h.off])⟩
  have hr' : P.J.reads 0 2 = (planB P.was P.wroot, 0, P.J) := hr
  unfold Jn.popen
  simp only [hr', hpg, planOk_planB hl h.wok, takenOf_planB _ _ hl, hro]
  simp
theorem commitPlaces_mem {ks : List Int} {z : Int} : z ∈ commitPlaces ks → (0 ≤ z ∧ z < 2) ∨ ∃ k ∈ ks, 2 + k * 8 ≤ z ∧ z < 2 + k * 8 + 8 := by
  intro hz
  rcases List.mem_append.1 hz with hz | hz
  · obtain ⟨i, hi, rfl⟩ := List.mem_map.1 hz
    have := List.mem_range.1 hi
    exact .inl (by omega)
  · obtain ⟨k, hk, hz⟩ := List.mem_flatMap.1 hz
    obtain ⟨i, hi, rfl⟩ := List.mem_map.1 hz
    have := List.mem_range.1 hi
    exact .inr ⟨k, hk, by omega, by omega⟩
theorem placesFrom_nodup (f : Int) (m : Nat) : (placesFrom f m).Nodup := by
  rw [placesFrom, List.Nodup, List.pairwise_map]
  exact (List.nodup_range (n := m)).imp fun hne e => hne (by omega)
theorem flat_nodup : ∀ (ks : List Int), ks.Nodup → (ks.flatMap fun k => placesFrom (2 + k * 8) 8).Nodup
  | [], _ => List.nodup_nil
  | x :: ks, h => by
    rw [List.nodup_cons] at h
    rw [List.flatMap_cons]
    refine List.nodup_append.2 ⟨placesFrom_nodup _ _, flat_nodup ks h.2, fun a ha c hc e => ?_⟩
    subst e
    obtain ⟨i, hi, rfl⟩ := List.mem_map.1 ha
    obtain ⟨k, hk, hz⟩ := List.mem_flatMap.1 hc
    obtain ⟨j, hj, e⟩ := List.mem_map.1 hz
    have h1 := List.mem_range.1 hi
    have h2 := List.mem_range.1 hj
    have : k = x := by omega
    subst this
    exact h.1 hk
theorem commitPlaces_nodup {ks : List Int} (h : ks.Nodup) (h0 : ∀ k ∈ ks, 0 ≤ k) : (commitPlaces ks).Nodup := by
  refine List.nodup_append.2 ⟨placesFrom_nodup _ _, flat_nodup ks h, fun a ha c hc e => ?_⟩
  subst e
  obtain ⟨i, hi, rfl⟩ := List.mem_map.1 ha
  obtain ⟨k, hk, hz⟩ := List.mem_flatMap.1 hc
  obtain ⟨j, hj, e⟩ := List.mem_map.1 hz
  have h1 := List.mem_range.1 hi
  have h2 := List.mem_range.1 hj
  have := h0 k hk
  omega
theorem rightGo_of8 {nb : Nat} : ∀ (zs : List Int) (ls : List (List UInt8)) (met : List Int), (∀ z ∈ zs, 0 ≤ z ∧ z < (nb : Int)) → zs.Nodup → (∀ z ∈ zs, z ∉ met) → (∀ l ∈ ls, l.length = 112) → rightGo nb met zs ls = true
  | [], _, _, _, _, _, _ => by simp [rightGo]
  | _ :: _, [], _, _, _, _, _ => by simp [rightGo]
  | z :: zs, l :: ls, met, h1, h2, h3, h4 => by
    rw [List.nodup_cons] at h2
    have a := h1 z (List.mem_cons_self ..)
    have ih := rightGo_of8 zs ls (met ++ [z]) (fun y hy => h1 y (List.mem_cons_of_mem _ hy)) h2.2 (fun y hy hm => by
      rcases List.mem_append.1 hm with hm | hm
      · exact h3 y (List.mem_cons_of_mem _ hy) hm
      · rw [List.mem_singleton.1 hm] at hy
        exact h2.1 hy) (fun y hy => h4 y (List.mem_cons_of_mem _ hy))
    simp only [rightGo, ih, Bool.and_true, Bool.and_eq_true, decide_eq_true_eq, Bool.not_eq_true', decide_eq_false_iff_not]
    exact ⟨⟨⟨a.1, a.2⟩, h3 z (List.mem_cons_self ..)⟩, h4 l (List.mem_cons_self ..)⟩
theorem chunks_bytes {m : Nat} {b : List UInt8} (h : b.length = 112 * m) : ∀ l ∈ chunks m b, l.length = 112 := by
  intro l hl
  rw [chunks_eq] at hl
  obtain ⟨i, hi, rfl⟩ := List.mem_map.1 hl
  have := List.mem_range.1 hi
  simp
  omega
theorem commitBlocks_len (P : Pg) (ks : List Int) : (commitBlocks P ks).length = 2 + 8 * ks.length := by
  rw [commitBlocks, List.length_append, chunks_length]
  congr 1
  induction ks with
  | nil => rfl
  | cons k r ih => rw [List.flatMap_cons, List.length_append, chunks_length, ih, List.length_cons]; omega
theorem Sim.keys (h : Sim n P R seq B) : (keysOf P.own).Nodup ∧ (∀ k ∈ keysOf P.own, 0 ≤ k ∧ k.toNat < R.pages.length) ∧ (keysOf P.own).length ≤ R.pages.length ∧ (∀ k, k ∈ keysOf P.own ↔ oLook P.own k ≠ none) := by
  have hp := List.mergeSort_perm (P.own.map (·.1)) (fun x y => decide (x ≤ y))
  have hm : ∀ k, k ∈ keysOf P.own ↔ k ∈ P.own.map (·.1) := fun k => hp.mem_iff
  have hi : ∀ k, k ∈ keysOf P.own ↔ oLook P.own k ≠ none := fun k => by
    rw [hm]
    refine ⟨oLook_mem, fun e => ?_⟩
    obtain ⟨b, hb⟩ := Option.ne_none_iff_exists'.1 e
    exact oLook_some hb
  have hb : ∀ k ∈ keysOf P.own, 0 ≤ k ∧ k.toNat < R.pages.length := fun k hk => by
    obtain ⟨b, hb⟩ := Option.ne_none_iff_exists'.1 ((hi k).1 hk)
    obtain ⟨a1, a2⟩ := h.free k b hb
    exact ⟨a1, (List.getElem?_eq_some_iff.1 a2).1⟩
  have hnd : (keysOf P.own).Nodup := hp.nodup_iff.2 h.nodup
  exact ⟨hnd, hb, nodup_range _ _ hnd fun k hk => by have := hb k hk; omega, hi⟩
theorem Sim.right (h : Sim n P R seq B) (hn : 6 ≤ n) : rightW ((n - 2) / 2) P.places P.blocks = true := by
  obtain ⟨k1, k2, k3, k4⟩ := h.keys
  have e1 : P.places = commitPlaces (keysOf P.own) := rfl
  have e2 : P.blocks = commitBlocks P (keysOf P.own) := rfl
  rw [e1, e2, rightW, rightGo_of8 _ _ [] (fun z hz => ?_) (commitPlaces_nodup k1 fun k hk => (k2 k hk).1) (fun _ _ h => by cases h) (fun l hl => ?_), commitPlaces_len, commitBlocks_len]
  · simp
  · rcases commitPlaces_mem hz with hz | ⟨k, hk, h1, h2⟩
    · omega
    · have := k2 k hk
      have := h.pagesn (k := k.toNat) (k2 k hk).2
      omega
  · rcases List.mem_append.1 hl with hl | hl
    · exact chunks_bytes (by rw [planB_length]) l hl
    · obtain ⟨k, hk, hl⟩ := List.mem_flatMap.1 hl
      obtain ⟨b, hb⟩ := Option.ne_none_iff_exists'.1 ((k4 k).1 hk)
      rw [hb] at hl
      obtain ⟨a1, a2⟩ := h.free k b hb
      exact chunks_bytes (by have := (h.pagen k.toNat b a2).1; rw [Option.getD_some]; omega) l hl
/-- what a Commit is worth -/
structure Commits (n : Nat) (P : Pg) (R : Rp) (seq : Int) (B : List (List UInt8)) (seq' : Int) (B' : List (List UInt8)) : Prop where
  err : P.commit.1 = 0
  sim : Sim n P.commit.2 R.commit seq' B'
  last : P.commit.2.J.last ≤ P.J.last + 1
  cut : P.commit.2.J.D.cut = P.J.D.cut
  ops : P.commit.2.J.D.ops ≤ P.J.D.ops + (8 + 16 * R.pages.length)
  seq : seq ≤ seq' ∧ seq' ≤ seq + 1
theorem Sim.written (h : Sim n P R seq B) (hn : 6 ≤ n) {J' : Jn} {seq' : Int} (hl : Live n J' seq' (updB B P.places P.blocks) AllOk) : Sim n { P with J := J', was := P.now, wroot := P.root, own := [], change := false } R.commit seq' (updB B P.places P.blocks) := by
  obtain ⟨k1, k2, k3, k4⟩ := h.keys
  have hrow := (live_rows h.live).1
  have hlen : ∀ k b, oLook P.own k = some b → b.length = 896 := fun k b hb => (h.pagen k.toNat b (h.free k b hb).2).1
  obtain ⟨u1, u2, u3⟩ := commit_upd (P := P) (B := B) hlen (keysOf P.own) (by omega) k1 (fun k hk => ⟨(k2 k hk).1, by have := h.pagesn (k2 k hk).2; omega⟩) (fun k hk => Option.ne_none_iff_exists'.1 ((k4 k).1 hk))
  have hpw : ∀ (k : Nat) b, R.pages[k]? = some (some b) → b.length = 896 ∧ pageAt (updB B P.places P.blocks) k = b := fun k b hk => by
    obtain ⟨c1, c2⟩ := h.pagen k b hk
    refine ⟨c1, ?_⟩
    have := u3 k
    rw [show pageAt (updB B P.places P.blocks) k = _ from this]
    rcases c2 with c2 | ⟨c2, c3⟩
    · rw [if_pos ((k4 _).2 (by rw [c2]; simp)), c2]; rfl
    · rw [if_neg (fun e => (k4 _).1 e c2)]
      exact (h.pagew k b c3).2
  exact ⟨hl, h.off, h.now, h.now, h.root, h.root, h.len, rfl, u2, h.rok, h.rok, hpw, fun k b hk => ⟨(hpw k b hk).1, .inr ⟨rfl, hk⟩⟩, fun k b hk => (by cases hk), List.nodup_nil, fun _ => ⟨rfl, rfl, rfl⟩⟩
theorem Sim.commit (h : Sim n P R seq B) (hn : 6 ≤ n) (hcut : P.J.D.cut < 0) (ht : P.J.last + 1 < 4611686018427387904) (hb : P.J.D.ops + (8 + 16 * R.pages.length) ≤ 1048576) : ∃ seq' B', Commits n P R seq B seq' B' := by
  cases hch : P.change with
  | false =>
    obtain ⟨c1, c2, c3⟩ := h.clean hch
    have e : P.commit = (0, P) := by rw [Pg.commit, if_neg (by simp [h.fails1]), if_pos hch]
    refine ⟨seq, B, by rw [e], ?_, by rw [e]; show P.J.last ≤ _; omega, by rw [e], by rw [e]; show P.J.D.ops ≤ _; omega, by omega⟩
    rw [e]
    exact ⟨h.live, h.off, h.now, by rw [h.was]; show _ = R.pages.map _; rw [c2], h.root, by rw [h.wroot]; exact c3.symm, h.len, rfl, h.plan, h.rok, h.wok, fun k b hk => h.pagew k b (by rw [← c2]; exact hk), fun k b hk => by
      obtain ⟨d1, d2⟩ := h.pagen k b hk
      exact ⟨d1, d2.imp id fun d => ⟨d.1, hk⟩⟩, h.free, h.nodup, fun _ => ⟨c1, rfl, rfl⟩⟩
  | true =>
    obtain ⟨k1, k2, k3, k4⟩ := h.keys
    have hzl : P.places.length = 2 + 8 * (keysOf P.own).length := commitPlaces_len _
    have hw := write_ok h.live hcut (h.right hn) ht (by omega)
    have e : P.commit = (0, { P with J := (P.J.write P.places P.blocks).2, was := P.now, wroot := P.root, own := [], change := false }) := by
      rw [Pg.commit, if_neg (by simp [h.fails1]), if_neg (by simp [hch])]
      simp only
      rw [if_neg (by simp [hw.err])]
    have hl := hw.live
    rw [if_neg (by omega)] at hl
    refine ⟨seq + 1, updB B P.places P.blocks, by rw [e], by rw [e]; exact h.written hn hl, by rw [e]; exact hw.last, by rw [e]; exact hw.cut, ?_, by omega⟩
    rw [e]
    have := hw.ops
    show (P.J.write P.places P.blocks).2.D.ops ≤ _
    omega
end
end Go.Proofs.YtbmmcaoifkboiaaGreatDoor

/- A pager's Left. -/
set_option linter.unusedVariables false
set_option linter.unusedSimpArgs false
set_option maxRecDepth 100000
namespace Go.Proofs.YtbmmcaoifkboiaaGreatDoor
open Go.RowKit

def freeN (t : List Bool) : Nat := t.countP fun b => !b
theorem freeN_take (t : List Bool) (k : Nat) (h : k < t.length) : freeN (t.take (k + 1)) = freeN (t.take k) + if t[k] then 0 else 1 := by
  rw [freeN, List.take_add_one, List.getElem?_eq_getElem h, List.countP_append, freeN]
  cases t[k] <;> rfl
theorem freeN_le (t : List Bool) : freeN t ≤ t.length := List.countP_le_length
section
variable {w : World} {F : Ft} {p : Nat} {f : Pf} {P : Pg}
set_option maxHeartbeats 4000000 in
theorem left_any (h : PgAt w F p f P) : Calls Tryz.prog 21 #[qptr f.q] w fun e w' => e = .returned (.int .i64 (freeN P.now : Int)) ∧ w' = w := by
  obtain ⟨c0, c1, c2, c3, c4, c5, c6, c7⟩ := h.cells
  have HP := Lib.hid (pages_any h)
  have HN := Lib.hid h.now
  have hn1 := h.ok.n1
  obtain ⟨n, hn⟩ : ∃ n, n = P.now.length := ⟨_, rfl⟩
  have Hn := Lib.hid hn
  rw [← hn] at HP c1 hn1
  clear hn h c0 c2 c3 c4 c5 c6 c7
  go_enter Tryz.func21, Tryz.ntmps21
  go_wp2_with (go_at_call 20; refine HP.out.mono ?_; rintro e w9 ⟨rfl, hw9⟩; rw [hw9]; clear hw9 w9)
  go_loop [3, 7] (fun c x => ∃ k : Nat, k ≤ n ∧ x = .int .i64 (k : Int) ∧ c = .int .i64 (freeN (P.now.take k) : Int)) (fun _ x => n - (intOf x).toNat)
  case atStart => exact ⟨0, Nat.zero_le _, rfl, by simp [freeN]⟩
  case round =>
    obtain ⟨k, hk, rfl, rfl⟩ := hrel
    by_cases hlt : k < n
    · have hkt : k < P.now.length := by rw [← Hn.out]; exact hlt
      have hd : decide ((k : Int) < (n : Int)) = true := decide_eq_true (by omega)
      have hc := HN.out.cell k hkt
      have hle : freeN (P.now.take k) ≤ k := by
        have := freeN_le (P.now.take k)
        rw [List.length_take] at this
        omega
      have hst := freeN_take P.now k hkt
      generalize P.now[k] = b at *
      cases b with
      | true =>
        have HE : Hid (freeN (P.now.take (k + 1)) = freeN (P.now.take k)) := Lib.hid (by simpa using hst)
        clear hst
        go_wp2
        go_round
        case rel => exact ⟨k + 1, by omega, by go_num, by rw [HE.out]⟩
        case measure => simp [intOf]; omega
      | false =>
        have HE : Hid (freeN (P.now.take (k + 1)) = freeN (P.now.take k) + 1) := Lib.hid (by simpa using hst)
        clear hst
        generalize freeN (P.now.take k) = m at *
        go_wp2
        go_round
        case rel => exact ⟨k + 1, by omega, by go_num, by rw [HE.out]; go_num⟩
        case measure => simp [intOf]; omega
    · obtain rfl : k = n := by omega
      have hdz : decide ((k : Int) < (k : Int)) = false := by simp
      have HE : Hid (P.now.take k = P.now) := Lib.hid (List.take_of_length_le (by rw [Hn.out]; exact Nat.le_refl _))
      go_wp2
      go_ret
      rw [HE.out]
      exact ⟨rfl, rfl⟩
end
end Go.Proofs.YtbmmcaoifkboiaaGreatDoor

/- The document's pager: lay, Alloc, Free, Read, Write, SetRoot, Left. -/
set_option linter.unusedVariables false
set_option linter.unusedSimpArgs false
set_option maxRecDepth 100000
namespace Go.Proofs.YtbmmcaoifkboiaaGreatDoor
open Go.RowKit

section
variable {w : World} {f : Rf} {R : Rp}
theorem PtrIs.lt {v : Value} {x : Option (List UInt8)} (h : PtrIs w v x) {k : Nat} (hk : pBlk v = some k) : k < w.heap.size := by
  cases x with
  | none => rw [show v = .pointer none from h] at hk; cases hk
  | some b =>
    obtain ⟨j, e, h2⟩ := h
    rw [e] at hk
    cases hk
    exact lt_of_heap h2
theorem PtrIs.ne {v : Value} {x : Option (List UInt8)} (h : PtrIs w v x) {g : Nat} {c : Array Value} {T : TypeId} (hg : w.heap[g]? = some (.cells c T (0, 0))) (hT : T ≠ 9) : pBlk v ≠ some g := fun hk => by
  cases x with
  | none => rw [show v = .pointer none from h] at hk; cases hk
  | some b =>
    obtain ⟨j, e, h2⟩ := h
    rw [e] at hk
    cases hk
    rw [h2] at hg
    simp only [Option.some.injEq, Obj.cells.injEq] at hg
    exact hT hg.2.1.symm
theorem mem_set {l : List Value} {k : Nat} {v u : Value} (h : u ∈ l.set k v) : u ∈ l ∨ u = v := by
  rcases List.mem_or_eq_of_mem_set h with h | h
  · exact .inl h
  · exact .inr h
theorem RfAt.put_ptr (h : RfAt w f R) (k : Nat) (v : Value) (x : Option (List UInt8)) (hv : PtrIs w v x) :
    RfAt (w.setCell ⟨f.gs, k, none⟩ v) { f with vs := f.vs.set k v } { R with pages := R.pages.set k x } ∧ (∀ j, RT8 { f with vs := f.vs.set k v } j → RT8 f j ∨ pBlk v = some j) ∧ Turned (RH8 f) w (w.setCell ⟨f.gs, k, none⟩ v) := by
  have ht := turned_one w f.gs k v
  obtain ⟨q1, q2, q3, q4, q5, q6, q7, q8⟩ := h.qn
  have hl : (R.pages.set k x).length = R.pages.length := by simp
  have hvg : pBlk v ≠ some f.gs := by obtain ⟨c, hc, _⟩ := h.now; exact hv.ne hc (by decide)
  have hT : ∀ j, RT8 { f with vs := f.vs.set k v } j → RT8 f j ∨ pBlk v = some j := by
    rintro j (e | e | e | ⟨u, hu, e⟩ | ⟨u, hu, e⟩)
    · exact .inl (.inl e)
    · exact .inl (.inr (.inl e))
    · exact .inl (.inr (.inr (.inl e)))
    · rcases mem_set hu with hu | rfl
      · exact .inl (.inr (.inr (.inr (.inl ⟨u, hu, e⟩))))
      · exact .inr e
    · exact .inl (.inr (.inr (.inr (.inr ⟨u, hu, e⟩))))
  refine ⟨⟨?_, h.now.set k v, h.was.keep (ht.block _ h.was.lt (Ne.symm h.sep)), ?_, ?_, by rw [hl]; exact h.n0, by rw [hl]; exact h.n1, by rw [hl]; exact h.nw, fun j hj => ?_, h.sep⟩, hT, ht.mono fun _ _ e => .inr (.inl e)⟩
  · rw [ht.block _ (lt_of_heap h.head) q1, h.head]
    simp only [rfRow, hl]
  · refine (h.ptr.set k v x hv).keep fun u hu j hj => ?_
    rcases mem_set hu with hu | rfl
    · exact ht.block _ (h.lt j (.inr (.inr (.inr (.inl ⟨u, hu, hj⟩))))) fun e => q5 u hu (by rw [hj, e])
    · exact ht.block _ (hv.lt hj) fun e => hvg (by rw [hj, e])
  · exact h.wptr.keep fun u hu j hj => ht.block _ (h.lt j (.inr (.inr (.inr (.inr ⟨u, hu, hj⟩))))) fun e => q6 u hu (by rw [hj, e])
  · refine Nat.lt_of_lt_of_le ?_ ht.size
    rcases hT j hj with e | e
    · exact h.lt j e
    · exact hv.lt e
theorem RfAt.put_change (h : RfAt w f R) (b : Bool) : RfAt (w.setCell ⟨f.q, 4, none⟩ (.bool b)) f { R with change := b } := by
  have ht := turned_one w f.q 4 (.bool b)
  obtain ⟨q1, q2, q3, q4, _⟩ := h.qn
  exact ⟨head_setCell h.head _, h.now.keep (ht.block _ h.now.lt (Ne.symm q1)), h.was.keep (ht.block _ h.was.lt (Ne.symm q2)), h.ptr.keep fun u hu j hj => ht.block _ (h.lt j (.inr (.inr (.inr (.inl ⟨u, hu, hj⟩))))) fun e => q3 u hu (by rw [hj, e]),
    h.wptr.keep fun u hu j hj => ht.block _ (h.lt j (.inr (.inr (.inr (.inr ⟨u, hu, hj⟩))))) fun e => q4 u hu (by rw [hj, e]), h.n0, h.n1, h.nw, fun k hk => Nat.lt_of_lt_of_le (h.lt k hk) ht.size, h.sep⟩
theorem RfAt.put_root (h : RfAt w f R) (r : Int) : RfAt (w.setCell ⟨f.q, 1, none⟩ (.int .i64 r)) f { R with root := r } := by
  have ht := turned_one w f.q 1 (.int .i64 r)
  obtain ⟨q1, q2, q3, q4, _⟩ := h.qn
  exact ⟨head_setCell h.head _, h.now.keep (ht.block _ h.now.lt (Ne.symm q1)), h.was.keep (ht.block _ h.was.lt (Ne.symm q2)), h.ptr.keep fun u hu j hj => ht.block _ (h.lt j (.inr (.inr (.inr (.inl ⟨u, hu, hj⟩))))) fun e => q3 u hu (by rw [hj, e]),
    h.wptr.keep fun u hu j hj => ht.block _ (h.lt j (.inr (.inr (.inr (.inr ⟨u, hu, hj⟩))))) fun e => q4 u hu (by rw [hj, e]), h.n0, h.n1, h.nw, fun k hk => Nat.lt_of_lt_of_le (h.lt k hk) ht.size, h.sep⟩
theorem turned_rq (w : World) (f : Rf) (i : Nat) (v : Value) : Turned (RH8 f) w (w.setCell ⟨f.q, i, none⟩ v) := (turned_one w f.q i v).mono fun _ _ e => .inl e
set_option maxHeartbeats 4000000 in
theorem rlay_any (h : RfAt w f R) (k : Nat) (hk : k < R.pages.length) (b : List UInt8) : Calls Tryz.prog 72 #[qptr f.q, .int .i64 (k : Int), .string ⟨b.toArray⟩] w fun e w' => e = .returned (.tuple #[]) ∧ RfTo w f w' (R.lay k b) := by
  obtain ⟨w1, hw1⟩ : ∃ x, x = w.alloc (strO b) := ⟨_, rfl⟩
  have hb1 : Below w.heap.size w w1 := by rw [hw1]; exact (Below.refl _ _).alloc (Nat.le_refl _) _
  have hs1 : w1.heap[w.heap.size]? = some (strO b) := by rw [hw1]; exact heap_alloc_new w _
  have h1 := h.below hb1
  obtain ⟨h2, k2, t2⟩ := h1.put_ptr k (.pointer (some ⟨w.heap.size, 0, none⟩)) (some b) ⟨_, rfl, hs1⟩
  have h3 := h2.put_change true
  have t3 := turned_rq (w1.setCell ⟨f.gs, k, none⟩ (.pointer (some ⟨w.heap.size, 0, none⟩))) { f with vs := f.vs.set k (.pointer (some ⟨w.heap.size, 0, none⟩)) } 4 (.bool true)
  obtain ⟨c0, c1, c2, c3, c4⟩ := h1.cells
  obtain ⟨g0, g1, g2, g3, g4⟩ := h2.cells
  have f4 := h2.frozen 4
  have hfz := h1.now.frozen k
  obtain ⟨ck, hcell⟩ : ∃ u, w1.cell? ⟨f.gs, k, none⟩ = some u := ⟨_, h1.now.cell k (by rw [h1.ptr.1]; exact hk)⟩
  have hi0 : (0 : Int) ≤ (k : Int) := by omega
  have hi1 : (k : Int) < (R.pages.length : Int) := by omega
  dsimp only at g4 f4
  have HX : Hid (RfTo w f _ (R.lay k b)) := Lib.hid (RfTo.then (f1 := { f with vs := f.vs.set k (.pointer (some ⟨w.heap.size, 0, none⟩)) }) rfl (fun j hj => (k2 j hj).imp id fun e => by
    simp only [pBlk, Option.some.injEq] at e
    omega) ((Turned.of_below hb1).trans t2) ⟨_, h3, rfl, fun _ hk => .inl hk, t3⟩)
  clear h h1 h2 k2 t2 h3 t3 hb1 hs1 g0 g1 g2 g3 c1 c2 c3 c4 hk
  subst hw1
  go_enter Tryz.func72, Tryz.ntmps72
  go_wp2
  go_end0
  exact ⟨rfl, HX.out⟩
theorem Rp.taken_bounds {R : Rp} {page : Int} (h : R.taken page = true) : 0 ≤ page ∧ page < (R.pages.length : Int) ∧ page.toNat < R.pages.length ∧ ∃ b, R.pages[page.toNat]? = some (some b) := by
  simp only [Rp.taken, Bool.and_eq_true, decide_eq_true_eq] at h
  obtain ⟨h1, h2, h3⟩ := h
  have h4 : page.toNat < R.pages.length := by omega
  refine ⟨h1, h2, h4, ?_⟩
  rw [List.getD_eq_getElem?_getD, List.getElem?_eq_getElem h4] at h3
  rw [List.getElem?_eq_getElem h4]
  simp only [Option.getD_some] at h3
  exact ⟨_, congrArg some (Option.some_get h3).symm⟩
set_option maxHeartbeats 4000000 in
theorem rread_any (h : RfAt w f R) (page : Int) : Calls Tryz.prog 44 #[qptr f.q, .int .i64 page] w fun e w' => e = .returned (.tuple #[.string ⟨(R.read page).1.toArray⟩, .int .i64 (R.read page).2]) ∧ w' = w := by
  have HT := Lib.hid (taken_any h page)
  cases ht : R.taken page with
  | false =>
    have e : R.read page = ([], 81) := by rw [Rp.read, if_pos ht]
    rw [e]
    rw [ht] at HT
    clear h e ht
    go_enter Tryz.func44, Tryz.ntmps44
    go_wp2_with (go_at_call 73; refine HT.out.mono ?_; rintro e w2 ⟨rfl, rfl⟩)
    go_ret2
    exact ⟨rfl, rfl⟩
  | true =>
    obtain ⟨i0, i1, i2, b, hb⟩ := Rp.taken_bounds ht
    have e : R.read page = (b, 0) := by rw [Rp.read, if_neg (by simp [ht]), List.getD_eq_getElem?_getD, hb]; rfl
    rw [e]
    rw [ht] at HT
    obtain ⟨c0, c1, c2, c3, c4⟩ := h.cells
    have i3 : page.toNat < f.vs.length := by rw [h.ptr.1]; exact i2
    have hp := h.ptr.2 page.toNat i3 i2
    rw [List.getElem?_eq_getElem i2] at hb
    rw [Option.some.inj hb] at hp
    obtain ⟨k, hk, hs⟩ := hp
    have hc := h.now.cell page.toNat i3
    rw [hk] at hc
    have hsc : w.cell? ⟨k, 0, none⟩ = some (.string ⟨b.toArray⟩) := by rw [cell_of_row _ _ _ _ _ _ hs]; rfl
    clear h e ht hb hk hs c1 c2 c3 c4
    go_enter Tryz.func44, Tryz.ntmps44
    go_wp2_with (go_at_call 73; refine HT.out.mono ?_; rintro e w2 ⟨rfl, rfl⟩)
    go_ret2
    exact ⟨rfl, rfl⟩
end
end Go.Proofs.YtbmmcaoifkboiaaGreatDoor

/- The document's pager: Free, Write, SetRoot, Alloc, Left. -/
set_option linter.unusedVariables false
set_option linter.unusedSimpArgs false
set_option maxRecDepth 100000
namespace Go.Proofs.YtbmmcaoifkboiaaGreatDoor
open Go.RowKit

section
variable {w : World} {f : Rf} {R : Rp}
set_option maxHeartbeats 4000000 in
theorem rfree_any (h : RfAt w f R) (page : Int) : Calls Tryz.prog 43 #[qptr f.q, .int .i64 page] w fun e w' => e = .returned (.int .i64 (R.free page).1) ∧ RfTo w f w' (R.free page).2 := by
  have HT := Lib.hid (taken_any h page)
  cases ht : R.taken page with
  | false =>
    have e : R.free page = (81, R) := by rw [Rp.free, if_pos ht]
    rw [e]
    rw [ht] at HT
    have HS := Lib.hid (RfTo.same h)
    clear h e ht
    go_enter Tryz.func43, Tryz.ntmps43
    go_wp2_with (go_at_call 73; refine HT.out.mono ?_; rintro e w2 ⟨rfl, rfl⟩)
    go_ret
    exact ⟨rfl, HS.out⟩
  | true =>
    obtain ⟨i0, i1, i2, b, hb⟩ := Rp.taken_bounds ht
    obtain ⟨c0, c1, c2, c3, c4⟩ := h.cells
    rw [ht] at HT
    by_cases hr : R.root = page
    · have e : R.free page = (2, R) := by rw [Rp.free, if_neg (by simp [ht]), if_pos hr]
      rw [e]
      have HS := Lib.hid (RfTo.same h)
      have d1 : (R.root == page) = true := by simpa using hr
      clear h e ht hr hb
      generalize R.root = r at *
      go_enter Tryz.func43, Tryz.ntmps43
      go_wp2_with (go_at_call 73; refine HT.out.mono ?_; rintro e w2 ⟨rfl, rfl⟩)
      go_ret
      exact ⟨rfl, HS.out⟩
    · have e : R.free page = (0, { R with pages := R.pages.set page.toNat none, change := true }) := by rw [Rp.free, if_neg (by simp [ht]), if_neg hr]
      rw [e]
      have d1 : (R.root == page) = false := by simpa using hr
      obtain ⟨h2, k2, t2⟩ := h.put_ptr page.toNat (.pointer none) none rfl
      have h3 := h2.put_change true
      have t3 := turned_rq (w.setCell ⟨f.gs, page.toNat, none⟩ (.pointer none)) { f with vs := f.vs.set page.toNat (.pointer none) } 4 (.bool true)
      obtain ⟨g0, g1, g2, g3, g4⟩ := h2.cells
      have f4 := h2.frozen 4
      have hfz := h.now.frozen page.toNat
      obtain ⟨ck, hcell⟩ : ∃ u, w.cell? ⟨f.gs, page.toNat, none⟩ = some u := ⟨_, h.now.cell page.toNat (by rw [h.ptr.1]; exact i2)⟩
      dsimp only at g4 f4
      have HX : Hid (RfTo w f _ { R with pages := R.pages.set page.toNat none, change := true }) := Lib.hid (RfTo.then (f1 := { f with vs := f.vs.set page.toNat (.pointer none) }) rfl (fun j hj => (k2 j hj).imp id fun e => by cases e) t2 ⟨_, h3, rfl, fun _ hk => .inl hk, t3⟩)
      clear h h2 k2 t2 h3 t3 g0 g1 g2 g3 c2 c3 c4 e ht hr hb
      generalize R.root = r at *
      go_enter Tryz.func43, Tryz.ntmps43
      go_wp2_with (go_at_call 73; refine HT.out.mono ?_; rintro e w9 ⟨rfl, hw9⟩; rw [hw9]; clear hw9 w9)
      go_ret
      exact ⟨rfl, HX.out⟩
set_option maxHeartbeats 4000000 in
theorem rsetroot_any (h : RfAt w f R) (page : Int) : Calls Tryz.prog 48 #[qptr f.q, .int .i64 page] w fun e w' => e = .returned (.int .i64 (R.setRoot page).1) ∧ RfTo w f w' (R.setRoot page).2 := by
  have HT := Lib.hid (taken_any h page)
  have h1 := h.put_root page
  have h2 := h1.put_change true
  have t1 := turned_rq w f 1 (.int .i64 page)
  have t2 := turned_rq (w.setCell ⟨f.q, 1, none⟩ (.int .i64 page)) f 4 (.bool true)
  obtain ⟨c0, c1, c2, c3, c4⟩ := h.cells
  obtain ⟨g0, g1, g2, g3, g4⟩ := h1.cells
  have f1 := h.frozen 1
  have f4 := h1.frozen 4
  have HX : Hid (RfTo w f _ { R with root := page, change := true }) := Lib.hid ⟨f, h2, rfl, fun _ hk => .inl hk, t1.trans t2⟩
  have HS := Lib.hid (RfTo.same h)
  clear h h1 h2 t1 t2 g0 g1 g2 g3
  cases ht : R.taken page with
  | true =>
    have e : R.setRoot page = (0, { R with root := page, change := true }) := by rw [Rp.setRoot, if_neg (by simp [ht])]
    rw [e]
    rw [ht] at HT
    clear e ht
    go_enter Tryz.func48, Tryz.ntmps48
    go_wp2_with (go_at_call 73; refine HT.out.mono ?_; rintro e w9 ⟨rfl, hw9⟩; rw [hw9]; clear hw9 w9)
    go_ret
    exact ⟨rfl, HX.out⟩
  | false =>
    by_cases hp : page = -1
    · have e : R.setRoot page = (0, { R with root := page, change := true }) := by rw [Rp.setRoot, if_neg (by simp [hp])]
      have d1 : (page != -1) = false := by simpa using hp
      rw [e]
      rw [ht] at HT
      clear e ht hp
      go_enter Tryz.func48, Tryz.ntmps48
      go_wp2_with (go_at_call 73; refine HT.out.mono ?_; rintro e w9 ⟨rfl, hw9⟩; rw [hw9]; clear hw9 w9)
      go_ret
      exact ⟨rfl, HX.out⟩
    · have e : R.setRoot page = (81, R) := by rw [Rp.setRoot, if_pos ⟨ht, hp⟩]
      have d1 : (page != -1) = true := by simpa using hp
      rw [e]
      rw [ht] at HT
      clear e ht hp
      go_enter Tryz.func48, Tryz.ntmps48
      go_wp2_with (go_at_call 73; refine HT.out.mono ?_; rintro e w9 ⟨rfl, hw9⟩; rw [hw9]; clear hw9 w9)
      go_ret
      exact ⟨rfl, HS.out⟩
set_option maxHeartbeats 4000000 in
theorem rwrite8_any (h : RfAt w f R) (page : Int) (v : Value) (b : List UInt8) (hv : IsB w v b) : Calls Tryz.prog 47 #[qptr f.q, .int .i64 page, v] w fun e w' => e = .returned (.int .i64 (R.write page b).1) ∧ RfTo w f w' (R.write page b).2 := by
  have HT := Lib.hid (taken_any h page)
  have hcv := run_str (P := Tryz.prog) hv 44 9 5 Tryz.underlying44 Tryz.underlying5 Tryz.underlying9
  obtain ⟨a, c, rfl, _, _⟩ := hv.form
  cases ht : R.taken page with
  | false =>
    have e : R.write page b = (81, R) := by rw [Rp.write, if_pos ht]
    rw [e]
    rw [ht] at HT
    have HS := Lib.hid (RfTo.same h)
    clear h e ht
    go_enter Tryz.func47, Tryz.ntmps47
    go_wp2_with (go_at_call 73; refine HT.out.mono ?_; rintro e w2 ⟨rfl, rfl⟩)
    go_ret
    exact ⟨rfl, HS.out⟩
  | true =>
    obtain ⟨i0, i1, i2, b2, hb⟩ := Rp.taken_bounds ht
    by_cases hl : b.length = 896
    · have e : R.write page b = (0, R.lay page.toNat b) := by rw [Rp.write, if_neg (by simp [ht]), if_neg (by simp [hl])]
      rw [e]
      rw [ht] at HT
      have HL := Lib.hid (rlay_any h page.toNat i2 b)
      rw [Int.toNat_of_nonneg i0] at HL
      have d1 : ((b.length : Int) != 896) = false := by rw [hl]; rfl
      clear h e ht hb hv hl
      go_enter Tryz.func47, Tryz.ntmps47
      go_wp2_with (go_at_call 73; refine HT.out.mono ?_; rintro e w9 ⟨rfl, hw9⟩; rw [hw9]; clear hw9 w9)
      refine HL.out.mono ?_
      rintro e w2 ⟨rfl, h2⟩
      go_wp2_with fail
      go_ret
      exact ⟨rfl, h2⟩
    · have e : R.write page b = (2, R) := by rw [Rp.write, if_neg (by simp [ht]), if_pos hl]
      rw [e]
      rw [ht] at HT
      have HS := Lib.hid (RfTo.same h)
      have d1 : ((b.length : Int) != 896) = true := by rw [bne_iff_ne]; omega
      clear h e ht hb hv hl
      go_enter Tryz.func47, Tryz.ntmps47
      go_wp2_with (go_at_call 73; refine HT.out.mono ?_; rintro e w2 ⟨rfl, rfl⟩)
      go_ret
      exact ⟨rfl, HS.out⟩
theorem freeR_at {l : List (Option (List UInt8))} {k : Nat} (h : k < l.length) (h1 : l[k] = none) (h2 : ∀ j (hj : j < k), l[j]'(by omega) ≠ none) : freeR l = some k := by
  refine List.findIdx?_eq_some_iff_getElem.2 ⟨h, by simp [h1], fun j hj => ?_⟩
  have := h2 j hj
  cases hx : l[j]'(by omega) with
  | none => exact absurd hx this
  | some x => simp
theorem freeR_none {l : List (Option (List UInt8))} (h : ∀ j (hj : j < l.length), l[j] ≠ none) : freeR l = none := by
  refine List.findIdx?_eq_none_iff.2 fun x hx => ?_
  obtain ⟨j, hj, rfl⟩ := List.getElem_of_mem hx
  have := h j hj
  cases hx : l[j] with
  | none => exact absurd hx this
  | some x => rfl
set_option maxHeartbeats 4000000 in
theorem ralloc_any (h : RfAt w f R) : Calls Tryz.prog 42 #[qptr f.q] w fun e w' => e = .returned (.tuple #[.int .i64 R.alloc.1.1, .int .i64 R.alloc.1.2]) ∧ RfTo w f w' R.alloc.2 := by
  obtain ⟨c0, c1, c2, c3, c4⟩ := h.cells
  obtain ⟨n, hN⟩ : ∃ n, n = R.pages.length := ⟨_, rfl⟩
  have HN := Lib.hid hN
  have hn1 := h.n1
  rw [← hN] at c0 hn1
  have HH := Lib.hid h
  clear h hN c1 c2 c3 c4
  have hmk := run_make896
  go_enter Tryz.func42, Tryz.ntmps42
  go_wp2_with fail
  go_loop [4] (fun x => ∃ k : Nat, k ≤ n ∧ x = .int .i64 (k : Int) ∧ ∀ j (hj : j < k) (h : j < R.pages.length), R.pages[j] ≠ none) (fun x => n - (intOf x).toNat)
  case atStart => exact ⟨0, Nat.zero_le _, rfl, fun j hj => by omega⟩
  case round =>
    obtain ⟨k, hk, rfl, hall⟩ := hrel
    have HA := Lib.hid hall
    clear hall
    by_cases hlt : k < n
    · have hkt : k < R.pages.length := by rw [← HN.out]; exact hlt
      have hkv : k < f.vs.length := by rw [HH.out.ptr.1]; exact hkt
      have hd : decide ((k : Int) < (n : Int)) = true := decide_eq_true (by omega)
      have hc := HH.out.now.cell k hkv
      have hp := HH.out.ptr.2 k hkv hkt
      cases hx : R.pages[k] with
      | none =>
        rw [hx] at hp
        rw [show f.vs[k] = .pointer none from hp] at hc
        have HE : Hid (R.alloc = (((k : Int), 0), R.lay k z896)) := Lib.hid (by rw [Rp.alloc, freeR_at hkt hx fun j hj => HA.out j hj (by omega)])
        have hb1 : Below w.heap.size w (w.alloc (.cells (bv z896).toArray 5)) := (Below.refl _ _).alloc (Nat.le_refl _) _
        have hcv := run_str (P := Tryz.prog) (mine_z896 w).isB 44 9 5 Tryz.underlying44 Tryz.underlying5 Tryz.underlying9
        have HL := Lib.hid (rlay_any (HH.out.below hb1) k hkt z896)
        have HB := Lib.hid hb1
        clear hx hp hb1
        go_wp2_with fail
        refine HL.out.mono ?_
        rintro e w2 ⟨rfl, h2⟩
        have HX := Lib.hid (RfTo.then (f1 := f) rfl (fun j hj => .inl hj) (Turned.of_below HB.out) h2)
        clear h2
        go_wp2_with fail
        go_ret2
        rw [HE.out]
        exact ⟨rfl, HX.out⟩
      | some b =>
        rw [hx] at hp
        obtain ⟨g, hg, _⟩ := hp
        rw [hg] at hc
        have HA2 : Hid (∀ j (hj : j < k + 1) (h : j < R.pages.length), R.pages[j] ≠ none) := Lib.hid fun j hj h => by
          by_cases e : j = k
          · subst e; rw [hx]; simp
          · exact HA.out j (by omega) h
        clear hx hg
        go_wp2_with fail
        go_round
        case rel => exact ⟨k + 1, hlt, by go_num, HA2.out⟩
        case measure => simp [intOf]; omega
    · obtain rfl : k = n := by omega
      have HE : Hid (R.alloc = ((0, 80), R)) := Lib.hid (by rw [Rp.alloc, freeR_none fun j hj => HA.out j (by rw [HN.out]; exact hj) hj])
      have hdz : decide ((k : Int) < (k : Int)) = false := by simp
      have HS := Lib.hid (RfTo.same HH.out)
      go_wp2_with fail
      go_ret2
      rw [HE.out]
      exact ⟨rfl, HS.out⟩
end
end Go.Proofs.YtbmmcaoifkboiaaGreatDoor

/- The document's pager: State.clone, Commit, Abort. -/
set_option linter.unusedVariables false
set_option linter.unusedSimpArgs false
set_option maxRecDepth 100000
namespace Go.Proofs.YtbmmcaoifkboiaaGreatDoor
open Go.RowKit

theorem info_state8 : (Tryz.prog.info? 67).map (·.size) = some 2 := by kernel_rfl
theorem info_pstr : (Tryz.prog.info? 125).map (fun i => (i.zero, i.size, i.bytes)) = some (some (.pointer none), 1, 8) := by kernel_rfl
abbrev stRow8 (v : Value) (r : Int) : Obj := .cells #[v, .int .i64 r] 67 (0, 0)
theorem st_cells8 {W : World} {g : Nat} {v : Value} {r : Int} (h : W.heap[g]? = some (stRow8 v r)) : W.cell? ⟨g, 0, none⟩ = some v ∧ W.cell? ⟨g, 1, none⟩ = some (.int .i64 r) := by
  refine ⟨?_, ?_⟩ <;> · rw [cell_of_row _ _ _ _ _ _ h]; rfl
theorem run_build_state8 (w : World) (a : Option Addr) (n c : Nat) (r : Int) : (Instr.build 67 #[(0, .slice a n c), (1, .int .i64 r)]).run Tryz.prog w = .ok (.agg #[.slice a n c, .int .i64 r]) w := by kernel_rfl
theorem run_app_nil {w : World} {B' : Nat} {u : Value} {xs : List Value} (hu : w.ownsRow B' 125 1 u xs.length xs) (hx : ∀ x ∈ xs, x.oneCell' = true) (hL : xs.length ≤ 1000000) :
    ∃ v' w', (Builtin.append_ #[65, 65] 65 #[.slice none 0 0, u]).run Tryz.prog w = .ok v' w' ∧ w'.ownsRow w.heap.size 125 1 v' xs.length xs ∧ Below w.heap.size w w' := by
  obtain ⟨i, hi, hz, hs, hb⟩ := info_parts (P := Tryz.prog) (e := 125) info_pstr
  obtain ⟨v', w', hr, ho, hgr, _, hown⟩ := run_app (P := Tryz.prog) w w.heap.size 65 65 65 125 i _ 1 8 _ Tryz.underlying65 Tryz.underlying65 (.inl rfl) hi hz hs hb rfl (by decide) (.slice none 0 0) 0 [] (World.ownsRow_nil _ _ _ _)
    u xs.length xs (own_lenOf hu) (by simp) (run_firstCells_own hu) hx (by simp [maxLen]; omega) (by omega) (Nat.le_refl _)
  refine ⟨v', w', hr, ?_, (Below.refl _ _).grown hgr (Nat.le_refl _) fun k hk => by cases hk⟩
  rw [List.nil_append, Nat.zero_add] at ho
  exact ho
set_option maxHeartbeats 4000000 in
theorem sclone_any (w : World) (g c : Nat) (vs : List Value) (r : Int) (hv : VRow w 125 g c vs) (h0 : 0 < vs.length) (h1 : vs.length ≤ 1000000) (hone : ∀ v ∈ vs, v.oneCell' = true) :
    Calls Tryz.prog 30 #[.agg #[.slice (some ⟨g, 0, none⟩) vs.length c, .int .i64 r]] w fun e w' => ∃ g' c', e = .returned (.agg #[.slice (some ⟨g', 0, none⟩) vs.length c', .int .i64 r]) ∧ w.heap.size ≤ g' ∧ VRow w' 125 g' c' vs ∧ Below w.heap.size w w' := by
  obtain ⟨W1, hW1⟩ : ∃ W1, W1 = w.alloc (.cells #[.slice (some ⟨g, 0, none⟩) vs.length c, .int .i64 r] 67) := ⟨_, rfl⟩
  have hp1 : W1.heap[w.heap.size]? = some (stRow8 (.slice (some ⟨g, 0, none⟩) vs.length c) r) := by rw [hW1]; exact heap_alloc_new w _
  have hb1 : Below w.heap.size w W1 := by rw [hW1]; exact (Below.refl _ _).alloc (Nat.le_refl _) _
  obtain ⟨W2, hW2⟩ : ∃ W2, W2 = W1.alloc (.cells #[.slice none 0 0, .int .i64 0] 67) := ⟨_, rfl⟩
  have hq2 : W2.heap[W1.heap.size]? = some (stRow8 (.slice none 0 0) 0) := by rw [hW2]; exact heap_alloc_new W1 _
  have hb12 : Below W1.heap.size W1 W2 := by rw [hW2]; exact (Below.refl _ _).alloc (Nat.le_refl _) _
  have hp2 := (hb12.block _ (lt_of_heap hp1)).trans hp1
  have hb2 := hb1.trans (hb12.mono hb1.size)
  have hs1 : W1.heap.size = w.heap.size + 1 := by rw [hW1]; simp
  rw [hs1] at hq2
  have hv2 := hv.keep (hb2.block _ hv.lt)
  have hbs := fun w a n c => run_build_state8 w a n c r
  clear hb1 hb12 hp1 hv
  have HW1 := Lib.hid hW1
  have HW2 := Lib.hid hW2
  clear hW1 hW2
  go_enter Tryz.func30, Tryz.ntmps30
  go_upto_region 1 with fail
  rw [← HW1.out, ← HW2.out]
  clear HW1 HW2 hs1
  have hS0 : (fun W : World => W.heap[w.heap.size]? = some (stRow8 (.slice (some ⟨g, 0, none⟩) vs.length c) r)) W2.drew := hp2
  replace hq2 : W2.drew.heap[w.heap.size + 1]? = _ := hq2
  replace hb2 := hb2.drew
  replace hv2 : VRow W2.drew 125 g c vs := hv2
  refine wp_region_noPanic ?_
  refine wp_region_held_drew (S := (fun W : World => W.heap[w.heap.size]? = some (stRow8 (.slice (some ⟨g, 0, none⟩) vs.length c) r))) (by kernel_rfl) hS0 (fun hH => ?_)
  refine take_at (i := 0) (v := ?_) rfl (by kernel_rfl) (by kernel_rfl) (by kernel_rfl) (fun _ _ _ h => h) (Or.inl ⟨by rfl, ?_⟩) hH ?_
  rotate_left
  · (intro w hSw; have hpc := st_cells8 hSw; obtain ⟨q0, q1⟩ := hpc; go_simp; try with_reducible rfl)
  try simp only [Act.put, List.setIfInBounds_toArray, List.set_cons_zero, List.set_cons_succ]
  refine take_at (i := 1) (v := ?_) rfl (by kernel_rfl) (by kernel_rfl) (by kernel_rfl) (fun _ _ _ h => h) (Or.inl ⟨by rfl, ?_⟩) hH ?_
  rotate_left
  · (intro w hSw; have hpc := st_cells8 hSw; obtain ⟨q0, q1⟩ := hpc; go_simp; try with_reducible rfl)
  try simp only [Act.put, List.setIfInBounds_toArray, List.set_cons_zero, List.set_cons_succ]
  refine take_at (i := 3) (v := ?_) rfl (by kernel_rfl) (by kernel_rfl) (by kernel_rfl) (fun _ _ _ h => h) (Or.inl ⟨by rfl, ?_⟩) hH ?_
  rotate_left
  · (intro w hSw; have hpc := st_cells8 hSw; obtain ⟨q0, q1⟩ := hpc; go_simp; try with_reducible rfl)
  try simp only [Act.put, List.setIfInBounds_toArray, List.set_cons_zero, List.set_cons_succ]
  refine take_at (i := 4) (v := ?_) rfl (by kernel_rfl) (by kernel_rfl) (by kernel_rfl) (fun _ _ _ h => h) (Or.inl ⟨by rfl, ?_⟩) hH ?_
  rotate_left
  · (intro w hSw; have hpc := st_cells8 hSw; obtain ⟨q0, q1⟩ := hpc; go_simp; try with_reducible rfl)
  try simp only [Act.put, List.setIfInBounds_toArray, List.set_cons_zero, List.set_cons_succ]
  refine wpAnyH_ready (rs := [2]) (by kernel_rfl) (by simp) ?_
  refine ready_at rfl (fun K hK => ?_) AllReadyH.nil
  obtain ⟨v3, W3, hr3, ho3, hb3⟩ := run_app_nil (hv2.own 0 (Nat.zero_le _)) hone h1
  obtain ⟨g3, c3, rfl, hg3, hv3⟩ := own_vrow ho3 h0
  have hHn := (hb3.block _ (lt_of_heap hH)).trans hH
  have hq3 := (hb3.block _ (lt_of_heap hq2)).trans hq2
  have hs2 := hb2.size
  have hb23 := hb2.trans (hb3.mono hb2.size)
  clear hH ho3
  refine arm_append (by rfl) (.const (.slice none 0 0)) (.tmp 4) 65 65 rfl _ _ _ rfl rfl hr3 ?_
  clear hr3
  refine hK.out _ _ hHn (fun hH => ?_)
  clear hHn
  clear hK K
  try simp only [Act.put, List.setIfInBounds_toArray, List.set_cons_zero, List.set_cons_succ]
  refine take_at (i := 5) (v := ?_) rfl (by kernel_rfl) (by kernel_rfl) (by kernel_rfl) (fun _ _ _ h => h) (Or.inl ⟨by rfl, ?_⟩) hH ?_
  rotate_left
  · (intro w hSw; have hpc := st_cells8 hSw; obtain ⟨q0, q1⟩ := hpc; go_simp; try with_reducible rfl)
  try simp only [Act.put, List.setIfInBounds_toArray, List.set_cons_zero, List.set_cons_succ]
  refine wpAnyH_ready (rs := [6]) (by kernel_rfl) (by simp) ?_
  refine ready_at rfl (fun K hK => ?_) AllReadyH.nil
  go_simp
  obtain ⟨g00, g01⟩ := st_cells8 hq3
  have f0 : W3.frozen? ⟨w.heap.size + 1, 0, none⟩ = false := frozen_p hq3 0
  have f1 : W3.frozen? ⟨w.heap.size + 1, 1, none⟩ = false := frozen_p hq3 1
  have ht4 := (turned_one W3 (w.heap.size + 1) 0 (.slice (some ⟨g3, 0, none⟩) vs.length c3)).trans (turned_one (W3.setCell ⟨w.heap.size + 1, 0, none⟩ (.slice (some ⟨g3, 0, none⟩) vs.length c3)) (w.heap.size + 1) 1 (.int .i64 r))
  have hq4 := head_setCell (head_setCell hq3 (i := 0) (.slice (some ⟨g3, 0, none⟩) vs.length c3)) (i := 1) (.int .i64 r)
  have hlq := lt_of_heap hq2
  have HF := Lib.hid (And.intro (show w.heap.size ≤ g3 by have := hs2; have := hg3; omega) (And.intro (hv3.keep (ht4.block _ hv3.lt (by omega))) (hb23.trans (ht4.below (B := w.heap.size) hb23.size fun k hk => by omega))))
  have hHn := (ht4.block _ (lt_of_heap hH) (by omega)).trans hH
  clear hH hv3 hb23 hb3
  go_wp2_with fail
  all_goals try (first | (rename_i hfz; exact absurd hfz (by rw [f0]; decide)) | (rename_i hfz; exact absurd hfz (by rw [f1]; decide)))
  generalize (W3.setCell ⟨w.heap.size + 1, 0, none⟩ (.slice (some ⟨g3, 0, none⟩) vs.length c3)).setCell ⟨w.heap.size + 1, 1, none⟩ (.int .i64 r) = W4 at *
  clear ht4 f0 f1 g00 g01
  refine hK.out _ _ hHn (fun hH => ?_)
  clear hHn
  clear hK K
  try simp only [Act.put, List.setIfInBounds_toArray, List.set_cons_zero, List.set_cons_succ]
  refine wpAnyH_done (by kernel_rfl) ?_ _
  refine NoPanic.normal ?_
  clear hH
  have hv := run_loadVar_row (P := Tryz.prog) W4 (w.heap.size + 1) 67 67 _ (0, 0) _ hq4 Tryz.underlying67 rfl (by rw [info_state8]; rfl)
  go_wp2_with fail
  refine bodyPost_ret (v := .agg #[.slice (some ⟨g3, 0, none⟩) vs.length c3, .int .i64 r]) (results_cell Tryz.results30 rfl hv) rfl ⟨g3, c3, rfl, HF.out.1, HF.out.2.1, HF.out.2.2⟩
end Go.Proofs.YtbmmcaoifkboiaaGreatDoor

/- The document's pager: Commit, Abort, Begun, Left. -/
set_option linter.unusedVariables false
set_option linter.unusedSimpArgs false
set_option maxRecDepth 100000
namespace Go.Proofs.YtbmmcaoifkboiaaGreatDoor
open Go.RowKit

section
variable {w : World} {f : Rf} {R : Rp}
theorem Ptrs.one {vs : List Value} {l : List (Option (List UInt8))} (h : Ptrs w vs l) : ∀ v ∈ vs, v.oneCell' = true := by
  intro v hv
  obtain ⟨i, hi, rfl⟩ := List.getElem_of_mem hv
  have := h.2 i hi (by rw [← h.1]; exact hi)
  generalize l[i]'(by rw [← h.1]; exact hi) = x at this
  cases x with
  | none => rw [show vs[i] = .pointer none from this]; rfl
  | some b => obtain ⟨j, e, _⟩ := this; rw [e]; rfl
theorem RfAt.made {W : World} {f' : Rf} {R' : Rp} (h : RfAt w f R) (ht : Turned (RH8 f) w W) (hq : f'.q = f.q) (head : W.heap[f'.q]? = some (rfRow f' R')) (now : VRow W 125 f'.gs f'.cs f'.vs) (was : VRow W 125 f'.gw f'.cw f'.ws)
    (ptr : Ptrs W f'.vs R'.pages) (wptr : Ptrs W f'.ws R'.was) (n0 : 0 < R'.pages.length) (n1 : R'.pages.length ≤ 1023) (nw : R'.was.length = R'.pages.length) (hT : ∀ k, RT8 f' k → RT8 f k ∨ w.heap.size ≤ k) (hlt : ∀ k, RT8 f' k → k < W.heap.size) (sep : f'.gs ≠ f'.gw) : RfTo w f W R' :=
  ⟨f', ⟨head, now, was, ptr, wptr, n0, n1, nw, hlt, sep⟩, hq, hT, ht⟩
set_option maxHeartbeats 4000000 in
theorem rcommit8_any (h : RfAt w f R) : Calls Tryz.prog 11 #[qptr f.q] w fun e w' => e = .returned (.tuple #[]) ∧ RfTo w f w' R.commit := by
  obtain ⟨c0, c1, c2, c3, c4⟩ := h.cells
  have hl := h.ptr.1
  have HC := Lib.hid (sclone_any w f.gs f.cs f.vs R.root h.now (by have := h.n0; omega) (by have := h.n1; omega) h.ptr.one)
  have hl2 : f.vs.length = R.pages.length := hl
  rw [hl2] at HC
  have HH := Lib.hid h
  clear h hl hl2
  go_enter Tryz.func11, Tryz.ntmps11
  go_wp2_with fail
  refine HC.out.mono ?_
  rintro e w1 ⟨g, c, rfl, hg, hv, hb1⟩
  have h1 := HH.out.below hb1
  obtain ⟨d0, d1, d2, d3, d4⟩ := h1.cells
  have f2 := h1.frozen 2
  have f3 := h1.frozen 3
  have f4 := h1.frozen 4
  have hd1 := head_setCell (head_setCell (head_setCell h1.head (i := 2) (.slice (some ⟨g, 0, none⟩) R.pages.length c)) (i := 3) (.int .i64 R.root)) (i := 4) (.bool false)
  have ht := ((turned_one w1 f.q 2 (.slice (some ⟨g, 0, none⟩) R.pages.length c)).trans (turned_one _ f.q 3 (.int .i64 R.root))).trans (turned_one _ f.q 4 (.bool false))
  have hgq : g ≠ f.q := fun e => by have := HH.out.lt _ (.inl rfl); omega
  have hsz := ht.size
  have hb1s := hb1.size
  have hq := h1.qn
  have HX := Lib.hid (HH.out.made (f' := { f with gw := g, cw := c, ws := f.vs }) (R' := R.commit) ((Turned.of_below hb1).trans (ht.mono fun _ _ e => .inl e)) rfl (by rw [hd1]; rfl) (h1.now.keep (ht.block _ h1.now.lt (Ne.symm hq.1))) (hv.keep (ht.block _ hv.lt hgq))
    (h1.ptr.keep fun u hu j hj => ht.block _ (h1.lt j (.inr (.inr (.inr (.inl ⟨u, hu, hj⟩))))) fun e => hq.2.2.1 u hu (by rw [hj, e])) (h1.ptr.keep fun u hu j hj => ht.block _ (h1.lt j (.inr (.inr (.inr (.inl ⟨u, hu, hj⟩))))) fun e => hq.2.2.1 u hu (by rw [hj, e]))
    HH.out.n0 HH.out.n1 rfl (fun k hk => by
      rcases hk with e | e | e | e | e
      · exact .inl (.inl e)
      · exact .inl (.inr (.inl e))
      · exact .inr (by rw [e]; exact hg)
      · exact .inl (.inr (.inr (.inr (.inl e))))
      · exact .inl (.inr (.inr (.inr (.inl e))))) (fun k hk => by
      rcases hk with e | e | e | e | e
      · exact Nat.lt_of_lt_of_le (h1.lt k (.inl e)) hsz
      · exact Nat.lt_of_lt_of_le (h1.lt k (.inr (.inl e))) hsz
      · rw [e]; exact Nat.lt_of_lt_of_le hv.lt hsz
      · exact Nat.lt_of_lt_of_le (h1.lt k (.inr (.inr (.inr (.inl e))))) hsz
      · exact Nat.lt_of_lt_of_le (h1.lt k (.inr (.inr (.inr (.inl e))))) hsz) (fun e => by have := HH.out.lt _ (.inr (.inl rfl)); dsimp only at e; omega))
  clear hd1 ht hq h1 hv hb1 hsz hb1s
  go_wp2_with fail
  go_end0
  exact ⟨rfl, HX.out⟩
set_option maxHeartbeats 4000000 in
theorem rabort8_any (h : RfAt w f R) : Calls Tryz.prog 15 #[qptr f.q] w fun e w' => e = .returned (.tuple #[]) ∧ RfTo w f w' R.abort := by
  obtain ⟨c0, c1, c2, c3, c4⟩ := h.cells
  have hl := h.wptr.1
  have HC := Lib.hid (sclone_any w f.gw f.cw f.ws R.wroot h.was (by have := h.n0; have := h.nw; omega) (by have := h.n1; have := h.nw; omega) h.wptr.one)
  have hl2 : f.ws.length = R.was.length := hl
  rw [hl2] at HC
  have HH := Lib.hid h
  clear h hl hl2
  go_enter Tryz.func15, Tryz.ntmps15
  go_wp2_with fail
  refine HC.out.mono ?_
  rintro e w1 ⟨g, c, rfl, hg, hv, hb1⟩
  have h1 := HH.out.below hb1
  obtain ⟨d0, d1, d2, d3, d4⟩ := h1.cells
  have f0 := h1.frozen 0
  have f1 := h1.frozen 1
  have f4 := h1.frozen 4
  have hd1 := head_setCell (head_setCell (head_setCell h1.head (i := 0) (.slice (some ⟨g, 0, none⟩) R.was.length c)) (i := 1) (.int .i64 R.wroot)) (i := 4) (.bool false)
  have ht := ((turned_one w1 f.q 0 (.slice (some ⟨g, 0, none⟩) R.was.length c)).trans (turned_one _ f.q 1 (.int .i64 R.wroot))).trans (turned_one _ f.q 4 (.bool false))
  have hgq : g ≠ f.q := fun e => by have := HH.out.lt _ (.inl rfl); omega
  have hsz := ht.size
  have hb1s := hb1.size
  have hq := h1.qn
  have HX := Lib.hid (HH.out.made (f' := { f with gs := g, cs := c, vs := f.ws }) (R' := R.abort) ((Turned.of_below hb1).trans (ht.mono fun _ _ e => .inl e)) rfl (by rw [hd1]; rfl) (hv.keep (ht.block _ hv.lt hgq)) (h1.was.keep (ht.block _ h1.was.lt (Ne.symm hq.2.1)))
    (h1.wptr.keep fun u hu j hj => ht.block _ (h1.lt j (.inr (.inr (.inr (.inr ⟨u, hu, hj⟩))))) fun e => hq.2.2.2.1 u hu (by rw [hj, e])) (h1.wptr.keep fun u hu j hj => ht.block _ (h1.lt j (.inr (.inr (.inr (.inr ⟨u, hu, hj⟩))))) fun e => hq.2.2.2.1 u hu (by rw [hj, e]))
    (by have := HH.out.n0; have := HH.out.nw; show 0 < R.was.length; omega) (by have := HH.out.n1; have := HH.out.nw; show R.was.length ≤ 1023; omega) rfl (fun k hk => by
      rcases hk with e | e | e | e | e
      · exact .inl (.inl e)
      · exact .inr (by rw [e]; exact hg)
      · exact .inl (.inr (.inr (.inl e)))
      · exact .inl (.inr (.inr (.inr (.inr e))))
      · exact .inl (.inr (.inr (.inr (.inr e))))) (fun k hk => by
      rcases hk with e | e | e | e | e
      · exact Nat.lt_of_lt_of_le (h1.lt k (.inl e)) hsz
      · rw [e]; exact Nat.lt_of_lt_of_le hv.lt hsz
      · exact Nat.lt_of_lt_of_le (h1.lt k (.inr (.inr (.inl e)))) hsz
      · exact Nat.lt_of_lt_of_le (h1.lt k (.inr (.inr (.inr (.inr e))))) hsz
      · exact Nat.lt_of_lt_of_le (h1.lt k (.inr (.inr (.inr (.inr e))))) hsz) (fun e => by have := HH.out.lt _ (.inr (.inr (.inl rfl))); dsimp only at e; omega))
  clear hd1 ht hq h1 hv hb1 hsz hb1s
  go_wp2_with fail
  go_end0
  exact ⟨rfl, HX.out⟩
def freeRN (l : List (Option (List UInt8))) : Nat := l.countP fun x => x.isNone
theorem freeRN_take (t : List (Option (List UInt8))) (k : Nat) (h : k < t.length) : freeRN (t.take (k + 1)) = freeRN (t.take k) + if (t[k]).isNone then 1 else 0 := by
  rw [freeRN, List.take_add_one, List.getElem?_eq_getElem h, List.countP_append, freeRN]
  cases t[k] <;> rfl
set_option maxHeartbeats 4000000 in
theorem rleft8_any (h : RfAt w f R) : Calls Tryz.prog 61 #[qptr f.q] w fun e w' => e = .returned (.int .i64 (freeRN R.pages : Int)) ∧ w' = w := by
  obtain ⟨c0, c1, c2, c3, c4⟩ := h.cells
  obtain ⟨n, hN⟩ : ∃ n, n = R.pages.length := ⟨_, rfl⟩
  have HN := Lib.hid hN
  have hn1 := h.n1
  rw [← hN] at c0 hn1
  have HH := Lib.hid h
  clear h hN c1 c2 c3 c4
  go_enter Tryz.func61, Tryz.ntmps61
  go_wp2_with fail
  go_loop [3, 4] (fun c x => ∃ k : Nat, k ≤ n ∧ x = .int .i64 (k : Int) ∧ c = .int .i64 (freeRN (R.pages.take k) : Int)) (fun _ x => n - (intOf x).toNat)
  case atStart => exact ⟨0, Nat.zero_le _, rfl, by simp [freeRN]⟩
  case round =>
    obtain ⟨k, hk, rfl, rfl⟩ := hrel
    by_cases hlt : k < n
    · have hkt : k < R.pages.length := by rw [← HN.out]; exact hlt
      have hkv : k < f.vs.length := by rw [HH.out.ptr.1]; exact hkt
      have hd : decide ((k : Int) < (n : Int)) = true := decide_eq_true (by omega)
      have hc := HH.out.now.cell k hkv
      have hp := HH.out.ptr.2 k hkv hkt
      have hle : freeRN (R.pages.take k) ≤ k := by
        have := List.countP_le_length (p := fun x : Option (List UInt8) => x.isNone) (l := R.pages.take k)
        rw [List.length_take] at this
        unfold freeRN
        omega
      have hst := freeRN_take R.pages k hkt
      generalize R.pages[k] = b at *
      cases b with
      | some b =>
        have HE : Hid (freeRN (R.pages.take (k + 1)) = freeRN (R.pages.take k)) := Lib.hid (by simpa using hst)
        obtain ⟨g, hg, _⟩ := hp
        rw [hg] at hc
        clear hst hg
        go_wp2_with fail
        go_round
        case rel => exact ⟨k + 1, by omega, by go_num, by rw [HE.out]⟩
        case measure => simp [intOf]; omega
      | none =>
        have HE : Hid (freeRN (R.pages.take (k + 1)) = freeRN (R.pages.take k) + 1) := Lib.hid (by simpa using hst)
        rw [show f.vs[k] = .pointer none from hp] at hc
        clear hst hp
        generalize freeRN (R.pages.take k) = m at *
        go_wp2_with fail
        go_round
        case rel => exact ⟨k + 1, by omega, by go_num, by rw [HE.out]; go_num⟩
        case measure => simp [intOf]; omega
    · obtain rfl : k = n := by omega
      have hdz : decide ((k : Int) < (k : Int)) = false := by simp
      have HE : Hid (R.pages.take k = R.pages) := Lib.hid (List.take_of_length_le (by rw [HN.out]; exact Nat.le_refl _))
      go_wp2_with fail
      go_ret
      rw [HE.out]
      exact ⟨rfl, rfl⟩
end
end Go.Proofs.YtbmmcaoifkboiaaGreatDoor

/- The document's pager: Begun. -/
set_option linter.unusedVariables false
set_option linter.unusedSimpArgs false
set_option maxRecDepth 100000
namespace Go.Proofs.YtbmmcaoifkboiaaGreatDoor
open Go.RowKit

theorem run_makeP (n : Nat) (hn : n ≤ 1000000) (w : World) : (Instr.makeSlice 65 (.int .i64 (n : Int)) (.int .i64 (n : Int))).run Tryz.prog w = .ok (.slice (some ⟨w.heap.size, 0, none⟩) n n) (w.alloc (.cells (List.replicate n (Value.pointer none)).toArray 125)) := by
  rw [run_make_row' (P := Tryz.prog) 65 125 (.pointer none) 8 Tryz.underlying65 info_pstr rfl .i64 .i64 n (by omega) (by omega) w]
  congr 3
  simp only [madeCells, List.size_toArray, List.toArray_replicate]
  apply Array.ext
  · simp
  · intro i h1 h2
    simp [Nat.mod_one]
theorem run_build_rp (w : World) (a : Option Addr) (n c : Nat) (r : Int) : (Instr.build 69 #[(0, .agg #[.slice a n c, .int .i64 r])]).run Tryz.prog w = .ok (.agg #[.slice a n c, .int .i64 r, .slice none 0 0, .int .i64 0, .bool false]) w := by kernel_rfl
set_option maxHeartbeats 4000000 in
theorem rbegun8_any (w : World) (b : Nat) (h1 : 10 ≤ b) (h2 : b ≤ 8191) : Calls Tryz.prog 28 #[.int .i64 (b : Int)] w fun e w' => ∃ f, e = .returned (qptr f.q) ∧ RfAt w' f (Rp.begun b) ∧ (∀ k, RT8 f k → w.heap.size ≤ k) ∧ Below w.heap.size w w' := by
  obtain ⟨n, hN⟩ : ∃ n, n = (b - 2) / 8 := ⟨_, rfl⟩
  have hn1 : n ≤ 1023 := by omega
  have hn0 : 0 < n := by omega
  have e1 : IntKind.i64.wrap ((b : Int) - 2) = (b : Int) - 2 := IntWalk.i64_in _ (by omega)
  have hz : ((b : Int) - 2).tdiv 8 = (n : Int) := by rw [Int.tdiv_eq_ediv_of_nonneg (by omega)]; omega
  have hz2 : ((b : Int) - 2) / 8 = (n : Int) := by omega
  have hmk := run_makeP n (by omega)
  have hbs := fun w a n c => run_build_state8 w a n c (-1)
  have hbr := fun w a n c => run_build_rp w a n c (-1)
  obtain ⟨vs, hvs⟩ : ∃ vs, vs = List.replicate n (Value.pointer none) := ⟨_, rfl⟩
  have hvl : vs.length = n := by rw [hvs, List.length_replicate]
  rw [← hvs] at hmk
  obtain ⟨W1, hW1⟩ : ∃ W1, W1 = w.alloc (.cells vs.toArray 125) := ⟨_, rfl⟩
  have hr1 : VRow W1 125 w.heap.size n vs := by rw [hW1]; exact ⟨_, heap_alloc_new w _, by rw [hvl]; exact Nat.le_refl _, by simp [maxLen]; omega, by simp [hvl], by simp⟩
  have hb1 : Below w.heap.size w W1 := by rw [hW1]; exact (Below.refl _ _).alloc (Nat.le_refl _) _
  have hs1 : W1.heap.size = w.heap.size + 1 := by rw [hW1]; simp
  obtain ⟨W2, hW2⟩ : ∃ W2, W2 = W1.alloc (.cells #[.slice (some ⟨w.heap.size, 0, none⟩) n n, .int .i64 (-1), .slice none 0 0, .int .i64 0, .bool false] 69) := ⟨_, rfl⟩
  have hb2 : Below W1.heap.size W1 W2 := by rw [hW2]; exact (Below.refl _ _).alloc (Nat.le_refl _) _
  have hq2 : W2.heap[w.heap.size + 1]? = some (.cells #[.slice (some ⟨w.heap.size, 0, none⟩) n n, .int .i64 (-1), .slice none 0 0, .int .i64 0, .bool false] 69 (0, 0)) := by rw [hW2, ← hs1]; exact heap_alloc_new W1 _
  have hr2 := hr1.keep (hb2.block _ hr1.lt)
  have hone : ∀ v ∈ vs, v.oneCell' = true := fun v hv => by rw [hvs] at hv; rw [List.eq_of_mem_replicate hv]; rfl
  have HC := Lib.hid (sclone_any W2 w.heap.size n vs (-1) hr2 (by omega) (by omega) hone)
  rw [hvl] at HC
  have c0 : W2.cell? ⟨w.heap.size + 1, 0, none⟩ = some (.slice (some ⟨w.heap.size, 0, none⟩) n n) := by rw [cell_of_row _ _ _ _ _ _ hq2]; rfl
  have c1 : W2.cell? ⟨w.heap.size + 1, 1, none⟩ = some (.int .i64 (-1)) := by rw [cell_of_row _ _ _ _ _ _ hq2]; rfl
  have HB := Lib.hid (hb1.trans (hb2.mono hb1.size))
  have HR2 := Lib.hid hr2
  have HQ2 := Lib.hid hq2
  have HW1 := Lib.hid hW1
  have HW2 := Lib.hid hW2
  have HVL := Lib.hid hvl
  have HVS := Lib.hid hvs
  have HNN := Lib.hid hN
  have hsz2 : w.heap.size + 2 ≤ W2.heap.size := by have := lt_of_heap hq2; omega
  have HS1 := Lib.hid hs1
  clear hr1 hb1 hb2 hq2 hr2 hone hW1 hW2 hvl hvs hN hs1
  go_enter Tryz.func28, Tryz.ntmps28
  go_wp2_with fail
  rw [← HW1.out, ← HW2.out]
  refine HC.out.mono ?_
  rintro e w3 ⟨g, c, rfl, hg, hv, hb3⟩
  have hq3 := (hb3.block _ (lt_of_heap HQ2.out)).trans HQ2.out
  have hr3 := HR2.out.keep (hb3.block _ HR2.out.lt)
  have f2 : w3.frozen? ⟨w.heap.size + 1, 2, none⟩ = false := frozen_p hq3 2
  have f3 : w3.frozen? ⟨w.heap.size + 1, 3, none⟩ = false := frozen_p hq3 3
  have d2 : w3.cell? ⟨w.heap.size + 1, 2, none⟩ = some (.slice none 0 0) := by rw [cell_of_row _ _ _ _ _ _ hq3]; rfl
  have d3 : w3.cell? ⟨w.heap.size + 1, 3, none⟩ = some (.int .i64 0) := by rw [cell_of_row _ _ _ _ _ _ hq3]; rfl
  have hd := head_setCell (head_setCell hq3 (i := 2) (.slice (some ⟨g, 0, none⟩) n c)) (i := 3) (.int .i64 (-1))
  have ht := (turned_one w3 (w.heap.size + 1) 2 (.slice (some ⟨g, 0, none⟩) n c)).trans (turned_one _ (w.heap.size + 1) 3 (.int .i64 (-1)))
  have hs3 := hb3.size
  have hst := ht.size
  have hp : ∀ W : World, Ptrs W vs (List.replicate n none) := fun W => by
    refine ⟨by rw [HVL.out, List.length_replicate], fun i h1 h2 => ?_⟩
    simp only [HVS.out, List.getElem_replicate]
    rfl
  have hpb : ∀ v ∈ vs, ∀ k, pBlk v ≠ some k := fun v hv k e => by
    rw [HVS.out] at hv
    rw [List.eq_of_mem_replicate hv] at e
    cases e
  have HX : Hid (RfAt ((w3.setCell ⟨w.heap.size + 1, 2, none⟩ (.slice (some ⟨g, 0, none⟩) n c)).setCell ⟨w.heap.size + 1, 3, none⟩ (.int .i64 (-1))) ⟨w.heap.size + 1, w.heap.size, n, g, c, vs, vs⟩ (Rp.begun b)) := Lib.hid (by
    have e : Rp.begun b = ⟨List.replicate n none, -1, List.replicate n none, -1, false⟩ := by rw [Rp.begun, HNN.out]
    rw [e]
    refine ⟨by rw [hd]; simp [rfRow], hr3.keep (ht.block _ hr3.lt (by omega)), hv.keep (ht.block _ hv.lt (by omega)), hp _, hp _, by simp only [List.length_replicate]; exact hn0, by simp only [List.length_replicate]; exact hn1, rfl, fun k hk => ?_, by dsimp only; omega⟩
    have hl := hv.lt
    rcases hk with e | e | e | ⟨v, hv, e⟩ | ⟨v, hv, e⟩
    · dsimp only at e; omega
    · dsimp only at e; omega
    · dsimp only at e; omega
    · exact absurd e (hpb v hv k)
    · exact absurd e (hpb v hv k))
  have HL : Hid (∀ k, RT8 ⟨w.heap.size + 1, w.heap.size, n, g, c, vs, vs⟩ k → w.heap.size ≤ k) := Lib.hid (by
    rintro k (e | e | e | ⟨v, hv, e⟩ | ⟨v, hv, e⟩)
    · dsimp only at e; omega
    · dsimp only at e; omega
    · dsimp only at e; omega
    · exact absurd e (hpb v hv k)
    · exact absurd e (hpb v hv k))
  have HB3 := Lib.hid ((HB.out.trans (hb3.mono (by omega))).trans (ht.below (B := w.heap.size) (by omega) fun k hk => by omega))
  clear hd ht hp hpb hv hq3 hr3 hb3
  go_wp2_with fail
  go_ret
  exact ⟨_, rfl, HX.out, HL.out, HB3.out⟩
end Go.Proofs.YtbmmcaoifkboiaaGreatDoor

/- pick, of the statements of chapter 08. -/
set_option linter.unusedVariables false
set_option linter.unusedSimpArgs false
set_option maxRecDepth 100000
namespace Go.Proofs.YtbmmcaoifkboiaaGreatDoor
open Go.RowKit

set_option maxHeartbeats 1000000 in
theorem pick_any (w : World) (c : Int) (n : Nat) (h1 : -9223372036854775808 ≤ c) (h2 : c ≤ 9223372036854775807) (hn : 0 < n) (hm : n ≤ 4611686018427387904) :
    Calls Tryz.prog 8 #[.int .i64 c, .int .i64 (n : Int)] w fun e w' => e = .returned (.int .i64 (pickN c n : Int)) ∧ w = w' := by
  by_cases h0 : c < 0
  · have hd : decide (c < 0) = true := by simpa using h0
    have e1 : (pickN c n : Int) = (-(c + 1)) % (n : Int) := by
      rw [pickN, if_pos h0, Int.natCast_emod, Int.toNat_of_nonneg (by omega)]
    rw [e1]
    have hz : ((n : Int) == 0) = false := by simp; omega
    go_enter Tryz.func8, Tryz.ntmps8
    go_wp2
    go_ret
    exact ⟨by rw [← Int.neg_tmod, Int.tmod_eq_emod_of_nonneg (by omega)]; rfl, rfl⟩
  · have hd : decide (c < 0) = false := by simpa using h0
    have e1 : (pickN c n : Int) = c % (n : Int) := by
      rw [pickN, if_neg h0, Int.natCast_emod, Int.toNat_of_nonneg (by omega)]
    rw [e1]
    go_enter Tryz.func8, Tryz.ntmps8
    go_wp2
    go_ret
    exact ⟨rfl, rfl⟩

end Go.Proofs.YtbmmcaoifkboiaaGreatDoor

/- begun: a pager on a new journal, and the document's beside it. -/
set_option linter.unusedVariables false
set_option linter.unusedSimpArgs false
set_option maxRecDepth 100000
namespace Go.Proofs.YtbmmcaoifkboiaaGreatDoor
open Go.RowKit

/-- a fresh pager, in plain lists -/
structure Fresh (n : Nat) (J J' : Jn) (P : Pg) (seq : Int) (B : List (List UInt8)) : Prop where
  fmt : J.pformat = (0, J')
  opn : J'.popen = (0, J', some P)
  pj : P.J = J'
  sim : Sim n P (Rp.begun ((n - 2) / 2)) seq B
  last : J'.last ≤ J.last + 1
  cut : J'.D.cut = J.D.cut
  ops : J'.D.ops ≤ J.D.ops + 8
theorem pformat_live {n : Nat} {J : Jn} {seq : Int} {B : List (List UInt8)} (h : Live n J seq B AllOk) (h1 : 22 ≤ n) (h2 : n ≤ 16384) (hcut : J.D.cut < 0) (ht : J.last + 1 < 4611686018427387904) (hb : J.D.ops + 8 ≤ 1048576) : ∃ J' P B', Fresh n J J' P (seq + 1) B' := by
  have hpg : J.pages = ((n - 2) / 2 - 2) / 8 := by rw [Jn.pages, Dk.blocks, h.hn]
  obtain ⟨m, hm⟩ : ∃ m, m = ((n - 2) / 2 - 2) / 8 := ⟨_, rfl⟩
  rw [← hm] at hpg
  have hr : rightW ((n - 2) / 2) (placesFrom 0 2) (chunks 2 (planB (List.replicate m false) (-1))) = true := by
    rw [rightW, rightGo_of8 _ _ [] (fun z hz => ?_) (placesFrom_nodup _ _) (fun _ _ h => by cases h) (chunks_bytes (by rw [planB_length])), placesFrom_length, chunks_length]
    · simp
    · obtain ⟨i, hi, rfl⟩ := List.mem_map.1 hz
      have := List.mem_range.1 hi
      omega
  have hw := write_ok h hcut hr ht (by rw [placesFrom_length]; omega)
  have hl := hw.live
  rw [if_neg (by rw [placesFrom_length]; omega)] at hl
  have hrow := (live_rows h).1
  have hpl : blocksAt (updB B (placesFrom 0 2) (chunks 2 (planB (List.replicate m false) (-1)))) 0 2 = planB (List.replicate m false) (-1) := by
    have e0 : (0 : Int) = ((0 : Nat) : Int) := rfl
    rw [e0]
    exact blocksAt_run (by omega) (by rw [planB_length])
  have e : J.pformat = (0, (J.write (placesFrom 0 2) (chunks 2 (planB (List.replicate m false) (-1)))).2) := by
    rw [Jn.pformat, hpg]
    exact Prod.ext hw.err rfl
  have hops := hw.ops
  have hlast := hw.last
  have hcut2 := hw.cut
  rw [placesFrom_length] at hops
  generalize (J.write (placesFrom 0 2) (chunks 2 (planB (List.replicate m false) (-1)))).2 = J' at *
  generalize updB B (placesFrom 0 2) (chunks 2 (planB (List.replicate m false) (-1))) = B' at *
  have hmap : (List.replicate m false) = (List.replicate m (none : Option (List UInt8))).map (·.isSome) := by simp
  have hbe : Rp.begun ((n - 2) / 2) = ⟨List.replicate m none, -1, List.replicate m none, -1, false⟩ := by rw [Rp.begun, hm]
  have hro : RootOk (List.replicate m false) (-1) := ⟨Int.le_refl _, by omega, .inl (by omega)⟩
  have hs0 : Sim n ⟨J', List.replicate m false, -1, List.replicate m false, -1, [], false, 0⟩ (Rp.begun ((n - 2) / 2)) (seq + 1) B' := by
    rw [hbe]
    have hno : ∀ (k : Nat) (b : List UInt8), (List.replicate m (none : Option (List UInt8)))[k]? ≠ some (some b) := fun k b e => by
      rw [List.getElem?_replicate] at e
      split at e <;> simp at e
    exact ⟨hl, rfl, hmap, hmap, rfl, rfl, by simp [hm], rfl, hpl, hro, hro, fun k b hk => absurd hk (hno k b), fun k b hk => absurd hk (hno k b), fun k b hk => (by cases hk), List.nodup_nil, fun _ => ⟨rfl, rfl, rfl⟩⟩
  have hlen : (Rp.begun ((n - 2) / 2)).pages.length ≤ 1023 := by
    rw [hbe]
    simp only [List.length_replicate]
    omega
  obtain ⟨P, p1, p2, p3⟩ := hs0.popen hlen (by omega)
  have hab : (Rp.begun ((n - 2) / 2)).abort = Rp.begun ((n - 2) / 2) := by rw [hbe]; rfl
  rw [hab] at p3
  exact ⟨J', P, B', e, p1, p2, p3, hlast, hcut2, by omega⟩
/-- a pager, its journal, the document's pager: all of one's own, apart -/
structure LS (w0 w : World) (F : Ft) (p : Nat) (f : Pf) (P : Pg) (g : Rf) (R : Rp) : Prop where
  pg : PgAt w F p f P
  rf : RfAt w g R
  below : Below w0.heap.size w0 w
  own : ∀ k, PJ F p f k ∨ RT8 g k → w0.heap.size ≤ k
  apart : ∀ k, RT8 g k → ¬ PJ F p f k
  nib : 0 < w0.heap.size
section
variable {w0 w w' : World} {F : Ft} {p : Nat} {f : Pf} {P P' : Pg} {g : Rf} {R R' : Rp}
theorem LS.step (h : LS w0 w F p f P g R) (hb : Below w.heap.size w w') : LS w0 w' F p f P g R := ⟨h.pg.below hb, h.rf.below hb, h.below.trans (hb.mono h.below.size), h.own, h.apart, h.nib⟩
theorem LS.lt (h : LS w0 w F p f P g R) {k : Nat} (hk : PJ F p f k ∨ RT8 g k) : k < w.heap.size := hk.elim (fun e => h.pg.lt e) fun e => h.rf.lt k e
theorem LS.read (h : LS w0 w F p f P g R) (hp : PgAt w' F p f P') (ht : Turned (PJ F p f) w w') : LS w0 w' F p f P' g R :=
  ⟨hp, h.rf.turned ht fun k hk e => h.apart k hk e, h.below.trans (ht.below h.below.size fun k hk => h.own k (.inl hk)), h.own, h.apart, h.nib⟩
theorem LS.stepP (h : LS w0 w F p f P g R) (ht : PgTo w F p f w' P') : ∃ f', LS w0 w' F p f' P' g R ∧ f'.q = f.q := by
  obtain ⟨f', a, b, c, d⟩ := ht
  refine ⟨f', ⟨a, h.rf.turned d fun k hk e => h.apart k hk e, h.below.trans (d.below h.below.size fun k hk => h.own k (.inl hk)), fun k hk => ?_, fun k hk e => ?_, h.nib⟩, b⟩
  · rcases hk with (hk | hk) | hk
    · exact h.own k (.inl (.inl hk))
    · rcases c k hk with e | e
      · exact h.own k (.inl (.inr e))
      · exact Nat.le_trans h.below.size e
    · exact h.own k (.inr hk)
  · rcases e with e | e
    · exact h.apart k hk (.inl e)
    · rcases c k e with e | e
      · exact h.apart k hk (.inr e)
      · have := h.rf.lt k hk
        omega
theorem LS.stepT (h : LS w0 w F p f P g R) {f' : Pf} (a : PgAt w' F p f' P') (c : ∀ k, PT f' k → PT f k ∨ w.heap.size ≤ k) (d : Turned (PJ F p f) w w') : LS w0 w' F p f' P' g R := by
  refine ⟨a, h.rf.turned d fun k hk e => h.apart k hk e, h.below.trans (d.below h.below.size fun k hk => h.own k (.inl hk)), fun k hk => ?_, fun k hk e => ?_, h.nib⟩
  · rcases hk with (hk | hk) | hk
    · exact h.own k (.inl (.inl hk))
    · rcases c k hk with e | e
      · exact h.own k (.inl (.inr e))
      · exact Nat.le_trans h.below.size e
    · exact h.own k (.inr hk)
  · rcases e with e | e
    · exact h.apart k hk (.inl e)
    · rcases c k e with e | e
      · exact h.apart k hk (.inr e)
      · have := h.rf.lt k hk
        omega
theorem LS.stepR (h : LS w0 w F p f P g R) (ht : RfTo w g w' R') : ∃ g', LS w0 w' F p f P g' R' ∧ g'.q = g.q := by
  obtain ⟨g', a, b, c, d'⟩ := ht
  have d : Turned (RT8 g) w w' := d'.mono fun _ _ e => e.rt
  refine ⟨g', ⟨h.pg.turned d fun k hk e => ?_, a, h.below.trans (d.below h.below.size fun k hk => h.own k (.inr hk)), fun k hk => ?_, fun k hk e => ?_, h.nib⟩, b⟩
  · rcases hk with hk | hk | hk
    · exact h.apart k e (.inl hk)
    · exact h.apart k e (.inr hk)
    · have := h.own k (.inr e)
      have := h.nib
      omega
  · rcases hk with hk | hk
    · exact h.own k (.inl hk)
    · rcases c k hk with e | e
      · exact h.own k (.inr e)
      · exact Nat.le_trans h.below.size e
  · rcases c k hk with e2 | e2
    · exact h.apart k e2 e
    · have := h.pg.lt e
      omega
end
theorem results_tmp4 {fn : Func} {t u v x : Tmp} (h : fn.results = #[.tmp t, .tmp u, .tmp v, .tmp x]) (tmps : Array Value) (P : Program) (w : World) :
    (results fn tmps).run P w = .ok (.tuple #[tmps.getD t undef, tmps.getD u undef, tmps.getD v undef, tmps.getD x undef]) w := by
  simp [results, h]
/-- what begun makes -/
structure Begun8 (n : Nat) (P : Pg) (R : Rp) : Prop where
  sim : ∃ seq B, Sim n P R seq B ∧ 0 ≤ seq ∧ seq ≤ 1
  last : P.J.last ≤ 2
  cut : P.J.D.cut < 0
  ops : P.J.D.ops ≤ 2 * n + 13
  rb : R = Rp.begun ((n - 2) / 2)
set_option maxHeartbeats 8000000 in
theorem begun8_any (w : World) (hn : Nib w) (c : Int) (h1 : -9223372036854775808 ≤ c) (h2 : c ≤ 9223372036854775807) :
    Calls Tryz.prog 5 #[.int .i64 c] w fun e w' => ∃ F p f g P R, e = .returned (.tuple #[F.ptr, jptr p, qptr f.q, qptr g.q]) ∧ LS w w' F p f P g R ∧ Begun8 (32 + pickN c 300) P R := by
  have hpk := pickN_lt c (n := 300) (by omega)
  have HPK := Lib.hid (pick_any w c 300 h1 h2 (by omega) (by omega))
  obtain ⟨n, hN⟩ : ∃ n, n = 32 + pickN c 300 := ⟨_, rfl⟩
  have hn32 : 32 ≤ n := by omega
  have hn331 : n ≤ 331 := by omega
  have e32 : (32 : Int) + (pickN c 300 : Int) = (n : Int) := by omega
  have hw1 : IntKind.i64.wrap (32 + (pickN c 300 : Int)) = (n : Int) := by rw [e32]; exact IntWalk.i64_in _ (by omega)
  obtain ⟨D1, J, e1, e2, hl, h3, h4, h5⟩ := begun_plain hn32 (by omega)
  obtain ⟨J', P, B', fr⟩ := pformat_live hl (by omega) (by omega) h4 (by omega) (by omega)
  have E1 := Lib.hid e1
  have E2 := Lib.hid e2
  have HL := Lib.hid (And.intro hl (And.intro h3 (And.intro h4 h5)))
  have FR := Lib.hid fr
  have HNB := Lib.hid hn
  rw [← hN]
  have HN := Lib.hid hN
  clear e1 e2 hl h3 h4 h5 fr hn hN hpk
  go_enter Tryz.func5, Tryz.ntmps5
  go_wp2_with (go_at_call 8; refine HPK.out.mono ?_; rintro e w9 ⟨rfl, hw9⟩; rw [← hw9]; clear hw9 w9)
  refine (new_some w n ⟨by omega, by omega⟩).mono ?_
  rintro e w1 ⟨F, rfl, d1, hF, hb1⟩
  have db1 : DB w.heap.size w w1 F (Dk.new n) := ⟨d1, HNB.out.below hb1, hb1, hF, hb1.size⟩
  clear d1 hF hb1
  go_wp2_with fail
  refine (format_any w1 F _ db1.dat db1.nib).mono ?_
  rintro e w2 ⟨rfl, d2, t2⟩
  rw [E1.out] at d2 ⊢
  have db2 := db1.turn d2 t2
  clear d2 t2 db1
  go_wp2_with fail
  refine (open_good w2 F D1 db2.dat db2.nib E2.out).mono ?_
  rintro e w3 ⟨p, rfl, j3, hp, t3⟩
  have jb3 := JB.of db2 j3 hp t3
  clear j3 t3 db2 hp
  have hJn : J.D.n = n := HL.out.1.hn
  have HF := Lib.hid (pformat_any w3 F p J jb3.jat jb3.nib (by omega) (by have := HL.out.2.1; omega) (by rw [HL.out.1.hseq]; decide) (by rw [HL.out.1.hseq]; decide))
  rw [FR.out.fmt] at HF
  have HJ3 := Lib.hid jb3
  clear jb3
  go_wp2_with fail
  refine HF.out.mono ?_
  rintro e w4 ⟨rfl, j4, t4⟩
  have jb4 := HJ3.out.turn j4 t4
  have hJn2 : J'.D.n = n := by have := FR.out.sim.live.hn; rw [FR.out.pj] at this; exact this
  have HO := Lib.hid (popen_any w4 F p J' jb4.jat jb4.nib (by omega))
  have HJ4 := Lib.hid jb4
  clear j4 t4 jb4
  go_wp2_with fail
  refine HO.out.mono ?_
  rintro e w5 ⟨_, hsome, t5⟩
  obtain ⟨f, rfl, hpg, hpf⟩ := hsome _ _ _ FR.out.opn
  have HPG := Lib.hid hpg
  have jb5 := HJ4.out.turn (by have := hpg.jat; rw [FR.out.pj] at this; exact this) t5
  have hbl := blocks_any w5 F p J' jb5.jat (by omega)
  have hbn : J'.D.blocks = (n - 2) / 2 := by rw [Dk.blocks, hJn2]
  rw [hbn] at hbl
  have HB := Lib.hid hbl
  have HBG := Lib.hid (rbegun8_any w5 ((n - 2) / 2) (by omega) (by omega))
  have HJ5 := Lib.hid jb5
  have HPF := Lib.hid hpf
  clear hpg hsome t5 jb5 hbl hbn hpf
  generalize hb9 : (n - 2) / 2 = b at *
  have Hb9 := Lib.hid hb9
  clear hb9
  go_wp2_with fail
  refine HB.out.mono ?_
  rintro e w6 ⟨rfl, hw6⟩
  rw [← hw6]
  clear hw6 w6
  go_wp2_with fail
  refine HBG.out.mono ?_
  rintro e w7 ⟨g, rfl, hrf, hrl, hb7⟩
  have HX : Hid (LS w w7 F p f P g (Rp.begun b)) := Lib.hid (by
    refine ⟨HPG.out.below hb7, hrf, HJ5.out.below.trans (hb7.mono HJ5.out.base), fun k hk => ?_, fun k hk e => ?_, nib_lt HNB.out⟩
    · rcases hk with (hk | hk) | hk
      · exact HJ5.out.own k hk
      · exact Nat.le_trans HJ4.out.base (HPF.out k hk)
      · exact Nat.le_trans HJ5.out.base (hrl k hk)
    · have := HPG.out.lt e
      have := hrl k hk
      omega)
  have HY : Hid (Begun8 n P (Rp.begun b)) := Lib.hid (by
    have f := FR.out
    obtain ⟨a1, a2, a3, a4⟩ := HL.out
    have fs := f.sim
    rw [Hb9.out] at fs
    exact ⟨⟨_, _, fs, by decide, by decide⟩, by rw [f.pj]; have := f.last; omega, by rw [f.pj, f.cut]; exact a3, by rw [f.pj]; have := f.ops; omega, by rw [Hb9.out]⟩)
  clear hrf hrl hb7
  go_wp2_with fail
  try simp only [Exit.inBlock, Exit.then]
  refine bodyPost_ret (results_tmp4 rfl _ _ _) rfl ?_
  exact ⟨F, p, f, g, P, _, rfl, HX.out, HY.out⟩
end Go.Proofs.YtbmmcaoifkboiaaGreatDoor

/- of: a page of a byte. -/
set_option linter.unusedVariables false
set_option linter.unusedSimpArgs false
set_option maxRecDepth 100000
namespace Go.Proofs.YtbmmcaoifkboiaaGreatDoor
open Go.RowKit

def ofN (page : Int) (y : UInt8) : Nat := if page = 77 then y.toNat else 896
def ofB (page : Int) (y : UInt8) : List UInt8 := (List.range (ofN page y)).map fun i => y + UInt8.ofNat i
theorem ofB_length (page : Int) (y : UInt8) : (ofB page y).length = ofN page y := by simp [ofB]
theorem ofN_le (page : Int) (y : UInt8) : ofN page y ≤ 896 := by
  unfold ofN
  have := y.toNat_lt
  split <;> omega
def ofTo (n : Nat) (y : UInt8) (k : Nat) : List UInt8 := (List.range k).map (fun i => y + UInt8.ofNat i) ++ List.replicate (n - k) 0
theorem ofTo_length (n : Nat) (y : UInt8) (k : Nat) (h : k ≤ n) : (ofTo n y k).length = n := by simp [ofTo]; omega
theorem ofTo_set (n : Nat) (y : UInt8) (k : Nat) (h : k < n) : (ofTo n y k).set k (y + UInt8.ofNat k) = ofTo n y (k + 1) := by
  have e1 : n - k = (n - (k + 1)) + 1 := by omega
  rw [ofTo, ofTo, e1, List.replicate_succ, List.set_append_right _ _ (by simp), List.range_succ]
  simp
theorem ofTo_all (n : Nat) (y : UInt8) : ofTo n y n = (List.range n).map fun i => y + UInt8.ofNat i := by simp [ofTo]
theorem run_makeB (n : Nat) (hn : n ≤ 1000000) (w : World) : (Instr.makeSlice 44 (.int .i64 (n : Int)) (.int .i64 (n : Int))).run Tryz.prog w = .ok (.slice (some ⟨w.heap.size, 0, none⟩) n n) (w.alloc (.cells (bv (List.replicate n 0)).toArray 5)) := by
  rw [run_make_row' (P := Tryz.prog) 44 5 (.int .u8 0) 1 Tryz.underlying44 info_byte rfl .i64 .i64 n (by omega) (by omega) w]
  congr 3
  simp only [madeCells, bv, List.map_replicate, List.size_toArray, List.toArray_replicate]
  apply Array.ext
  · simp
  · intro i h1 h2
    simp [Nat.mod_one]
theorem RowB.mine {w : World} {g : Nat} {L : List UInt8} (h : RowB w g 5 L) (B n : Nat) (hB : B ≤ g) (hn : L.length = n) (hm : n ≤ 1000000) : Mine 5 B w (.slice (some ⟨g, 0, none⟩) n n) L := by
  subst hn
  exact ⟨by simp [bv], .inr ⟨g, L.length, _, rfl, hB, h, Nat.le_refl _, by simp [maxLen]; omega, by simp [bv], by rw [Nat.mul_one]; simp only [bv]; exact List.take_of_length_le (by simp)⟩⟩
theorem u8_add (y : UInt8) (k : Nat) : ((y.toNat : Int) + (k : Int)) % 256 = (((y + UInt8.ofNat k).toNat : Nat) : Int) := by
  rw [UInt8.toNat_add, UInt8.toNat_ofNat']
  omega
abbrev opRow8 (kind page : Int) (y : UInt8) : Obj := .cells #[.int .i64 kind, .int .i64 page, .int .u8 (y.toNat : Int)] 39 (0, 0)
theorem op_cells8 {W : World} {g : Nat} {kind page : Int} {y : UInt8} (h : W.heap[g]? = some (opRow8 kind page y)) : W.cell? ⟨g, 0, none⟩ = some (.int .i64 kind) ∧ W.cell? ⟨g, 1, none⟩ = some (.int .i64 page) ∧ W.cell? ⟨g, 2, none⟩ = some (.int .u8 (y.toNat : Int)) := by
  refine ⟨?_, ?_, ?_⟩ <;> · rw [cell_of_row _ _ _ _ _ _ h]; rfl
set_option maxHeartbeats 8000000 in
theorem of8_any (w : World) (kind page : Int) (y : UInt8) : Calls Tryz.prog 45 #[.agg #[.int .i64 kind, .int .i64 page, .int .u8 (y.toNat : Int)]] w fun e w' => ∃ v, e = .returned v ∧ Mine 5 w.heap.size w' v (ofB page y) ∧ Below w.heap.size w w' := by
  obtain ⟨w1, hw1⟩ : ∃ x, x = w.alloc (opRow8 kind page y) := ⟨_, rfl⟩
  have ho1 : w1.heap[w.heap.size]? = some (opRow8 kind page y) := by rw [hw1]; exact heap_alloc_new w _
  have hb1 : Below w.heap.size w w1 := by rw [hw1]; exact (Below.refl _ _).alloc (Nat.le_refl _) _
  obtain ⟨c0, c1, c2⟩ := op_cells8 ho1
  rw [hw1] at c0 c1 c2
  obtain ⟨n, hN⟩ : ∃ n, n = ofN page y := ⟨_, rfl⟩
  have hn := ofN_le page y
  rw [← hN] at hn
  have hmk := run_makeB n (by omega)
  obtain ⟨w2, hw2⟩ : ∃ x, x = w1.alloc (.cells (bv (List.replicate n 0)).toArray 5) := ⟨_, rfl⟩
  have hb2 : Below w1.heap.size w1 w2 := by rw [hw2]; exact (Below.refl _ _).alloc (Nat.le_refl _) _
  have hr2 : RowB w2 w1.heap.size 5 (ofTo n y 0) := by
    rw [hw2, show ofTo n y 0 = List.replicate n 0 by simp [ofTo]]
    exact RowB.alloc w1 5 _
  have ho2 := (hb2.block _ (lt_of_heap ho1)).trans ho1
  have hlt1 := lt_of_heap ho1
  have hs1 : w1.heap.size = w.heap.size + 1 := by rw [hw1]; simp
  obtain ⟨g, hg⟩ : ∃ g, g = w.heap.size + 1 := ⟨_, rfl⟩
  rw [hs1, ← hg] at hr2
  have HR2 := Lib.hid hr2
  have HO2 := Lib.hid ho2
  have HB := Lib.hid (hb1.trans (hb2.mono hb1.size))
  have HW2 := Lib.hid hw2
  have HW1 := Lib.hid hw1
  have HN := Lib.hid hN
  have HG := Lib.hid hg
  have hgw : w.heap.size < g := by omega
  clear ho1 hb1 hb2 hr2 ho2 hw1 hw2 hN hs1 hlt1 hg
  by_cases hp : page = 77
  · have hd : (page == 77) = true := by simpa using hp
    have e : n = y.toNat := by rw [HN.out, ofN, if_pos hp]
    have hcv : IntKind.i64.wrap (y.toNat : Int) = (n : Int) := by rw [e]; exact IntWalk.i64_in _ (by have := y.toNat_lt; omega)
    clear e hp
    go_enter Tryz.func45, Tryz.ntmps45
    go_wp2_with fail
    rw [← HW1.out, ← HW2.out]
    rw [← HG.out]
    clear c0 c1 c2
    go_loopw [5] (fun x wr => ∃ k : Nat, k ≤ n ∧ x = .int .i64 (k : Int) ∧ RowB wr g 5 (ofTo n y k) ∧ wr.heap[w.heap.size]? = some (opRow8 kind page y) ∧ Below w.heap.size w wr) (fun x _ => n - (intOf x).toNat)
    case atStart => exact ⟨0, Nat.zero_le _, rfl, HR2.out, HO2.out, HB.out⟩
    case round =>
      obtain ⟨k, hk, rfl, hr, ho, hb⟩ := hrel
      by_cases hlt : k < n
      · have hdk : decide ((k : Int) < (n : Int)) = true := decide_eq_true (by omega)
        have hfz := hr.frozen k
        obtain ⟨ck, hck⟩ : ∃ u, wr.cell? ⟨g, k, none⟩ = some u := ⟨_, hr.cell k (by rw [ofTo_length n y k hk]; exact hlt)⟩
        obtain ⟨_, _, c2⟩ := op_cells8 ho
        have hadd := u8_add y k
        have hr3 := hr.set k (y + UInt8.ofNat k)
        rw [ofTo_set n y k hlt] at hr3
        have ht := turned_one wr g k (.int .u8 (((y + UInt8.ofNat k).toNat : Nat) : Int))
        generalize y + UInt8.ofNat k = z at *
        have HF := Lib.hid (And.intro hr3 (And.intro ((ht.block _ (lt_of_heap ho) (by omega)).trans ho) (hb.trans (ht.below (B := w.heap.size) hb.size fun j hj => by omega))))
        clear hr ho hb hr3 ht
        go_wp2_with fail
        go_roundw
        case rel => exact ⟨k + 1, by omega, by go_num, HF.out.1, HF.out.2.1, HF.out.2.2⟩
        case measure => simp [intOf]; omega
      · obtain rfl : k = n := by omega
        have hdz : decide ((k : Int) < (k : Int)) = false := by simp
        have HF := Lib.hid (And.intro hr (And.intro ho hb))
        clear hr ho hb
        go_wp2_with fail
        go_ret
        refine ⟨_, rfl, ?_, HF.out.2.2⟩
        have hm := HF.out.1.mine w.heap.size k (by omega) (ofTo_length k y k (Nat.le_refl _)) (by omega)
        rw [ofTo_all] at hm
        rw [ofB, ← HN.out]
        exact hm
  · have hd : (page == 77) = false := by simpa using hp
    obtain rfl : n = 896 := by rw [HN.out, ofN, if_neg hp]
    have hmk2 := run_make896
    replace HW2 : Hid (w2 = w1.alloc (.cells (bv z896).toArray 5)) := HW2
    clear hmk hp
    go_enter Tryz.func45, Tryz.ntmps45
    go_wp2_with fail
    rw [← HW1.out, ← HW2.out]
    rw [← HG.out]
    clear c0 c1 c2
    go_loopw [5] (fun x wr => ∃ k : Nat, k ≤ 896 ∧ x = .int .i64 (k : Int) ∧ RowB wr g 5 (ofTo 896 y k) ∧ wr.heap[w.heap.size]? = some (opRow8 kind page y) ∧ Below w.heap.size w wr) (fun x _ => 896 - (intOf x).toNat)
    case atStart => exact ⟨0, Nat.zero_le _, rfl, HR2.out, HO2.out, HB.out⟩
    case round =>
      obtain ⟨k, hk, rfl, hr, ho, hb⟩ := hrel
      by_cases hlt : k < 896
      · have hdk : decide ((k : Int) < (896 : Int)) = true := decide_eq_true (by omega)
        have hfz := hr.frozen k
        obtain ⟨ck, hck⟩ : ∃ u, wr.cell? ⟨g, k, none⟩ = some u := ⟨_, hr.cell k (by rw [ofTo_length 896 y k hk]; exact hlt)⟩
        obtain ⟨_, _, c2⟩ := op_cells8 ho
        have hadd := u8_add y k
        have hr3 := hr.set k (y + UInt8.ofNat k)
        rw [ofTo_set 896 y k hlt] at hr3
        have ht := turned_one wr g k (.int .u8 (((y + UInt8.ofNat k).toNat : Nat) : Int))
        generalize y + UInt8.ofNat k = z at *
        have HF := Lib.hid (And.intro hr3 (And.intro ((ht.block _ (lt_of_heap ho) (by omega)).trans ho) (hb.trans (ht.below (B := w.heap.size) hb.size fun j hj => by omega))))
        clear hr ho hb hr3 ht
        go_wp2_with fail
        go_roundw
        case rel => exact ⟨k + 1, by omega, by go_num, HF.out.1, HF.out.2.1, HF.out.2.2⟩
        case measure => simp [intOf]; omega
      · obtain rfl : k = 896 := by omega
        have hdz : decide ((896 : Int) < (896 : Int)) = false := by decide
        have HF := Lib.hid (And.intro hr (And.intro ho hb))
        clear hr ho hb
        go_wp2_with fail
        go_ret
        refine ⟨_, rfl, ?_, HF.out.2.2⟩
        have hm := HF.out.1.mine w.heap.size 896 (by omega) (ofTo_length 896 y 896 (Nat.le_refl _)) (by omega)
        rw [ofTo_all] at hm
        rw [ofB, ← HN.out]
        exact hm
end Go.Proofs.YtbmmcaoifkboiaaGreatDoor

/- has: does a pager stand as the document's? -/
set_option linter.unusedVariables false
set_option linter.unusedSimpArgs false
set_option maxRecDepth 100000
namespace Go.Proofs.YtbmmcaoifkboiaaGreatDoor
open Go.RowKit

theorem Sim.free_eq {n : Nat} {P : Pg} {R : Rp} {seq : Int} {B : List (List UInt8)} (h : Sim n P R seq B) : freeN P.now = freeRN R.pages := by
  rw [h.now, freeN, freeRN, List.countP_map]
  congr 1
  funext x
  cases x <;> rfl
theorem Rp.read_len {R : Rp} (h : ∀ (k : Nat) b, R.pages[k]? = some (some b) → b.length = 896) (page : Int) : (R.read page).1.length ≤ 896 := by
  cases ht : R.taken page with
  | false => rw [Rp.read, if_pos ht]; simp
  | true =>
    obtain ⟨a1, a2, b, a3⟩ := taken_get ht
    have : (R.read page).1 = b := by rw [Rp.read, if_neg (by simp [ht]), List.getD_eq_getElem?_getD, a3]; rfl
    rw [this, h _ _ a3]
    exact Nat.le_refl _
set_option maxHeartbeats 16000000 in
theorem has8_any (w0 w : World) {F : Ft} {p : Nat} {f : Pf} {P : Pg} {g : Rf} {R : Rp} {n : Nat} {seq : Int} {B : List (List UInt8)} (h : LS w0 w F p f P g R) (hs : Sim n P R seq B) :
    Calls Tryz.prog 19 #[qptr f.q, qptr g.q] w fun e w' => e = .returned (.bool true) ∧ LS w0 w' F p f P g R := by
  have hd := h.step (Below.refl w.heap.size w).drew
  have HP := Lib.hid (pages_any hd.pg)
  have HL := Lib.hid (left_any hd.pg)
  have HR := Lib.hid (root_any hd.pg)
  have HRL := Lib.hid (rleft8_any hd.rf)
  rw [hs.nlen] at HP
  rw [hs.free_eq] at HL
  rw [hs.root] at HR
  have hc := hd.rf.cells
  obtain ⟨N, hN⟩ : ∃ N, N = R.pages.length := ⟨_, rfl⟩
  have hS0 : (fun W : World => W.cell? ⟨g.q, 0, none⟩ = some (.slice (some ⟨g.gs, 0, none⟩) N g.cs) ∧ W.cell? ⟨g.q, 1, none⟩ = some (.int .i64 R.root)) w.drew := by rw [hN]; exact ⟨hc.1, hc.2.1⟩
  have hn1 := h.rf.n1
  rw [← hN] at HP hn1
  have HN := Lib.hid hN
  have HD := Lib.hid hd
  have HS := Lib.hid hs
  have hz1 : ((N : Int) != (N : Int)) = false := by simp
  have hz2 : ((freeRN R.pages : Int) != (freeRN R.pages : Int)) = false := by simp
  have hz3 : (R.root != R.root) = false := by simp
  clear h hs hd hc hN
  generalize freeRN R.pages = fr at *
  generalize hrt : R.root = rt at *
  have Hrt := Lib.hid hrt
  clear hrt
  go_enter Tryz.func19, Tryz.ntmps19
  go_upto_region 1 with fail
  refine wp_region_noPanic ?_
  refine wp_region_held_drew (S := (fun W : World => W.cell? ⟨g.q, 0, none⟩ = some (.slice (some ⟨g.gs, 0, none⟩) N g.cs) ∧ W.cell? ⟨g.q, 1, none⟩ = some (.int .i64 rt))) (by kernel_rfl) hS0 (fun hH => ?_)
  refine take_at (i := 0) (v := ?_) rfl (by kernel_rfl) (by kernel_rfl) (by kernel_rfl) (fun _ _ _ h => h) (Or.inl ⟨by rfl, ?_⟩) hH ?_
  rotate_left
  · (intro w hSw; obtain ⟨q0, q1⟩ := hSw; go_simp; try with_reducible rfl)
  try simp only [Act.put, List.setIfInBounds_toArray, List.set_cons_zero, List.set_cons_succ]
  refine take_at (i := 1) (v := ?_) rfl (by kernel_rfl) (by kernel_rfl) (by kernel_rfl) (fun _ _ _ h => h) (Or.inl ⟨by rfl, ?_⟩) hH ?_
  rotate_left
  · (intro w hSw; obtain ⟨q0, q1⟩ := hSw; go_simp; try with_reducible rfl)
  try simp only [Act.put, List.setIfInBounds_toArray, List.set_cons_zero, List.set_cons_succ]
  refine take_at (i := 2) (v := ?_) rfl (by kernel_rfl) (by kernel_rfl) (by kernel_rfl) (fun _ _ _ h => h) (Or.inl ⟨by rfl, ?_⟩) hH ?_
  rotate_left
  · (intro w hSw; obtain ⟨q0, q1⟩ := hSw; go_simp; try with_reducible rfl)
  try simp only [Act.put, List.setIfInBounds_toArray, List.set_cons_zero, List.set_cons_succ]
  refine take_at (i := 3) (v := ?_) rfl (by kernel_rfl) (by kernel_rfl) (by kernel_rfl) (fun _ _ _ h => h) (Or.inl ⟨by rfl, ?_⟩) hH ?_
  rotate_left
  · (intro w hSw; obtain ⟨q0, q1⟩ := hSw; go_simp; try with_reducible rfl)
  try simp only [Act.put, List.setIfInBounds_toArray, List.set_cons_zero, List.set_cons_succ]
  refine take_at (i := 5) (v := ?_) rfl (by kernel_rfl) (by kernel_rfl) (by kernel_rfl) (fun _ _ _ h => h) (Or.inl ⟨by rfl, ?_⟩) hH ?_
  rotate_left
  · (intro w hSw; obtain ⟨q0, q1⟩ := hSw; go_simp; try with_reducible rfl)
  try simp only [Act.put, List.setIfInBounds_toArray, List.set_cons_zero, List.set_cons_succ]
  refine take_at (i := 6) (v := ?_) rfl (by kernel_rfl) (by kernel_rfl) (by kernel_rfl) (fun _ _ _ h => h) (Or.inl ⟨by rfl, ?_⟩) hH ?_
  rotate_left
  · (intro w hSw; obtain ⟨q0, q1⟩ := hSw; go_simp; try with_reducible rfl)
  try simp only [Act.put, List.setIfInBounds_toArray, List.set_cons_zero, List.set_cons_succ]
  refine take_at (i := 7) (v := ?_) rfl (by kernel_rfl) (by kernel_rfl) (by kernel_rfl) (fun _ _ _ h => h) (Or.inl ⟨by rfl, ?_⟩) hH ?_
  rotate_left
  · (intro w hSw; obtain ⟨q0, q1⟩ := hSw; go_simp; try with_reducible rfl)
  try simp only [Act.put, List.setIfInBounds_toArray, List.set_cons_zero, List.set_cons_succ]
  refine take_at (i := 8) (v := ?_) rfl (by kernel_rfl) (by kernel_rfl) (by kernel_rfl) (fun _ _ _ h => h) (Or.inl ⟨by rfl, ?_⟩) hH ?_
  rotate_left
  · (intro w hSw; obtain ⟨q0, q1⟩ := hSw; go_simp; try with_reducible rfl)
  try simp only [Act.put, List.setIfInBounds_toArray, List.set_cons_zero, List.set_cons_succ]
  refine take_at (i := 9) (v := ?_) rfl (by kernel_rfl) (by kernel_rfl) (by kernel_rfl) (fun _ _ _ h => h) (Or.inl ⟨by rfl, ?_⟩) hH ?_
  rotate_left
  · (intro w hSw; obtain ⟨q0, q1⟩ := hSw; go_simp; try with_reducible rfl)
  try simp only [Act.put, List.setIfInBounds_toArray, List.set_cons_zero, List.set_cons_succ]
  refine take_at (i := 10) (v := ?_) rfl (by kernel_rfl) (by kernel_rfl) (by kernel_rfl) (fun _ _ _ h => h) (Or.inl ⟨by rfl, ?_⟩) hH ?_
  rotate_left
  · (intro w hSw; obtain ⟨q0, q1⟩ := hSw; go_simp; try with_reducible rfl)
  try simp only [Act.put, List.setIfInBounds_toArray, List.set_cons_zero, List.set_cons_succ]
  refine wpAnyH_ready (rs := [4]) (by kernel_rfl) (by simp) ?_
  refine ready_at rfl (fun K hK => ?_) AllReadyH.nil
  go_simp
  refine HP.out.mono ?_
  rintro e w' ⟨rfl, hw9⟩
  rw [hw9]
  clear hw9 w'
  go_wp2_with fail
  refine hK.out _ _ hH (fun _ => ?_)
  clear hK K
  try simp only [Act.put, List.setIfInBounds_toArray, List.set_cons_zero, List.set_cons_succ]
  refine take_at (i := 11) (v := ?_) rfl (by kernel_rfl) (by kernel_rfl) (by kernel_rfl) (fun _ _ _ h => h) (Or.inl ⟨by rfl, ?_⟩) hH ?_
  rotate_left
  · (intro w hSw; obtain ⟨q0, q1⟩ := hSw; go_simp; try with_reducible rfl)
  try simp only [Act.put, List.setIfInBounds_toArray, List.set_cons_zero, List.set_cons_succ]
  refine take_at (i := 12) (v := ?_) rfl (by kernel_rfl) (by kernel_rfl) (by kernel_rfl) (fun _ _ _ h => h) (Or.inl ⟨by rfl, ?_⟩) hH ?_
  rotate_left
  · (intro w hSw; obtain ⟨q0, q1⟩ := hSw; go_simp; try with_reducible rfl)
  try simp only [Act.put, List.setIfInBounds_toArray, List.set_cons_zero, List.set_cons_succ]
  refine take_at (i := 13) (v := ?_) rfl (by kernel_rfl) (by kernel_rfl) (by kernel_rfl) (fun _ _ _ h => h) (Or.inl ⟨by rfl, ?_⟩) hH ?_
  rotate_left
  · (intro w hSw; obtain ⟨q0, q1⟩ := hSw; go_simp; try with_reducible rfl)
  try simp only [Act.put, List.setIfInBounds_toArray, List.set_cons_zero, List.set_cons_succ]
  refine take_at (i := 14) (v := ?_) rfl (by kernel_rfl) (by kernel_rfl) (by kernel_rfl) (fun _ _ _ h => h) (Or.inl ⟨by rfl, ?_⟩) hH ?_
  rotate_left
  · (intro w hSw; obtain ⟨q0, q1⟩ := hSw; go_simp; try with_reducible rfl)
  try simp only [Act.put, List.setIfInBounds_toArray, List.set_cons_zero, List.set_cons_succ]
  refine take_at (i := 16) (v := ?_) rfl (by kernel_rfl) (by kernel_rfl) (by kernel_rfl) (fun _ _ _ h => h) (Or.inl ⟨by rfl, ?_⟩) hH ?_
  rotate_left
  · (intro w hSw; obtain ⟨q0, q1⟩ := hSw; go_simp; try with_reducible rfl)
  try simp only [Act.put, List.setIfInBounds_toArray, List.set_cons_zero, List.set_cons_succ]
  refine wpAnyH_ready (rs := [15]) (by kernel_rfl) (by simp) ?_
  refine ready_at rfl (fun K hK => ?_) AllReadyH.nil
  go_simp
  refine HL.out.mono ?_
  rintro e w' ⟨rfl, hw9⟩
  rw [hw9]
  clear hw9 w'
  go_wp2_with fail
  refine hK.out _ _ hH (fun _ => ?_)
  clear hK K
  try simp only [Act.put, List.setIfInBounds_toArray, List.set_cons_zero, List.set_cons_succ]
  refine wpAnyH_ready (rs := [17]) (by kernel_rfl) (by simp) ?_
  refine ready_at rfl (fun K hK => ?_) AllReadyH.nil
  go_simp
  refine HRL.out.mono ?_
  rintro e w' ⟨rfl, hw9⟩
  rw [hw9]
  clear hw9 w'
  go_wp2_with fail
  refine hK.out _ _ hH (fun _ => ?_)
  clear hK K
  try simp only [Act.put, List.setIfInBounds_toArray, List.set_cons_zero, List.set_cons_succ]
  refine take_at (i := 18) (v := ?_) rfl (by kernel_rfl) (by kernel_rfl) (by kernel_rfl) (fun _ _ _ h => h) (Or.inl ⟨by rfl, ?_⟩) hH ?_
  rotate_left
  · (intro w hSw; obtain ⟨q0, q1⟩ := hSw; go_simp; try with_reducible rfl)
  try simp only [Act.put, List.setIfInBounds_toArray, List.set_cons_zero, List.set_cons_succ]
  refine take_at (i := 19) (v := ?_) rfl (by kernel_rfl) (by kernel_rfl) (by kernel_rfl) (fun _ _ _ h => h) (Or.inl ⟨by rfl, ?_⟩) hH ?_
  rotate_left
  · (intro w hSw; obtain ⟨q0, q1⟩ := hSw; go_simp; try with_reducible rfl)
  try simp only [Act.put, List.setIfInBounds_toArray, List.set_cons_zero, List.set_cons_succ]
  refine take_at (i := 20) (v := ?_) rfl (by kernel_rfl) (by kernel_rfl) (by kernel_rfl) (fun _ _ _ h => h) (Or.inl ⟨by rfl, ?_⟩) hH ?_
  rotate_left
  · (intro w hSw; obtain ⟨q0, q1⟩ := hSw; go_simp; try with_reducible rfl)
  try simp only [Act.put, List.setIfInBounds_toArray, List.set_cons_zero, List.set_cons_succ]
  refine take_at (i := 21) (v := ?_) rfl (by kernel_rfl) (by kernel_rfl) (by kernel_rfl) (fun _ _ _ h => h) (Or.inl ⟨by rfl, ?_⟩) hH ?_
  rotate_left
  · (intro w hSw; obtain ⟨q0, q1⟩ := hSw; go_simp; try with_reducible rfl)
  try simp only [Act.put, List.setIfInBounds_toArray, List.set_cons_zero, List.set_cons_succ]
  refine take_at (i := 23) (v := ?_) rfl (by kernel_rfl) (by kernel_rfl) (by kernel_rfl) (fun _ _ _ h => h) (Or.inl ⟨by rfl, ?_⟩) hH ?_
  rotate_left
  · (intro w hSw; obtain ⟨q0, q1⟩ := hSw; go_simp; try with_reducible rfl)
  try simp only [Act.put, List.setIfInBounds_toArray, List.set_cons_zero, List.set_cons_succ]
  refine take_at (i := 24) (v := ?_) rfl (by kernel_rfl) (by kernel_rfl) (by kernel_rfl) (fun _ _ _ h => h) (Or.inl ⟨by rfl, ?_⟩) hH ?_
  rotate_left
  · (intro w hSw; obtain ⟨q0, q1⟩ := hSw; go_simp; try with_reducible rfl)
  try simp only [Act.put, List.setIfInBounds_toArray, List.set_cons_zero, List.set_cons_succ]
  refine take_at (i := 25) (v := ?_) rfl (by kernel_rfl) (by kernel_rfl) (by kernel_rfl) (fun _ _ _ h => h) (Or.inl ⟨by rfl, ?_⟩) hH ?_
  rotate_left
  · (intro w hSw; obtain ⟨q0, q1⟩ := hSw; go_simp; try with_reducible rfl)
  try simp only [Act.put, List.setIfInBounds_toArray, List.set_cons_zero, List.set_cons_succ]
  refine take_at (i := 26) (v := ?_) rfl (by kernel_rfl) (by kernel_rfl) (by kernel_rfl) (fun _ _ _ h => h) (Or.inl ⟨by rfl, ?_⟩) hH ?_
  rotate_left
  · (intro w hSw; obtain ⟨q0, q1⟩ := hSw; go_simp; try with_reducible rfl)
  try simp only [Act.put, List.setIfInBounds_toArray, List.set_cons_zero, List.set_cons_succ]
  refine take_at (i := 27) (v := ?_) rfl (by kernel_rfl) (by kernel_rfl) (by kernel_rfl) (fun _ _ _ h => h) (Or.inl ⟨by rfl, ?_⟩) hH ?_
  rotate_left
  · (intro w hSw; obtain ⟨q0, q1⟩ := hSw; go_simp; try with_reducible rfl)
  try simp only [Act.put, List.setIfInBounds_toArray, List.set_cons_zero, List.set_cons_succ]
  refine wpAnyH_ready (rs := [22]) (by kernel_rfl) (by simp) ?_
  refine ready_at rfl (fun K hK => ?_) AllReadyH.nil
  go_simp
  refine HR.out.mono ?_
  rintro e w' ⟨rfl, hw9⟩
  rw [hw9]
  clear hw9 w'
  go_wp2_with fail
  refine hK.out _ _ hH (fun _ => ?_)
  clear hK K
  try simp only [Act.put, List.setIfInBounds_toArray, List.set_cons_zero, List.set_cons_succ]
  refine take_at (i := 28) (v := ?_) rfl (by kernel_rfl) (by kernel_rfl) (by kernel_rfl) (fun _ _ _ h => h) (Or.inl ⟨by rfl, ?_⟩) hH ?_
  rotate_left
  · (intro w hSw; obtain ⟨q0, q1⟩ := hSw; go_simp; try with_reducible rfl)
  try simp only [Act.put, List.setIfInBounds_toArray, List.set_cons_zero, List.set_cons_succ]
  refine take_at (i := 29) (v := ?_) rfl (by kernel_rfl) (by kernel_rfl) (by kernel_rfl) (fun _ _ _ h => h) (Or.inl ⟨by rfl, ?_⟩) hH ?_
  rotate_left
  · (intro w hSw; obtain ⟨q0, q1⟩ := hSw; go_simp; try with_reducible rfl)
  try simp only [Act.put, List.setIfInBounds_toArray, List.set_cons_zero, List.set_cons_succ]
  refine wpAnyH_done (by kernel_rfl) ?_ _
  refine NoPanic.normal ?_
  clear hH hS0 HP HL HR HRL hz1 hz2 hz3
  go_wp2_with fail
  go_loopw [5] (fun x wr => ∃ k : Nat, k ≤ N + 2 ∧ x = .int .i64 ((k : Int) - 1) ∧ LS w0 wr F p f P g R) (fun x _ => N + 3 - (intOf x + 1).toNat)
  case atStart => exact ⟨0, Nat.zero_le _, rfl, HD.out⟩
  case round =>
    obtain ⟨k, hk, rfl, hl⟩ := hrel
    obtain ⟨i, hi⟩ : ∃ i : Int, i = (k : Int) - 1 := ⟨_, rfl⟩
    rw [← hi]
    have hi1 : -1 ≤ i := by omega
    have hi2 : i ≤ 1025 := by omega
    obtain ⟨c0, _⟩ := hl.rf.cells
    rw [← HN.out] at c0
    have HK : Hid (i = (k : Int) - 1) := Lib.hid hi
    by_cases hle : i ≤ (N : Int)
    case neg =>
      have hdz : decide (i ≤ (N : Int)) = false := decide_eq_false hle
      have HX := Lib.hid hl
      clear hl hi hle
      go_wp2_with fail
      go_ret
      exact ⟨rfl, HX.out⟩
    have hdz : decide (i ≤ (N : Int)) = true := decide_eq_true hle
    have hrd := pread_any hl.pg i (by omega) (by omega)
    rw [HS.out.read i] at hrd
    have HRD := Lib.hid hrd
    have HLS := Lib.hid hl
    have HLE := Lib.hid hle
    clear hl hi hrd hle
    go_wp2_with fail
    refine HRD.out.mono ?_
    rintro e w1 ⟨v, rfl, hm, hp1, ht1⟩
    have hl1 := HLS.out.read hp1 ht1
    have HR2 := Lib.hid (rread_any hl1.rf i)
    have HM := Lib.hid hm
    have HLS1 := Lib.hid hl1
    have hcv := run_str (P := Tryz.prog) hm.isB 44 9 5 Tryz.underlying44 Tryz.underlying5 Tryz.underlying9
    obtain ⟨a, c, rfl, _, _⟩ := hm.isB.form
    clear hm hp1 ht1 hl1
    generalize R.read i = Q at *
    have hq2 : (Q.2 != Q.2) = false := by simp
    go_wp2_with fail
    refine HR2.out.mono ?_
    rintro e w2 ⟨rfl, hw2⟩
    rw [hw2]
    clear hw2 w2
    go_wp2_with fail
    go_roundw
    case rel => exact ⟨k + 1, by have := HK.out; have := HLE.out; omega, by have := HK.out; congr 1; omega, HLS1.out⟩
    case measure => have := HK.out; have := HLE.out; simp [intOf]; omega
end Go.Proofs.YtbmmcaoifkboiaaGreatDoor

/- What does keeps: the pagers beside each other, within bounds; bytes of one's own counted up. -/
set_option linter.unusedVariables false
set_option linter.unusedSimpArgs false
set_option maxRecDepth 100000
namespace Go.Proofs.YtbmmcaoifkboiaaGreatDoor
open Go.RowKit

/-- both pagers stand alike, behind at most m Commits -/
structure St (n m : Nat) (P : Pg) (R : Rp) : Prop where
  sim : ∃ seq B, Sim n P R seq B ∧ 0 ≤ seq ∧ seq ≤ 1 + (m : Int)
  last : P.J.last ≤ 2 + m
  cut : P.J.D.cut < 0
  ops : P.J.D.ops ≤ 675 + 328 * m
theorem Begun8.st {n : Nat} {P : Pg} {R : Rp} (h : Begun8 n P R) (hn : n ≤ 331) : St n 0 P R := by
  obtain ⟨seq, B, h1, h2, h3⟩ := h.sim
  exact ⟨⟨seq, B, h1, h2, by omega⟩, h.last, h.cut, by have := h.ops; omega⟩
theorem St.of {n m : Nat} {P P' : Pg} {R R' : Rp} (h : St n m P R) (hJ : P'.J = P.J) (hs : ∀ seq B, Sim n P R seq B → Sim n P' R' seq B) : St n (m + 1) P' R' := by
  obtain ⟨seq, B, h1, h2, h3⟩ := h.sim
  exact ⟨⟨seq, B, hs seq B h1, h2, by omega⟩, by rw [hJ]; have := h.last; omega, by rw [hJ]; exact h.cut, by rw [hJ]; have := h.ops; omega⟩
theorem St.commit {n m : Nat} {P : Pg} {R : Rp} (h : St n m P R) (hn : 6 ≤ n) (hn2 : n ≤ 331) (hm : m ≤ 2000) : P.commit.1 = 0 ∧ St n (m + 1) P.commit.2 R.commit := by
  obtain ⟨seq, B, h1, h2, h3⟩ := h.sim
  have hl : R.pages.length ≤ 20 := by have := h1.len; omega
  have := h.last
  have := h.ops
  obtain ⟨s', B', c⟩ := h1.commit hn h.cut (by omega) (by omega)
  have := c.last
  have := c.ops
  have := c.seq
  exact ⟨c.err, ⟨s', B', c.sim, by omega, by omega⟩, by omega, by rw [c.cut]; exact h.cut, by omega⟩
section
variable {w0 w w' : World} {F : Ft} {p : Nat} {f : Pf} {P : Pg} {g : Rf} {R : Rp}
/-- blocks of others are turned -/
theorem LS.other {T : Nat → Prop} (h : LS w0 w F p f P g R) (ht : Turned T w w') (h1 : ∀ k, T k → w0.heap.size ≤ k) (h2 : ∀ k, T k → ¬ PJ F p f k ∧ ¬ RT8 g k) : LS w0 w' F p f P g R :=
  ⟨h.pg.turned ht fun k hk e => by
    rcases hk with hk | hk | hk
    · exact (h2 k e).1 (.inl hk)
    · exact (h2 k e).1 (.inr hk)
    · have := h1 k e
      have := h.nib
      omega, h.rf.turned ht fun k hk e => (h2 k e).2 hk, h.below.trans (ht.below h.below.size h1), h.own, h.apart, h.nib⟩
end
theorem Mine.poke {B : Nat} {w : World} {g N c : Nat} {L : List UInt8} (h : Mine 5 B w (.slice (some ⟨g, 0, none⟩) N c) L) (i : Nat) (hi : i < L.length) (x : UInt8) :
    w.cell? ⟨g, i, none⟩ = some (.int .u8 (L[i].toNat : Int)) ∧ w.frozen? ⟨g, i, none⟩ = false ∧ Mine 5 B (w.setCell ⟨g, i, none⟩ (.int .u8 (x.toNat : Int))) (.slice (some ⟨g, 0, none⟩) N c) (L.set i x) := by
  rcases h.2 with ⟨e, _⟩ | ⟨g', cap, cur, e, hb, hg, hn, hcm, hcs, htake⟩
  · cases e
  · simp only [Value.slice.injEq, Option.some.injEq, Addr.mk.injEq, and_true] at e
    obtain ⟨rfl, rfl, rfl⟩ := e
    have hv : VRow w 5 g c (bv L) := ⟨cur, hg, by rw [bv_length]; exact hn, hcm, by simpa using hcs, by rw [bv_length]; simpa using htake⟩
    have hc := hv.cell i (by rw [bv_length]; exact hi)
    have e1 : (bv L)[i]'(by rw [bv_length]; exact hi) = .int .u8 (L[i].toNat : Int) := by simp [bv]
    rw [e1] at hc
    refine ⟨hc, hv.frozen i, ?_⟩
    have h2 := (hv.set i (.int .u8 (x.toNat : Int))).own B hb
    have e2 : (bv L).set i (.int .u8 (x.toNat : Int)) = bv (L.set i x) := by simp [bv, List.map_set]
    rw [e2] at h2
    unfold Mine
    have e3 : (bv (L.set i x)).length = L.length := by simp [bv]
    rw [e3] at h2
    rw [List.length_set]
    exact h2
theorem u8_inc (x : UInt8) : ((x.toNat : Int) + 1) % 256 = (((x + 1).toNat : Nat) : Int) := by
  rw [UInt8.toNat_add]
  simp
end Go.Proofs.YtbmmcaoifkboiaaGreatDoor

/- does: one call on both pagers. -/
set_option linter.unusedVariables false
set_option linter.unusedSimpArgs false
set_option maxRecDepth 100000
namespace Go.Proofs.YtbmmcaoifkboiaaGreatDoor
open Go.RowKit

section
variable {w0 w : World} {F : Ft} {p : Nat} {f : Pf} {P : Pg} {g : Rf} {R : Rp} {n m : Nat}
/-- what does leaves -/
def Do8 (w0 : World) (F : Ft) (p : Nat) (f : Pf) (g : Rf) (n m : Nat) (e : Ending) (w' : World) : Prop := e = .returned (.bool true) ∧ ∃ f' g' P' R', f'.q = f.q ∧ g'.q = g.q ∧ LS w0 w' F p f' P' g' R' ∧ St n (m + 1) P' R'
set_option maxHeartbeats 16000000 in
theorem does8_0 (h : LS w0 w F p f P g R) (hs : St n m P R) (hm : m ≤ 2000) (hn : 32 ≤ n) (hn2 : n ≤ 331) (kind page : Int) (y : UInt8) (hk1 : -9223372036854775808 ≤ kind) (hk2 : kind ≤ 9223372036854775807) (hp1 : -9223372036854775808 ≤ page) (hp2 : page ≤ 9223372036854775807) (hK : pickN kind 10 = 0) :
    Calls Tryz.prog 14 #[qptr f.q, qptr g.q, .agg #[.int .i64 kind, .int .i64 page, .int .u8 (y.toNat : Int)]] w (Do8 w0 F p f g n m) := by
  obtain ⟨w1, hw1⟩ : ∃ x, x = w.alloc (opRow8 kind page y) := ⟨_, rfl⟩
  have ho1 : w1.heap[w.heap.size]? = some (opRow8 kind page y) := by rw [hw1]; exact heap_alloc_new w _
  have hb1 : Below w.heap.size w w1 := by rw [hw1]; exact (Below.refl _ _).alloc (Nat.le_refl _) _
  obtain ⟨c0, c1, c2⟩ := op_cells8 ho1
  rw [hw1] at c0 c1 c2
  have h1 := h.step hb1
  have HIN : Hid (∀ k, PJ F p f k ∨ RT8 g k → k ≠ w.heap.size) := Lib.hid fun k hk e => by have := h.lt hk; omega
  have HPK := Lib.hid (pick_any w1 kind 10 hk1 hk2 (by omega) (by omega))
  rw [hK] at HPK
  have HW1 := Lib.hid hw1
  have HS := Lib.hid hs
  have HO1 := Lib.hid ho1
  clear h hs hb1 hw1 hK ho1
  obtain ⟨pg, hpp⟩ : ∃ pg : Int, (pg = 0 ∧ (page == 77) = true) ∨ (page = pg ∧ (page == 77) = false) := by
    by_cases e : page = 77
    · exact ⟨0, .inl ⟨rfl, by simpa using e⟩⟩
    · exact ⟨page, .inr ⟨rfl, by simpa using e⟩⟩
  have hg1 : -9223372036854775808 ≤ pg := by omega
  have hg2 : pg ≤ 9223372036854775807 := by omega
  have HLS := Lib.hid h1
  clear h1
  have HA := Lib.hid (alloc_any HLS.out.pg)
  have HEQ : Hid (P.alloc.1 = R.alloc.1) := Lib.hid (by obtain ⟨s, B, a, _⟩ := HS.out.sim; exact a.alloc.1)
  have HST := Lib.hid (HS.out.of (P' := P.alloc.2) (R' := R.alloc.2) (by unfold Pg.alloc; split <;> first | rfl | (split <;> rfl)) fun s B a => a.alloc.2)
  rw [HEQ.out] at HA
  clear HEQ
  rcases hpp with ⟨rfl, hd⟩ | ⟨rfl, hd⟩
  all_goals
    go_enter Tryz.func14, Tryz.ntmps14
    go_wp2_with fail
    rw [← HW1.out]
    refine HPK.out.mono ?_
    rintro e w' ⟨rfl, hw9⟩
    rw [← hw9]
    clear hw9 w'
    clear c0 c1 c2
    go_wp2_with fail
    refine HA.out.mono ?_
    rintro e w2 ⟨rfl, ht2⟩
    obtain ⟨f2, h2, hq2⟩ := HLS.out.stepP ht2
    have HB := Lib.hid (ralloc_any h2.rf)
    have H2 := Lib.hid h2
    clear h2 ht2
    generalize R.alloc = X at *
    have hx1 : (X.1.1 == X.1.1) = true := by simp
    have hx2 : (X.1.2 == X.1.2) = true := by simp
    go_wp2_with fail
    refine HB.out.mono ?_
    rintro e w3 ⟨rfl, ht3⟩
    obtain ⟨g3, h3, hq3⟩ := H2.out.stepR ht3
    have H3 := Lib.hid h3
    clear h3 ht3
    go_wp2_with fail
    go_ret
    exact ⟨rfl, f2, g3, _, _, hq2, hq3, H3.out, HST.out⟩
set_option maxHeartbeats 16000000 in
theorem does8_1 (h : LS w0 w F p f P g R) (hs : St n m P R) (hm : m ≤ 2000) (hn : 32 ≤ n) (hn2 : n ≤ 331) (kind page : Int) (y : UInt8) (hk1 : -9223372036854775808 ≤ kind) (hk2 : kind ≤ 9223372036854775807) (hp1 : -9223372036854775808 ≤ page) (hp2 : page ≤ 9223372036854775807) (hK : pickN kind 10 = 1) :
    Calls Tryz.prog 14 #[qptr f.q, qptr g.q, .agg #[.int .i64 kind, .int .i64 page, .int .u8 (y.toNat : Int)]] w (Do8 w0 F p f g n m) := by
  obtain ⟨w1, hw1⟩ : ∃ x, x = w.alloc (opRow8 kind page y) := ⟨_, rfl⟩
  have ho1 : w1.heap[w.heap.size]? = some (opRow8 kind page y) := by rw [hw1]; exact heap_alloc_new w _
  have hb1 : Below w.heap.size w w1 := by rw [hw1]; exact (Below.refl _ _).alloc (Nat.le_refl _) _
  obtain ⟨c0, c1, c2⟩ := op_cells8 ho1
  rw [hw1] at c0 c1 c2
  have h1 := h.step hb1
  have HIN : Hid (∀ k, PJ F p f k ∨ RT8 g k → k ≠ w.heap.size) := Lib.hid fun k hk e => by have := h.lt hk; omega
  have HPK := Lib.hid (pick_any w1 kind 10 hk1 hk2 (by omega) (by omega))
  rw [hK] at HPK
  have HW1 := Lib.hid hw1
  have HS := Lib.hid hs
  have HO1 := Lib.hid ho1
  clear h hs hb1 hw1 hK ho1
  obtain ⟨pg, hpp⟩ : ∃ pg : Int, (pg = 0 ∧ (page == 77) = true) ∨ (page = pg ∧ (page == 77) = false) := by
    by_cases e : page = 77
    · exact ⟨0, .inl ⟨rfl, by simpa using e⟩⟩
    · exact ⟨page, .inr ⟨rfl, by simpa using e⟩⟩
  have hg1 : -9223372036854775808 ≤ pg := by omega
  have hg2 : pg ≤ 9223372036854775807 := by omega
  have HLS := Lib.hid h1
  clear h1
  have HA := Lib.hid (alloc_any HLS.out.pg)
  have HEQ : Hid (P.alloc.1 = R.alloc.1) := Lib.hid (by obtain ⟨s, B, a, _⟩ := HS.out.sim; exact a.alloc.1)
  have HST := Lib.hid (HS.out.of (P' := P.alloc.2) (R' := R.alloc.2) (by unfold Pg.alloc; split <;> first | rfl | (split <;> rfl)) fun s B a => a.alloc.2)
  rw [HEQ.out] at HA
  clear HEQ
  rcases hpp with ⟨rfl, hd⟩ | ⟨rfl, hd⟩
  all_goals
    go_enter Tryz.func14, Tryz.ntmps14
    go_wp2_with fail
    rw [← HW1.out]
    refine HPK.out.mono ?_
    rintro e w' ⟨rfl, hw9⟩
    rw [← hw9]
    clear hw9 w'
    clear c0 c1 c2
    go_wp2_with fail
    refine HA.out.mono ?_
    rintro e w2 ⟨rfl, ht2⟩
    obtain ⟨f2, h2, hq2⟩ := HLS.out.stepP ht2
    have HB := Lib.hid (ralloc_any h2.rf)
    have H2 := Lib.hid h2
    clear h2 ht2
    generalize R.alloc = X at *
    have hx1 : (X.1.1 == X.1.1) = true := by simp
    have hx2 : (X.1.2 == X.1.2) = true := by simp
    go_wp2_with fail
    refine HB.out.mono ?_
    rintro e w3 ⟨rfl, ht3⟩
    obtain ⟨g3, h3, hq3⟩ := H2.out.stepR ht3
    have H3 := Lib.hid h3
    clear h3 ht3
    go_wp2_with fail
    go_ret
    exact ⟨rfl, f2, g3, _, _, hq2, hq3, H3.out, HST.out⟩
set_option maxHeartbeats 16000000 in
theorem does8_2 (h : LS w0 w F p f P g R) (hs : St n m P R) (hm : m ≤ 2000) (hn : 32 ≤ n) (hn2 : n ≤ 331) (kind page : Int) (y : UInt8) (hk1 : -9223372036854775808 ≤ kind) (hk2 : kind ≤ 9223372036854775807) (hp1 : -9223372036854775808 ≤ page) (hp2 : page ≤ 9223372036854775807) (hK : pickN kind 10 = 2) :
    Calls Tryz.prog 14 #[qptr f.q, qptr g.q, .agg #[.int .i64 kind, .int .i64 page, .int .u8 (y.toNat : Int)]] w (Do8 w0 F p f g n m) := by
  obtain ⟨w1, hw1⟩ : ∃ x, x = w.alloc (opRow8 kind page y) := ⟨_, rfl⟩
  have ho1 : w1.heap[w.heap.size]? = some (opRow8 kind page y) := by rw [hw1]; exact heap_alloc_new w _
  have hb1 : Below w.heap.size w w1 := by rw [hw1]; exact (Below.refl _ _).alloc (Nat.le_refl _) _
  obtain ⟨c0, c1, c2⟩ := op_cells8 ho1
  rw [hw1] at c0 c1 c2
  have h1 := h.step hb1
  have HIN : Hid (∀ k, PJ F p f k ∨ RT8 g k → k ≠ w.heap.size) := Lib.hid fun k hk e => by have := h.lt hk; omega
  have HPK := Lib.hid (pick_any w1 kind 10 hk1 hk2 (by omega) (by omega))
  rw [hK] at HPK
  have HW1 := Lib.hid hw1
  have HS := Lib.hid hs
  have HO1 := Lib.hid ho1
  clear h hs hb1 hw1 hK ho1
  obtain ⟨pg, hpp⟩ : ∃ pg : Int, (pg = 0 ∧ (page == 77) = true) ∨ (page = pg ∧ (page == 77) = false) := by
    by_cases e : page = 77
    · exact ⟨0, .inl ⟨rfl, by simpa using e⟩⟩
    · exact ⟨page, .inr ⟨rfl, by simpa using e⟩⟩
  have hg1 : -9223372036854775808 ≤ pg := by omega
  have hg2 : pg ≤ 9223372036854775807 := by omega
  have HLS := Lib.hid h1
  clear h1
  have HA := Lib.hid (free_any HLS.out.pg pg hg1 hg2)
  have HBF : Hid (∀ w2 f2 P2, LS w0 w2 F p f2 P2 g R → Calls Tryz.prog 43 #[qptr g.q, .int .i64 pg] w2 fun e w' => e = .returned (.int .i64 (R.free pg).1) ∧ RfTo w2 g w' (R.free pg).2) := Lib.hid fun _ _ _ h2 => rfree_any h2.rf pg
  have HEQ : Hid ((P.free pg).1 = (R.free pg).1) := Lib.hid (by obtain ⟨s, B, a, _⟩ := HS.out.sim; exact (a.freed pg).1)
  have HST := Lib.hid (HS.out.of (P' := (P.free pg).2) (R' := (R.free pg).2) (by unfold Pg.free; split <;> first | rfl | (split <;> rfl)) fun s B a => (a.freed pg).2)
  rw [HEQ.out] at HA
  clear HEQ
  generalize R.free pg = X at *
  have hx1 : (X.1 == X.1) = true := by simp
  rcases hpp with ⟨rfl, hd⟩ | ⟨rfl, hd⟩
  all_goals
    go_enter Tryz.func14, Tryz.ntmps14
    go_wp2_with fail
    rw [← HW1.out]
    refine HPK.out.mono ?_
    rintro e w' ⟨rfl, hw9⟩
    rw [← hw9]
    clear hw9 w'
    clear c0 c1 c2
    go_wp2_with fail
    refine HA.out.mono ?_
    rintro e w2 ⟨rfl, ht2⟩
    obtain ⟨f2, h2, hq2⟩ := HLS.out.stepP ht2
    have HB := Lib.hid (HBF.out _ _ _ h2)
    have H2 := Lib.hid h2
    clear h2 ht2
    go_wp2_with fail
    refine HB.out.mono ?_
    rintro e w3 ⟨rfl, ht3⟩
    obtain ⟨g3, h3, hq3⟩ := H2.out.stepR ht3
    have H3 := Lib.hid h3
    clear h3 ht3
    go_wp2_with fail
    go_ret
    exact ⟨rfl, f2, g3, _, _, hq2, hq3, H3.out, HST.out⟩
set_option maxHeartbeats 16000000 in
theorem does8_3 (h : LS w0 w F p f P g R) (hs : St n m P R) (hm : m ≤ 2000) (hn : 32 ≤ n) (hn2 : n ≤ 331) (kind page : Int) (y : UInt8) (hk1 : -9223372036854775808 ≤ kind) (hk2 : kind ≤ 9223372036854775807) (hp1 : -9223372036854775808 ≤ page) (hp2 : page ≤ 9223372036854775807) (hK : pickN kind 10 = 3) :
    Calls Tryz.prog 14 #[qptr f.q, qptr g.q, .agg #[.int .i64 kind, .int .i64 page, .int .u8 (y.toNat : Int)]] w (Do8 w0 F p f g n m) := by
  obtain ⟨w1, hw1⟩ : ∃ x, x = w.alloc (opRow8 kind page y) := ⟨_, rfl⟩
  have ho1 : w1.heap[w.heap.size]? = some (opRow8 kind page y) := by rw [hw1]; exact heap_alloc_new w _
  have hb1 : Below w.heap.size w w1 := by rw [hw1]; exact (Below.refl _ _).alloc (Nat.le_refl _) _
  obtain ⟨c0, c1, c2⟩ := op_cells8 ho1
  rw [hw1] at c0 c1 c2
  have h1 := h.step hb1
  have HIN : Hid (∀ k, PJ F p f k ∨ RT8 g k → k ≠ w.heap.size) := Lib.hid fun k hk e => by have := h.lt hk; omega
  have HPK := Lib.hid (pick_any w1 kind 10 hk1 hk2 (by omega) (by omega))
  rw [hK] at HPK
  have HW1 := Lib.hid hw1
  have HS := Lib.hid hs
  have HO1 := Lib.hid ho1
  clear h hs hb1 hw1 hK ho1
  obtain ⟨pg, hpp⟩ : ∃ pg : Int, (pg = 0 ∧ (page == 77) = true) ∨ (page = pg ∧ (page == 77) = false) := by
    by_cases e : page = 77
    · exact ⟨0, .inl ⟨rfl, by simpa using e⟩⟩
    · exact ⟨page, .inr ⟨rfl, by simpa using e⟩⟩
  have hg1 : -9223372036854775808 ≤ pg := by omega
  have hg2 : pg ≤ 9223372036854775807 := by omega
  have HLS := Lib.hid h1
  clear h1
  have HA := pread_any HLS.out.pg pg hg1 hg2
  obtain ⟨s0, B0, hsim, hs1, hs2⟩ := HS.out.sim
  rw [hsim.read pg] at HA
  have HAA := Lib.hid HA
  have HST := Lib.hid (HS.out.of (P' := P) (R' := R) rfl fun s B a => a)
  have hql := Rp.read_len (fun k b hb => (hsim.pagen k b hb).1) pg
  clear HA hsim hs1 hs2
  have HRF : Hid (∀ w2, LS w0 w2 F p f P g R → Calls Tryz.prog 44 #[qptr g.q, .int .i64 pg] w2 fun e w' => e = .returned (.tuple #[.string ⟨(R.read pg).1.toArray⟩, .int .i64 (R.read pg).2]) ∧ w' = w2) := Lib.hid fun _ h2 => rread_any h2.rf pg
  generalize R.read pg = Q at *
  rcases hpp with ⟨rfl, hd⟩ | ⟨rfl, hd⟩
  all_goals
    go_enter Tryz.func14, Tryz.ntmps14
    go_wp2_with fail
    rw [← HW1.out]
    refine HPK.out.mono ?_
    rintro e w' ⟨rfl, hw9⟩
    rw [← hw9]
    clear hw9 w'
    clear c0 c1 c2
    go_wp2_with fail
    refine HAA.out.mono ?_
    rintro e w2 ⟨v, rfl, hmv, hp2, ht2⟩
    have h2 := HLS.out.read hp2 ht2
    have HRR := Lib.hid (HRF.out _ h2)
    have hcv := run_str (P := Tryz.prog) hmv.isB 44 9 5 Tryz.underlying44 Tryz.underlying5 Tryz.underlying9
    obtain ⟨a, c, rfl, _, _⟩ := hmv.isB.form
    obtain ⟨N, hN⟩ : ∃ N, N = Q.1.length := ⟨_, rfl⟩
    have HM := Lib.hid hmv
    rw [← hN] at HM hcv ⊢
    have H2 := Lib.hid h2
    have HLN : Hid (Q.1.length = N) := Lib.hid hN.symm
    have hbz : HLS.out.below.size = HLS.out.below.size := rfl
    obtain ⟨BB, hBB⟩ : ∃ BB, BB = w1.heap.size := ⟨_, rfl⟩
    rw [← hBB] at HM
    have HBB : Hid (w0.heap.size ≤ BB ∧ ∀ ga, a = some ⟨ga, 0, none⟩ → ∀ j, PJ F p f j ∨ RT8 g j → j ≠ ga) := Lib.hid ⟨by rw [hBB]; exact HLS.out.below.size, fun ga e j hj => by
      have h1 := HLS.out.lt hj
      have h2 := HM.out.lt ga (by rw [e]; rfl)
      omega⟩
    have hx2 : (Q.2 == Q.2) = true := by simp
    have hNl : N ≤ 896 := by rw [hN]; exact hql
    clear hmv hp2 ht2 h2 hN hbz hBB hql
    go_wp2_with fail
    refine HRR.out.mono ?_
    rintro e w3 ⟨rfl, hw3⟩
    rw [hw3]
    clear hw3 w3
    go_wp2_with fail
    go_loopw [17] (fun x wr => ∃ k : Nat, k ≤ N ∧ x = .int .i64 (k : Int) ∧ (∃ L : List UInt8, L.length = N ∧ Mine 5 BB wr (.slice a N c) L) ∧ LS w0 wr F p f P g R) (fun x _ => N - (intOf x).toNat)
    case atStart => exact ⟨0, Nat.zero_le _, rfl, ⟨_, HLN.out, HM.out⟩, H2.out⟩
    case round =>
      obtain ⟨k, hk, rfl, ⟨L, hL, hml⟩, hls⟩ := hrel
      by_cases hlt : k < N
      · have hdk : decide ((k : Int) < (N : Int)) = true := decide_eq_true (by omega)
        obtain ⟨ga, rfl⟩ : ∃ ga, a = some ⟨ga, 0, none⟩ := by
          obtain ⟨ga, cc, e, _⟩ := hml.slice (by omega)
          simp only [Value.slice.injEq] at e
          exact ⟨ga, e.1⟩
        have hgl := hml.lt ga rfl
        obtain ⟨k1, k2, k3⟩ := hml.poke k (by omega) (L[k]'(by omega) + 1)
        have hinc := u8_inc (L[k]'(by omega))
        have ht := turned_one wr ga k (.int .u8 (((L[k]'(by omega) + 1).toNat : Nat) : Int))
        have hls2 := hls.other ht (fun j hj => by have := HBB.out.1; omega) (fun j hj => ⟨fun e => HBB.out.2 ga rfl j (.inl e) hj, fun e => HBB.out.2 ga rfl j (.inr e) hj⟩)
        have HF := Lib.hid (And.intro k3 (And.intro hls2 (show (L.set k (L[k]'(by omega) + 1)).length = N by rw [List.length_set]; exact hL)))
        generalize L[k]'(by omega) + 1 = z at *
        generalize L[k]'(by omega) = z0 at *
        clear hml hls k3 hls2 ht
        go_wp2_with fail
        go_roundw
        case rel => exact ⟨k + 1, hlt, by go_num, ⟨_, HF.out.2.2, HF.out.1⟩, HF.out.2.1⟩
        case measure => simp [intOf]; omega
      · obtain rfl : k = N := by omega
        have hdz : decide ((k : Int) < (k : Int)) = false := by simp
        have HF := Lib.hid hls
        clear hml hls
        go_wp2_with fail
        go_ret
        exact ⟨rfl, f, g, P, R, rfl, rfl, HF.out, HST.out⟩
set_option maxHeartbeats 16000000 in
theorem does8_4 (h : LS w0 w F p f P g R) (hs : St n m P R) (hm : m ≤ 2000) (hn : 32 ≤ n) (hn2 : n ≤ 331) (kind page : Int) (y : UInt8) (hk1 : -9223372036854775808 ≤ kind) (hk2 : kind ≤ 9223372036854775807) (hp1 : -9223372036854775808 ≤ page) (hp2 : page ≤ 9223372036854775807) (hK : pickN kind 10 = 4) :
    Calls Tryz.prog 14 #[qptr f.q, qptr g.q, .agg #[.int .i64 kind, .int .i64 page, .int .u8 (y.toNat : Int)]] w (Do8 w0 F p f g n m) := by
  obtain ⟨w1, hw1⟩ : ∃ x, x = w.alloc (opRow8 kind page y) := ⟨_, rfl⟩
  have ho1 : w1.heap[w.heap.size]? = some (opRow8 kind page y) := by rw [hw1]; exact heap_alloc_new w _
  have hb1 : Below w.heap.size w w1 := by rw [hw1]; exact (Below.refl _ _).alloc (Nat.le_refl _) _
  obtain ⟨c0, c1, c2⟩ := op_cells8 ho1
  rw [hw1] at c0 c1 c2
  have h1 := h.step hb1
  have HIN : Hid (∀ k, PJ F p f k ∨ RT8 g k → k ≠ w.heap.size) := Lib.hid fun k hk e => by have := h.lt hk; omega
  have HPK := Lib.hid (pick_any w1 kind 10 hk1 hk2 (by omega) (by omega))
  rw [hK] at HPK
  have HW1 := Lib.hid hw1
  have HS := Lib.hid hs
  have HO1 := Lib.hid ho1
  clear h hs hb1 hw1 hK ho1
  obtain ⟨pg, hpp⟩ : ∃ pg : Int, (pg = 0 ∧ (page == 77) = true) ∨ (page = pg ∧ (page == 77) = false) := by
    by_cases e : page = 77
    · exact ⟨0, .inl ⟨rfl, by simpa using e⟩⟩
    · exact ⟨page, .inr ⟨rfl, by simpa using e⟩⟩
  have hg1 : -9223372036854775808 ≤ pg := by omega
  have hg2 : pg ≤ 9223372036854775807 := by omega
  have HLS := Lib.hid h1
  clear h1
  have HOF := Lib.hid (fun W => of8_any W kind page y)
  have HWP : Hid (∀ w2 v, LS w0 w2 F p f P g R → IsB w2 v (ofB page y) → Calls Tryz.prog 46 #[qptr f.q, .int .i64 pg, v] w2 fun e w' => e = .returned (.int .i64 (R.write pg (ofB page y)).1) ∧ PgTo w2 F p f w' (P.write pg (ofB page y)).2) := Lib.hid fun w2 v h2 hv => by
    have hA := pwrite_any h2.pg pg hg1 hg2 v _ hv
    have e : (P.write pg (ofB page y)).1 = (R.write pg (ofB page y)).1 := by obtain ⟨s, B, a, _⟩ := HS.out.sim; exact (a.write pg _).1
    rw [e] at hA
    exact hA
  have HWR : Hid (∀ w2 f2 P2 v, LS w0 w2 F p f2 P2 g R → IsB w2 v (ofB page y) → Calls Tryz.prog 47 #[qptr g.q, .int .i64 pg, v] w2 fun e w' => e = .returned (.int .i64 (R.write pg (ofB page y)).1) ∧ RfTo w2 g w' (R.write pg (ofB page y)).2) := Lib.hid fun w2 f2 P2 v h2 hv => rwrite8_any h2.rf pg v _ hv
  have HST := Lib.hid (HS.out.of (P' := (P.write pg (ofB page y)).2) (R' := (R.write pg (ofB page y)).2) (by unfold Pg.write; split <;> first | rfl | (split <;> rfl)) fun s B a => (a.write pg _).2)
  have hbn := ofN_le page y
  have hlw := lt_of_heap HO1.out
  generalize R.write pg (ofB page y) = X at *
  generalize (P.write pg (ofB page y)).2 = P3 at *
  have hx1 : (X.1 == X.1) = true := by simp
  rcases hpp with ⟨rfl, hd⟩ | ⟨rfl, hd⟩
  all_goals
    go_enter Tryz.func14, Tryz.ntmps14
    go_wp2_with fail
    rw [← HW1.out]
    refine HPK.out.mono ?_
    rintro e w' ⟨rfl, hw9⟩
    rw [← hw9]
    clear hw9 w'
    clear c0 c1 c2
    obtain ⟨c0, c1, c2⟩ := op_cells8 HO1.out
    go_wp2_with fail
    refine (HOF.out w1).mono ?_
    rintro e w2 ⟨v, rfl, hmv, hb2⟩
    have h2 := HLS.out.step hb2
    have HWC := Lib.hid (HWP.out w2 v h2 hmv.isB)
    obtain ⟨a, c, rfl, _, _⟩ := hmv.isB.form
    have hN0 := ofB_length page y
    obtain ⟨N, hN⟩ : ∃ N, N = (ofB page y).length := ⟨_, rfl⟩
    rw [← hN] at HWC hmv hN0 ⊢
    have hNl : N ≤ 896 := by omega
    have HLN : Hid ((ofB page y).length = N) := Lib.hid hN.symm
    have HMV := Lib.hid hmv
    have HH2 := Lib.hid h2
    have HB2 := Lib.hid hb2
    clear hmv h2 hb2 hN hN0 c0 c1 c2
    go_wp2_with fail
    refine HWC.out.mono ?_
    rintro e w3 ⟨rfl, ht3⟩
    obtain ⟨f3, hpa, hq3, hpc, hpd⟩ := ht3
    have h3 := HH2.out.stepT hpa hpc hpd
    obtain ⟨BB, hBB⟩ : ∃ BB, BB = w1.heap.size := ⟨_, rfl⟩
    have hm3 : Mine 5 w1.heap.size w3 (.slice a N c) (ofB page y) := by
      have hnp : ∀ k, PJ F p f k → ¬ w1.heap.size ≤ k := fun k e hle => by have := HLS.out.lt (.inl e); omega
      exact HMV.out.keep fun k k1 k2 => hpd.block k k2 fun e => hnp k e k1
    have ho3 : w3.heap[w.heap.size]? = some (opRow8 kind page y) := by
      have e2 := (HB2.out.block _ hlw).trans HO1.out
      refine (hpd.block _ (lt_of_heap e2) fun e => ?_).trans e2
      have h0 := HH2.out.own _ (.inl e)
      have := HLS.out.lt (.inl e)
      have := HIN.out _ (.inl e)
      exact this rfl
    have HBB : Hid (w0.heap.size ≤ BB ∧ ∀ ga, a = some ⟨ga, 0, none⟩ → ∀ j, PJ F p f3 j ∨ RT8 g j → j ≠ ga) := Lib.hid ⟨by rw [hBB]; exact HLS.out.below.size, fun ga e j hj => by
      have h2 := HMV.out.lt ga (by rw [e]; rfl)
      rcases hj with (hj | hj) | hj
      · have := HLS.out.lt (.inl (.inl hj)); omega
      · rcases hpc j hj with h4 | h4
        · have := HLS.out.lt (.inl (.inr h4)); omega
        · omega
      · have := HLS.out.lt (.inr hj); omega⟩
    have hwB : w.heap.size < BB := by omega
    rw [← hBB] at hm3
    have HM := Lib.hid hm3
    have H2 := Lib.hid h3
    have HO3 := Lib.hid ho3
    clear hm3 h3 ho3 hBB hpa hpc hpd
    go_wp2_with fail
    go_loopw [20] (fun x wr => ∃ k : Nat, k ≤ N ∧ x = .int .i64 (k : Int) ∧ (∃ L : List UInt8, L.length = N ∧ Mine 5 BB wr (.slice a N c) L) ∧ LS w0 wr F p f3 P3 g R ∧ wr.heap[w.heap.size]? = some (opRow8 kind page y)) (fun x _ => N - (intOf x).toNat)
    case atStart => exact ⟨0, Nat.zero_le _, rfl, ⟨_, HLN.out, HM.out⟩, H2.out, HO3.out⟩
    case round =>
      obtain ⟨k, hk, rfl, ⟨L, hL, hml⟩, hls, ho⟩ := hrel
      by_cases hlt : k < N
      · have hdk : decide ((k : Int) < (N : Int)) = true := decide_eq_true (by omega)
        obtain ⟨ga, rfl⟩ : ∃ ga, a = some ⟨ga, 0, none⟩ := by
          obtain ⟨ga, cc, e, _⟩ := hml.slice (by omega)
          simp only [Value.slice.injEq] at e
          exact ⟨ga, e.1⟩
        have hgl := hml.lt ga rfl
        obtain ⟨k1, k2, k3⟩ := hml.poke k (by omega) (L[k]'(by omega) + 1)
        have hinc := u8_inc (L[k]'(by omega))
        have ht := turned_one wr ga k (.int .u8 (((L[k]'(by omega) + 1).toNat : Nat) : Int))
        have hls2 := hls.other ht (fun j hj => by have := HBB.out.1; omega) (fun j hj => ⟨fun e => HBB.out.2 ga rfl j (.inl e) hj, fun e => HBB.out.2 ga rfl j (.inr e) hj⟩)
        have HF := Lib.hid (And.intro k3 (And.intro hls2 (show (L.set k (L[k]'(by omega) + 1)).length = N by rw [List.length_set]; exact hL)))
        have HOK := Lib.hid ((ht.block _ (lt_of_heap ho) (by omega)).trans ho)
        clear ho
        generalize L[k]'(by omega) + 1 = z at *
        generalize L[k]'(by omega) = z0 at *
        clear hml hls k3 hls2 ht
        go_wp2_with fail
        go_roundw
        case rel => exact ⟨k + 1, hlt, by go_num, ⟨_, HF.out.2.2, HF.out.1⟩, HF.out.2.1, HOK.out⟩
        case measure => simp [intOf]; omega
      · obtain rfl : k = N := by omega
        have hdz : decide ((k : Int) < (k : Int)) = false := by simp
        have HF := Lib.hid hls
        clear hml hls
        obtain ⟨c0, c1, c2⟩ := op_cells8 ho
        clear ho
        go_wp2_with fail
        refine (HOF.out wr).mono ?_
        rintro e w6 ⟨v6, rfl, hm6, hb6⟩
        have h6 := HF.out.step hb6
        have HWD := Lib.hid (HWR.out w6 f3 P3 v6 h6 hm6.isB)
        have H6 := Lib.hid h6
        clear h6 hm6 hb6
        go_wp2_with fail
        refine HWD.out.mono ?_
        rintro e w7 ⟨rfl, ht7⟩
        obtain ⟨g7, h7, hq7⟩ := H6.out.stepR ht7
        have H7 := Lib.hid h7
        clear h7 ht7
        go_wp2_with fail
        go_ret
        exact ⟨rfl, f3, g7, _, _, hq3, hq7, H7.out, HST.out⟩
set_option maxHeartbeats 16000000 in
theorem does8_5 (h : LS w0 w F p f P g R) (hs : St n m P R) (hm : m ≤ 2000) (hn : 32 ≤ n) (hn2 : n ≤ 331) (kind page : Int) (y : UInt8) (hk1 : -9223372036854775808 ≤ kind) (hk2 : kind ≤ 9223372036854775807) (hp1 : -9223372036854775808 ≤ page) (hp2 : page ≤ 9223372036854775807) (hK : pickN kind 10 = 5) :
    Calls Tryz.prog 14 #[qptr f.q, qptr g.q, .agg #[.int .i64 kind, .int .i64 page, .int .u8 (y.toNat : Int)]] w (Do8 w0 F p f g n m) := by
  obtain ⟨w1, hw1⟩ : ∃ x, x = w.alloc (opRow8 kind page y) := ⟨_, rfl⟩
  have ho1 : w1.heap[w.heap.size]? = some (opRow8 kind page y) := by rw [hw1]; exact heap_alloc_new w _
  have hb1 : Below w.heap.size w w1 := by rw [hw1]; exact (Below.refl _ _).alloc (Nat.le_refl _) _
  obtain ⟨c0, c1, c2⟩ := op_cells8 ho1
  rw [hw1] at c0 c1 c2
  have h1 := h.step hb1
  have HIN : Hid (∀ k, PJ F p f k ∨ RT8 g k → k ≠ w.heap.size) := Lib.hid fun k hk e => by have := h.lt hk; omega
  have HPK := Lib.hid (pick_any w1 kind 10 hk1 hk2 (by omega) (by omega))
  rw [hK] at HPK
  have HW1 := Lib.hid hw1
  have HS := Lib.hid hs
  have HO1 := Lib.hid ho1
  clear h hs hb1 hw1 hK ho1
  obtain ⟨pg, hpp⟩ : ∃ pg : Int, (pg = 0 ∧ (page == 77) = true) ∨ (page = pg ∧ (page == 77) = false) := by
    by_cases e : page = 77
    · exact ⟨0, .inl ⟨rfl, by simpa using e⟩⟩
    · exact ⟨page, .inr ⟨rfl, by simpa using e⟩⟩
  have hg1 : -9223372036854775808 ≤ pg := by omega
  have hg2 : pg ≤ 9223372036854775807 := by omega
  have HLS := Lib.hid h1
  clear h1
  have HOF := Lib.hid (fun W => of8_any W kind page y)
  have HWP : Hid (∀ w2 v, LS w0 w2 F p f P g R → IsB w2 v (ofB page y) → Calls Tryz.prog 46 #[qptr f.q, .int .i64 pg, v] w2 fun e w' => e = .returned (.int .i64 (R.write pg (ofB page y)).1) ∧ PgTo w2 F p f w' (P.write pg (ofB page y)).2) := Lib.hid fun w2 v h2 hv => by
    have hA := pwrite_any h2.pg pg hg1 hg2 v _ hv
    have e : (P.write pg (ofB page y)).1 = (R.write pg (ofB page y)).1 := by obtain ⟨s, B, a, _⟩ := HS.out.sim; exact (a.write pg _).1
    rw [e] at hA
    exact hA
  have HWR : Hid (∀ w2 f2 P2 v, LS w0 w2 F p f2 P2 g R → IsB w2 v (ofB page y) → Calls Tryz.prog 47 #[qptr g.q, .int .i64 pg, v] w2 fun e w' => e = .returned (.int .i64 (R.write pg (ofB page y)).1) ∧ RfTo w2 g w' (R.write pg (ofB page y)).2) := Lib.hid fun w2 f2 P2 v h2 hv => rwrite8_any h2.rf pg v _ hv
  have HST := Lib.hid (HS.out.of (P' := (P.write pg (ofB page y)).2) (R' := (R.write pg (ofB page y)).2) (by unfold Pg.write; split <;> first | rfl | (split <;> rfl)) fun s B a => (a.write pg _).2)
  have hbn := ofN_le page y
  have hlw := lt_of_heap HO1.out
  generalize R.write pg (ofB page y) = X at *
  generalize (P.write pg (ofB page y)).2 = P3 at *
  have hx1 : (X.1 == X.1) = true := by simp
  rcases hpp with ⟨rfl, hd⟩ | ⟨rfl, hd⟩
  all_goals
    go_enter Tryz.func14, Tryz.ntmps14
    go_wp2_with fail
    rw [← HW1.out]
    refine HPK.out.mono ?_
    rintro e w' ⟨rfl, hw9⟩
    rw [← hw9]
    clear hw9 w'
    clear c0 c1 c2
    obtain ⟨c0, c1, c2⟩ := op_cells8 HO1.out
    go_wp2_with fail
    refine (HOF.out w1).mono ?_
    rintro e w2 ⟨v, rfl, hmv, hb2⟩
    have h2 := HLS.out.step hb2
    have HWC := Lib.hid (HWP.out w2 v h2 hmv.isB)
    obtain ⟨a, c, rfl, _, _⟩ := hmv.isB.form
    have hN0 := ofB_length page y
    obtain ⟨N, hN⟩ : ∃ N, N = (ofB page y).length := ⟨_, rfl⟩
    rw [← hN] at HWC hmv hN0 ⊢
    have hNl : N ≤ 896 := by omega
    have HLN : Hid ((ofB page y).length = N) := Lib.hid hN.symm
    have HMV := Lib.hid hmv
    have HH2 := Lib.hid h2
    have HB2 := Lib.hid hb2
    clear hmv h2 hb2 hN hN0 c0 c1 c2
    go_wp2_with fail
    refine HWC.out.mono ?_
    rintro e w3 ⟨rfl, ht3⟩
    obtain ⟨f3, hpa, hq3, hpc, hpd⟩ := ht3
    have h3 := HH2.out.stepT hpa hpc hpd
    obtain ⟨BB, hBB⟩ : ∃ BB, BB = w1.heap.size := ⟨_, rfl⟩
    have hm3 : Mine 5 w1.heap.size w3 (.slice a N c) (ofB page y) := by
      have hnp : ∀ k, PJ F p f k → ¬ w1.heap.size ≤ k := fun k e hle => by have := HLS.out.lt (.inl e); omega
      exact HMV.out.keep fun k k1 k2 => hpd.block k k2 fun e => hnp k e k1
    have ho3 : w3.heap[w.heap.size]? = some (opRow8 kind page y) := by
      have e2 := (HB2.out.block _ hlw).trans HO1.out
      refine (hpd.block _ (lt_of_heap e2) fun e => ?_).trans e2
      have h0 := HH2.out.own _ (.inl e)
      have := HLS.out.lt (.inl e)
      have := HIN.out _ (.inl e)
      exact this rfl
    have HBB : Hid (w0.heap.size ≤ BB ∧ ∀ ga, a = some ⟨ga, 0, none⟩ → ∀ j, PJ F p f3 j ∨ RT8 g j → j ≠ ga) := Lib.hid ⟨by rw [hBB]; exact HLS.out.below.size, fun ga e j hj => by
      have h2 := HMV.out.lt ga (by rw [e]; rfl)
      rcases hj with (hj | hj) | hj
      · have := HLS.out.lt (.inl (.inl hj)); omega
      · rcases hpc j hj with h4 | h4
        · have := HLS.out.lt (.inl (.inr h4)); omega
        · omega
      · have := HLS.out.lt (.inr hj); omega⟩
    have hwB : w.heap.size < BB := by omega
    rw [← hBB] at hm3
    have HM := Lib.hid hm3
    have H2 := Lib.hid h3
    have HO3 := Lib.hid ho3
    clear hm3 h3 ho3 hBB hpa hpc hpd
    go_wp2_with fail
    go_loopw [20] (fun x wr => ∃ k : Nat, k ≤ N ∧ x = .int .i64 (k : Int) ∧ (∃ L : List UInt8, L.length = N ∧ Mine 5 BB wr (.slice a N c) L) ∧ LS w0 wr F p f3 P3 g R ∧ wr.heap[w.heap.size]? = some (opRow8 kind page y)) (fun x _ => N - (intOf x).toNat)
    case atStart => exact ⟨0, Nat.zero_le _, rfl, ⟨_, HLN.out, HM.out⟩, H2.out, HO3.out⟩
    case round =>
      obtain ⟨k, hk, rfl, ⟨L, hL, hml⟩, hls, ho⟩ := hrel
      by_cases hlt : k < N
      · have hdk : decide ((k : Int) < (N : Int)) = true := decide_eq_true (by omega)
        obtain ⟨ga, rfl⟩ : ∃ ga, a = some ⟨ga, 0, none⟩ := by
          obtain ⟨ga, cc, e, _⟩ := hml.slice (by omega)
          simp only [Value.slice.injEq] at e
          exact ⟨ga, e.1⟩
        have hgl := hml.lt ga rfl
        obtain ⟨k1, k2, k3⟩ := hml.poke k (by omega) (L[k]'(by omega) + 1)
        have hinc := u8_inc (L[k]'(by omega))
        have ht := turned_one wr ga k (.int .u8 (((L[k]'(by omega) + 1).toNat : Nat) : Int))
        have hls2 := hls.other ht (fun j hj => by have := HBB.out.1; omega) (fun j hj => ⟨fun e => HBB.out.2 ga rfl j (.inl e) hj, fun e => HBB.out.2 ga rfl j (.inr e) hj⟩)
        have HF := Lib.hid (And.intro k3 (And.intro hls2 (show (L.set k (L[k]'(by omega) + 1)).length = N by rw [List.length_set]; exact hL)))
        have HOK := Lib.hid ((ht.block _ (lt_of_heap ho) (by omega)).trans ho)
        clear ho
        generalize L[k]'(by omega) + 1 = z at *
        generalize L[k]'(by omega) = z0 at *
        clear hml hls k3 hls2 ht
        go_wp2_with fail
        go_roundw
        case rel => exact ⟨k + 1, hlt, by go_num, ⟨_, HF.out.2.2, HF.out.1⟩, HF.out.2.1, HOK.out⟩
        case measure => simp [intOf]; omega
      · obtain rfl : k = N := by omega
        have hdz : decide ((k : Int) < (k : Int)) = false := by simp
        have HF := Lib.hid hls
        clear hml hls
        obtain ⟨c0, c1, c2⟩ := op_cells8 ho
        clear ho
        go_wp2_with fail
        refine (HOF.out wr).mono ?_
        rintro e w6 ⟨v6, rfl, hm6, hb6⟩
        have h6 := HF.out.step hb6
        have HWD := Lib.hid (HWR.out w6 f3 P3 v6 h6 hm6.isB)
        have H6 := Lib.hid h6
        clear h6 hm6 hb6
        go_wp2_with fail
        refine HWD.out.mono ?_
        rintro e w7 ⟨rfl, ht7⟩
        obtain ⟨g7, h7, hq7⟩ := H6.out.stepR ht7
        have H7 := Lib.hid h7
        clear h7 ht7
        go_wp2_with fail
        go_ret
        exact ⟨rfl, f3, g7, _, _, hq3, hq7, H7.out, HST.out⟩
set_option maxHeartbeats 16000000 in
theorem does8_6 (h : LS w0 w F p f P g R) (hs : St n m P R) (hm : m ≤ 2000) (hn : 32 ≤ n) (hn2 : n ≤ 331) (kind page : Int) (y : UInt8) (hk1 : -9223372036854775808 ≤ kind) (hk2 : kind ≤ 9223372036854775807) (hp1 : -9223372036854775808 ≤ page) (hp2 : page ≤ 9223372036854775807) (hK : pickN kind 10 = 6) :
    Calls Tryz.prog 14 #[qptr f.q, qptr g.q, .agg #[.int .i64 kind, .int .i64 page, .int .u8 (y.toNat : Int)]] w (Do8 w0 F p f g n m) := by
  obtain ⟨w1, hw1⟩ : ∃ x, x = w.alloc (opRow8 kind page y) := ⟨_, rfl⟩
  have ho1 : w1.heap[w.heap.size]? = some (opRow8 kind page y) := by rw [hw1]; exact heap_alloc_new w _
  have hb1 : Below w.heap.size w w1 := by rw [hw1]; exact (Below.refl _ _).alloc (Nat.le_refl _) _
  obtain ⟨c0, c1, c2⟩ := op_cells8 ho1
  rw [hw1] at c0 c1 c2
  have h1 := h.step hb1
  have HIN : Hid (∀ k, PJ F p f k ∨ RT8 g k → k ≠ w.heap.size) := Lib.hid fun k hk e => by have := h.lt hk; omega
  have HPK := Lib.hid (pick_any w1 kind 10 hk1 hk2 (by omega) (by omega))
  rw [hK] at HPK
  have HW1 := Lib.hid hw1
  have HS := Lib.hid hs
  have HO1 := Lib.hid ho1
  clear h hs hb1 hw1 hK ho1
  obtain ⟨pg, hpp⟩ : ∃ pg : Int, (pg = 0 ∧ (page == 77) = true) ∨ (page = pg ∧ (page == 77) = false) := by
    by_cases e : page = 77
    · exact ⟨0, .inl ⟨rfl, by simpa using e⟩⟩
    · exact ⟨page, .inr ⟨rfl, by simpa using e⟩⟩
  have hg1 : -9223372036854775808 ≤ pg := by omega
  have hg2 : pg ≤ 9223372036854775807 := by omega
  have HLS := Lib.hid h1
  clear h1
  have HA := Lib.hid (setroot_any HLS.out.pg pg hg1 hg2)
  have HBF : Hid (∀ w2 f2 P2, LS w0 w2 F p f2 P2 g R → Calls Tryz.prog 48 #[qptr g.q, .int .i64 pg] w2 fun e w' => e = .returned (.int .i64 (R.setRoot pg).1) ∧ RfTo w2 g w' (R.setRoot pg).2) := Lib.hid fun _ _ _ h2 => rsetroot_any h2.rf pg
  have HEQ : Hid ((P.setRoot pg).1 = (R.setRoot pg).1) := Lib.hid (by obtain ⟨s, B, a, _⟩ := HS.out.sim; exact (a.setRoot pg).1)
  have HST := Lib.hid (HS.out.of (P' := (P.setRoot pg).2) (R' := (R.setRoot pg).2) (by unfold Pg.setRoot; split <;> rfl) fun s B a => (a.setRoot pg).2)
  rw [HEQ.out] at HA
  clear HEQ
  generalize R.setRoot pg = X at *
  have hx1 : (X.1 == X.1) = true := by simp
  rcases hpp with ⟨rfl, hd⟩ | ⟨rfl, hd⟩
  all_goals
    go_enter Tryz.func14, Tryz.ntmps14
    go_wp2_with fail
    rw [← HW1.out]
    refine HPK.out.mono ?_
    rintro e w' ⟨rfl, hw9⟩
    rw [← hw9]
    clear hw9 w'
    clear c0 c1 c2
    go_wp2_with fail
    refine HA.out.mono ?_
    rintro e w2 ⟨rfl, ht2⟩
    obtain ⟨f2, h2, hq2⟩ := HLS.out.stepP ht2
    have HB := Lib.hid (HBF.out _ _ _ h2)
    have H2 := Lib.hid h2
    clear h2 ht2
    go_wp2_with fail
    refine HB.out.mono ?_
    rintro e w3 ⟨rfl, ht3⟩
    obtain ⟨g3, h3, hq3⟩ := H2.out.stepR ht3
    have H3 := Lib.hid h3
    clear h3 ht3
    go_wp2_with fail
    go_ret
    exact ⟨rfl, f2, g3, _, _, hq2, hq3, H3.out, HST.out⟩
set_option maxHeartbeats 16000000 in
theorem does8_7 (h : LS w0 w F p f P g R) (hs : St n m P R) (hm : m ≤ 2000) (hn : 32 ≤ n) (hn2 : n ≤ 331) (kind page : Int) (y : UInt8) (hk1 : -9223372036854775808 ≤ kind) (hk2 : kind ≤ 9223372036854775807) (hp1 : -9223372036854775808 ≤ page) (hp2 : page ≤ 9223372036854775807) (hK : pickN kind 10 = 7) :
    Calls Tryz.prog 14 #[qptr f.q, qptr g.q, .agg #[.int .i64 kind, .int .i64 page, .int .u8 (y.toNat : Int)]] w (Do8 w0 F p f g n m) := by
  obtain ⟨w1, hw1⟩ : ∃ x, x = w.alloc (opRow8 kind page y) := ⟨_, rfl⟩
  have ho1 : w1.heap[w.heap.size]? = some (opRow8 kind page y) := by rw [hw1]; exact heap_alloc_new w _
  have hb1 : Below w.heap.size w w1 := by rw [hw1]; exact (Below.refl _ _).alloc (Nat.le_refl _) _
  obtain ⟨c0, c1, c2⟩ := op_cells8 ho1
  rw [hw1] at c0 c1 c2
  have h1 := h.step hb1
  have HIN : Hid (∀ k, PJ F p f k ∨ RT8 g k → k ≠ w.heap.size) := Lib.hid fun k hk e => by have := h.lt hk; omega
  have HPK := Lib.hid (pick_any w1 kind 10 hk1 hk2 (by omega) (by omega))
  rw [hK] at HPK
  have HW1 := Lib.hid hw1
  have HS := Lib.hid hs
  have HO1 := Lib.hid ho1
  clear h hs hb1 hw1 hK ho1
  obtain ⟨pg, hpp⟩ : ∃ pg : Int, (pg = 0 ∧ (page == 77) = true) ∨ (page = pg ∧ (page == 77) = false) := by
    by_cases e : page = 77
    · exact ⟨0, .inl ⟨rfl, by simpa using e⟩⟩
    · exact ⟨page, .inr ⟨rfl, by simpa using e⟩⟩
  have hg1 : -9223372036854775808 ≤ pg := by omega
  have hg2 : pg ≤ 9223372036854775807 := by omega
  have HLS := Lib.hid h1
  clear h1
  obtain ⟨e0, hst⟩ := HS.out.commit (by omega) hn2 hm
  obtain ⟨sq, hsq⟩ : ∃ sq, P.J.seq = sq ∧ 0 ≤ sq ∧ sq ≤ 3000 := by
    obtain ⟨s, B, a, b, c⟩ := HS.out.sim
    exact ⟨s, a.live.hseq, b, by omega⟩
  have hlst := HS.out.last
  have HA := Lib.hid (commit_any HLS.out.pg (by omega) (by omega) (by omega))
  rw [e0] at HA
  have HST := Lib.hid hst
  clear e0 hst hsq hlst
  rcases hpp with ⟨rfl, hd⟩ | ⟨rfl, hd⟩
  all_goals
    go_enter Tryz.func14, Tryz.ntmps14
    go_wp2_with fail
    rw [← HW1.out]
    refine HPK.out.mono ?_
    rintro e w' ⟨rfl, hw9⟩
    rw [← hw9]
    clear hw9 w'
    clear c0 c1 c2
    go_wp2_with fail
    refine HA.out.mono ?_
    rintro e w2 ⟨rfl, ht2⟩
    obtain ⟨f2, h2, hq2⟩ := HLS.out.stepP ht2
    have HB := Lib.hid (rcommit8_any h2.rf)
    have H2 := Lib.hid h2
    clear h2 ht2
    go_wp2_with fail
    refine HB.out.mono ?_
    rintro e w3 ⟨rfl, ht3⟩
    obtain ⟨g3, h3, hq3⟩ := H2.out.stepR ht3
    have H3 := Lib.hid h3
    clear h3 ht3
    go_wp2_with fail
    go_ret
    exact ⟨rfl, f2, g3, _, _, hq2, hq3, H3.out, HST.out⟩
set_option maxHeartbeats 16000000 in
theorem does8_8 (h : LS w0 w F p f P g R) (hs : St n m P R) (hm : m ≤ 2000) (hn : 32 ≤ n) (hn2 : n ≤ 331) (kind page : Int) (y : UInt8) (hk1 : -9223372036854775808 ≤ kind) (hk2 : kind ≤ 9223372036854775807) (hp1 : -9223372036854775808 ≤ page) (hp2 : page ≤ 9223372036854775807) (hK : pickN kind 10 = 8) :
    Calls Tryz.prog 14 #[qptr f.q, qptr g.q, .agg #[.int .i64 kind, .int .i64 page, .int .u8 (y.toNat : Int)]] w (Do8 w0 F p f g n m) := by
  obtain ⟨w1, hw1⟩ : ∃ x, x = w.alloc (opRow8 kind page y) := ⟨_, rfl⟩
  have ho1 : w1.heap[w.heap.size]? = some (opRow8 kind page y) := by rw [hw1]; exact heap_alloc_new w _
  have hb1 : Below w.heap.size w w1 := by rw [hw1]; exact (Below.refl _ _).alloc (Nat.le_refl _) _
  obtain ⟨c0, c1, c2⟩ := op_cells8 ho1
  rw [hw1] at c0 c1 c2
  have h1 := h.step hb1
  have HIN : Hid (∀ k, PJ F p f k ∨ RT8 g k → k ≠ w.heap.size) := Lib.hid fun k hk e => by have := h.lt hk; omega
  have HPK := Lib.hid (pick_any w1 kind 10 hk1 hk2 (by omega) (by omega))
  rw [hK] at HPK
  have HW1 := Lib.hid hw1
  have HS := Lib.hid hs
  have HO1 := Lib.hid ho1
  clear h hs hb1 hw1 hK ho1
  obtain ⟨pg, hpp⟩ : ∃ pg : Int, (pg = 0 ∧ (page == 77) = true) ∨ (page = pg ∧ (page == 77) = false) := by
    by_cases e : page = 77
    · exact ⟨0, .inl ⟨rfl, by simpa using e⟩⟩
    · exact ⟨page, .inr ⟨rfl, by simpa using e⟩⟩
  have hg1 : -9223372036854775808 ≤ pg := by omega
  have hg2 : pg ≤ 9223372036854775807 := by omega
  have HLS := Lib.hid h1
  clear h1
  obtain ⟨e0, hst⟩ := HS.out.commit (by omega) hn2 hm
  obtain ⟨sq, hsq⟩ : ∃ sq, P.J.seq = sq ∧ 0 ≤ sq ∧ sq ≤ 3000 := by
    obtain ⟨s, B, a, b, c⟩ := HS.out.sim
    exact ⟨s, a.live.hseq, b, by omega⟩
  have hlst := HS.out.last
  have HA := Lib.hid (commit_any HLS.out.pg (by omega) (by omega) (by omega))
  rw [e0] at HA
  have HST := Lib.hid hst
  clear e0 hst hsq hlst
  rcases hpp with ⟨rfl, hd⟩ | ⟨rfl, hd⟩
  all_goals
    go_enter Tryz.func14, Tryz.ntmps14
    go_wp2_with fail
    rw [← HW1.out]
    refine HPK.out.mono ?_
    rintro e w' ⟨rfl, hw9⟩
    rw [← hw9]
    clear hw9 w'
    clear c0 c1 c2
    go_wp2_with fail
    refine HA.out.mono ?_
    rintro e w2 ⟨rfl, ht2⟩
    obtain ⟨f2, h2, hq2⟩ := HLS.out.stepP ht2
    have HB := Lib.hid (rcommit8_any h2.rf)
    have H2 := Lib.hid h2
    clear h2 ht2
    go_wp2_with fail
    refine HB.out.mono ?_
    rintro e w3 ⟨rfl, ht3⟩
    obtain ⟨g3, h3, hq3⟩ := H2.out.stepR ht3
    have H3 := Lib.hid h3
    clear h3 ht3
    go_wp2_with fail
    go_ret
    exact ⟨rfl, f2, g3, _, _, hq2, hq3, H3.out, HST.out⟩
set_option maxHeartbeats 16000000 in
theorem does8_9 (h : LS w0 w F p f P g R) (hs : St n m P R) (hm : m ≤ 2000) (hn : 32 ≤ n) (hn2 : n ≤ 331) (kind page : Int) (y : UInt8) (hk1 : -9223372036854775808 ≤ kind) (hk2 : kind ≤ 9223372036854775807) (hp1 : -9223372036854775808 ≤ page) (hp2 : page ≤ 9223372036854775807) (hK : pickN kind 10 = 9) :
    Calls Tryz.prog 14 #[qptr f.q, qptr g.q, .agg #[.int .i64 kind, .int .i64 page, .int .u8 (y.toNat : Int)]] w (Do8 w0 F p f g n m) := by
  obtain ⟨w1, hw1⟩ : ∃ x, x = w.alloc (opRow8 kind page y) := ⟨_, rfl⟩
  have ho1 : w1.heap[w.heap.size]? = some (opRow8 kind page y) := by rw [hw1]; exact heap_alloc_new w _
  have hb1 : Below w.heap.size w w1 := by rw [hw1]; exact (Below.refl _ _).alloc (Nat.le_refl _) _
  obtain ⟨c0, c1, c2⟩ := op_cells8 ho1
  rw [hw1] at c0 c1 c2
  have h1 := h.step hb1
  have HIN : Hid (∀ k, PJ F p f k ∨ RT8 g k → k ≠ w.heap.size) := Lib.hid fun k hk e => by have := h.lt hk; omega
  have HPK := Lib.hid (pick_any w1 kind 10 hk1 hk2 (by omega) (by omega))
  rw [hK] at HPK
  have HW1 := Lib.hid hw1
  have HS := Lib.hid hs
  have HO1 := Lib.hid ho1
  clear h hs hb1 hw1 hK ho1
  obtain ⟨pg, hpp⟩ : ∃ pg : Int, (pg = 0 ∧ (page == 77) = true) ∨ (page = pg ∧ (page == 77) = false) := by
    by_cases e : page = 77
    · exact ⟨0, .inl ⟨rfl, by simpa using e⟩⟩
    · exact ⟨page, .inr ⟨rfl, by simpa using e⟩⟩
  have hg1 : -9223372036854775808 ≤ pg := by omega
  have hg2 : pg ≤ 9223372036854775807 := by omega
  have HLS := Lib.hid h1
  clear h1
  have HA := Lib.hid (abort_any HLS.out.pg)
  have HST := Lib.hid (HS.out.of (P' := P.abort) (R' := R.abort) (by unfold Pg.abort; split <;> rfl) fun s B a => a.abort)
  rcases hpp with ⟨rfl, hd⟩ | ⟨rfl, hd⟩
  all_goals
    go_enter Tryz.func14, Tryz.ntmps14
    go_wp2_with fail
    rw [← HW1.out]
    refine HPK.out.mono ?_
    rintro e w' ⟨rfl, hw9⟩
    rw [← hw9]
    clear hw9 w'
    clear c0 c1 c2
    go_wp2_with fail
    refine HA.out.mono ?_
    rintro e w2 ⟨rfl, ht2⟩
    obtain ⟨f2, h2, hq2⟩ := HLS.out.stepP ht2
    have HB := Lib.hid (rabort8_any h2.rf)
    have H2 := Lib.hid h2
    clear h2 ht2
    go_wp2_with fail
    refine HB.out.mono ?_
    rintro e w3 ⟨rfl, ht3⟩
    obtain ⟨g3, h3, hq3⟩ := H2.out.stepR ht3
    have H3 := Lib.hid h3
    clear h3 ht3
    go_wp2_with fail
    go_ret
    exact ⟨rfl, f2, g3, _, _, hq2, hq3, H3.out, HST.out⟩
end
end Go.Proofs.YtbmmcaoifkboiaaGreatDoor

/- shown: the document's examples. -/
set_option linter.unusedVariables false
set_option linter.unusedSimpArgs false
set_option maxRecDepth 100000
namespace Go.Proofs.YtbmmcaoifkboiaaGreatDoor
open Go.RowKit

/-- what the examples say, in plain lists -/
structure Ex8 (P P1 P2 P3 P4 P5 P6 : Pg) : Prop where
  len : P.now.length = 3
  fr : freeN P.now = 3
  rt : P.root = -1
  a : P.alloc = ((0, 0), P1)
  s : P1.setRoot 0 = (0, P2)
  c : P2.commit = (0, P3)
  f : P3.free 0 = (2, P4)
  g : P4.free 1 = (81, P5)
  o : P5.J.popen = (0, P5.J, some P6)
  j6 : P6.J = P5.J
  r6 : P6.root = 0
  l6 : freeN P6.now = 2
  b1 : P2.J.last + 1 < 18446744073709551616
  b2 : -9223372036854775808 ≤ P2.J.seq
  b3 : P2.J.seq < 9223372036854775807
  n6 : 22 ≤ P5.J.D.n
theorem ex8 {P : Pg} {R : Rp} (h : Begun8 60 P R) : ∃ P1 P2 P3 P4 P5 P6, Ex8 P P1 P2 P3 P4 P5 P6 := by
  have hR : R = Rp.begun 29 := h.rb
  have st0 := h.st (by omega)
  have s0 := h.sim
  obtain ⟨q0, B0, s0, _, _⟩ := s0
  have hpg : R.pages = [none, none, none] := by rw [hR]; rfl
  obtain ⟨a1, a2⟩ := s0.alloc
  have ea : R.alloc = ((0, 0), R.lay 0 z896) := by rw [Rp.alloc, hpg]; rfl
  have st1 := st0.of (P' := P.alloc.2) (R' := R.alloc.2) (by unfold Pg.alloc; split <;> first | rfl | (split <;> rfl)) fun s B a => a.alloc.2
  rw [ea] at a1 a2 st1
  have e1 : P.alloc = ((0, 0), P.alloc.2) := Prod.ext a1 rfl
  generalize P.alloc.2 = P1 at *
  have ht : (R.lay 0 z896).taken 0 = true := by rw [taken_iff]; simp only [Rp.lay, hpg]; decide
  obtain ⟨b1, b2⟩ := a2.setRoot 0
  have eb : (R.lay 0 z896).setRoot 0 = (0, { R.lay 0 z896 with root := 0, change := true }) := by rw [Rp.setRoot, if_neg (by simp [ht])]
  have st2 := st1.of (P' := (P1.setRoot 0).2) (R' := ((R.lay 0 z896).setRoot 0).2) (by unfold Pg.setRoot; split <;> rfl) fun s B a => (a.setRoot 0).2
  rw [eb] at b1 b2 st2
  have e2 : P1.setRoot 0 = (0, (P1.setRoot 0).2) := Prod.ext b1 rfl
  generalize (P1.setRoot 0).2 = P2 at *
  obtain ⟨c1, st3⟩ := st2.commit (by omega) (by omega) (by omega)
  have e3 : P2.commit = (0, P2.commit.2) := Prod.ext c1 rfl
  have hl2 := st2.last
  obtain ⟨q2, B2, s2, hq1, hq2⟩ := st2.sim
  have hsq := s2.live.hseq
  generalize P2.commit.2 = P3 at *
  obtain ⟨R3, hR3⟩ : ∃ R3, R3 = ({ R.lay 0 z896 with root := 0, change := true } : Rp).commit := ⟨_, rfl⟩
  rw [← hR3] at st3
  have hp3 : R3.pages = [some z896, none, none] := by rw [hR3]; simp [Rp.commit, Rp.lay, hpg]
  have hr3 : R3.root = 0 := by rw [hR3]; rfl
  have hw3 : R3.was = [some z896, none, none] := by rw [hR3]; simp [Rp.commit, Rp.lay, hpg]
  have hwr3 : R3.wroot = 0 := by rw [hR3]; rfl
  have ht3 : R3.taken 0 = true := by rw [taken_iff]; simp only [hp3]; decide
  have ht31 : R3.taken 1 = false := by
    cases hx : R3.taken 1 with
    | false => rfl
    | true => rw [taken_iff] at hx; simp only [hp3] at hx; exact absurd hx.2.2 (by decide)
  have ef : R3.free 0 = (2, R3) := by rw [Rp.free, if_neg (by simp [ht3]), if_pos hr3]
  have eg : R3.free 1 = (81, R3) := by rw [Rp.free, if_pos ht31]
  have st4 := st3.of (P' := (P3.free 0).2) (R' := (R3.free 0).2) (by unfold Pg.free; split <;> first | rfl | (split <;> rfl)) fun s B a => (a.freed 0).2
  have f1 : (P3.free 0).1 = (R3.free 0).1 := by obtain ⟨_, _, a, _⟩ := st3.sim; exact (a.freed 0).1
  rw [ef] at f1 st4
  have e4 : P3.free 0 = (2, (P3.free 0).2) := Prod.ext f1 rfl
  generalize (P3.free 0).2 = P4 at *
  have st5 := st4.of (P' := (P4.free 1).2) (R' := (R3.free 1).2) (by unfold Pg.free; split <;> first | rfl | (split <;> rfl)) fun s B a => (a.freed 1).2
  have g1 : (P4.free 1).1 = (R3.free 1).1 := by obtain ⟨_, _, a, _⟩ := st4.sim; exact (a.freed 1).1
  rw [eg] at g1 st5
  have e5 : P4.free 1 = (81, (P4.free 1).2) := Prod.ext g1 rfl
  generalize (P4.free 1).2 = P5 at *
  obtain ⟨q5, B5, s5, _⟩ := st5.sim
  obtain ⟨P6, o1, o2, s6⟩ := s5.popen (by rw [hp3]; decide) (by omega)
  exact ⟨P1, P2, P3, P4, P5, P6, by rw [s0.nlen, hpg]; rfl, by rw [s0.free_eq, hpg]; rfl, by rw [s0.root, hR]; rfl, e1, e2, e3, e4, e5, o1, o2, by rw [s6.root]; exact hwr3, by rw [s6.free_eq]; simp only [Rp.abort, hw3]; rfl, by omega, by omega, by omega, by rw [s5.live.hn]; omega⟩
set_option maxHeartbeats 16000000 in
theorem shown8_any (w : World) (hn : Nib w) : Calls Tryz.prog 4 #[] w fun e w' => e = .returned (.bool true) ∧ Below w.heap.size w w' := by
  have HBG := Lib.hid (begun8_any w hn 28 (by omega) (by omega))
  go_enter Tryz.func4, Tryz.ntmps4
  go_wp2_with fail
  refine HBG.out.mono ?_
  rintro e w1 ⟨F, p, f, P, g, R, rfl, hls, hb8⟩
  rw [show 32 + pickN 28 300 = 60 by decide] at hb8
  obtain ⟨P1, P2, P3, P4, P5, P6, ex⟩ := ex8 hb8
  have EX := Lib.hid ex
  have HLS := Lib.hid hls
  have HPA := Lib.hid (pages_any hls.pg)
  have HLE := Lib.hid (left_any hls.pg)
  have HRO := Lib.hid (root_any hls.pg)
  have HAL := Lib.hid (alloc_any hls.pg)
  rw [ex.len] at HPA
  rw [ex.fr] at HLE
  rw [ex.rt] at HRO
  rw [ex.a] at HAL
  clear ex hls hb8
  go_wp2_with (first
    | (go_at_call 20; refine HPA.out.mono ?_; rintro e w9 ⟨rfl, hw9⟩; rw [hw9]; clear hw9 w9)
    | (go_at_call 21; refine HLE.out.mono ?_; rintro e w9 ⟨rfl, hw9⟩; rw [hw9]; clear hw9 w9)
    | (go_at_call 22; refine HRO.out.mono ?_; rintro e w9 ⟨rfl, hw9⟩; rw [hw9]; clear hw9 w9))
  refine HAL.out.mono ?_
  rintro e w2 ⟨rfl, t2⟩
  obtain ⟨f2, l2, q2⟩ := HLS.out.stepP t2
  have hs := setroot_any l2.pg 0 (by omega) (by omega)
  rw [EX.out.s, q2] at hs
  have HSR := Lib.hid hs
  have HL2 := Lib.hid l2
  have Hq2 := Lib.hid q2
  clear HAL HPA HLE HRO t2 l2 hs q2
  go_wp2_with fail
  refine HSR.out.mono ?_
  rintro e w3 ⟨rfl, t3⟩
  obtain ⟨f3, l3, q3⟩ := HL2.out.stepP t3
  have hc := commit_any l3.pg EX.out.b1 EX.out.b2 EX.out.b3
  rw [EX.out.c, q3, Hq2.out] at hc
  have HCO := Lib.hid hc
  have HL3 := Lib.hid l3
  have Hq3 := Lib.hid (q3.trans Hq2.out)
  clear HSR HL2 Hq2 t3 l3 hc q3
  go_wp2_with fail
  refine HCO.out.mono ?_
  rintro e w4 ⟨rfl, t4⟩
  obtain ⟨f4, l4, q4⟩ := HL3.out.stepP t4
  have hf := free_any l4.pg 0 (by omega) (by omega)
  rw [EX.out.f, q4, Hq3.out] at hf
  have HFR := Lib.hid hf
  have HL4 := Lib.hid l4
  have Hq4 := Lib.hid (q4.trans Hq3.out)
  clear HCO HL3 Hq3 t4 l4 hf q4
  go_wp2_with fail
  refine HFR.out.mono ?_
  rintro e w5 ⟨rfl, t5⟩
  obtain ⟨f5, l5, q5⟩ := HL4.out.stepP t5
  have hg := free_any l5.pg 1 (by omega) (by omega)
  rw [EX.out.g, q5, Hq4.out] at hg
  have HFG := Lib.hid hg
  have HL5 := Lib.hid l5
  have Hq5 := Lib.hid (q5.trans Hq4.out)
  clear HFR HL4 Hq4 t5 l5 hg q5
  go_wp2_with fail
  refine HFG.out.mono ?_
  rintro e w6 ⟨rfl, t6⟩
  obtain ⟨f6, l6, q6⟩ := HL5.out.stepP t6
  have HOP := Lib.hid (popen_any w6 F p P5.J l6.pg.jat l6.pg.nib EX.out.n6)
  have HL6 := Lib.hid l6
  clear HFG HL5 Hq5 t6 l6 q6
  go_wp2_with fail
  refine HOP.out.mono ?_
  rintro e w7 ⟨_, hsome, t7⟩
  obtain ⟨f7, rfl, hpg, hpf⟩ := hsome _ _ _ EX.out.o
  have HRO := Lib.hid (root_any hpg)
  have HLE := Lib.hid (left_any hpg)
  rw [EX.out.r6] at HRO
  rw [EX.out.l6] at HLE
  have HBW : Hid (Below w.heap.size w w7) := Lib.hid (HL6.out.below.trans (t7.below (B := w.heap.size) HL6.out.below.size fun k hk => HL6.out.own k (.inl (.inl hk))))
  clear hsome t7 hpg hpf HOP
  go_wp2_with (first
    | (go_at_call 21; refine HLE.out.mono ?_; rintro e w9 ⟨rfl, hw9⟩; rw [hw9]; clear hw9 w9)
    | (go_at_call 22; refine HRO.out.mono ?_; rintro e w9 ⟨rfl, hw9⟩; rw [hw9]; clear hw9 w9))
  go_ret
  exact ⟨rfl, HBW.out⟩
end Go.Proofs.YtbmmcaoifkboiaaGreatDoor

/- How the cells of what came in read: schemes of ints, bytes, slices; each says what the reader of a row read. -/
set_option linter.unusedVariables false
set_option linter.unusedSimpArgs false
set_option maxRecDepth 100000
namespace Go.Proofs.YtbmmcaoifkboiaaGreatDoor
open Go.ChangeShapes Go.WideShapes Go.ChangeAt Go.RowKit Go.Deep

theorem own : ownKnob Tryz.prog.godebug = none := by kernel_rfl
theorem laidOut : laidOutB Tryz.prog = true := by kernel_rfl
theorem cells_int : Tryz.prog.cellsOf 3 = 1 := by kernel_rfl
theorem cells_byte : Tryz.prog.cellsOf 5 = 1 := by kernel_rfl
theorem wf_byte {n : Int} (h : (Lit.int .u8 n).wf = true) : ∃ x : UInt8, n = (x.toNat : Int) := by
  simp only [Lit.wf, IntKind.min, IntKind.max, IntKind.signed, IntKind.bits, Bool.and_eq_true, decide_eq_true_eq] at h
  have h1 : (0 : Int) ≤ n := by simpa using h.1
  have h2 : n ≤ 255 := by simpa using h.2
  refine ⟨UInt8.ofNat n.toNat, ?_⟩
  rw [UInt8.toNat_ofNat']
  omega
theorem wf_int64 {n : Int} (h : (Lit.int .i64 n).wf = true) : -9223372036854775808 ≤ n ∧ n ≤ 9223372036854775807 := by
  simp only [Lit.wf, IntKind.min, IntKind.max, IntKind.signed, IntKind.bits, Bool.and_eq_true, decide_eq_true_eq] at h
  exact ⟨by simpa using h.1, by simpa using h.2⟩
def I64 (n : Int) : Prop := -9223372036854775808 ≤ n ∧ n ≤ 9223372036854775807
/-- each weight within the reach -/
def Light {H : Type} (t : TypeId) (d : DataW H) : Prop := ∀ n ∈ d.weights Tryz.prog t, n ≤ reachBytes
theorem light_arg {H : Type} {ts : List TypeId} {ds : List (DataW H)} {j : Nat} {t : TypeId} {d : DataW H} (h : (DataW.weightsEach Tryz.prog ts ds).all (· ≤ reachBytes) = true) (ht : ts[j]? = some t) (hj : ds[j]? = some d) : Light t d := fun n hn => by
  have := List.all_eq_true.1 h n (DataW.weights_mem_each ht hj n hn)
  simpa using this
theorem light_all {H : Type} {P : Program} {e : TypeId} {D : List (DataW H)} {i : Nat} {d : DataW H} (hd : D[i]? = some d) (k : Nat) (hk : k ∈ d.weights P e) : k ∈ DataW.weightsAll P e D := by
  induction D generalizing i with
  | nil => cases hd
  | cons x r ih =>
    simp only [DataW.weightsAll, List.mem_append]
    cases i with
    | zero =>
      simp only [List.getElem?_cons_zero, Option.some.injEq] at hd
      subst hd
      exact .inl hk
    | succ i => exact .inr (ih (by simpa using hd))
/-- how the cells of a type read -/
structure Rd (α : Type) where
  T : TypeId
  n : Nat
  R : World → List Value → α → Prop
  size : Tryz.prog.cellsOf T = n
  len : ∀ {w : World} {cs : List Value} {x : α}, R w cs x → cs.length = n
  keep : ∀ {w w' : World} {cs : List Value} {x : α}, R w cs x → (∀ a u, w.cell? a = some u → w'.cell? a = some u) → R w' cs x
  trod : ∀ {H : Type} {enc : TypeId × Value → H} {W : World} {m : Nat} {cs : List Value} {y : DataW H × List MemPlace},
    DataW.trod enc Tryz.prog W 0 (fun _ => true) true m T cs = some y → Light T y.1 → ∃ x, R W cs x
def rdInt : Rd Int where
  T := 3
  n := 1
  R := fun _ cs x => cs = [.int .i64 x] ∧ I64 x
  size := cells_int
  len := fun h => by rw [h.1]; rfl
  keep := fun h _ => h
  trod := fun h _ => by
    obtain ⟨n, h1, _, w⟩ := DataW.trod_int Tryz.underlying3 h
    exact ⟨n, h1, wf_int64 w⟩
def rdByte : Rd UInt8 where
  T := 5
  n := 1
  R := fun _ cs x => cs = [.int .u8 (x.toNat : Int)]
  size := cells_byte
  len := fun h => by rw [h]; rfl
  keep := fun h _ => h
  trod := fun h _ => by
    obtain ⟨n, h1, _, w⟩ := DataW.trod_int Tryz.underlying5 h
    obtain ⟨x, rfl⟩ := wf_byte w
    exact ⟨x, h1⟩
/-- the slice value v reads as the things xs -/
def IsRow {α : Type} (r : Rd α) (w : World) (v : Value) (xs : List α) : Prop :=
  ∃ a cap, v = .slice a xs.length cap ∧ xs.length ≤ cap ∧ cap ≤ maxLen ∧ (a = none → cap = 0) ∧ xs.length * Tryz.prog.bytesOf r.T ≤ 140737488351232 ∧
    ∀ x, a = some x → (0 < xs.length → x.spot = none) ∧ ∀ i, (h : i < xs.length) → ∃ cs, r.R w cs xs[i] ∧ ∀ j c, cs[j]? = some c → w.cell? ⟨x.block, x.off + i * r.n + j, none⟩ = some c
theorem IsRow.keep {α : Type} {r : Rd α} {w w' : World} {v : Value} {xs : List α} (h : IsRow r w v xs) (hw : ∀ a u, w.cell? a = some u → w'.cell? a = some u) : IsRow r w' v xs := by
  obtain ⟨a, cap, hv, hl, hm, hn, hb, hc⟩ := h
  refine ⟨a, cap, hv, hl, hm, hn, hb, fun x hx => ⟨(hc x hx).1, fun i hi => ?_⟩⟩
  obtain ⟨cs, h1, h2⟩ := (hc x hx).2 i hi
  exact ⟨cs, r.keep h1 hw, fun j c hj => hw _ _ (h2 j c hj)⟩
theorem IsRow.below {α : Type} {r : Rd α} {w w' : World} {v : Value} {xs : List α} (h : IsRow r w v xs) (hb : Below w.heap.size w w') : IsRow r w' v xs := h.keep (cells_below hb)
theorem IsRow.form {α : Type} {r : Rd α} {w : World} {v : Value} {xs : List α} (h : IsRow r w v xs) : ∃ a cap, v = .slice a xs.length cap ∧ xs.length ≤ cap ∧ cap ≤ maxLen := by
  obtain ⟨a, cap, hv, hl, hm, _⟩ := h
  exact ⟨a, cap, hv, hl, hm⟩
theorem isRow_of_trod {α : Type} (r : Rd α) (hn : 0 < r.n) {S : TypeId} (hu : Tryz.prog.underlying S = some (.slice r.T)) {H : Type} {enc : TypeId × Value → H} {W : World} {m : Nat} {v : Value} {y : DataW H × List MemPlace}
    (h : DataW.trod enc Tryz.prog W 0 (fun _ => true) true m S [v] = some y) (hl : Light S y.1) : ∃ xs, IsRow r W v xs := by
  rcases open_slice hu h with ⟨hcs, _⟩ | ⟨a, len, cap, m, n, D, Pl, hcs, hb, hle, hm, hmm, hx, hi⟩
  · simp only [List.cons.injEq, and_true] at hcs
    exact ⟨[], none, 0, by rw [hcs]; rfl, Nat.le_refl _, by simp [maxLen], fun _ => rfl, by simp, fun x h => by cases h⟩
  · simp only [List.cons.injEq, and_true] at hcs
    subst hcs
    simp only [if_true] at hmm
    rw [r.size] at hi
    have hlt : ∀ i, i < m → Light r.T (D i) := fun i him k hk => hl k (by
      rw [hx]
      simp only [DataW.weights, hu]
      refine List.mem_cons_of_mem _ ?_
      by_cases hil : i < len
      · exact List.mem_append_left _ (light_all (i := i) (d := D i) (by simp [hil]) k hk)
      · exact List.mem_append_right _ (light_all (i := i - len) (d := D i) (by
          rw [List.getElem?_map, List.getElem?_range (by omega)]
          simp only [Option.map_some, Option.some.injEq]
          congr 1
          omega) k hk))
    have hbytes : len * Tryz.prog.bytesOf r.T ≤ 140737488351232 := by
      have h1 := hl (((List.range len).map D).length * Tryz.prog.bytesOf r.T + ((List.range (m - len)).map fun j => D (len + j)).length * Tryz.prog.bytesOf r.T) (by
        rw [hx]
        simp only [DataW.weights, hu, ← Nat.add_mul]
        exact List.mem_cons_self)
      have e2 : reachBytes = 140737488351232 := rfl
      simp only [List.length_map, List.length_range] at h1
      omega
    have hex : ∀ i : Nat, ∃ x : Option α, i < len → ∃ z, x = some z ∧ ∃ cs, r.R W cs z ∧ ∀ j c, cs[j]? = some c → W.cell? (a.add (i * r.n + j)) = some c := by
      intro i
      by_cases h : i < len
      · obtain ⟨cs, hc, ht⟩ := hi i (by omega)
        obtain ⟨x, hx⟩ := r.trod ht (hlt i (by omega))
        obtain ⟨_, hlc, hat⟩ := World.cells?_some hc
        refine ⟨some x, fun _ => ⟨x, rfl, cs, hx, fun j c hj => ?_⟩⟩
        have hjn : j < r.n := by
          have := (List.getElem?_eq_some_iff.1 hj).1
          rw [r.len hx] at this
          exact this
        have := hat j hjn
        rw [Go.Deep.add_add] at this
        exact this.trans hj
      · exact ⟨none, fun h' => absurd h' h⟩
    obtain ⟨f, hf⟩ := Classical.axiomOfChoice hex
    by_cases h0 : len = 0
    · subst h0
      refine ⟨[], some a, cap, rfl, Nat.zero_le _, hm, (fun h => (by cases h)), by simp, fun x hx => ⟨fun h => absurd h (by simp), fun i hi => absurd hi (by simp)⟩⟩
    · obtain ⟨z0, _⟩ := hf 0 (by omega)
      have hlen : ((List.range len).map fun i => (f i).getD z0).length = len := by simp
      refine ⟨(List.range len).map fun i => (f i).getD z0, some a, cap, by rw [hlen], by omega, hm, (fun h => (by cases h)), by rw [hlen]; exact hbytes, ?_⟩
      intro y hy
      obtain rfl := Option.some.inj hy
      have hs : a.spot = none := by
        obtain ⟨z, _, cs, hR, h⟩ := hf 0 (by omega)
        obtain ⟨c, hc⟩ : ∃ c, cs[0]? = some c := ⟨_, List.getElem?_eq_getElem (by rw [r.len hR]; exact hn)⟩
        have h := h 0 c hc
        rw [show a.add (0 * r.n + 0) = a by simp [Addr.add]] at h
        exact World.cell?_spot h
      refine ⟨fun _ => hs, fun i hi' => ?_⟩
      have hi2 : i < len := by rw [hlen] at hi'; exact hi'
      obtain ⟨xb, xo, xs⟩ := a
      obtain rfl : xs = none := hs
      simp only [List.getElem_map, List.getElem_range]
      obtain ⟨z, hz, cs, hR, h⟩ := hf i hi2
      rw [hz]
      refine ⟨cs, hR, fun j c hj => ?_⟩
      have := h j c hj
      rw [Addr.add_lit] at this
      rw [Nat.add_assoc]
      exact this
def Rd.slice {α : Type} (r : Rd α) (hn : 0 < r.n) (S : TypeId) (hu : Tryz.prog.underlying S = some (.slice r.T)) (hs : Tryz.prog.cellsOf S = 1) : Rd (List α) where
  T := S
  n := 1
  R := fun w cs xs => ∃ v, cs = [v] ∧ IsRow r w v xs
  size := hs
  len := fun h => by
    obtain ⟨v, h1, _⟩ := h
    rw [h1]; rfl
  keep := fun h hw => by
    obtain ⟨v, h1, h2⟩ := h
    exact ⟨v, h1, h2.keep hw⟩
  trod := fun {H enc W m cs y} h hl => by
    have hc : cs.length = 1 := by
      rcases open_slice hu h with ⟨hcs, _⟩ | ⟨a, len, cap, m, n, D, Pl, hcs, _⟩ <;> rw [hcs] <;> rfl
    match cs, hc with
    | [v], _ =>
      obtain ⟨xs, hx⟩ := isRow_of_trod r hn hu h hl
      exact ⟨xs, v, rfl, hx⟩
/-- a slice that came in -/
theorem open_row {α : Type} (r : Rd α) (hn : 0 < r.n) {S : TypeId} (hu : Tryz.prog.underlying S = some (.slice r.T)) {H : Type} {enc : TypeId × Value → H} {W : World} {k : Reach} {b0 : Nat} {v : Value} {d : DataW H} {p : List MemPlace}
    (hval : Value.okWide Tryz.prog W k b0 S v) (hd : DataW.Trod enc Tryz.prog W 0 (fun _ => true) true S v d p) (hl : Light S d) : ∃ xs, IsRow r W v xs := by
  obtain ⟨a0, len0, cap0, rfl⟩ := okWide_slice hu hval
  obtain ⟨fuel, hf⟩ := hd
  exact isRow_of_trod r hn hu (m := fuel) (y := (d, p)) hf hl
/-- a struct that came in -/
theorem open_agg {α : Type} (r : Rd α) {fs : Array Field} (hu : Tryz.prog.underlying r.T = some (.struct fs)) {H : Type} {enc : TypeId × Value → H} {W : World} {k : Reach} {b0 : Nat} {v : Value} {d : DataW H} {p : List MemPlace}
    (hval : Value.okWide Tryz.prog W k b0 r.T v) (hd : DataW.Trod enc Tryz.prog W 0 (fun _ => true) true r.T v d p) (hl : Light r.T d) : ∃ cs x, v = .agg cs ∧ r.R W cs.toList x := by
  obtain ⟨cs, rfl, _⟩ := okWide_struct hu hval
  obtain ⟨fuel, hf⟩ := hd
  obtain ⟨x, hx⟩ := r.trod (y := (d, p)) hf hl
  exact ⟨cs, x, rfl, hx⟩
/-- a field of a struct -/
theorem trod_field {H : Type} {enc : TypeId × Value → H} {W : World} {T : TypeId} {fs : Array Field} (hu : Tryz.prog.underlying T = some (.struct fs)) {m : Nat} {cs : List Value} {y : DataW H × List MemPlace}
    (h : DataW.trod enc Tryz.prog W 0 (fun _ => true) true m T cs = some y) (hl : Light T y.1) (j : Nat) (f : Field) (hf : fs[j]? = some f) :
    ∃ n z, DataW.trod enc Tryz.prog W 0 (fun _ => true) true n f.type ((cs.drop f.offset).take (Tryz.prog.cellsOf f.type)) = some z ∧ Light f.type z.1 := by
  obtain ⟨xs, n, _, rfl, _, hxl, hx⟩ := DataW.trod_struct hu h
  have hj : j < fs.size := (Array.getElem?_eq_some_iff.1 hf).1
  have e : xs[j]? = some (xs[j]'(by omega)) := List.getElem?_eq_getElem _
  refine ⟨n, xs[j]'(by omega), (hx j f hf).trans e, fun k hk => hl k ?_⟩
  simp only [DataW.weights, hu]
  exact DataW.weights_mem_each (j := j) (t := f.type) (by simp [hf]) (by rw [List.getElem?_map, e]; rfl) k hk
theorem trod_cells {H : Type} {enc : TypeId × Value → H} {W : World} {T : TypeId} {fs : Array Field} (hu : Tryz.prog.underlying T = some (.struct fs)) {m : Nat} {cs : List Value} {y : DataW H × List MemPlace}
    (h : DataW.trod enc Tryz.prog W 0 (fun _ => true) true m T cs = some y) : cs.length = Tryz.prog.cellsOf T := by
  obtain ⟨xs, n, _, _, hl, _⟩ := DataW.trod_struct hu h
  exact hl
theorem IsRow.isI {w : World} {v : Value} {zs : List Int} (h : IsRow rdInt w v zs) : IsI w v zs ∧ ∀ z ∈ zs, -9223372036854775808 ≤ z ∧ z ≤ 9223372036854775807 := by
  obtain ⟨a, cap, hv, hl, hm, hn, _, hc⟩ := h
  refine ⟨⟨a, cap, hv, hl, hm, hn, fun x hx => ⟨(hc x hx).1, fun i hi => ?_⟩⟩, fun z hz => ?_⟩
  · obtain ⟨cs, ⟨h1, _⟩, h2⟩ := (hc x hx).2 i hi
    have := h2 0 (.int .i64 zs[i]) (by rw [h1]; rfl)
    rw [show rdInt.n = 1 from rfl, Nat.mul_one] at this
    exact this
  · obtain ⟨i, hi, rfl⟩ := List.getElem_of_mem hz
    cases a with
    | none =>
      have := hn rfl
      omega
    | some x =>
      obtain ⟨cs, ⟨_, h1⟩, _⟩ := (hc x rfl).2 i hi
      exact h1
theorem IsRow.isB {w : World} {v : Value} {l : List UInt8} (h : IsRow rdByte w v l) : IsB w v l := by
  obtain ⟨a, cap, hv, hl, hm, hn, _, hc⟩ := h
  refine ⟨a, cap, hv, hl, hm, hn, fun x hx => ⟨(hc x hx).1, fun i hi => ?_⟩⟩
  obtain ⟨cs, h1, h2⟩ := (hc x hx).2 i hi
  have := h2 0 (.int .u8 (l[i].toNat : Int)) (by rw [show cs = _ from h1]; rfl)
  rw [show rdByte.n = 1 from rfl, Nat.mul_one] at this
  exact this
theorem IsRow.isBs {S : TypeId} {hn0 : 0 < rdByte.n} {hu : Tryz.prog.underlying S = some (.slice rdByte.T)} {hs : Tryz.prog.cellsOf S = 1} {w : World} {v : Value} {ls : List (List UInt8)} (h : IsRow (rdByte.slice hn0 S hu hs) w v ls) : IsBs w v ls := by
  obtain ⟨a, cap, hv, hl, hm, hn, _, hc⟩ := h
  refine ⟨a, cap, hv, hl, hm, hn, fun x hx => ⟨(hc x hx).1, fun i hi => ?_⟩⟩
  obtain ⟨cs, ⟨v', h1, h3⟩, h2⟩ := (hc x hx).2 i hi
  have := h2 0 v' (by rw [h1]; rfl)
  rw [show (rdByte.slice hn0 S hu hs).n = 1 from rfl, Nat.mul_one] at this
  exact ⟨v', this, h3.isB⟩
end Go.Proofs.YtbmmcaoifkboiaaGreatDoor

/- Readers of what the statements of chapter 08 take. -/
set_option linter.unusedVariables false
set_option linter.unusedSimpArgs false
set_option maxRecDepth 100000
namespace Go.Proofs.YtbmmcaoifkboiaaGreatDoor
open Go.ChangeShapes Go.WideShapes Go.ChangeAt Go.RowKit Go.Deep

def rdInts : Rd (List Int) := rdInt.slice (by decide) 34 Tryz.underlying34 (by kernel_rfl)
structure OpP where
  kind : Int
  page : Int
  by_ : UInt8
instance : Inhabited OpP := ⟨⟨default, default, default⟩⟩
/-- its cells -/
def OpP.At (w : World) (x : OpP) (cs : List Value) : Prop := ∃ c0 c1 c2, cs = [c0, c1, c2] ∧ rdInt.R w [c0] x.kind ∧ rdInt.R w [c1] x.page ∧ rdByte.R w [c2] x.by_
def rdOpP : Rd OpP where
  T := 39
  n := 3
  R := fun w cs x => x.At w cs
  size := by kernel_rfl
  len := fun h => by
    obtain ⟨c0, c1, c2, he, _⟩ := h
    rw [he]; rfl
  keep := fun h hw => by
    obtain ⟨c0, c1, c2, he, k0, k1, k2⟩ := h
    exact ⟨c0, c1, c2, he, rdInt.keep k0 hw, rdInt.keep k1 hw, rdByte.keep k2 hw⟩
  trod := fun {H enc W m cs y} h hl => by
    have hc := trod_cells Tryz.underlying39 h
    rw [show Tryz.prog.cellsOf 39 = 3 by kernel_rfl] at hc
    match cs, hc with
    | [c0, c1, c2], _ =>
      obtain ⟨n0, z0, f0, l0⟩ := trod_field Tryz.underlying39 h hl 0 _ rfl
      change DataW.trod enc Tryz.prog W 0 (fun _ => true) true n0 3 (List.take (Tryz.prog.cellsOf 3) (List.drop 0 [c0, c1, c2])) = _ at f0
      rw [show Tryz.prog.cellsOf 3 = 1 from rdInt.size] at f0
      obtain ⟨x0, h0⟩ := rdInt.trod (cs := [c0]) f0 l0
      obtain ⟨n1, z1, f1, l1⟩ := trod_field Tryz.underlying39 h hl 1 _ rfl
      change DataW.trod enc Tryz.prog W 0 (fun _ => true) true n1 3 (List.take (Tryz.prog.cellsOf 3) (List.drop 1 [c0, c1, c2])) = _ at f1
      rw [show Tryz.prog.cellsOf 3 = 1 from rdInt.size] at f1
      obtain ⟨x1, h1⟩ := rdInt.trod (cs := [c1]) f1 l1
      obtain ⟨n2, z2, f2, l2⟩ := trod_field Tryz.underlying39 h hl 2 _ rfl
      change DataW.trod enc Tryz.prog W 0 (fun _ => true) true n2 5 (List.take (Tryz.prog.cellsOf 5) (List.drop 2 [c0, c1, c2])) = _ at f2
      rw [show Tryz.prog.cellsOf 5 = 1 from rdByte.size] at f2
      obtain ⟨x2, h2⟩ := rdByte.trod (cs := [c2]) f2 l2
      exact ⟨⟨x0, x1, x2⟩, c0, c1, c2, rfl, h0, h1, h2⟩
end Go.Proofs.YtbmmcaoifkboiaaGreatDoor

/- A script's calls as they lie; does, whatever the kind; a pager opened anew. -/
set_option linter.unusedVariables false
set_option linter.unusedSimpArgs false
set_option maxRecDepth 100000
namespace Go.Proofs.YtbmmcaoifkboiaaGreatDoor
open Go.RowKit

theorem op_at8 {w : World} {a : Option Addr} {n cap : Nat} {xs : List OpP} (h : IsRow rdOpP w (.slice a n cap) xs) (i : Nat) (hi : i < xs.length) : ∃ g o, a = some ⟨g, o, none⟩ ∧ w.cell? ⟨g, o + i * 3, none⟩ = some (.int .i64 xs[i].kind) ∧ w.cell? ⟨g, o + i * 3 + 1, none⟩ = some (.int .i64 xs[i].page) ∧ w.cell? ⟨g, o + i * 3 + 2, none⟩ = some (.int .u8 (xs[i].by_.toNat : Int)) ∧
    (-9223372036854775808 ≤ xs[i].kind ∧ xs[i].kind ≤ 9223372036854775807) ∧ (-9223372036854775808 ≤ xs[i].page ∧ xs[i].page ≤ 9223372036854775807) := by
  obtain ⟨a', cap', hv, hl, hm, hn, hb, hc⟩ := h
  simp only [Value.slice.injEq] at hv
  obtain ⟨rfl, rfl, rfl⟩ := hv
  cases a with
  | none => have := hn rfl; omega
  | some x =>
    obtain ⟨g, o, s⟩ := x
    obtain ⟨hs, hc⟩ := hc _ rfl
    obtain rfl : s = none := hs (by omega)
    obtain ⟨cs, h1, h2⟩ := hc i hi
    obtain ⟨c0, c1, c2, rfl, ⟨e0, a0⟩, ⟨e1, a1⟩, e2⟩ := h1
    simp only [List.cons.injEq, and_true] at e0 e1
    obtain rfl : c2 = .int .u8 (xs[i].by_.toNat : Int) := by simpa using (show [c2] = _ from e2)
    subst e0 e1
    exact ⟨g, o, rfl, h2 0 _ rfl, h2 1 _ rfl, h2 2 _ rfl, a0, a1⟩
section
variable {w0 w : World} {F : Ft} {p : Nat} {f : Pf} {P : Pg} {g : Rf} {R : Rp} {n m : Nat}
theorem does8_any (h : LS w0 w F p f P g R) (hs : St n m P R) (hm : m ≤ 2000) (hn : 32 ≤ n) (hn2 : n ≤ 331) (kind page : Int) (y : UInt8) (hk1 : -9223372036854775808 ≤ kind) (hk2 : kind ≤ 9223372036854775807) (hp1 : -9223372036854775808 ≤ page) (hp2 : page ≤ 9223372036854775807) :
    Calls Tryz.prog 14 #[qptr f.q, qptr g.q, .agg #[.int .i64 kind, .int .i64 page, .int .u8 (y.toNat : Int)]] w (Do8 w0 F p f g n m) := by
  have hk := pickN_lt kind (n := 10) (by omega)
  rcases (show pickN kind 10 = 0 ∨ pickN kind 10 = 1 ∨ pickN kind 10 = 2 ∨ pickN kind 10 = 3 ∨ pickN kind 10 = 4 ∨ pickN kind 10 = 5 ∨ pickN kind 10 = 6 ∨ pickN kind 10 = 7 ∨ pickN kind 10 = 8 ∨ pickN kind 10 = 9 by omega) with e | e | e | e | e | e | e | e | e | e
  · exact does8_0 h hs hm hn hn2 kind page y hk1 hk2 hp1 hp2 e
  · exact does8_1 h hs hm hn hn2 kind page y hk1 hk2 hp1 hp2 e
  · exact does8_2 h hs hm hn hn2 kind page y hk1 hk2 hp1 hp2 e
  · exact does8_3 h hs hm hn hn2 kind page y hk1 hk2 hp1 hp2 e
  · exact does8_4 h hs hm hn hn2 kind page y hk1 hk2 hp1 hp2 e
  · exact does8_5 h hs hm hn hn2 kind page y hk1 hk2 hp1 hp2 e
  · exact does8_6 h hs hm hn hn2 kind page y hk1 hk2 hp1 hp2 e
  · exact does8_7 h hs hm hn hn2 kind page y hk1 hk2 hp1 hp2 e
  · exact does8_8 h hs hm hn hn2 kind page y hk1 hk2 hp1 hp2 e
  · exact does8_9 h hs hm hn hn2 kind page y hk1 hk2 hp1 hp2 e
theorem LS.reopen {w' : World} {f' : Pf} {P' : Pg} (h : LS w0 w F p f P g R) (hp : PgAt w' F p f' P') (hf : ∀ k, PT f' k → w.heap.size ≤ k) (ht : Turned (JT F p) w w') : LS w0 w' F p f' P' g R := by
  refine ⟨hp, h.rf.turned ht fun k hk e => h.apart k hk (.inl e), h.below.trans (ht.below h.below.size fun k hk => h.own k (.inl (.inl hk))), fun k hk => ?_, fun k hk e => ?_, h.nib⟩
  · rcases hk with (hk | hk) | hk
    · exact h.own k (.inl (.inl hk))
    · exact Nat.le_trans h.below.size (hf k hk)
    · exact h.own k (.inr hk)
  · rcases e with e | e
    · exact h.apart k hk (.inl e)
    · have := h.rf.lt k hk
      have := hf k e
      omega
/-- Open of a pager's journal: the pager as it was committed -/
theorem St.popen (hs : St n m P R) (hn : 6 ≤ n) (hl : R.pages.length ≤ 1023) : ∃ P', P.J.popen = (0, P.J, some P') ∧ St n (m + 1) P' R.abort := by
  obtain ⟨seq, B, h1, h2, h3⟩ := hs.sim
  obtain ⟨P', p1, p2, p3⟩ := h1.popen hl hn
  exact ⟨P', p1, ⟨seq, B, p3, h2, by omega⟩, by rw [p2]; have := hs.last; omega, by rw [p2]; exact hs.cut, by rw [p2]; have := hs.ops; omega⟩
theorem St.n22 (hs : St n m P R) (hn : 32 ≤ n) : 22 ≤ P.J.D.n := by
  obtain ⟨seq, B, h1, _⟩ := hs.sim
  rw [h1.live.hn]
  omega
end
end Go.Proofs.YtbmmcaoifkboiaaGreatDoor
