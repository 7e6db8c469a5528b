/- The card CardPagerAnew: for every input the law answers true, and what came in reads as it did; with what it needs ahead. -/
import Derived.Test.YtbmmcaoifkboiaaDoorBase4
import Derived.LoopTactic
import Derived.Test.YtbmmcaoifkboiaaDoorCards
import Derived.Test.YtbmmcaoifkboiaaDoorTie
/- PagerAnew: what is formatted has no page of what lay there; where no pager lies none is opened. -/
set_option linter.unusedVariables false
set_option linter.unusedSimpArgs false
set_option maxRecDepth 100000
namespace Go.Proofs.YtbmmcaoifkboiaaDoor
open Go.RowKit

theorem popen_zero {n : Nat} {J : Jn} {seq : Int} (h : Live n J seq (zeroB n) AllOk) (hn : 32 ≤ n) : J.popen = (82, J, none) := by
  have hr := reads_live h 0 2 (by omega)
  have hb : blocksAt (zeroB n) 0 2 = List.replicate 224 0 := by
    have e : ∀ i, i < 2 → (zeroB n).getD (0 + i) [] = List.replicate 112 (0 : UInt8) := fun i hi => by
      rw [zeroB, List.getD_eq_getElem?_getD, List.getElem?_replicate, if_pos (by omega)]
      rfl
    rw [blocksAt, show List.range 2 = [0, 1] from rfl, List.flatMap_cons, List.flatMap_cons, List.flatMap_nil, e 0 (by omega), e 1 (by omega)]
    simp
  rw [hb] at hr
  have hr' : J.reads 0 2 = (List.replicate 224 0, 0, J) := hr
  unfold Jn.popen
  have hz : planOk (List.replicate 224 0) J.pages = false := planOk_zeros _ _ (by simp [List.getD_eq_getElem?_getD])
  simp only [hr', hz]
  simp
set_option maxHeartbeats 16000000 in
theorem anew8_walk (w : World) (hn : Nib w) (sec_ : Int) (v : Value) (xs : List OpP) (hv : IsRow rdOpP w v xs) (h1 : -9223372036854775808 ≤ sec_) (h2 : sec_ ≤ 9223372036854775807) :
    Calls Tryd.prog 6 #[.int .i64 sec_, v] w fun e w' => e = .returned (.bool true) ∧ Below w.heap.size w w' := by
  obtain ⟨a, c, rfl, hc1, hc2⟩ := hv.form
  have hpk := pickN_lt sec_ (n := 300) (by omega)
  have HPK := Lib.hid (fun W => pick_any W sec_ 300 h1 h2 (by omega) (by omega))
  obtain ⟨n, hN⟩ : ∃ n, n = 32 + pickN sec_ 300 := ⟨_, rfl⟩
  have hn32 : 32 ≤ n := by omega
  have hn331 : n ≤ 331 := by omega
  have e32 : (32 : Int) + (pickN sec_ 300 : Int) = (n : Int) := by omega
  have hw1 : IntKind.i64.wrap (32 + (pickN sec_ 300 : Int)) = (n : Int) := by rw [e32]; exact IntWalk.i64_in _ (by omega)
  obtain ⟨D1, J0, e1, e2, hl0, h3, h4, h5⟩ := begun_plain hn32 (by omega)
  have E1 := Lib.hid e1
  have E2 := Lib.hid e2
  have HZ := Lib.hid (popen_zero hl0 hn32)
  have HL0 := Lib.hid hl0
  have HV := Lib.hid hv
  have HNB := Lib.hid hn
  have HSH := Lib.hid (shown8_any w hn)
  have HN := Lib.hid hN
  obtain ⟨N, hNx⟩ : ∃ N, N = xs.length := ⟨_, rfl⟩
  rw [← hNx] at hc1 ⊢
  have HNX := Lib.hid hNx
  unfold maxLen at hc2
  clear hv hn hpk hN hNx e1 e2 hl0 h3 h4 h5
  go_enter Tryd.func6, Tryd.ntmps6
  go_wp2_with fail
  refine HSH.out.mono ?_
  rintro e w0 ⟨rfl, hb0⟩
  have HB0 := Lib.hid hb0
  clear hb0
  go_wp2_with fail
  refine (HPK.out w0).mono ?_
  rintro e w9 ⟨rfl, hw9⟩
  rw [← hw9]
  clear hw9 w9
  go_wp2_with fail
  refine (new_some w0 n ⟨by omega, by omega⟩).mono ?_
  rintro e w1 ⟨F, rfl, d1, hF, hb1⟩
  have db1 : DB w0.heap.size w0 w1 F (Dk.new n) := ⟨d1, (HNB.out.below HB0.out).below hb1, hb1, hF, hb1.size⟩
  clear d1 hF hb1
  go_wp2_with fail
  refine (format_any w1 F _ db1.dat db1.nib).mono ?_
  rintro e w2 ⟨rfl, d2, t2⟩
  rw [E1.out] at d2 ⊢
  have db2 := db1.turn d2 t2
  clear d2 t2 db1
  go_wp2_with fail
  refine (open_good w2 F D1 db2.dat db2.nib E2.out).mono ?_
  rintro e w3 ⟨p, rfl, j3, hp, t3⟩
  have jb3 := JB.of db2 j3 hp t3
  clear j3 t3 db2 hp
  have HO := Lib.hid (popen_any w3 F p J0 jb3.jat jb3.nib (by have := HL0.out.hn; omega))
  have HJ3 := Lib.hid jb3
  clear jb3
  go_wp2_with fail
  refine HO.out.mono ?_
  rintro e w4 ⟨hnone, _, t4⟩
  obtain ⟨rfl, j4⟩ := hnone _ _ HZ.out
  have jb4 := HJ3.out.turn j4 t4
  have HB4 := Lib.hid (HB0.out.trans (jb4.below.mono HB0.out.size))
  have HN4 := Lib.hid jb4.nib
  have HBG := Lib.hid (begun8_any w4 jb4.nib sec_ h1 h2)
  clear hnone t4 j4 jb4 HJ3 HO
  go_wp2_with fail
  refine HBG.out.mono ?_
  rintro e w5 ⟨F, p, f, g, P, R, rfl, hls, hb8⟩
  rw [← HN.out] at hb8
  have HST := Lib.hid (hb8.st hn331)
  have HLS := Lib.hid hls
  obtain ⟨gq, hgq⟩ : ∃ q, q = g.q := ⟨_, rfl⟩
  obtain ⟨fq, hfq⟩ : ∃ q, q = f.q := ⟨_, rfl⟩
  rw [← hgq, ← hfq]
  have HGQ := Lib.hid hgq.symm
  have HFQ := Lib.hid hfq.symm
  clear hls hb8 hgq hfq HBG HSH
  go_wp2_with fail
  go_loopw [16] (fun y wr => ∃ (i : Nat) (f : Pf) (P : Pg) (g : Rf) (R : Rp), i ≤ N ∧ i ≤ 60 ∧ y = .int .i64 (i : Int) ∧ f.q = fq ∧ g.q = gq ∧ LS w4 wr F p f P g R ∧ St n i P R) (fun y _ => N - (intOf y).toNat)
  case atStart => exact ⟨0, f, P, g, R, Nat.zero_le _, Nat.zero_le _, rfl, HFQ.out, HGQ.out, HLS.out, HST.out⟩
  case round =>
    clear HST HLS HGQ HFQ
    obtain ⟨i, f, P, g, R, hi, hi2, rfl, hfq, hgq, hls, hst⟩ := hrel
    have HB := Lib.hid (HB4.out.trans (hls.below.mono HB4.out.size))
    have HEND : ∀ d1 d2 : Bool, decide ((i : Int) < (N : Int)) = d1 → decide ((i : Int) < 60) = d2 → (d1 && d2) = false → True := fun _ _ _ _ _ => trivial
    clear HEND
    rcases (show (i < N ∧ i < 60) ∨ (¬ i < N) ∨ (i < N ∧ ¬ i < 60) by omega) with ⟨hlt, hlt2⟩ | hlt | ⟨hlt, hlt2⟩
    · have hd1 : decide ((i : Int) < (N : Int)) = true := decide_eq_true (by omega)
      have hd2 : decide ((i : Int) < 60) = true := decide_eq_true (by omega)
      obtain ⟨ga, o, rfl, k0, k1, k2, ⟨b1, b2⟩, ⟨b3, b4⟩⟩ := op_at8 (HV.out.below HB.out) i (by rw [← HNX.out]; exact hlt)
      generalize (xs[i]'(by rw [← HNX.out]; exact hlt)).kind = kind at *
      generalize (xs[i]'(by rw [← HNX.out]; exact hlt)).page = page at *
      generalize (xs[i]'(by rw [← HNX.out]; exact hlt)).by_ = y at *
      have HPO := Lib.hid (fun W => pick_any W kind 10 b1 b2 (by omega) (by omega))
      have hpl := pickN_lt kind (n := 10) (by omega)
      generalize pickN kind 10 = K at *
      have HLS := Lib.hid hls
      have HST := Lib.hid hst
      have HGQ := Lib.hid hgq
      have HFQ := Lib.hid hfq
      clear hls hst hgq hfq
      obtain ⟨w3, hw3⟩ : ∃ x, x = wr.alloc (opRow8 kind page y) := ⟨_, rfl⟩
      have hb3 : Below wr.heap.size wr w3 := by rw [hw3]; exact (Below.refl _ _).alloc (Nat.le_refl _) _
      have ho3 : w3.heap[wr.heap.size]? = some (opRow8 kind page y) := by rw [hw3]; exact heap_alloc_new wr _
      have HW3 := Lib.hid hw3
      have hl3 := HLS.out.step hb3
      obtain ⟨d0, d1, d2⟩ := op_cells8 ho3
      rw [hw3] at d0 d1 d2
      clear hw3 hb3
      go_wp2_with fail
      rw [← HW3.out]
      refine (HPO.out w3).mono ?_
      rintro e w9 ⟨rfl, hw9⟩
      rw [← hw9]
      clear hw9 w9 d0 d1 d2
      have f0 := frozen_p ho3 0
      have ho4 := head_setCell ho3 (i := 0) (.int .i64 (K : Int))
      have t4 := turned_one w3 wr.heap.size 0 (.int .i64 (K : Int))
      have hl4 := hl3.other t4 (fun k hk => by have := HLS.out.below.size; omega) (fun k hk => ⟨fun e => by have := HLS.out.lt (.inl e); omega, fun e => by have := HLS.out.lt (.inr e); omega⟩)
      obtain ⟨e0, e1, e2⟩ := op_cells8 ho3
      have HDO := Lib.hid (does8_any hl4 HST.out (by omega) hn32 hn331 (K : Int) page y (by omega) (by omega) b3 b4)
      rw [HGQ.out, HFQ.out] at HDO
      clear ho4 t4 hl4 hl3
      go_wp2_with fail
      refine HDO.out.mono ?_
      rintro e w5 ⟨rfl, f5, g5, P5, R5, q5, r5, l5, s5⟩
      have HL5 := Lib.hid l5
      have HS5 := Lib.hid s5
      have HQ5 := Lib.hid (q5.trans HFQ.out)
      have HR5 := Lib.hid (r5.trans HGQ.out)
      clear l5 s5 q5 r5
      go_wp2_with fail
      go_roundw
      case rel => exact ⟨i + 1, f5, P5, g5, R5, hlt, hlt2, by go_num, HQ5.out, HR5.out, HL5.out, HS5.out⟩
      case measure => simp [intOf]; omega
    all_goals
      have hd1 : decide ((i : Int) < (N : Int)) = decide (i < N) := by simp
      have hd2 : decide ((i : Int) < 60) = decide (i < 60) := decide_eq_decide.2 (by omega)
      obtain ⟨s, B, hsim, hq1, hq2⟩ := hst.sim
      have hla := hst.last
      have hop := hst.ops
      obtain ⟨J', P', B', fr⟩ := pformat_live hsim.live (by omega) (by omega) hst.cut (by omega) (by omega)
      have hsq := hsim.live.hseq
      have hnn := hsim.live.hn
      have hfm := pformat_any wr F p P.J hls.pg.jat hls.pg.nib (by omega) (by omega) (by omega) (by omega)
      rw [fr.fmt] at hfm
      have HFM := Lib.hid hfm
      have FR := Lib.hid fr
      have HLS := Lib.hid hls
      clear hsim hq1 hq2 hla hop fr hsq hfm hls hst hfq hgq
      first
        | (rw [decide_eq_false hlt] at hd1
           clear hd2
           go_wp2_with fail)
        | (rw [decide_eq_true hlt] at hd1
           rw [decide_eq_false hlt2] at hd2
           go_wp2_with fail)
      refine HFM.out.mono ?_
      rintro e w5 ⟨rfl, j5, t5⟩
      have nb5 : Nib w5 := HLS.out.pg.nib.turned HLS.out.pg.jat t5
      have hn5 : J'.D.n = n := by have := FR.out.sim.live.hn; rw [FR.out.pj] at this; exact this
      have HO := Lib.hid (popen_any w5 F p J' j5 nb5 (by omega))
      have HJ5 := Lib.hid j5
      have HT5 := Lib.hid t5
      clear j5 t5
      go_wp2_with fail
      refine HO.out.mono ?_
      rintro e w6 ⟨_, hsome, t6⟩
      obtain ⟨f6, rfl, hpg, hpf⟩ := hsome _ _ _ FR.out.opn
      have hj6 := hpg.jat
      rw [FR.out.pj] at hj6
      have hbl := blocks_any w6 F p J' hj6 (by omega)
      have hbn : J'.D.blocks = (n - 2) / 2 := by rw [Dk.blocks, hn5]
      rw [hbn] at hbl
      have HBL := Lib.hid hbl
      have HBGN := Lib.hid (rbegun8_any w6 ((n - 2) / 2) (by omega) (by omega))
      have hown : ∀ k, JT F p k → w4.heap.size ≤ k := fun k hk => HLS.out.own k (.inl (.inl hk))
      have hb6 : Below w4.heap.size w4 w6 := (HLS.out.below.trans (HT5.out.below HLS.out.below.size hown)).trans (t6.below (B := w4.heap.size) (Nat.le_trans HLS.out.below.size HT5.out.size) hown)
      have HB6 := Lib.hid hb6
      have HPG := Lib.hid hpg
      have HPF := Lib.hid hpf
      have HOWN := Lib.hid hown
      clear hsome hpg hpf t6 hj6 hbl hbn hb6 hown
      generalize hb9 : (n - 2) / 2 = b at *
      have Hb9 := Lib.hid hb9
      clear hb9
      go_wp2_with fail
      refine HBL.out.mono ?_
      rintro e w9 ⟨rfl, hw9⟩
      rw [← hw9]
      clear hw9 w9
      go_wp2_with fail
      refine HBGN.out.mono ?_
      rintro e w7 ⟨g7, rfl, hrf, hrl, hb7⟩
      have hl7 : LS w4 w7 F p f6 P' g7 (Rp.begun b) := by
        refine ⟨HPG.out.below hb7, hrf, HB6.out.trans (hb7.mono HB6.out.size), fun k hk => ?_, fun k hk e => ?_, nib_lt HN4.out⟩
        · rcases hk with (hk | hk) | hk
          · exact HOWN.out k hk
          · exact Nat.le_trans (Nat.le_trans HLS.out.below.size HT5.out.size) (HPF.out k hk)
          · exact Nat.le_trans HB6.out.size (hrl k hk)
        · have := HPG.out.lt e
          have := hrl k hk
          omega
      have hsm := FR.out.sim
      rw [Hb9.out] at hsm
      have HHA := Lib.hid (has8_any w4 w7 hl7 hsm)
      clear hrf hrl hb7 hl7 hsm
      go_wp2_with fail
      refine HHA.out.mono ?_
      rintro e w8 ⟨rfl, l8⟩
      have HX := Lib.hid (HB4.out.trans (l8.below.mono HB4.out.size))
      clear l8
      go_wp2_with fail
      go_ret
      exact ⟨rfl, HX.out⟩
end Go.Proofs.YtbmmcaoifkboiaaDoor

/- The card of PagerAnew: for every input the law answers true, and what came in reads as it did. -/
set_option linter.unusedVariables false
set_option linter.unusedSimpArgs false
set_option maxRecDepth 100000
namespace Go.Proofs.YtbmmcaoifkboiaaDoor.cardPagerAnew
open Go.ChangeShapes Go.WideShapes Go.ChangeAt Go.RowKit Go.Deep
open Go.ChangeMaps (open_string shut_string)

theorem gTab : Tryd.prog.globalNamed "usance/wire.nibbles" = some 0 := by kernel_rfl
theorem gTabType : (Tryd.prog.globals[0]?).map (·.type) = some 134 := by kernel_rfl
theorem cellsTab : Tryd.prog.cellsOf 134 = 16 := by kernel_rfl
theorem cellsU32 : Tryd.prog.cellsOf 124 = 1 := by kernel_rfl
/-- what the row lists: the table of the sum -/
theorem table {W : World} (h : laidMetH Tryd.prog Rows.pagerAnewRow.laid W) : Nib W := by
  have ht : Lib.TabIs Tryd.prog W "usance/wire.nibbles" .u32 [0, 498536548, 997073096, 651767980, 1994146192, 1802195444, 1303535960, 1342533948, 3988292384, 4027552580, 3604390888, 3412177804, 2607071920, 2262029012, 2685067896, 3183342108] :=
    Lib.tabIs_of_head (rest := []) gTab gTabType Tryd.underlying134 Tryd.underlying124 cellsU32 cellsTab h
  intro i hi
  rw [ht.cell gTab i (by simpa using hi)]
  have e : ∀ i : Fin 16, ([0, 498536548, 997073096, 651767980, 1994146192, 1802195444, 1303535960, 1342533948, 3988292384, 4027552580, 3604390888, 3412177804, 2607071920, 2262029012, 2685067896, 3183342108] : List Int).getD i.val 0 = ((UsCrc.nib.getD i.val 0 : Nat) : Int) := by decide
  rw [e ⟨i, hi⟩]

theorem contract (H : Type) (enc : TypeId × Value → H) (W : World) (base : Nat) (args : Array Value) (ds gs : List (DataW H)) (before : List MemPlace)
    (hval : ∀ (j : Nat) t v, Tryd.f6.params[j]? = some t → args[j]? = some v → Value.okWide Tryd.prog W .any base t v)
    (hW : DataW.Whole enc Tryd.prog Tryd.f6.params.toList Rows.pagerAnewSpec.vars false W args.toList ds gs before) (hL : laidMetH Tryd.prog Rows.pagerAnewRow.laid W)
    (hsz : (DataW.weightsEach Tryd.prog (Tryd.f6.params.toList ++ (OpenSpec.ofChange Rows.pagerAnewSpec).bare.plain.varTypes Tryd.prog) (ds ++ gs)).all (· ≤ reachBytes) = true) :
    Calls Tryd.prog 6 args W fun e W' => ∃ v, e = .returned v ∧ Rows.pagerAnewSpec.post enc Tryd.prog Tryd.f6 false true false false W args v W' := by
  have hW' := hW
  obtain ⟨p, q, hA0, hV, rfl, hfz, hnd⟩ := hW
  have hA : DataW.TrodAll enc Tryd.prog W 0 (fun _ => true) true Tryd.f6.params.toList args.toList ds p := hA0
  rw [Tryd.params6] at hA hval hsz
  obtain ⟨v0, vs0, d0, ds0, p0, q0, hargs, rfl, rfl, h0, r0⟩ := trodAll_cons hA
  obtain ⟨v1, vs1, d1, ds1, p1, q1, rfl, rfl, rfl, h1, r1⟩ := trodAll_cons r0
  obtain ⟨rfl, rfl, rfl⟩ := trodAll_nil r1
  obtain rfl : args = #[v0, v1] := by cases args; simp_all
  obtain ⟨rfl, rfl⟩ := trodVars_none hV
  have k0 := h0
  have lt0 : ∀ x ∈ p0, x.block < W.heap.size := by obtain ⟨m, hm⟩ := k0; exact DataW.trod_lt m _ _ _ hm
  have k1 := h1
  have lt1 : ∀ x ∈ p1, x.block < W.heap.size := by obtain ⟨m, hm⟩ := k1; exact DataW.trod_lt m _ _ _ hm
  simp only [List.append_nil, List.nil_append, List.cons_append] at hsz
  obtain ⟨x0, rfl, rfl, rfl, w0⟩ := open_int Tryd.underlying3 (hval 0 3 v0 rfl rfl) h0
  have b0 := wf_int64 w0
  obtain ⟨xs1, ir1⟩ := open_row rdOpP (by decide) Tryd.underlying22 (hval 1 22 v1 rfl rfl) h1 (light_arg (j := 1) hsz rfl rfl)
  have hnib := table hL
  clear hA0
  refine (anew8_walk W hnib x0 v1 xs1 ir1 b0.1 b0.2).mono fun e W' ⟨he, bel⟩ => ?_
  subst he
  exact ⟨_, rfl, _, _, _, [], _, [], hW', trodAll_mk1 (shut_bool Tryd.underlying4 _), (trodAll_cons_mk (Below.trod laidOut (by kernel_rfl) (of_decide_eq_true (by kernel_rfl)) k0 bel lt0) (trodAll_cons_mk (Below.trod laidOut (by kernel_rfl) (of_decide_eq_true (by kernel_rfl)) k1 bel lt1) trodAll_mk0)), rfl, bel.frame _, fun h => by cases h⟩

/-- a world for the witness: the table as its initialiser lays it -/
noncomputable def laidWorld (os : Os) : World :=
  { World.holding Tryd.prog os ⟨#[], #[], []⟩ with heap := (World.holding Tryd.prog os ⟨#[], #[], []⟩).heap.modify 0 fun
      | .cells _ t frozen => .cells #[.int .u32 0, .int .u32 498536548, .int .u32 997073096, .int .u32 651767980, .int .u32 1994146192, .int .u32 1802195444, .int .u32 1303535960, .int .u32 1342533948, .int .u32 3988292384, .int .u32 4027552580, .int .u32 3604390888, .int .u32 3412177804, .int .u32 2607071920, .int .u32 2262029012, .int .u32 2685067896, .int .u32 3183342108] t frozen
      | o => o }
theorem laid_met (os : Os) : laidMet Tryd.prog Rows.pagerAnewRow.laid ((laidWorld os).forCall (fun _ _ => 0) ⟨#[], #[.int .i64 0, .slice none 0 0], []⟩).memory :=
  laidMet_of_run' 8 (by kernel_rfl) (by kernel_rfl)
theorem reads (os : Os) {H : Type} (enc : TypeId × Value → H) : ∃ places, DataW.whole enc Tryd.prog ((laidWorld os).forCall (fun _ _ => 0) ⟨#[], #[.int .i64 0, .slice none 0 0], []⟩).memory Tryd.f6.params.toList Rows.pagerAnewSpec.vars false (#[.int .i64 0, .slice none 0 0] : Array Value).toList 8 = some ([.lit (.int .i64 0), .nil], [], places) :=
  ⟨[], by kernel_rfl⟩

theorem lifted (os : Os) (started : os.Started) (H : Type) (enc : TypeId × Value → H) (F : Stop.Interp) :
    ReturnsInHanded {} Tryd.checked os 6 .any ((OpenSpec.ofChange Rows.pagerAnewSpec).preRow enc Tryd.prog Tryd.f6 Rows.pagerAnewRow.domain false Rows.pagerAnewRow.laid) (((OpenSpec.ofChange Rows.pagerAnewSpec).at F).post enc Tryd.prog Tryd.f6 false true false false) := by
  obtain ⟨places, hx⟩ := reads os enc
  refine returnsInHanded_of_row (C := Tryd.checked) (s := OpenSpec.ofChange Rows.pagerAnewSpec) own started (by kernel_rfl) Tryd.func6
    (witness_row_at (enc := enc) (C := Tryd.checked) false (laidWorld os) #[.int .i64 0, .slice none 0 0] rfl (by kernel_rfl) (by kernel_rfl) (by kernel_rfl)
      (OpenSpec.preRow_of_cond 8 hx (by kernel_rfl) (fun k hk => by cases hk) (by kernel_rfl) (laid_met os))) ?_
  intro W base args ds gs before hval hW _ hcond hsz hL _ _
  exact contract H enc W base args ds gs before hval hW hL hsz

theorem said : Rows.PagerAnewSaid :=
  OpenClaim.holds_of_cond 6 Tryd.f6 rfl rfl rfl rfl rfl rfl rfl ⟨rfl, rfl, rfl, rfl, rfl⟩ rfl rfl rfl rfl rfl (by kernel_rfl) Tryd.func6 (by kernel_rfl)
    (of_decide_eq_true (by kernel_rfl)) (by unfold Func.isWrapper; first | (rw [if_pos (by decide +kernel)]; kernel_rfl) | (rw [if_neg (by decide +kernel)]; exact ⟨rfl, rfl⟩))
    (fun os started H enc _ F => by rw [OpenClaim.pre_eq_preRow]; exact lifted os started H enc F)

theorem plain (f : FuncId) (fn : Func) (hf : Tryd.pinned.checked.prog.funcNamed "usance/usancelaw08.PagerAnew" = some f) (hfn : Tryd.pinned.checked.prog.funcs[f]? = some fn) :
    false = Tryd.pinned.checked.prog.looks [] ∧ ∀ (j : Nat) t, fn.params[j]? = some t → Tryd.pinned.checked.prog.wantsStandIn t = false := by
  obtain rfl : f = 6 := Option.some.inj ((show Tryd.prog.funcNamed "usance/usancelaw08.PagerAnew" = some 6 by kernel_rfl).symm.trans hf) |>.symm
  obtain rfl : fn = Tryd.f6 := (Option.some.inj (Tryd.func6.symm.trans hfn)).symm
  refine ⟨by kernel_rfl, fun j t ht => ?_⟩
  rw [Tryd.params6] at ht
  have hm := Array.mem_of_getElem? ht
  simp only [List.mem_toArray, List.mem_cons, List.not_mem_nil, or_false] at hm
  rcases hm with rfl | rfl
  · exact (show Tryd.prog.wantsStandIn 3 = false by kernel_rfl)
  · exact (show Tryd.prog.wantsStandIn 22 = false by kernel_rfl)

/-- THE CARD -/
theorem proved : Rows.PagerAnewCardSaid :=
  Claim7.holds_tied_plain_at .later [] _ _ _ _ said (fun _ h => by cases h) (by kernel_rfl) (fun _ h => by cases h) pagerAnew_row_tie rfl ⟨rfl, rfl⟩ (by kernel_rfl) rfl plain (by kernel_rfl)
#print axioms proved
end Go.Proofs.YtbmmcaoifkboiaaDoor.cardPagerAnew
