/- The card CardPagerPlays: for every input the law answers true, and what came in reads as it did; with what it needs ahead. -/
import Derived.Test.YtbmmcaoifkboiaaDoorBase4
import Derived.LoopTactic
import Derived.Test.YtbmmcaoifkboiaaDoorCards
import Derived.Test.YtbmmcaoifkboiaaDoorTie
/- PagerPlays: a pager does just what the document says, call by call, also opened anew. -/
set_option linter.unusedVariables false
set_option linter.unusedSimpArgs false
set_option maxRecDepth 100000
namespace Go.Proofs.YtbmmcaoifkboiaaDoor
open Go.RowKit

set_option maxHeartbeats 16000000 in
theorem plays8_walk (w : World) (hn : Nib w) (sec_ : Int) (v : Value) (xs : List OpP) (hv : IsRow rdOpP w v xs) (h1 : -9223372036854775808 ≤ sec_) (h2 : sec_ ≤ 9223372036854775807) :
    Calls Tryd.prog 5 #[.int .i64 sec_, v] w fun e w' => e = .returned (.bool true) ∧ Below w.heap.size w w' := by
  obtain ⟨a, c, rfl, hc1, hc2⟩ := hv.form
  have hpk := pickN_lt sec_ (n := 300) (by omega)
  obtain ⟨n, hN⟩ : ∃ n, n = 32 + pickN sec_ 300 := ⟨_, rfl⟩
  have hn32 : 32 ≤ n := by omega
  have hn331 : n ≤ 331 := by omega
  have HV := Lib.hid hv
  have HNB := Lib.hid hn
  have HSH := Lib.hid (shown8_any w hn)
  have HN := Lib.hid hN
  obtain ⟨N, hNx⟩ : ∃ N, N = xs.length := ⟨_, rfl⟩
  rw [← hNx] at hc1 ⊢
  have HNX := Lib.hid hNx
  unfold maxLen at hc2
  clear hv hn hpk hN hNx
  go_enter Tryd.func5, Tryd.ntmps5
  go_wp2_with fail
  refine HSH.out.mono ?_
  rintro e w1 ⟨rfl, hb1⟩
  go_wp2_with fail
  refine (none8_any w1).mono ?_
  rintro e w9 ⟨rfl, hw9⟩
  rw [hw9]
  clear hw9 w9
  have HBG := Lib.hid (begun8_any w1 (HNB.out.below hb1) sec_ h1 h2)
  have HB1 := Lib.hid hb1
  clear hb1
  go_wp2_with fail
  refine HBG.out.mono ?_
  rintro e w2 ⟨F, p, f, g, P, R, rfl, hls, hb8⟩
  rw [← HN.out] at hb8
  have HST := Lib.hid (hb8.st hn331)
  have HLS := Lib.hid hls
  obtain ⟨gq, hgq⟩ : ∃ q, q = g.q := ⟨_, rfl⟩
  rw [← hgq]
  have HGQ := Lib.hid hgq.symm
  clear hls hb8 hgq HBG HSH
  go_wp2_with fail
  go_loopw [9, 11] (fun x y wr => ∃ (i : Nat) (f : Pf) (P : Pg) (g : Rf) (R : Rp), i ≤ N ∧ i ≤ 120 ∧ y = .int .i64 (i : Int) ∧ x = qptr f.q ∧ g.q = gq ∧ LS w1 wr F p f P g R ∧ St n i P R) (fun _ y _ => N - (intOf y).toNat)
  case atStart => exact ⟨0, f, P, g, R, Nat.zero_le _, Nat.zero_le _, rfl, rfl, HGQ.out, HLS.out, HST.out⟩
  case round =>
    clear HST HLS HGQ
    obtain ⟨i, f, P, g, R, hi, hi2, rfl, rfl, hgq, hls, hst⟩ := hrel
    have HB := Lib.hid (HB1.out.trans (hls.below.mono HB1.out.size))
    by_cases hlt : i < N
    case neg =>
      obtain rfl : i = N := by omega
      have hdz : decide ((i : Int) < (i : Int)) = false := by simp
      clear hls hst
      go_wp2_with fail
      go_ret
      exact ⟨rfl, HB.out⟩
    have hd1 : decide ((i : Int) < (N : Int)) = true := decide_eq_true (by omega)
    by_cases hlt2 : i < 120
    case neg =>
      have hd2 : decide ((i : Int) < 120) = false := decide_eq_false (by omega)
      clear hls hst
      go_wp2_with fail
      go_ret
      exact ⟨rfl, HB.out⟩
    have hd2 : decide ((i : Int) < 120) = true := decide_eq_true (by omega)
    obtain ⟨ga, o, rfl, k0, k1, k2, ⟨b1, b2⟩, ⟨b3, b4⟩⟩ := op_at8 (HV.out.below HB.out) i (by rw [← HNX.out]; exact hlt)
    generalize (xs[i]'(by rw [← HNX.out]; exact hlt)).kind = kind at *
    generalize (xs[i]'(by rw [← HNX.out]; exact hlt)).page = page at *
    generalize (xs[i]'(by rw [← HNX.out]; exact hlt)).by_ = y at *
    have HPK := Lib.hid (fun W => pick_any W kind 11 b1 b2 (by omega) (by omega))
    have hpl := pickN_lt kind (n := 11) (by omega)
    generalize pickN kind 11 = K at *
    have HLS := Lib.hid hls
    have HST := Lib.hid hst
    have HGQ := Lib.hid hgq
    clear hls hst hgq
    by_cases hK : K = 10
    · subst hK
      go_wp2_with fail
      refine (HPK.out wr).mono ?_
      rintro e w9 ⟨rfl, hw9⟩
      rw [← hw9]
      clear hw9 w9
      obtain ⟨P', po, st'⟩ := HST.out.popen (by omega) HLS.out.rf.n1
      have HOP := Lib.hid (popen_any wr F p P.J HLS.out.pg.jat HLS.out.pg.nib (HST.out.n22 hn32))
      have HPO := Lib.hid po
      have HST2 := Lib.hid st'
      clear po st'
      go_wp2_with fail
      refine HOP.out.mono ?_
      rintro e w3 ⟨_, hsome, t3⟩
      obtain ⟨f3, rfl, hpg, hpf⟩ := hsome _ _ _ HPO.out
      have hl3 := HLS.out.reopen hpg hpf t3
      have HAB := Lib.hid (rabort8_any hl3.rf)
      rw [HGQ.out] at HAB
      have HL3 := Lib.hid hl3
      clear hsome hpg hpf t3 hl3
      go_wp2_with fail
      refine HAB.out.mono ?_
      rintro e w4 ⟨rfl, t4⟩
      obtain ⟨g4, l4, q4⟩ := HL3.out.stepR t4
      have hha : Calls Tryd.prog 24 #[qptr f3.q, qptr g4.q] w4 fun e w' => e = .returned (.bool true) ∧ LS w1 w' F p f3 P' g4 R.abort := by
        obtain ⟨s, B, hs, _⟩ := HST2.out.sim
        exact has8_any w1 w4 l4 hs
      rw [q4, HGQ.out] at hha
      have HHA := Lib.hid hha
      have HQ4 := Lib.hid (q4.trans HGQ.out)
      clear t4 l4 q4 hha
      go_wp2_with fail
      refine HHA.out.mono ?_
      rintro e w5 ⟨rfl, l5⟩
      have HL5 := Lib.hid l5
      clear l5
      go_wp2_with fail
      go_roundw
      case rel => exact ⟨i + 1, f3, P', g4, R.abort, hlt, hlt2, by go_num, rfl, HQ4.out, HL5.out, HST2.out⟩
      case measure => simp [intOf]; omega
    · have hK2 : ((K : Int) == 10) = false := by simp; omega
      go_wp2_with fail
      refine (HPK.out wr).mono ?_
      rintro e w9 ⟨rfl, hw9⟩
      rw [← hw9]
      clear hw9 w9
      obtain ⟨w3, hw3⟩ : ∃ x, x = wr.alloc (opRow8 kind page y) := ⟨_, rfl⟩
      have hb3 : Below wr.heap.size wr w3 := by rw [hw3]; exact (Below.refl _ _).alloc (Nat.le_refl _) _
      have ho3 : w3.heap[wr.heap.size]? = some (opRow8 kind page y) := by rw [hw3]; exact heap_alloc_new wr _
      have HW3 := Lib.hid hw3
      have hl3 := HLS.out.step hb3
      obtain ⟨d0, d1, d2⟩ := op_cells8 ho3
      rw [hw3] at d0 d1 d2
      clear hw3 hb3
      go_wp2_with fail
      rw [← HW3.out]
      refine (HPK.out w3).mono ?_
      rintro e w9 ⟨rfl, hw9⟩
      rw [← hw9]
      clear hw9 w9 d0 d1 d2
      have f0 := frozen_p ho3 0
      have ho4 := head_setCell ho3 (i := 0) (.int .i64 (K : Int))
      have t4 := turned_one w3 wr.heap.size 0 (.int .i64 (K : Int))
      have hl4 := hl3.other t4 (fun k hk => by have := HLS.out.below.size; omega) (fun k hk => ⟨fun e => by have := HLS.out.lt (.inl e); omega, fun e => by have := HLS.out.lt (.inr e); omega⟩)
      obtain ⟨e0, e1, e2⟩ := op_cells8 ho3
      have ho4' : (w3.setCell ⟨wr.heap.size, 0, none⟩ (.int .i64 (K : Int))).heap[wr.heap.size]? = some (opRow8 (K : Int) page y) := ho4
      have HDO := Lib.hid (does8_any hl4 HST.out (by omega) hn32 hn331 (K : Int) page y (by omega) (by omega) b3 b4)
      rw [HGQ.out] at HDO
      clear ho4 t4 hl4 hl3 ho4'
      go_wp2_with fail
      refine HDO.out.mono ?_
      rintro e w5 ⟨rfl, f5, g5, P5, R5, q5, r5, l5, s5⟩
      have hha : Calls Tryd.prog 24 #[qptr f5.q, qptr g5.q] w5 fun e w' => e = .returned (.bool true) ∧ LS w1 w' F p f5 P5 g5 R5 := by
        obtain ⟨s, B, hs, _⟩ := s5.sim
        exact has8_any w1 w5 l5 hs
      rw [q5, r5, HGQ.out] at hha
      have HHA := Lib.hid hha
      have HS5 := Lib.hid s5
      have HQ5 := Lib.hid q5
      have HR5 := Lib.hid (r5.trans HGQ.out)
      clear l5 s5 q5 r5 hha
      go_wp2_with fail
      refine HHA.out.mono ?_
      rintro e w6 ⟨rfl, l6⟩
      have HL6 := Lib.hid l6
      clear l6
      go_wp2_with fail
      go_roundw
      case rel => exact ⟨i + 1, f5, P5, g5, R5, hlt, hlt2, by go_num, by rw [HQ5.out], HR5.out, HL6.out, HS5.out⟩
      case measure => simp [intOf]; omega
end Go.Proofs.YtbmmcaoifkboiaaDoor

/- The card of PagerPlays: for every input the law answers true, and what came in reads as it did. -/
set_option linter.unusedVariables false
set_option linter.unusedSimpArgs false
set_option maxRecDepth 100000
namespace Go.Proofs.YtbmmcaoifkboiaaDoor.cardPagerPlays
open Go.ChangeShapes Go.WideShapes Go.ChangeAt Go.RowKit Go.Deep
open Go.ChangeMaps (open_string shut_string)

theorem gTab : Tryd.prog.globalNamed "usance/wire.nibbles" = some 0 := by kernel_rfl
theorem gTabType : (Tryd.prog.globals[0]?).map (·.type) = some 134 := by kernel_rfl
theorem cellsTab : Tryd.prog.cellsOf 134 = 16 := by kernel_rfl
theorem cellsU32 : Tryd.prog.cellsOf 124 = 1 := by kernel_rfl
/-- what the row lists: the table of the sum -/
theorem table {W : World} (h : laidMetH Tryd.prog Rows.pagerPlaysRow.laid W) : Nib W := by
  have ht : Lib.TabIs Tryd.prog W "usance/wire.nibbles" .u32 [0, 498536548, 997073096, 651767980, 1994146192, 1802195444, 1303535960, 1342533948, 3988292384, 4027552580, 3604390888, 3412177804, 2607071920, 2262029012, 2685067896, 3183342108] :=
    Lib.tabIs_of_head (rest := []) gTab gTabType Tryd.underlying134 Tryd.underlying124 cellsU32 cellsTab h
  intro i hi
  rw [ht.cell gTab i (by simpa using hi)]
  have e : ∀ i : Fin 16, ([0, 498536548, 997073096, 651767980, 1994146192, 1802195444, 1303535960, 1342533948, 3988292384, 4027552580, 3604390888, 3412177804, 2607071920, 2262029012, 2685067896, 3183342108] : List Int).getD i.val 0 = ((UsCrc.nib.getD i.val 0 : Nat) : Int) := by decide
  rw [e ⟨i, hi⟩]

theorem contract (H : Type) (enc : TypeId × Value → H) (W : World) (base : Nat) (args : Array Value) (ds gs : List (DataW H)) (before : List MemPlace)
    (hval : ∀ (j : Nat) t v, Tryd.f5.params[j]? = some t → args[j]? = some v → Value.okWide Tryd.prog W .any base t v)
    (hW : DataW.Whole enc Tryd.prog Tryd.f5.params.toList Rows.pagerPlaysSpec.vars false W args.toList ds gs before) (hL : laidMetH Tryd.prog Rows.pagerPlaysRow.laid W)
    (hsz : (DataW.weightsEach Tryd.prog (Tryd.f5.params.toList ++ (OpenSpec.ofChange Rows.pagerPlaysSpec).bare.plain.varTypes Tryd.prog) (ds ++ gs)).all (· ≤ reachBytes) = true) :
    Calls Tryd.prog 5 args W fun e W' => ∃ v, e = .returned v ∧ Rows.pagerPlaysSpec.post enc Tryd.prog Tryd.f5 false true false false W args v W' := by
  have hW' := hW
  obtain ⟨p, q, hA0, hV, rfl, hfz, hnd⟩ := hW
  have hA : DataW.TrodAll enc Tryd.prog W 0 (fun _ => true) true Tryd.f5.params.toList args.toList ds p := hA0
  rw [Tryd.params5] at hA hval hsz
  obtain ⟨v0, vs0, d0, ds0, p0, q0, hargs, rfl, rfl, h0, r0⟩ := trodAll_cons hA
  obtain ⟨v1, vs1, d1, ds1, p1, q1, rfl, rfl, rfl, h1, r1⟩ := trodAll_cons r0
  obtain ⟨rfl, rfl, rfl⟩ := trodAll_nil r1
  obtain rfl : args = #[v0, v1] := by cases args; simp_all
  obtain ⟨rfl, rfl⟩ := trodVars_none hV
  have k0 := h0
  have lt0 : ∀ x ∈ p0, x.block < W.heap.size := by obtain ⟨m, hm⟩ := k0; exact DataW.trod_lt m _ _ _ hm
  have k1 := h1
  have lt1 : ∀ x ∈ p1, x.block < W.heap.size := by obtain ⟨m, hm⟩ := k1; exact DataW.trod_lt m _ _ _ hm
  simp only [List.append_nil, List.nil_append, List.cons_append] at hsz
  obtain ⟨x0, rfl, rfl, rfl, w0⟩ := open_int Tryd.underlying3 (hval 0 3 v0 rfl rfl) h0
  have b0 := wf_int64 w0
  obtain ⟨xs1, ir1⟩ := open_row rdOpP (by decide) Tryd.underlying22 (hval 1 22 v1 rfl rfl) h1 (light_arg (j := 1) hsz rfl rfl)
  have hnib := table hL
  clear hA0
  refine (plays8_walk W hnib x0 v1 xs1 ir1 b0.1 b0.2).mono fun e W' ⟨he, bel⟩ => ?_
  subst he
  exact ⟨_, rfl, _, _, _, [], _, [], hW', trodAll_mk1 (shut_bool Tryd.underlying4 _), (trodAll_cons_mk (Below.trod laidOut (by kernel_rfl) (of_decide_eq_true (by kernel_rfl)) k0 bel lt0) (trodAll_cons_mk (Below.trod laidOut (by kernel_rfl) (of_decide_eq_true (by kernel_rfl)) k1 bel lt1) trodAll_mk0)), rfl, bel.frame _, fun h => by cases h⟩

/-- a world for the witness: the table as its initialiser lays it -/
noncomputable def laidWorld (os : Os) : World :=
  { World.holding Tryd.prog os ⟨#[], #[], []⟩ with heap := (World.holding Tryd.prog os ⟨#[], #[], []⟩).heap.modify 0 fun
      | .cells _ t frozen => .cells #[.int .u32 0, .int .u32 498536548, .int .u32 997073096, .int .u32 651767980, .int .u32 1994146192, .int .u32 1802195444, .int .u32 1303535960, .int .u32 1342533948, .int .u32 3988292384, .int .u32 4027552580, .int .u32 3604390888, .int .u32 3412177804, .int .u32 2607071920, .int .u32 2262029012, .int .u32 2685067896, .int .u32 3183342108] t frozen
      | o => o }
theorem laid_met (os : Os) : laidMet Tryd.prog Rows.pagerPlaysRow.laid ((laidWorld os).forCall (fun _ _ => 0) ⟨#[], #[.int .i64 0, .slice none 0 0], []⟩).memory :=
  laidMet_of_run' 8 (by kernel_rfl) (by kernel_rfl)
theorem reads (os : Os) {H : Type} (enc : TypeId × Value → H) : ∃ places, DataW.whole enc Tryd.prog ((laidWorld os).forCall (fun _ _ => 0) ⟨#[], #[.int .i64 0, .slice none 0 0], []⟩).memory Tryd.f5.params.toList Rows.pagerPlaysSpec.vars false (#[.int .i64 0, .slice none 0 0] : Array Value).toList 8 = some ([.lit (.int .i64 0), .nil], [], places) :=
  ⟨[], by kernel_rfl⟩

theorem lifted (os : Os) (started : os.Started) (H : Type) (enc : TypeId × Value → H) (F : Stop.Interp) :
    ReturnsInHanded {} Tryd.checked os 5 .any ((OpenSpec.ofChange Rows.pagerPlaysSpec).preRow enc Tryd.prog Tryd.f5 Rows.pagerPlaysRow.domain false Rows.pagerPlaysRow.laid) (((OpenSpec.ofChange Rows.pagerPlaysSpec).at F).post enc Tryd.prog Tryd.f5 false true false false) := by
  obtain ⟨places, hx⟩ := reads os enc
  refine returnsInHanded_of_row (C := Tryd.checked) (s := OpenSpec.ofChange Rows.pagerPlaysSpec) own started (by kernel_rfl) Tryd.func5
    (witness_row_at (enc := enc) (C := Tryd.checked) false (laidWorld os) #[.int .i64 0, .slice none 0 0] rfl (by kernel_rfl) (by kernel_rfl) (by kernel_rfl)
      (OpenSpec.preRow_of_cond 8 hx (by kernel_rfl) (fun k hk => by cases hk) (by kernel_rfl) (laid_met os))) ?_
  intro W base args ds gs before hval hW _ hcond hsz hL _ _
  exact contract H enc W base args ds gs before hval hW hL hsz

theorem said : Rows.PagerPlaysSaid :=
  OpenClaim.holds_of_cond 5 Tryd.f5 rfl rfl rfl rfl rfl rfl rfl ⟨rfl, rfl, rfl, rfl, rfl⟩ rfl rfl rfl rfl rfl (by kernel_rfl) Tryd.func5 (by kernel_rfl)
    (of_decide_eq_true (by kernel_rfl)) (by unfold Func.isWrapper; first | (rw [if_pos (by decide +kernel)]; kernel_rfl) | (rw [if_neg (by decide +kernel)]; exact ⟨rfl, rfl⟩))
    (fun os started H enc _ F => by rw [OpenClaim.pre_eq_preRow]; exact lifted os started H enc F)

theorem plain (f : FuncId) (fn : Func) (hf : Tryd.pinned.checked.prog.funcNamed "usance/usancelaw08.PagerPlays" = some f) (hfn : Tryd.pinned.checked.prog.funcs[f]? = some fn) :
    false = Tryd.pinned.checked.prog.looks [] ∧ ∀ (j : Nat) t, fn.params[j]? = some t → Tryd.pinned.checked.prog.wantsStandIn t = false := by
  obtain rfl : f = 5 := Option.some.inj ((show Tryd.prog.funcNamed "usance/usancelaw08.PagerPlays" = some 5 by kernel_rfl).symm.trans hf) |>.symm
  obtain rfl : fn = Tryd.f5 := (Option.some.inj (Tryd.func5.symm.trans hfn)).symm
  refine ⟨by kernel_rfl, fun j t ht => ?_⟩
  rw [Tryd.params5] at ht
  have hm := Array.mem_of_getElem? ht
  simp only [List.mem_toArray, List.mem_cons, List.not_mem_nil, or_false] at hm
  rcases hm with rfl | rfl
  · exact (show Tryd.prog.wantsStandIn 3 = false by kernel_rfl)
  · exact (show Tryd.prog.wantsStandIn 22 = false by kernel_rfl)

/-- THE CARD -/
theorem proved : Rows.PagerPlaysCardSaid :=
  Claim7.holds_tied_plain_at .later [] _ _ _ _ said (fun _ h => by cases h) (by kernel_rfl) (fun _ h => by cases h) pagerPlays_row_tie rfl ⟨rfl, rfl⟩ (by kernel_rfl) rfl plain (by kernel_rfl)
#print axioms proved
end Go.Proofs.YtbmmcaoifkboiaaDoor.cardPagerPlays
