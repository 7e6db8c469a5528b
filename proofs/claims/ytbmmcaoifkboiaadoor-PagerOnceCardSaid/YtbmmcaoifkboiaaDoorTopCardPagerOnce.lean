/- The card CardPagerOnce: for every input the law answers true, and what came in reads as it did; with what it needs ahead. -/
import Derived.Test.YtbmmcaoifkboiaaDoorBase4
import Derived.LoopTactic
import Derived.Test.YtbmmcaoifkboiaaDoorCards
import Derived.Test.YtbmmcaoifkboiaaDoorTie
/- Pages that are mine: as rows in memory beside two pagers; in plain lists. -/
set_option linter.unusedVariables false
set_option linter.unusedSimpArgs false
set_option maxRecDepth 100000
namespace Go.Proofs.YtbmmcaoifkboiaaDoor
open Go.RowKit

/-- a row of ints of one's own, apart from both pagers -/
structure RowA (w : World) (F : Ft) (p : Nat) (f : Pf) (g : Rf) (v : Value) (l : List Int) : Prop where
  row : MineI 0 w v l
  apart : ∀ k, v.ownBlock = some k → ¬ PJ F p f k ∧ ¬ RT8 g k
section
variable {w0 w w' : World} {F : Ft} {p : Nat} {f f' : Pf} {P : Pg} {g : Rf} {R : Rp} {v u : Value} {l m : List Int}
theorem RowA.nil (w : World) (F : Ft) (p : Nat) (f : Pf) (g : Rf) : RowA w F p f g (.slice none 0 0) [] := ⟨MineI.nil 0 w, fun k e => by cases e⟩
theorem RowA.lt (h : RowA w F p f g v l) {k : Nat} (hk : v.ownBlock = some k) : k < w.heap.size := by
  obtain ⟨_, c, hc⟩ := own_lt h.row hk.symm
  exact lt_of_heap hc
theorem RowA.stepT (h : RowA w F p f g v l) (c : ∀ k, PT f' k → PT f k ∨ w.heap.size ≤ k) (d : Turned (PJ F p f) w w') : RowA w' F p f' g v l := by
  refine ⟨own_keep1 h.row fun k hk => d.block k (h.lt hk) (h.apart k hk).1, fun k hk => ⟨fun e => ?_, (h.apart k hk).2⟩⟩
  rcases e with e | e
  · exact (h.apart k hk).1 (.inl e)
  · rcases c k e with e | e
    · exact (h.apart k hk).1 (.inr e)
    · have := h.lt hk
      omega
theorem RowA.other {T : Nat → Prop} (h : RowA w F p f g v l) (ht : Turned T w w') (hT : ∀ k, v.ownBlock = some k → ¬ T k) : RowA w' F p f g v l := ⟨own_keep1 h.row fun k hk => ht.block k (h.lt hk) (hT k hk), h.apart⟩
theorem RowA.below (h : RowA w F p f g v l) (hb : Below w.heap.size w w') : RowA w' F p f g v l := ⟨own_keep1 h.row fun k hk => hb.block k (h.lt hk), h.apart⟩
/-- what two rows and the pagers are behind an append onto the first -/
theorem RowA.grown (h : RowA w F p f g v l) (hl : LS w0 w F p f P g R) (hu : IsI w u m) (hL : l.length + m.length ≤ 100000) (h0 : ∀ k, v.ownBlock = some k → w0.heap.size ≤ k) :
    ∃ v' w', (Builtin.append_ #[30, 30] 30 #[v, u]).run Tryd.prog w = .ok v' w' ∧ RowA w' F p f g v' (l ++ m) ∧ LS w0 w' F p f P g R ∧ (∀ k, v'.ownBlock = some k → v.ownBlock = some k ∨ w.heap.size ≤ k) ∧ Turned (fun k => v.ownBlock = some k) w w' := by
  obtain ⟨v', w', hr, hm, hb, hg, _, ho⟩ := run_ints w 0 v l h.row u m hu (by omega) (Nat.zero_le _)
  have ht : Turned (fun k => v.ownBlock = some k) w w' := ⟨hg.os, hg.tape, hg.output, hg.size, fun k hk hn => hg.block k hk fun e => hn e.symm⟩
  have ho' : ∀ k, v'.ownBlock = some k → v.ownBlock = some k ∨ w.heap.size ≤ k := fun k hk => by
    rcases ho with e | e
    · exact .inl (by rw [← e]; exact hk)
    · rw [e] at hk
      simp only [Option.some.injEq] at hk
      exact .inr (by omega)
  refine ⟨v', w', hr, ⟨hm, fun k hk => ?_⟩, hl.other ht h0 fun k hk => h.apart k hk, ho', ht⟩
  rcases ho' k hk with e | e
  · exact h.apart k e
  · exact ⟨fun e2 => by have := hl.lt (.inl e2); omega, fun e2 => by have := hl.lt (.inr e2); omega⟩
end
/-- the numbers l are just the pages that are taken, each once -/
def OwnL (l : List Int) (pages : List (Option (List UInt8))) : Prop := l.Nodup ∧ ∀ k : Int, k ∈ l ↔ 0 ≤ k ∧ ∃ b, pages[k.toNat]? = some (some b)
theorem OwnL.empty (m : Nat) : OwnL [] (List.replicate m none) := by
  refine ⟨List.nodup_nil, fun k => ⟨fun h => (by cases h), fun ⟨_, b, h⟩ => ?_⟩⟩
  rw [List.getElem?_replicate] at h
  split at h <;> simp at h
theorem OwnL.put {l : List Int} {pages : List (Option (List UInt8))} (h : OwnL l pages) (k : Nat) (hk : k < pages.length) (hn : pages[k]? = some none) (b : List UInt8) : OwnL (l ++ [(k : Int)]) (pages.set k (some b)) := by
  have hnl : (k : Int) ∉ l := fun e => by
    obtain ⟨_, c, hc⟩ := (h.2 k).1 e
    rw [Int.toNat_natCast, hn] at hc
    simp at hc
  refine ⟨List.nodup_append.2 ⟨h.1, by simp, fun a ha c hc e => by
    rw [List.mem_singleton.1 hc] at e
    exact hnl (e ▸ ha)⟩, fun j => ?_⟩
  rw [List.mem_append, List.mem_singleton, List.getElem?_set]
  constructor
  · rintro (hj | rfl)
    · obtain ⟨a, c, hc⟩ := (h.2 j).1 hj
      refine ⟨a, c, ?_⟩
      rw [if_neg (fun e => hnl (by have : j = (k : Int) := by omega
                                   exact this ▸ hj))]
      exact hc
    · exact ⟨by omega, b, by rw [Int.toNat_natCast, if_pos rfl, if_pos hk]⟩
  · rintro ⟨a, c, hc⟩
    by_cases e : k = j.toNat
    · exact .inr (by omega)
    · rw [if_neg e] at hc
      exact .inl ((h.2 j).2 ⟨a, c, hc⟩)
theorem OwnL.del {l : List Int} {pages : List (Option (List UInt8))} (h : OwnL l pages) (i : Nat) (hi : i < l.length) : OwnL (l.take i ++ l.drop (i + 1)) (pages.set l[i].toNat none) := by
  have he : l.take i ++ l.drop (i + 1) = l.eraseIdx i := (List.eraseIdx_eq_take_drop_succ ..).symm
  rw [he]
  have hmem : ∀ j : Int, j ∈ l.eraseIdx i ↔ j ≠ l[i] ∧ j ∈ l := fun j => by
    rw [List.mem_eraseIdx_iff_getElem?]
    constructor
    · rintro ⟨q, hq, hj⟩
      refine ⟨fun e => ?_, List.mem_of_getElem? hj⟩
      have h1 : l[i]? = some j := by rw [e]; exact List.getElem?_eq_getElem hi
      have hql : q < l.length := (List.getElem?_eq_some_iff.1 hj).1
      exact hq ((List.getElem?_inj hql h.1).1 (hj.trans h1.symm))
    · rintro ⟨hne, hj⟩
      obtain ⟨q, hq, rfl⟩ := List.getElem_of_mem hj
      exact ⟨q, fun e => hne (by subst e; rfl), List.getElem?_eq_getElem hq⟩
  refine ⟨h.1.sublist (List.eraseIdx_sublist ..), fun j => ?_⟩
  rw [hmem, h.2 j, List.getElem?_set]
  obtain ⟨a0, b0, _⟩ := (h.2 l[i]).1 (List.getElem_mem hi)
  constructor
  · rintro ⟨hne, a, b, hb⟩
    exact ⟨a, b, by rw [if_neg (fun e => hne (by omega))]; exact hb⟩
  · rintro ⟨a, b, hb⟩
    by_cases e : l[i].toNat = j.toNat
    · rw [if_pos e] at hb
      split at hb <;> simp at hb
    · rw [if_neg e] at hb
      exact ⟨fun e2 => e (by rw [e2]), a, b, hb⟩
theorem takenN_count : ∀ (pages : List (Option (List UInt8))), freeRN pages + pages.countP (fun x => x.isSome) = pages.length
  | [] => rfl
  | x :: r => by
    have ih := takenN_count r
    unfold freeRN at ih ⊢
    cases x <;> simp [List.countP_cons] <;> omega
theorem OwnL.count : ∀ (pages : List (Option (List UInt8))) (l : List Int), OwnL l pages → l.length = pages.countP (fun x => x.isSome) := by
  intro pages l h
  have hp : l.Perm (((List.range pages.length).filter fun i => (pages.getD i none).isSome).map fun (i : Nat) => (i : Int)) := by
    refine (List.perm_ext_iff_of_nodup h.1 ?_).2 fun k => ?_
    · rw [List.Nodup, List.pairwise_map]
      exact ((List.nodup_range (n := pages.length)).filter _).imp fun hne e => hne (by omega)
    · rw [h.2 k, List.mem_map]
      constructor
      · rintro ⟨a, b, hb⟩
        refine ⟨k.toNat, List.mem_filter.2 ⟨List.mem_range.2 (List.getElem?_eq_some_iff.1 hb).1, by rw [List.getD_eq_getElem?_getD, hb]; rfl⟩, by omega⟩
      · rintro ⟨i, hi, rfl⟩
        obtain ⟨h1, h2⟩ := List.mem_filter.1 hi
        have h3 := List.mem_range.1 h1
        refine ⟨by omega, ?_⟩
        rw [Int.toNat_natCast]
        rw [List.getD_eq_getElem?_getD, List.getElem?_eq_getElem h3, Option.getD_some] at h2
        rw [List.getElem?_eq_getElem h3]
        exact ⟨_, congrArg some (Option.some_get h2).symm⟩
  rw [hp.length_eq, List.length_map]
  clear hp h
  have e : pages = (List.range pages.length).map fun i => pages.getD i none := by
    apply List.ext_getElem?
    intro j
    rw [List.getElem?_map]
    by_cases hj : j < pages.length
    · rw [List.getElem?_range hj, Option.map_some, List.getD_eq_getElem?_getD, List.getElem?_eq_getElem hj]
      rfl
    · rw [List.getElem?_eq_none (by omega), List.getElem?_eq_none (by simpa using hj)]
      rfl
  conv => rhs; rw [e]
  rw [List.countP_map, List.countP_eq_length_filter]
  rfl
end Go.Proofs.YtbmmcaoifkboiaaDoor

/- PagerOnce: what is allocated is nobody else's till it is given back. -/
set_option linter.unusedVariables false
set_option linter.unusedSimpArgs false
set_option maxRecDepth 100000
namespace Go.Proofs.YtbmmcaoifkboiaaDoor
open Go.RowKit

/-- between two rounds -/
structure OnceI (w1 w : World) (F : Ft) (p : Nat) (f : Pf) (P : Pg) (g : Rf) (R0 : Rp) (n i : Nat) (R : Rp) (vm : Value) (lm : List Int) (vk : Value) (lk : List Int) : Prop where
  ls : LS w1 w F p f P g R0
  st : St n i P R
  rm : RowA w F p f g vm lm
  rk : RowA w F p f g vk lk
  am : ∀ k, vm.ownBlock = some k → w1.heap.size ≤ k
  ak : ∀ k, vk.ownBlock = some k → w1.heap.size ≤ k
  ne : ∀ k, vm.ownBlock = some k → vk.ownBlock ≠ some k
  om : OwnL lm R.pages
  ok : OwnL lk R.was
  r0 : R.root = -1
  s0 : R.wroot = -1
section
variable {w1 w w' : World} {F : Ft} {p : Nat} {f : Pf} {P P' : Pg} {g : Rf} {R0 R R' : Rp} {n i : Nat} {vm vk : Value} {lm lk : List Int}
/-- a call of the pager's -/
theorem OnceI.step (h : OnceI w1 w F p f P g R0 n i R vm lm vk lk) (ht : PgTo w F p f w' P') (hs : St n (i + 1) P' R') : ∃ f', f'.q = f.q ∧ LS w1 w' F p f' P' g R0 ∧ RowA w' F p f' g vm lm ∧ RowA w' F p f' g vk lk ∧ St n (i + 1) P' R' := by
  obtain ⟨f', a, b, c, d⟩ := ht
  exact ⟨f', b, h.ls.stepT a c d, h.rm.stepT c d, h.rk.stepT c d, hs⟩
theorem OnceI.sum (h : OnceI w1 w F p f P g R0 n i R vm lm vk lk) (hn2 : n ≤ 331) : freeN P.now + lm.length = P.now.length ∧ lm.length ≤ 20 ∧ lk.length ≤ 20 ∧ P.now.length ≤ 20 := by
  obtain ⟨s, B, hs, _⟩ := h.st.sim
  have h1 := OwnL.count _ _ h.om
  have h2 := takenN_count R.pages
  have h3 := hs.free_eq
  have h4 := hs.nlen
  have h5 := OwnL.count _ _ h.ok
  have h6 := takenN_count R.was
  have h7 := hs.lenw
  have h8 := hs.len
  omega
theorem IsI.front {w : World} {a : Option Addr} {n cap : Nat} {l : List Int} (h : IsI w (.slice a n cap) l) (m : Nat) (hm : m ≤ l.length) : IsI w (.slice a m cap) (l.take m) := by
  obtain ⟨a', cap', hv, h1, h2, h3, h4⟩ := h
  simp only [Value.slice.injEq] at hv
  obtain ⟨rfl, _, rfl⟩ := hv
  have hl : (l.take m).length = m := by rw [List.length_take]; omega
  refine ⟨a, cap, by rw [hl], by omega, h2, h3, fun x hx => ?_⟩
  obtain ⟨k1, k2⟩ := h4 x hx
  refine ⟨fun hp => k1 (by rw [hl] at hp; omega), fun i hi => ?_⟩
  rw [hl] at hi
  rw [List.getElem_take]
  exact k2 i (by omega)
theorem freeR_zero {l : List (Option (List UInt8))} (h : freeR l = none) : freeRN l = 0 := by
  rw [freeRN, List.countP_eq_zero]
  intro x hx
  have := List.findIdx?_eq_none_iff.1 h x hx
  simp [this]
theorem freeR_pos {l : List (Option (List UInt8))} {k : Nat} (h : freeR l = some k) : 0 < freeRN l ∧ k < l.length ∧ l[k]? = some none := by
  obtain ⟨hk, h1, _⟩ := List.findIdx?_eq_some_iff_getElem.1 h
  have h2 : l[k] = none := by simpa using h1
  refine ⟨?_, hk, by rw [List.getElem?_eq_getElem hk, h2]⟩
  rw [freeRN, List.countP_pos_iff]
  exact ⟨l[k], List.getElem_mem hk, by rw [h2]; rfl⟩
end
set_option maxHeartbeats 16000000 in
theorem once8_walk (w : World) (hn : Nib w) (sec_ : Int) (v : Value) (xs : List OpP) (hv : IsRow rdOpP w v xs) (h1 : -9223372036854775808 ≤ sec_) (h2 : sec_ ≤ 9223372036854775807) :
    Calls Tryd.prog 3 #[.int .i64 sec_, v] w fun e w' => e = .returned (.bool true) ∧ Below w.heap.size w w' := by
  obtain ⟨a, c, rfl, hc1, hc2⟩ := hv.form
  have hpk := pickN_lt sec_ (n := 300) (by omega)
  obtain ⟨n, hN⟩ : ∃ n, n = 32 + pickN sec_ 300 := ⟨_, rfl⟩
  have hn32 : 32 ≤ n := by omega
  have hn331 : n ≤ 331 := by omega
  have HV := Lib.hid hv
  have HNB := Lib.hid hn
  have HSH := Lib.hid (shown8_any w hn)
  have HN := Lib.hid hN
  obtain ⟨N, hNx⟩ : ∃ N, N = xs.length := ⟨_, rfl⟩
  rw [← hNx] at hc1 ⊢
  have HNX := Lib.hid hNx
  unfold maxLen at hc2
  clear hv hn hpk hN hNx
  go_enter Tryd.func3, Tryd.ntmps3
  go_wp2_with fail
  refine HSH.out.mono ?_
  rintro e w1 ⟨rfl, hb1⟩
  have HBG := Lib.hid (begun8_any w1 (HNB.out.below hb1) sec_ h1 h2)
  have HB1 := Lib.hid hb1
  clear hb1
  go_wp2_with fail
  refine HBG.out.mono ?_
  rintro e w2 ⟨F, p, f, g, P, R0, rfl, hls, hb8⟩
  rw [← HN.out] at hb8
  obtain ⟨fq, hfq⟩ : ∃ q, q = f.q := ⟨_, rfl⟩
  rw [← hfq]
  have HFQ := Lib.hid hfq.symm
  have HI0 : Hid (OnceI w1 w2 F p f P g R0 n 0 R0 (.slice none 0 0) [] (.slice none 0 0) []) := Lib.hid (by
    have hb := hb8.rb
    exact ⟨hls, hb8.st hn331, RowA.nil .., RowA.nil .., fun k e => (by cases e), fun k e => (by cases e), fun k e => (by cases e), by rw [hb]; exact OwnL.empty _, by rw [hb]; exact OwnL.empty _, by rw [hb]; rfl, by rw [hb]; rfl⟩)
  clear hls hb8 hfq HBG HSH
  go_wp2_with fail
  go_loopw [10, 11, 12] (fun vm vk y wr => ∃ (i : Nat) (f : Pf) (P : Pg) (R : Rp) (lm lk : List Int), i ≤ N ∧ i ≤ 120 ∧ y = .int .i64 (i : Int) ∧ f.q = fq ∧ OnceI w1 wr F p f P g R0 n i R vm lm vk lk) (fun _ _ y _ => N - (intOf y).toNat)
  case atStart => exact ⟨0, f, P, R0, [], [], Nat.zero_le _, Nat.zero_le _, rfl, HFQ.out, HI0.out⟩
  case round =>
    clear HI0 HFQ
    obtain ⟨i, f, P, R, lm, lk, hi, hi2, rfl, hfq, hI⟩ := hrel
    have HB := Lib.hid (HB1.out.trans (hI.ls.below.mono HB1.out.size))
    by_cases hlt : i < N
    case neg =>
      obtain rfl : i = N := by omega
      have hdz : decide ((i : Int) < (i : Int)) = false := by simp
      clear hI
      go_wp2_with fail
      go_ret
      exact ⟨rfl, HB.out⟩
    have hd1 : decide ((i : Int) < (N : Int)) = true := decide_eq_true (by omega)
    by_cases hlt2 : i < 120
    case neg =>
      have hd2 : decide ((i : Int) < 120) = false := decide_eq_false (by omega)
      clear hI
      go_wp2_with fail
      go_ret
      exact ⟨rfl, HB.out⟩
    have hd2 : decide ((i : Int) < 120) = true := decide_eq_true (by omega)
    obtain ⟨ga, o, rfl, k0, k1, k2, ⟨b1, b2⟩, ⟨b3, b4⟩⟩ := op_at8 (HV.out.below HB.out) i (by rw [← HNX.out]; exact hlt)
    generalize (xs[i]'(by rw [← HNX.out]; exact hlt)).kind = kind at *
    generalize (xs[i]'(by rw [← HNX.out]; exact hlt)).page = page at *
    have HPK := Lib.hid (fun W => pick_any W kind 5 b1 b2 (by omega) (by omega))
    have hpl := pickN_lt kind (n := 5) (by omega)
    obtain ⟨am, cm, rfl, hcm1, hcm2⟩ := hI.rm.row.form
    obtain ⟨ak, ck, rfl, hck1, hck2⟩ := hI.rk.row.form
    have hsum := hI.sum hn331
    obtain ⟨sq, Bq, hsim, hsq1, hsq2⟩ := hI.st.sim
    have HSIM := Lib.hid hsim
    have HI := Lib.hid hI
    have HFQ := Lib.hid hfq
    clear hI hfq hsim
    rcases (show pickN kind 5 = 3 ∨ pickN kind 5 = 4 ∨ pickN kind 5 = 2 ∨ pickN kind 5 = 0 ∨ pickN kind 5 = 1 by omega) with hK | hK | hK | hK | hK
    all_goals
      rw [hK] at HPK
      clear hK hpl
      go_wp2_with fail
      refine (HPK.out wr).mono ?_
      rintro e w9 ⟨rfl, hw9⟩
      rw [← hw9]
      clear hw9 w9
    · -- Commit
      obtain ⟨e0, hst⟩ := HI.out.st.commit (by omega) hn331 (by omega)
      have hsq : P.J.seq = sq := HSIM.out.live.hseq
      have hlst := HI.out.st.last
      have HA := Lib.hid (commit_any HI.out.ls.pg (by omega) (by omega) (by omega))
      rw [e0, HFQ.out] at HA
      have HST := Lib.hid hst
      clear e0 hst hsq hlst
      go_wp2_with fail
      refine HA.out.mono ?_
      rintro e w3 ⟨rfl, ht3⟩
      obtain ⟨f3, q3, l3, m3, k3, s3⟩ := HI.out.step ht3 HST.out
      obtain ⟨v4, w4, hr4, m4, l4, n4, t4⟩ := (RowA.nil w3 F p f3 g).grown l3 m3.row.isI (by simp; omega) (fun k e => by cases e)
      rw [List.nil_append] at m4
      have hn4 : ∀ k, v4.ownBlock = some k → w3.heap.size ≤ k := fun k hk => (n4 k hk).elim (fun e => by cases e) id
      have m34 := m3.other t4 fun k hk e => by cases e
      have h6 : OnceI w1 w4 F p f3 P.commit.2 g R0 n (i + 1) R.commit (.slice am lm.length cm) lm v4 lm := ⟨l4, s3, m34, m4, HI.out.am, fun k hk => Nat.le_trans l3.below.size (hn4 k hk), fun k hk e => by have := m3.lt hk; have := hn4 k e; omega, HI.out.om, HI.out.om, HI.out.r0, HI.out.r0⟩
      have q6 : f3.q = fq := q3.trans HFQ.out
      obtain ⟨a4, c4, rfl, _, _⟩ := m4.row.form
      clear m3 k3 l3 s3 ht3 m4 l4 n4 t4 hn4 m34
      go_wp2_with (at_builtin; refine wpList_append_run rfl (.const (.slice none 0 0)) (.tmp 119) 30 30 rfl _ _ _ rfl rfl hr4 ?_; clear hr4)
      have hsum := h6.sum hn331
      have HLF := Lib.hid (left_any h6.ls.pg)
      have HPG := Lib.hid (pages_any h6.ls.pg)
      rw [q6] at HLF HPG
      have H6 := Lib.hid h6
      have Q6 := Lib.hid q6
      clear h6 q6
      generalize freeN P.commit.2.now = fr6 at *
      generalize P.commit.2.now.length = pl6 at *
      have hw6 : IntKind.i64.wrap ((fr6 : Int) + (lm.length : Int)) = (pl6 : Int) := by rw [IntWalk.i64_in _ (by omega)]; omega
      have hx6 : ((pl6 : Int) != (pl6 : Int)) = false := by simp
      clear hsum
      go_wp2_with (first
        | (go_at_call 11; refine HLF.out.mono ?_; rintro e w9 ⟨rfl, hw9⟩; rw [hw9]; clear hw9 w9)
        | (go_at_call 16; refine HPG.out.mono ?_; rintro e w9 ⟨rfl, hw9⟩; rw [hw9]; clear hw9 w9))
      go_roundw
      case rel => exact ⟨i + 1, _, _, _, _, _, hlt, hlt2, by go_num, Q6.out, H6.out⟩
      case measure => simp [intOf]; omega
    · -- Abort
      have HST := Lib.hid (HI.out.st.of (P' := P.abort) (R' := R.abort) (by unfold Pg.abort; split <;> rfl) fun s B a => a.abort)
      have HA := Lib.hid (abort_any HI.out.ls.pg)
      rw [HFQ.out] at HA
      go_wp2_with fail
      refine HA.out.mono ?_
      rintro e w3 ⟨rfl, ht3⟩
      obtain ⟨f3, q3, l3, m3, k3, s3⟩ := HI.out.step ht3 HST.out
      obtain ⟨v4, w4, hr4, m4, l4, n4, t4⟩ := (RowA.nil w3 F p f3 g).grown l3 k3.row.isI (by simp; omega) (fun k e => by cases e)
      rw [List.nil_append] at m4
      have hn4 : ∀ k, v4.ownBlock = some k → w3.heap.size ≤ k := fun k hk => (n4 k hk).elim (fun e => by cases e) id
      have k34 := k3.other t4 fun k hk e => by cases e
      have h6 : OnceI w1 w4 F p f3 P.abort g R0 n (i + 1) R.abort v4 lk (.slice ak lk.length ck) lk := ⟨l4, s3, m4, k34, fun k hk => Nat.le_trans l3.below.size (hn4 k hk), HI.out.ak, fun k hk e => by have := k3.lt e; have := hn4 k hk; omega, HI.out.ok, HI.out.ok, HI.out.s0, HI.out.s0⟩
      have q6 : f3.q = fq := q3.trans HFQ.out
      obtain ⟨a4, c4, rfl, _, _⟩ := m4.row.form
      clear m3 k3 l3 s3 ht3 m4 l4 n4 t4 hn4 k34
      go_wp2_with (at_builtin; refine wpList_append_run rfl (.const (.slice none 0 0)) (.tmp 125) 30 30 rfl _ _ _ rfl rfl hr4 ?_; clear hr4)
      have hsum := h6.sum hn331
      have HLF := Lib.hid (left_any h6.ls.pg)
      have HPG := Lib.hid (pages_any h6.ls.pg)
      rw [q6] at HLF HPG
      have H6 := Lib.hid h6
      have Q6 := Lib.hid q6
      clear h6 q6
      generalize freeN P.abort.now = fr6 at *
      generalize P.abort.now.length = pl6 at *
      have hw6 : IntKind.i64.wrap ((fr6 : Int) + (lk.length : Int)) = (pl6 : Int) := by rw [IntWalk.i64_in _ (by omega)]; omega
      have hx6 : ((pl6 : Int) != (pl6 : Int)) = false := by simp
      clear hsum
      go_wp2_with (first
        | (go_at_call 11; refine HLF.out.mono ?_; rintro e w9 ⟨rfl, hw9⟩; rw [hw9]; clear hw9 w9)
        | (go_at_call 16; refine HPG.out.mono ?_; rintro e w9 ⟨rfl, hw9⟩; rw [hw9]; clear hw9 w9))
      go_roundw
      case rel => exact ⟨i + 1, _, _, _, _, _, hlt, hlt2, by go_num, Q6.out, H6.out⟩
      case measure => simp [intOf]; omega
    · -- Free
      by_cases hlen : lm.length = 0
      · have hgz : decide ((lm.length : Int) > 0) = false := decide_eq_false (by omega)
        have hgz2 : decide (0 < (lm.length : Int)) = false := decide_eq_false (by omega)
        have hgz3 : decide (0 < lm.length) = false := decide_eq_false (by omega)
        have hgz4 : ¬ (0 < lm.length) := by omega
        have hI := HI.out
        have h6 : OnceI w1 wr F p f P g R0 n (i + 1) R (.slice am lm.length cm) lm (.slice ak lk.length ck) lk := ⟨hI.ls, hI.st.of rfl fun s B a => a, hI.rm, hI.rk, hI.am, hI.ak, hI.ne, hI.om, hI.ok, hI.r0, hI.s0⟩
        have q6 : f.q = fq := HFQ.out
        clear hI hlen
        go_wp2_with fail
        have hsum := h6.sum hn331
        have HLF := Lib.hid (left_any h6.ls.pg)
        have HPG := Lib.hid (pages_any h6.ls.pg)
        rw [q6] at HLF HPG
        have H6 := Lib.hid h6
        have Q6 := Lib.hid q6
        clear h6 q6
        generalize freeN P.now = fr6 at *
        generalize P.now.length = pl6 at *
        have hw6 : IntKind.i64.wrap ((fr6 : Int) + (lm.length : Int)) = (pl6 : Int) := by rw [IntWalk.i64_in _ (by omega)]; omega
        have hx6 : ((pl6 : Int) != (pl6 : Int)) = false := by simp
        clear hsum
        go_wp2_with (first
          | (go_at_call 11; refine HLF.out.mono ?_; rintro e w9 ⟨rfl, hw9⟩; rw [hw9]; clear hw9 w9)
          | (go_at_call 16; refine HPG.out.mono ?_; rintro e w9 ⟨rfl, hw9⟩; rw [hw9]; clear hw9 w9))
        go_roundw
        case rel => exact ⟨i + 1, _, _, _, _, _, hlt, hlt2, by go_num, Q6.out, H6.out⟩
        case measure => simp [intOf]; omega
      have hgz : decide ((lm.length : Int) > 0) = true := decide_eq_true (by omega)
      have hgz2 : decide (0 < (lm.length : Int)) = true := decide_eq_true (by omega)
      have hgz3 : decide (0 < lm.length) = true := decide_eq_true (by omega)
      have hgz4 : 0 < lm.length := by omega
      have hml := pickN_lt page (n := lm.length) (by omega)
      have HPM := Lib.hid (pick_any wr page lm.length b3 b4 (by omega) (by omega))
      obtain ⟨m, hm⟩ : ∃ m, m = pickN page lm.length := ⟨_, rfl⟩
      rw [← hm] at HPM hml
      obtain ⟨z, hz⟩ : ∃ z, z = lm[m] := ⟨_, rfl⟩
      have hzm : z ∈ lm := by rw [hz]; exact List.getElem_mem hml
      obtain ⟨hz0, bz, hzb⟩ := (HI.out.om.2 z).1 hzm
      have hzl : z.toNat < R.pages.length := (List.getElem?_eq_some_iff.1 hzb).1
      have hz20 : z < 2000 := by have := HSIM.out.nlen; omega
      have htk : R.taken z = true := by
        rw [taken_iff]
        refine ⟨hz0, by omega, by rw [List.getD_eq_getElem?_getD, hzb]; rfl⟩
      have er : R.free z = (0, { R with pages := R.pages.set z.toNat none, change := true }) := by rw [Rp.free, if_neg (by simp [htk]), if_neg (by rw [HI.out.r0]; omega)]
      have hfa := free_any HI.out.ls.pg z (by omega) (by omega)
      rw [(HSIM.out.freed z).1, er, HFQ.out] at hfa
      have HST := Lib.hid (HI.out.st.of (P' := (P.free z).2) (R' := (R.free z).2) (by unfold Pg.free; split <;> first | rfl | (split <;> rfl)) fun s B a => (a.freed z).2)
      rw [er] at HST
      have HA := Lib.hid hfa
      have HOM : Hid (OwnL (lm.take m ++ lm.drop (m + 1)) (R.pages.set z.toNat none)) := Lib.hid (by rw [hz]; exact HI.out.om.del m hml)
      obtain ⟨gm, cc, hve, _, _, hcc⟩ := HI.out.rm.row.cell (fun e => by rw [e] at hml; simp at hml)
      simp only [Value.slice.injEq] at hve
      obtain ⟨rfl, _, rfl⟩ := hve
      have hcm : wr.cell? ⟨gm, m, none⟩ = some (.int .i64 z) := by rw [hz]; exact hcc m hml
      have hwq : IntKind.i64.wrap ((m : Int) + 1) = ((m + 1 : Nat) : Int) := by rw [IntWalk.i64_in _ (by omega)]; omega
      have hcH := fun W => run_cut1_h (P := Tryd.prog) W Tryd.underlying30 (e := 3) (by kernel_rfl) (some ⟨gm, 0, none⟩) lm.length cm m (by omega)
      obtain ⟨q, hq⟩ : ∃ q, q = m + 1 := ⟨_, rfl⟩
      have hcL := fun W => run_cut1_l (P := Tryd.prog) W Tryd.underlying30 (e := 3) (by kernel_rfl) (some ⟨gm, 0, none⟩) lm.length cm (m + 1) (by omega)
      rw [← hq] at hwq hcL
      have hmi0 : (0 : Int) ≤ (m : Int) := by omega
      have hmi1 : (m : Int) < (lm.length : Int) := by omega
      have HQ := Lib.hid hq
      clear hfa er htk hzb hzl hzm hm hz hq hcc
      go_wp2_with fail
      refine HPM.out.mono ?_
      rintro e w9 ⟨rfl, hw9⟩
      rw [← hw9]
      clear hw9 w9
      go_wp2_with fail
      refine HA.out.mono ?_
      rintro e w3 ⟨rfl, ht3⟩
      obtain ⟨f3, q3, l3, m3, k3, s3⟩ := HI.out.step ht3 HST.out
      have m3d := m3.below (Below.refl w3.heap.size w3).drew
      have l3d := l3.step (Below.refl w3.heap.size w3).drew
      have k3d := k3.below (Below.refl w3.heap.size w3).drew
      have HS3 := Lib.hid s3
      have q6 : f3.q = fq := q3.trans HFQ.out
      clear m3 k3 l3 s3 ht3 q3
      go_upto_region 30 with fail
      refine wp_region_noPanic ?_
      refine wp_region_held_drew (S := (fun _ : World => True)) (by kernel_rfl) trivial (fun hH => ?_)
      generalize w3.drew = W3 at *
      refine take_at (i := 0) (v := ?_) rfl (by kernel_rfl) (by kernel_rfl) (by kernel_rfl) (fun _ _ _ h => h) (Or.inl ⟨by rfl, ?_⟩) hH ?_
      rotate_left
      · (intro w hSw; skip; go_simp; try with_reducible rfl)
      try simp only [Act.put, List.setIfInBounds_toArray, List.set_cons_zero, List.set_cons_succ]
      refine take_at (i := 1) (v := ?_) rfl (by kernel_rfl) (by kernel_rfl) (by kernel_rfl) (fun _ _ _ h => h) (Or.inl ⟨by rfl, ?_⟩) hH ?_
      rotate_left
      · (intro w hSw; skip; go_simp; try with_reducible rfl)
      try simp only [Act.put, List.setIfInBounds_toArray, List.set_cons_zero, List.set_cons_succ]
      refine take_at (i := 2) (v := ?_) rfl (by kernel_rfl) (by kernel_rfl) (by kernel_rfl) (fun _ _ _ h => h) (Or.inl ⟨by rfl, ?_⟩) hH ?_
      rotate_left
      · (intro w hSw; skip; go_simp; try with_reducible rfl)
      try simp only [Act.put, List.setIfInBounds_toArray, List.set_cons_zero, List.set_cons_succ]
      refine take_at (i := 4) (v := ?_) rfl (by kernel_rfl) (by kernel_rfl) (by kernel_rfl) (fun _ _ _ h => h) (Or.inl ⟨by rfl, ?_⟩) hH ?_
      rotate_left
      · (intro w hSw; skip; go_simp; try with_reducible rfl)
      try simp only [Act.put, List.setIfInBounds_toArray, List.set_cons_zero, List.set_cons_succ]
      refine take_at (i := 5) (v := ?_) rfl (by kernel_rfl) (by kernel_rfl) (by kernel_rfl) (fun _ _ _ h => h) (Or.inl ⟨by rfl, ?_⟩) hH ?_
      rotate_left
      · (intro w hSw; skip; go_simp; try with_reducible rfl)
      try simp only [Act.put, List.setIfInBounds_toArray, List.set_cons_zero, List.set_cons_succ]
      refine take_at (i := 6) (v := ?_) rfl (by kernel_rfl) (by kernel_rfl) (by kernel_rfl) (fun _ _ _ h => h) (Or.inl ⟨by rfl, ?_⟩) hH ?_
      rotate_left
      · (intro w hSw; skip; go_simp; try with_reducible rfl)
      try simp only [Act.put, List.setIfInBounds_toArray, List.set_cons_zero, List.set_cons_succ]
      refine take_at (i := 7) (v := ?_) rfl (by kernel_rfl) (by kernel_rfl) (by kernel_rfl) (fun _ _ _ h => h) (Or.inl ⟨by rfl, ?_⟩) hH ?_
      rotate_left
      · (intro w hSw; skip; go_simp; try with_reducible rfl)
      try simp only [Act.put, List.setIfInBounds_toArray, List.set_cons_zero, List.set_cons_succ]
      refine wpAnyH_ready (rs := [3]) (by kernel_rfl) (by simp) ?_
      refine ready_at rfl (fun K hK => ?_) AllReadyH.nil
      obtain ⟨v4, W4, hr4, m4, l4, n4, t4⟩ := (RowA.nil W3 F p f3 g).grown l3d (IsI.front m3d.row.isI m (by omega)) (by simp; omega) (fun k e => by cases e)
      rw [List.nil_append] at m4
      have hn4 : ∀ k, v4.ownBlock = some k → W3.heap.size ≤ k := fun k hk => (n4 k hk).elim (fun e => by cases e) id
      have m4m := m3d.other t4 fun k hk e => by cases e
      have k4 := k3d.other t4 fun k hk e => by cases e
      have hs34 := l3d.below.size
      have hkl3 : ∀ k, (Value.slice ak lk.length ck).ownBlock = some k → k < W3.heap.size := fun k hk => k3d.lt hk
      refine arm_append (by rfl) (.const (.slice none 0 0)) (.tmp 106) 30 30 rfl _ _ _ rfl rfl hr4 ?_
      clear hr4 m3d l3d k3d n4 t4
      refine hK.out _ _ trivial (fun hH => ?_)
      clear hK K
      try simp only [Act.put, List.setIfInBounds_toArray, List.set_cons_zero, List.set_cons_succ]
      refine wpAnyH_ready (rs := [8]) (by kernel_rfl) (by simp) ?_
      refine ready_at rfl (fun K hK => ?_) AllReadyH.nil
      obtain ⟨v5, W5, hr5, m5, l5, n5, t5⟩ := m4.grown l4 (IsI.cut m4m.row.isI (m + 1) (by omega)) (by simp; omega) (fun k hk => by have := hn4 k hk; omega)
      have k5 := k4.other t5 fun j hj e => by have := hn4 j e; have := hkl3 j hj; omega
      have h45 := l4.below.size
      have h6 : OnceI w1 W5 F p f3 (P.free z).2 g R0 n (i + 1) { R with pages := R.pages.set z.toNat none, change := true } v5 (lm.take m ++ lm.drop (m + 1)) (.slice ak lk.length ck) lk := ⟨l5, HS3.out, m5, k5, fun j hj => (n5 j hj).elim (fun e => by have := hn4 j e; omega) fun e => by omega, HI.out.ak, fun j hj e => by
        have := hkl3 j e
        rcases n5 j hj with e2 | e2
        · have := hn4 j e2; omega
        · have := k4.lt e; omega, HOM.out, HI.out.ok, HI.out.r0, HI.out.s0⟩
      rw [← HQ.out] at hr5
      refine arm_append (by rfl) (.tmp 107) (.tmp 111) 30 30 rfl _ _ _ rfl rfl hr5 ?_
      clear hr5 m4 l4 m5 l5 n5 t5 k4 k5 m4m hn4
      generalize lm.take m ++ lm.drop (m + 1) = lm2 at *
      refine hK.out _ _ trivial (fun hH => ?_)
      clear hK K
      try simp only [Act.put, List.setIfInBounds_toArray, List.set_cons_zero, List.set_cons_succ]
      refine take_at (i := 9) (v := ?_) rfl (by kernel_rfl) (by kernel_rfl) (by kernel_rfl) (fun _ _ _ h => h) (Or.inl ⟨by rfl, ?_⟩) hH ?_
      rotate_left
      · (intro w hSw; skip; go_simp; try with_reducible rfl)
      try simp only [Act.put, List.setIfInBounds_toArray, List.set_cons_zero, List.set_cons_succ]
      refine wpAnyH_done (by kernel_rfl) ?_ _
      refine NoPanic.normal ?_
      clear hH
      obtain ⟨a5, c5, rfl, _, _⟩ := h6.rm.row.form
      go_wp2_with fail
      have hsum := h6.sum hn331
      have HLF := Lib.hid (left_any h6.ls.pg)
      have HPG := Lib.hid (pages_any h6.ls.pg)
      rw [q6] at HLF HPG
      have H6 := Lib.hid h6
      have Q6 := Lib.hid q6
      clear h6 q6
      generalize freeN (P.free z).2.now = fr6 at *
      generalize (P.free z).2.now.length = pl6 at *
      have hw6 : IntKind.i64.wrap ((fr6 : Int) + (lm2.length : Int)) = (pl6 : Int) := by rw [IntWalk.i64_in _ (by omega)]; omega
      have hx6 : ((pl6 : Int) != (pl6 : Int)) = false := by simp
      clear hsum
      go_wp2_with (first
        | (go_at_call 11; refine HLF.out.mono ?_; rintro e w9 ⟨rfl, hw9⟩; rw [hw9]; clear hw9 w9)
        | (go_at_call 16; refine HPG.out.mono ?_; rintro e w9 ⟨rfl, hw9⟩; rw [hw9]; clear hw9 w9))
      go_roundw
      case rel => exact ⟨i + 1, _, _, _, _, _, hlt, hlt2, by go_num, Q6.out, H6.out⟩
      case measure => simp [intOf]; omega
    · -- Alloc
      have hle := left_any HI.out.ls.pg
      have HAL := alloc_any HI.out.ls.pg
      have heq := HSIM.out.alloc.1
      rw [heq] at HAL
      have HST := Lib.hid (HI.out.st.of (P' := P.alloc.2) (R' := R.alloc.2) (by unfold Pg.alloc; split <;> first | rfl | (split <;> rfl)) fun s B a => a.alloc.2)
      rw [HSIM.out.free_eq] at hle
      rw [HFQ.out] at hle HAL
      have HLE := Lib.hid hle
      clear hle heq
      cases hfr : freeR R.pages with
      | none =>
        have ez := freeR_zero hfr
        have er : R.alloc = ((0, 80), R) := by rw [Rp.alloc, hfr]
        rw [er] at HAL HST
        rw [ez] at HLE
        have HA := Lib.hid HAL
        clear HAL hfr ez er
        go_wp2_with fail
        refine HLE.out.mono ?_
        rintro e w9 ⟨rfl, hw9⟩
        rw [hw9]
        clear hw9 w9
        go_wp2_with fail
        refine HA.out.mono ?_
        rintro e w3 ⟨rfl, ht3⟩
        obtain ⟨f3, q3, l3, m3, k3, s3⟩ := HI.out.step ht3 HST.out
        have h6 : OnceI w1 w3 F p f3 P.alloc.2 g R0 n (i + 1) R (.slice am lm.length cm) lm (.slice ak lk.length ck) lk := ⟨l3, s3, m3, k3, HI.out.am, HI.out.ak, HI.out.ne, HI.out.om, HI.out.ok, HI.out.r0, HI.out.s0⟩
        have q6 : f3.q = fq := q3.trans HFQ.out
        clear m3 k3 l3 s3 ht3
        have hsum := h6.sum hn331
        have HLF := Lib.hid (left_any h6.ls.pg)
        have HPG := Lib.hid (pages_any h6.ls.pg)
        rw [q6] at HLF HPG
        have H6 := Lib.hid h6
        have Q6 := Lib.hid q6
        clear h6 q6
        generalize freeN P.alloc.2.now = fr6 at *
        generalize P.alloc.2.now.length = pl6 at *
        have hw6 : IntKind.i64.wrap ((fr6 : Int) + (lm.length : Int)) = (pl6 : Int) := by rw [IntWalk.i64_in _ (by omega)]; omega
        have hx6 : ((pl6 : Int) != (pl6 : Int)) = false := by simp
        clear hsum
        go_wp2_with (first
          | (go_at_call 11; refine HLF.out.mono ?_; rintro e w9 ⟨rfl, hw9⟩; rw [hw9]; clear hw9 w9)
          | (go_at_call 16; refine HPG.out.mono ?_; rintro e w9 ⟨rfl, hw9⟩; rw [hw9]; clear hw9 w9))
        go_roundw
        case rel => exact ⟨i + 1, _, _, _, _, _, hlt, hlt2, by go_num, Q6.out, H6.out⟩
        case measure => simp [intOf]; omega
      | some k =>
        obtain ⟨hpos, hkl, hkn⟩ := freeR_pos hfr
        have er : R.alloc = (((k : Int), 0), R.lay k z896) := by rw [Rp.alloc, hfr]
        rw [er] at HAL HST
        have hgt : decide ((freeRN R.pages : Int) > 0) = true := decide_eq_true (by omega)
        have hgt2 : decide (0 < (freeRN R.pages : Int)) = true := decide_eq_true (by omega)
        have HOM := Lib.hid (HI.out.om.put k hkl hkn z896)
        have HNM : Hid (∀ j (h : j < lm.length), lm[j] ≠ (k : Int)) := Lib.hid fun j hj e => by
          obtain ⟨_, b, hb⟩ := (HI.out.om.2 k).1 (e ▸ List.getElem_mem hj)
          rw [Int.toNat_natCast, hkn] at hb
          simp at hb
        have HA := Lib.hid HAL
        have hk20 : k ≤ 2000 := by have := HI.out.sum hn331; have := HSIM.out.nlen; omega
        clear HAL hfr er hkn hkl
        generalize freeRN R.pages = frn at *
        go_wp2_with fail
        refine HLE.out.mono ?_
        rintro e w9 ⟨rfl, hw9⟩
        rw [hw9]
        clear hw9 w9
        go_wp2_with fail
        refine HA.out.mono ?_
        rintro e w3 ⟨rfl, ht3⟩
        obtain ⟨f3, q3, l3, m3, k3, s3⟩ := HI.out.step ht3 HST.out
        have HM3 := Lib.hid m3
        have HL3 := Lib.hid l3
        have HK3 := Lib.hid k3
        have HS3 := Lib.hid s3
        have HQ3 : Hid (f3.q = fq) := Lib.hid (q3.trans HFQ.out)
        clear m3 k3 l3 s3 ht3 q3
        go_wp2_with fail
        go_loop [16] (fun x => ∃ j : Nat, j ≤ lm.length ∧ x = .int .i64 (j : Int)) (fun x => lm.length - (intOf x).toNat)
        case atStart => exact ⟨0, Nat.zero_le _, rfl⟩
        case round =>
          obtain ⟨j, hj, rfl⟩ := hrel
          by_cases hjl : j < lm.length
          · have hdj : decide ((j : Int) < (lm.length : Int)) = true := decide_eq_true (by omega)
            obtain ⟨gm, cc, hve, _, _, hcc⟩ := HM3.out.row.cell (fun e => by rw [e] at hjl; simp at hjl)
            simp only [Value.slice.injEq] at hve
            obtain ⟨rfl, _, rfl⟩ := hve
            have hcj := hcc j hjl
            have hne := HNM.out j hjl
            have hbe : (lm[j] == (k : Int)) = false := by simpa using hne
            generalize lm[j] = z at *
            clear hcc
            go_wp2_with fail
            go_round
            case rel => exact ⟨j + 1, hjl, by go_num⟩
            case measure => simp [intOf]; omega
          · obtain rfl : j = lm.length := by omega
            have hdj : decide ((lm.length : Int) < (lm.length : Int)) = false := by simp
            obtain ⟨w4, hw4⟩ : ∃ x, x = w3.alloc (.cells #[.int .i64 (k : Int)] 3) := ⟨_, rfl⟩
            have hb4 : Below w3.heap.size w3 w4 := by rw [hw4]; exact (Below.refl _ _).alloc (Nat.le_refl _) _
            have hi4 : IsI w4 (.slice (some ⟨w3.heap.size, 0, none⟩) 1 1) [(k : Int)] := by
              rw [hw4]
              exact (MineI.lit (base := 0) (w := w3) [(k : Int)] (Nat.zero_le _) (by simp [maxLen])).isI
            obtain ⟨v5, w5, hr5, m5, l5, n5, t5⟩ := (HM3.out.below hb4).grown (HL3.out.step hb4) hi4 (by simp; omega) HI.out.am
            have k5 := (HK3.out.below hb4).other t5 fun j hj e => HI.out.ne j e hj
            have h6 : OnceI w1 w5 F p f3 P.alloc.2 g R0 n (i + 1) (R.lay k z896) v5 (lm ++ [(k : Int)]) (.slice ak lk.length ck) lk := ⟨l5, HS3.out, m5, k5, fun j hj => (n5 j hj).elim (fun e => HI.out.am j e) fun e => by have := HL3.out.below.size; have := hb4.size; omega, HI.out.ak, fun j hj e => (n5 j hj).elim (fun e2 => HI.out.ne j e2 e) fun e2 => by have := HK3.out.lt e; have := hb4.size; omega, HOM.out, HI.out.ok, HI.out.r0, HI.out.s0⟩
            have q6 : f3.q = fq := HQ3.out
            generalize lm ++ [(k : Int)] = lm2 at *
            rw [hw4] at hr5
            obtain ⟨a5, c5, rfl, _, _⟩ := m5.row.form
            clear hw4 hb4 hi4 m5 l5 n5 t5 k5
            go_wp2_with (at_builtin; refine wpList_append_run rfl (.tmp 79) (.tmp 81) 30 30 rfl _ _ _ rfl rfl hr5 ?_; clear hr5)
            have hsum := h6.sum hn331
            have HLF := Lib.hid (left_any h6.ls.pg)
            have HPG := Lib.hid (pages_any h6.ls.pg)
            rw [q6] at HLF HPG
            have H6 := Lib.hid h6
            have Q6 := Lib.hid q6
            clear h6 q6
            generalize freeN P.alloc.2.now = fr6 at *
            generalize P.alloc.2.now.length = pl6 at *
            have hw6 : IntKind.i64.wrap ((fr6 : Int) + (lm2.length : Int)) = (pl6 : Int) := by rw [IntWalk.i64_in _ (by omega)]; omega
            have hx6 : ((pl6 : Int) != (pl6 : Int)) = false := by simp
            clear hsum
            go_wp2_with (first
              | (go_at_call 11; refine HLF.out.mono ?_; rintro e w9 ⟨rfl, hw9⟩; rw [hw9]; clear hw9 w9)
              | (go_at_call 16; refine HPG.out.mono ?_; rintro e w9 ⟨rfl, hw9⟩; rw [hw9]; clear hw9 w9))
            go_roundw
            case rel => exact ⟨i + 1, _, _, _, _, _, hlt, hlt2, by go_num, Q6.out, H6.out⟩
            case measure => simp [intOf]; omega
    · -- Alloc
      have hle := left_any HI.out.ls.pg
      have HAL := alloc_any HI.out.ls.pg
      have heq := HSIM.out.alloc.1
      rw [heq] at HAL
      have HST := Lib.hid (HI.out.st.of (P' := P.alloc.2) (R' := R.alloc.2) (by unfold Pg.alloc; split <;> first | rfl | (split <;> rfl)) fun s B a => a.alloc.2)
      rw [HSIM.out.free_eq] at hle
      rw [HFQ.out] at hle HAL
      have HLE := Lib.hid hle
      clear hle heq
      cases hfr : freeR R.pages with
      | none =>
        have ez := freeR_zero hfr
        have er : R.alloc = ((0, 80), R) := by rw [Rp.alloc, hfr]
        rw [er] at HAL HST
        rw [ez] at HLE
        have HA := Lib.hid HAL
        clear HAL hfr ez er
        go_wp2_with fail
        refine HLE.out.mono ?_
        rintro e w9 ⟨rfl, hw9⟩
        rw [hw9]
        clear hw9 w9
        go_wp2_with fail
        refine HA.out.mono ?_
        rintro e w3 ⟨rfl, ht3⟩
        obtain ⟨f3, q3, l3, m3, k3, s3⟩ := HI.out.step ht3 HST.out
        have h6 : OnceI w1 w3 F p f3 P.alloc.2 g R0 n (i + 1) R (.slice am lm.length cm) lm (.slice ak lk.length ck) lk := ⟨l3, s3, m3, k3, HI.out.am, HI.out.ak, HI.out.ne, HI.out.om, HI.out.ok, HI.out.r0, HI.out.s0⟩
        have q6 : f3.q = fq := q3.trans HFQ.out
        clear m3 k3 l3 s3 ht3
        have hsum := h6.sum hn331
        have HLF := Lib.hid (left_any h6.ls.pg)
        have HPG := Lib.hid (pages_any h6.ls.pg)
        rw [q6] at HLF HPG
        have H6 := Lib.hid h6
        have Q6 := Lib.hid q6
        clear h6 q6
        generalize freeN P.alloc.2.now = fr6 at *
        generalize P.alloc.2.now.length = pl6 at *
        have hw6 : IntKind.i64.wrap ((fr6 : Int) + (lm.length : Int)) = (pl6 : Int) := by rw [IntWalk.i64_in _ (by omega)]; omega
        have hx6 : ((pl6 : Int) != (pl6 : Int)) = false := by simp
        clear hsum
        go_wp2_with (first
          | (go_at_call 11; refine HLF.out.mono ?_; rintro e w9 ⟨rfl, hw9⟩; rw [hw9]; clear hw9 w9)
          | (go_at_call 16; refine HPG.out.mono ?_; rintro e w9 ⟨rfl, hw9⟩; rw [hw9]; clear hw9 w9))
        go_roundw
        case rel => exact ⟨i + 1, _, _, _, _, _, hlt, hlt2, by go_num, Q6.out, H6.out⟩
        case measure => simp [intOf]; omega
      | some k =>
        obtain ⟨hpos, hkl, hkn⟩ := freeR_pos hfr
        have er : R.alloc = (((k : Int), 0), R.lay k z896) := by rw [Rp.alloc, hfr]
        rw [er] at HAL HST
        have hgt : decide ((freeRN R.pages : Int) > 0) = true := decide_eq_true (by omega)
        have hgt2 : decide (0 < (freeRN R.pages : Int)) = true := decide_eq_true (by omega)
        have HOM := Lib.hid (HI.out.om.put k hkl hkn z896)
        have HNM : Hid (∀ j (h : j < lm.length), lm[j] ≠ (k : Int)) := Lib.hid fun j hj e => by
          obtain ⟨_, b, hb⟩ := (HI.out.om.2 k).1 (e ▸ List.getElem_mem hj)
          rw [Int.toNat_natCast, hkn] at hb
          simp at hb
        have HA := Lib.hid HAL
        have hk20 : k ≤ 2000 := by have := HI.out.sum hn331; have := HSIM.out.nlen; omega
        clear HAL hfr er hkn hkl
        generalize freeRN R.pages = frn at *
        go_wp2_with fail
        refine HLE.out.mono ?_
        rintro e w9 ⟨rfl, hw9⟩
        rw [hw9]
        clear hw9 w9
        go_wp2_with fail
        refine HA.out.mono ?_
        rintro e w3 ⟨rfl, ht3⟩
        obtain ⟨f3, q3, l3, m3, k3, s3⟩ := HI.out.step ht3 HST.out
        have HM3 := Lib.hid m3
        have HL3 := Lib.hid l3
        have HK3 := Lib.hid k3
        have HS3 := Lib.hid s3
        have HQ3 : Hid (f3.q = fq) := Lib.hid (q3.trans HFQ.out)
        clear m3 k3 l3 s3 ht3 q3
        go_wp2_with fail
        go_loop [16] (fun x => ∃ j : Nat, j ≤ lm.length ∧ x = .int .i64 (j : Int)) (fun x => lm.length - (intOf x).toNat)
        case atStart => exact ⟨0, Nat.zero_le _, rfl⟩
        case round =>
          obtain ⟨j, hj, rfl⟩ := hrel
          by_cases hjl : j < lm.length
          · have hdj : decide ((j : Int) < (lm.length : Int)) = true := decide_eq_true (by omega)
            obtain ⟨gm, cc, hve, _, _, hcc⟩ := HM3.out.row.cell (fun e => by rw [e] at hjl; simp at hjl)
            simp only [Value.slice.injEq] at hve
            obtain ⟨rfl, _, rfl⟩ := hve
            have hcj := hcc j hjl
            have hne := HNM.out j hjl
            have hbe : (lm[j] == (k : Int)) = false := by simpa using hne
            generalize lm[j] = z at *
            clear hcc
            go_wp2_with fail
            go_round
            case rel => exact ⟨j + 1, hjl, by go_num⟩
            case measure => simp [intOf]; omega
          · obtain rfl : j = lm.length := by omega
            have hdj : decide ((lm.length : Int) < (lm.length : Int)) = false := by simp
            obtain ⟨w4, hw4⟩ : ∃ x, x = w3.alloc (.cells #[.int .i64 (k : Int)] 3) := ⟨_, rfl⟩
            have hb4 : Below w3.heap.size w3 w4 := by rw [hw4]; exact (Below.refl _ _).alloc (Nat.le_refl _) _
            have hi4 : IsI w4 (.slice (some ⟨w3.heap.size, 0, none⟩) 1 1) [(k : Int)] := by
              rw [hw4]
              exact (MineI.lit (base := 0) (w := w3) [(k : Int)] (Nat.zero_le _) (by simp [maxLen])).isI
            obtain ⟨v5, w5, hr5, m5, l5, n5, t5⟩ := (HM3.out.below hb4).grown (HL3.out.step hb4) hi4 (by simp; omega) HI.out.am
            have k5 := (HK3.out.below hb4).other t5 fun j hj e => HI.out.ne j e hj
            have h6 : OnceI w1 w5 F p f3 P.alloc.2 g R0 n (i + 1) (R.lay k z896) v5 (lm ++ [(k : Int)]) (.slice ak lk.length ck) lk := ⟨l5, HS3.out, m5, k5, fun j hj => (n5 j hj).elim (fun e => HI.out.am j e) fun e => by have := HL3.out.below.size; have := hb4.size; omega, HI.out.ak, fun j hj e => (n5 j hj).elim (fun e2 => HI.out.ne j e2 e) fun e2 => by have := HK3.out.lt e; have := hb4.size; omega, HOM.out, HI.out.ok, HI.out.r0, HI.out.s0⟩
            have q6 : f3.q = fq := HQ3.out
            generalize lm ++ [(k : Int)] = lm2 at *
            rw [hw4] at hr5
            obtain ⟨a5, c5, rfl, _, _⟩ := m5.row.form
            clear hw4 hb4 hi4 m5 l5 n5 t5 k5
            go_wp2_with (at_builtin; refine wpList_append_run rfl (.tmp 79) (.tmp 81) 30 30 rfl _ _ _ rfl rfl hr5 ?_; clear hr5)
            have hsum := h6.sum hn331
            have HLF := Lib.hid (left_any h6.ls.pg)
            have HPG := Lib.hid (pages_any h6.ls.pg)
            rw [q6] at HLF HPG
            have H6 := Lib.hid h6
            have Q6 := Lib.hid q6
            clear h6 q6
            generalize freeN P.alloc.2.now = fr6 at *
            generalize P.alloc.2.now.length = pl6 at *
            have hw6 : IntKind.i64.wrap ((fr6 : Int) + (lm2.length : Int)) = (pl6 : Int) := by rw [IntWalk.i64_in _ (by omega)]; omega
            have hx6 : ((pl6 : Int) != (pl6 : Int)) = false := by simp
            clear hsum
            go_wp2_with (first
              | (go_at_call 11; refine HLF.out.mono ?_; rintro e w9 ⟨rfl, hw9⟩; rw [hw9]; clear hw9 w9)
              | (go_at_call 16; refine HPG.out.mono ?_; rintro e w9 ⟨rfl, hw9⟩; rw [hw9]; clear hw9 w9))
            go_roundw
            case rel => exact ⟨i + 1, _, _, _, _, _, hlt, hlt2, by go_num, Q6.out, H6.out⟩
            case measure => simp [intOf]; omega
end Go.Proofs.YtbmmcaoifkboiaaDoor

/- The card of PagerOnce: for every input the law answers true, and what came in reads as it did. -/
set_option linter.unusedVariables false
set_option linter.unusedSimpArgs false
set_option maxRecDepth 100000
namespace Go.Proofs.YtbmmcaoifkboiaaDoor.cardPagerOnce
open Go.ChangeShapes Go.WideShapes Go.ChangeAt Go.RowKit Go.Deep
open Go.ChangeMaps (open_string shut_string)

theorem gTab : Tryd.prog.globalNamed "usance/wire.nibbles" = some 0 := by kernel_rfl
theorem gTabType : (Tryd.prog.globals[0]?).map (·.type) = some 134 := by kernel_rfl
theorem cellsTab : Tryd.prog.cellsOf 134 = 16 := by kernel_rfl
theorem cellsU32 : Tryd.prog.cellsOf 124 = 1 := by kernel_rfl
/-- what the row lists: the table of the sum -/
theorem table {W : World} (h : laidMetH Tryd.prog Rows.pagerOnceRow.laid W) : Nib W := by
  have ht : Lib.TabIs Tryd.prog W "usance/wire.nibbles" .u32 [0, 498536548, 997073096, 651767980, 1994146192, 1802195444, 1303535960, 1342533948, 3988292384, 4027552580, 3604390888, 3412177804, 2607071920, 2262029012, 2685067896, 3183342108] :=
    Lib.tabIs_of_head (rest := []) gTab gTabType Tryd.underlying134 Tryd.underlying124 cellsU32 cellsTab h
  intro i hi
  rw [ht.cell gTab i (by simpa using hi)]
  have e : ∀ i : Fin 16, ([0, 498536548, 997073096, 651767980, 1994146192, 1802195444, 1303535960, 1342533948, 3988292384, 4027552580, 3604390888, 3412177804, 2607071920, 2262029012, 2685067896, 3183342108] : List Int).getD i.val 0 = ((UsCrc.nib.getD i.val 0 : Nat) : Int) := by decide
  rw [e ⟨i, hi⟩]

theorem contract (H : Type) (enc : TypeId × Value → H) (W : World) (base : Nat) (args : Array Value) (ds gs : List (DataW H)) (before : List MemPlace)
    (hval : ∀ (j : Nat) t v, Tryd.f3.params[j]? = some t → args[j]? = some v → Value.okWide Tryd.prog W .any base t v)
    (hW : DataW.Whole enc Tryd.prog Tryd.f3.params.toList Rows.pagerOnceSpec.vars false W args.toList ds gs before) (hL : laidMetH Tryd.prog Rows.pagerOnceRow.laid W)
    (hsz : (DataW.weightsEach Tryd.prog (Tryd.f3.params.toList ++ (OpenSpec.ofChange Rows.pagerOnceSpec).bare.plain.varTypes Tryd.prog) (ds ++ gs)).all (· ≤ reachBytes) = true) :
    Calls Tryd.prog 3 args W fun e W' => ∃ v, e = .returned v ∧ Rows.pagerOnceSpec.post enc Tryd.prog Tryd.f3 false true false false W args v W' := by
  have hW' := hW
  obtain ⟨p, q, hA0, hV, rfl, hfz, hnd⟩ := hW
  have hA : DataW.TrodAll enc Tryd.prog W 0 (fun _ => true) true Tryd.f3.params.toList args.toList ds p := hA0
  rw [Tryd.params3] at hA hval hsz
  obtain ⟨v0, vs0, d0, ds0, p0, q0, hargs, rfl, rfl, h0, r0⟩ := trodAll_cons hA
  obtain ⟨v1, vs1, d1, ds1, p1, q1, rfl, rfl, rfl, h1, r1⟩ := trodAll_cons r0
  obtain ⟨rfl, rfl, rfl⟩ := trodAll_nil r1
  obtain rfl : args = #[v0, v1] := by cases args; simp_all
  obtain ⟨rfl, rfl⟩ := trodVars_none hV
  have k0 := h0
  have lt0 : ∀ x ∈ p0, x.block < W.heap.size := by obtain ⟨m, hm⟩ := k0; exact DataW.trod_lt m _ _ _ hm
  have k1 := h1
  have lt1 : ∀ x ∈ p1, x.block < W.heap.size := by obtain ⟨m, hm⟩ := k1; exact DataW.trod_lt m _ _ _ hm
  simp only [List.append_nil, List.nil_append, List.cons_append] at hsz
  obtain ⟨x0, rfl, rfl, rfl, w0⟩ := open_int Tryd.underlying3 (hval 0 3 v0 rfl rfl) h0
  have b0 := wf_int64 w0
  obtain ⟨xs1, ir1⟩ := open_row rdOpP (by decide) Tryd.underlying22 (hval 1 22 v1 rfl rfl) h1 (light_arg (j := 1) hsz rfl rfl)
  have hnib := table hL
  clear hA0
  refine (once8_walk W hnib x0 v1 xs1 ir1 b0.1 b0.2).mono fun e W' ⟨he, bel⟩ => ?_
  subst he
  exact ⟨_, rfl, _, _, _, [], _, [], hW', trodAll_mk1 (shut_bool Tryd.underlying4 _), (trodAll_cons_mk (Below.trod laidOut (by kernel_rfl) (of_decide_eq_true (by kernel_rfl)) k0 bel lt0) (trodAll_cons_mk (Below.trod laidOut (by kernel_rfl) (of_decide_eq_true (by kernel_rfl)) k1 bel lt1) trodAll_mk0)), rfl, bel.frame _, fun h => by cases h⟩

/-- a world for the witness: the table as its initialiser lays it -/
noncomputable def laidWorld (os : Os) : World :=
  { World.holding Tryd.prog os ⟨#[], #[], []⟩ with heap := (World.holding Tryd.prog os ⟨#[], #[], []⟩).heap.modify 0 fun
      | .cells _ t frozen => .cells #[.int .u32 0, .int .u32 498536548, .int .u32 997073096, .int .u32 651767980, .int .u32 1994146192, .int .u32 1802195444, .int .u32 1303535960, .int .u32 1342533948, .int .u32 3988292384, .int .u32 4027552580, .int .u32 3604390888, .int .u32 3412177804, .int .u32 2607071920, .int .u32 2262029012, .int .u32 2685067896, .int .u32 3183342108] t frozen
      | o => o }
theorem laid_met (os : Os) : laidMet Tryd.prog Rows.pagerOnceRow.laid ((laidWorld os).forCall (fun _ _ => 0) ⟨#[], #[.int .i64 0, .slice none 0 0], []⟩).memory :=
  laidMet_of_run' 8 (by kernel_rfl) (by kernel_rfl)
theorem reads (os : Os) {H : Type} (enc : TypeId × Value → H) : ∃ places, DataW.whole enc Tryd.prog ((laidWorld os).forCall (fun _ _ => 0) ⟨#[], #[.int .i64 0, .slice none 0 0], []⟩).memory Tryd.f3.params.toList Rows.pagerOnceSpec.vars false (#[.int .i64 0, .slice none 0 0] : Array Value).toList 8 = some ([.lit (.int .i64 0), .nil], [], places) :=
  ⟨[], by kernel_rfl⟩

theorem lifted (os : Os) (started : os.Started) (H : Type) (enc : TypeId × Value → H) (F : Stop.Interp) :
    ReturnsInHanded {} Tryd.checked os 3 .any ((OpenSpec.ofChange Rows.pagerOnceSpec).preRow enc Tryd.prog Tryd.f3 Rows.pagerOnceRow.domain false Rows.pagerOnceRow.laid) (((OpenSpec.ofChange Rows.pagerOnceSpec).at F).post enc Tryd.prog Tryd.f3 false true false false) := by
  obtain ⟨places, hx⟩ := reads os enc
  refine returnsInHanded_of_row (C := Tryd.checked) (s := OpenSpec.ofChange Rows.pagerOnceSpec) own started (by kernel_rfl) Tryd.func3
    (witness_row_at (enc := enc) (C := Tryd.checked) false (laidWorld os) #[.int .i64 0, .slice none 0 0] rfl (by kernel_rfl) (by kernel_rfl) (by kernel_rfl)
      (OpenSpec.preRow_of_cond 8 hx (by kernel_rfl) (fun k hk => by cases hk) (by kernel_rfl) (laid_met os))) ?_
  intro W base args ds gs before hval hW _ hcond hsz hL _ _
  exact contract H enc W base args ds gs before hval hW hL hsz

theorem said : Rows.PagerOnceSaid :=
  OpenClaim.holds_of_cond 3 Tryd.f3 rfl rfl rfl rfl rfl rfl rfl ⟨rfl, rfl, rfl, rfl, rfl⟩ rfl rfl rfl rfl rfl (by kernel_rfl) Tryd.func3 (by kernel_rfl)
    (of_decide_eq_true (by kernel_rfl)) (by unfold Func.isWrapper; first | (rw [if_pos (by decide +kernel)]; kernel_rfl) | (rw [if_neg (by decide +kernel)]; exact ⟨rfl, rfl⟩))
    (fun os started H enc _ F => by rw [OpenClaim.pre_eq_preRow]; exact lifted os started H enc F)

theorem plain (f : FuncId) (fn : Func) (hf : Tryd.pinned.checked.prog.funcNamed "usance/usancelaw08.PagerOnce" = some f) (hfn : Tryd.pinned.checked.prog.funcs[f]? = some fn) :
    false = Tryd.pinned.checked.prog.looks [] ∧ ∀ (j : Nat) t, fn.params[j]? = some t → Tryd.pinned.checked.prog.wantsStandIn t = false := by
  obtain rfl : f = 3 := Option.some.inj ((show Tryd.prog.funcNamed "usance/usancelaw08.PagerOnce" = some 3 by kernel_rfl).symm.trans hf) |>.symm
  obtain rfl : fn = Tryd.f3 := (Option.some.inj (Tryd.func3.symm.trans hfn)).symm
  refine ⟨by kernel_rfl, fun j t ht => ?_⟩
  rw [Tryd.params3] at ht
  have hm := Array.mem_of_getElem? ht
  simp only [List.mem_toArray, List.mem_cons, List.not_mem_nil, or_false] at hm
  rcases hm with rfl | rfl
  · exact (show Tryd.prog.wantsStandIn 3 = false by kernel_rfl)
  · exact (show Tryd.prog.wantsStandIn 22 = false by kernel_rfl)

/-- THE CARD -/
theorem proved : Rows.PagerOnceCardSaid :=
  Claim7.holds_tied_plain_at .later [] _ _ _ _ said (fun _ h => by cases h) (by kernel_rfl) (fun _ h => by cases h) pagerOnce_row_tie rfl ⟨rfl, rfl⟩ (by kernel_rfl) rfl plain (by kernel_rfl)
#print axioms proved
end Go.Proofs.YtbmmcaoifkboiaaDoor.cardPagerOnce
