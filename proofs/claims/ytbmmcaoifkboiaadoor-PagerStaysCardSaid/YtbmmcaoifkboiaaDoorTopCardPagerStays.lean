/- The card CardPagerStays: for every input the law answers true, and what came in reads as it did; with what it needs ahead. -/
import Derived.Test.YtbmmcaoifkboiaaDoorBase4
import Derived.LoopTactic
import Derived.Test.YtbmmcaoifkboiaaDoorCards
import Derived.Test.YtbmmcaoifkboiaaDoorTie
/- Pages that are mine: as rows in memory beside two pagers; in plain lists. -/
set_option linter.unusedVariables false
set_option linter.unusedSimpArgs false
set_option maxRecDepth 100000
namespace Go.Proofs.YtbmmcaoifkboiaaDoor
open Go.RowKit

/-- a row of ints of one's own, apart from both pagers -/
structure RowA (w : World) (F : Ft) (p : Nat) (f : Pf) (g : Rf) (v : Value) (l : List Int) : Prop where
  row : MineI 0 w v l
  apart : ∀ k, v.ownBlock = some k → ¬ PJ F p f k ∧ ¬ RT8 g k
section
variable {w0 w w' : World} {F : Ft} {p : Nat} {f f' : Pf} {P : Pg} {g : Rf} {R : Rp} {v u : Value} {l m : List Int}
theorem RowA.nil (w : World) (F : Ft) (p : Nat) (f : Pf) (g : Rf) : RowA w F p f g (.slice none 0 0) [] := ⟨MineI.nil 0 w, fun k e => by cases e⟩
theorem RowA.lt (h : RowA w F p f g v l) {k : Nat} (hk : v.ownBlock = some k) : k < w.heap.size := by
  obtain ⟨_, c, hc⟩ := own_lt h.row hk.symm
  exact lt_of_heap hc
theorem RowA.stepT (h : RowA w F p f g v l) (c : ∀ k, PT f' k → PT f k ∨ w.heap.size ≤ k) (d : Turned (PJ F p f) w w') : RowA w' F p f' g v l := by
  refine ⟨own_keep1 h.row fun k hk => d.block k (h.lt hk) (h.apart k hk).1, fun k hk => ⟨fun e => ?_, (h.apart k hk).2⟩⟩
  rcases e with e | e
  · exact (h.apart k hk).1 (.inl e)
  · rcases c k e with e | e
    · exact (h.apart k hk).1 (.inr e)
    · have := h.lt hk
      omega
theorem RowA.other {T : Nat → Prop} (h : RowA w F p f g v l) (ht : Turned T w w') (hT : ∀ k, v.ownBlock = some k → ¬ T k) : RowA w' F p f g v l := ⟨own_keep1 h.row fun k hk => ht.block k (h.lt hk) (hT k hk), h.apart⟩
theorem RowA.below (h : RowA w F p f g v l) (hb : Below w.heap.size w w') : RowA w' F p f g v l := ⟨own_keep1 h.row fun k hk => hb.block k (h.lt hk), h.apart⟩
/-- what two rows and the pagers are behind an append onto the first -/
theorem RowA.grown (h : RowA w F p f g v l) (hl : LS w0 w F p f P g R) (hu : IsI w u m) (hL : l.length + m.length ≤ 100000) (h0 : ∀ k, v.ownBlock = some k → w0.heap.size ≤ k) :
    ∃ v' w', (Builtin.append_ #[30, 30] 30 #[v, u]).run Tryd.prog w = .ok v' w' ∧ RowA w' F p f g v' (l ++ m) ∧ LS w0 w' F p f P g R ∧ (∀ k, v'.ownBlock = some k → v.ownBlock = some k ∨ w.heap.size ≤ k) ∧ Turned (fun k => v.ownBlock = some k) w w' := by
  obtain ⟨v', w', hr, hm, hb, hg, _, ho⟩ := run_ints w 0 v l h.row u m hu (by omega) (Nat.zero_le _)
  have ht : Turned (fun k => v.ownBlock = some k) w w' := ⟨hg.os, hg.tape, hg.output, hg.size, fun k hk hn => hg.block k hk fun e => hn e.symm⟩
  have ho' : ∀ k, v'.ownBlock = some k → v.ownBlock = some k ∨ w.heap.size ≤ k := fun k hk => by
    rcases ho with e | e
    · exact .inl (by rw [← e]; exact hk)
    · rw [e] at hk
      simp only [Option.some.injEq] at hk
      exact .inr (by omega)
  refine ⟨v', w', hr, ⟨hm, fun k hk => ?_⟩, hl.other ht h0 fun k hk => h.apart k hk, ho', ht⟩
  rcases ho' k hk with e | e
  · exact h.apart k e
  · exact ⟨fun e2 => by have := hl.lt (.inl e2); omega, fun e2 => by have := hl.lt (.inr e2); omega⟩
end
/-- the numbers l are just the pages that are taken, each once -/
def OwnL (l : List Int) (pages : List (Option (List UInt8))) : Prop := l.Nodup ∧ ∀ k : Int, k ∈ l ↔ 0 ≤ k ∧ ∃ b, pages[k.toNat]? = some (some b)
theorem OwnL.empty (m : Nat) : OwnL [] (List.replicate m none) := by
  refine ⟨List.nodup_nil, fun k => ⟨fun h => (by cases h), fun ⟨_, b, h⟩ => ?_⟩⟩
  rw [List.getElem?_replicate] at h
  split at h <;> simp at h
theorem OwnL.put {l : List Int} {pages : List (Option (List UInt8))} (h : OwnL l pages) (k : Nat) (hk : k < pages.length) (hn : pages[k]? = some none) (b : List UInt8) : OwnL (l ++ [(k : Int)]) (pages.set k (some b)) := by
  have hnl : (k : Int) ∉ l := fun e => by
    obtain ⟨_, c, hc⟩ := (h.2 k).1 e
    rw [Int.toNat_natCast, hn] at hc
    simp at hc
  refine ⟨List.nodup_append.2 ⟨h.1, by simp, fun a ha c hc e => by
    rw [List.mem_singleton.1 hc] at e
    exact hnl (e ▸ ha)⟩, fun j => ?_⟩
  rw [List.mem_append, List.mem_singleton, List.getElem?_set]
  constructor
  · rintro (hj | rfl)
    · obtain ⟨a, c, hc⟩ := (h.2 j).1 hj
      refine ⟨a, c, ?_⟩
      rw [if_neg (fun e => hnl (by have : j = (k : Int) := by omega
                                   exact this ▸ hj))]
      exact hc
    · exact ⟨by omega, b, by rw [Int.toNat_natCast, if_pos rfl, if_pos hk]⟩
  · rintro ⟨a, c, hc⟩
    by_cases e : k = j.toNat
    · exact .inr (by omega)
    · rw [if_neg e] at hc
      exact .inl ((h.2 j).2 ⟨a, c, hc⟩)
theorem OwnL.del {l : List Int} {pages : List (Option (List UInt8))} (h : OwnL l pages) (i : Nat) (hi : i < l.length) : OwnL (l.take i ++ l.drop (i + 1)) (pages.set l[i].toNat none) := by
  have he : l.take i ++ l.drop (i + 1) = l.eraseIdx i := (List.eraseIdx_eq_take_drop_succ ..).symm
  rw [he]
  have hmem : ∀ j : Int, j ∈ l.eraseIdx i ↔ j ≠ l[i] ∧ j ∈ l := fun j => by
    rw [List.mem_eraseIdx_iff_getElem?]
    constructor
    · rintro ⟨q, hq, hj⟩
      refine ⟨fun e => ?_, List.mem_of_getElem? hj⟩
      have h1 : l[i]? = some j := by rw [e]; exact List.getElem?_eq_getElem hi
      have hql : q < l.length := (List.getElem?_eq_some_iff.1 hj).1
      exact hq ((List.getElem?_inj hql h.1).1 (hj.trans h1.symm))
    · rintro ⟨hne, hj⟩
      obtain ⟨q, hq, rfl⟩ := List.getElem_of_mem hj
      exact ⟨q, fun e => hne (by subst e; rfl), List.getElem?_eq_getElem hq⟩
  refine ⟨h.1.sublist (List.eraseIdx_sublist ..), fun j => ?_⟩
  rw [hmem, h.2 j, List.getElem?_set]
  obtain ⟨a0, b0, _⟩ := (h.2 l[i]).1 (List.getElem_mem hi)
  constructor
  · rintro ⟨hne, a, b, hb⟩
    exact ⟨a, b, by rw [if_neg (fun e => hne (by omega))]; exact hb⟩
  · rintro ⟨a, b, hb⟩
    by_cases e : l[i].toNat = j.toNat
    · rw [if_pos e] at hb
      split at hb <;> simp at hb
    · rw [if_neg e] at hb
      exact ⟨fun e2 => e (by rw [e2]), a, b, hb⟩
theorem takenN_count : ∀ (pages : List (Option (List UInt8))), freeRN pages + pages.countP (fun x => x.isSome) = pages.length
  | [] => rfl
  | x :: r => by
    have ih := takenN_count r
    unfold freeRN at ih ⊢
    cases x <;> simp [List.countP_cons] <;> omega
theorem OwnL.count : ∀ (pages : List (Option (List UInt8))) (l : List Int), OwnL l pages → l.length = pages.countP (fun x => x.isSome) := by
  intro pages l h
  have hp : l.Perm (((List.range pages.length).filter fun i => (pages.getD i none).isSome).map fun (i : Nat) => (i : Int)) := by
    refine (List.perm_ext_iff_of_nodup h.1 ?_).2 fun k => ?_
    · rw [List.Nodup, List.pairwise_map]
      exact ((List.nodup_range (n := pages.length)).filter _).imp fun hne e => hne (by omega)
    · rw [h.2 k, List.mem_map]
      constructor
      · rintro ⟨a, b, hb⟩
        refine ⟨k.toNat, List.mem_filter.2 ⟨List.mem_range.2 (List.getElem?_eq_some_iff.1 hb).1, by rw [List.getD_eq_getElem?_getD, hb]; rfl⟩, by omega⟩
      · rintro ⟨i, hi, rfl⟩
        obtain ⟨h1, h2⟩ := List.mem_filter.1 hi
        have h3 := List.mem_range.1 h1
        refine ⟨by omega, ?_⟩
        rw [Int.toNat_natCast]
        rw [List.getD_eq_getElem?_getD, List.getElem?_eq_getElem h3, Option.getD_some] at h2
        rw [List.getElem?_eq_getElem h3]
        exact ⟨_, congrArg some (Option.some_get h2).symm⟩
  rw [hp.length_eq, List.length_map]
  clear hp h
  have e : pages = (List.range pages.length).map fun i => pages.getD i none := by
    apply List.ext_getElem?
    intro j
    rw [List.getElem?_map]
    by_cases hj : j < pages.length
    · rw [List.getElem?_range hj, Option.map_some, List.getD_eq_getElem?_getD, List.getElem?_eq_getElem hj]
      rfl
    · rw [List.getElem?_eq_none (by omega), List.getElem?_eq_none (by simpa using hj)]
      rfl
  conv => rhs; rw [e]
  rw [List.countP_map, List.countP_eq_length_filter]
  rfl
end Go.Proofs.YtbmmcaoifkboiaaDoor

/- Both pagers beside other blocks that nobody touches; a second pager over the same journal. -/
set_option linter.unusedVariables false
set_option linter.unusedSimpArgs false
set_option maxRecDepth 100000
namespace Go.Proofs.YtbmmcaoifkboiaaDoor
open Go.RowKit

/-- both pagers; the blocks X, as they lie in wx, are out of their reach -/
structure LSX (w0 w : World) (F : Ft) (p : Nat) (f : Pf) (P : Pg) (g : Rf) (R : Rp) (wx : World) (X : Nat → Prop) : Prop where
  ls : LS w0 w F p f P g R
  out : ∀ k, X k → k < w.heap.size ∧ ¬ PJ F p f k ∧ ¬ RT8 g k
  kept : ∀ k, X k → w.heap[k]? = wx.heap[k]?
section
variable {w0 w w' wx : World} {F : Ft} {p : Nat} {f f' : Pf} {P P' : Pg} {g : Rf} {R R' : Rp} {X : Nat → Prop}
theorem LSX.pg (h : LSX w0 w F p f P g R wx X) : PgAt w F p f P := h.ls.pg
theorem LSX.rf (h : LSX w0 w F p f P g R wx X) : RfAt w g R := h.ls.rf
theorem LSX.below (h : LSX w0 w F p f P g R wx X) : Below w0.heap.size w0 w := h.ls.below
theorem LSX.own (h : LSX w0 w F p f P g R wx X) : ∀ k, PJ F p f k ∨ RT8 g k → w0.heap.size ≤ k := h.ls.own
theorem LSX.lt (h : LSX w0 w F p f P g R wx X) {k : Nat} (hk : PJ F p f k ∨ RT8 g k) : k < w.heap.size := h.ls.lt hk
theorem LSX.step (h : LSX w0 w F p f P g R wx X) (hb : Below w.heap.size w w') : LSX w0 w' F p f P g R wx X :=
  ⟨h.ls.step hb, fun k hk => ⟨Nat.lt_of_lt_of_le (h.out k hk).1 hb.size, (h.out k hk).2⟩, fun k hk => (hb.block k (h.out k hk).1).trans (h.kept k hk)⟩
theorem LSX.read (h : LSX w0 w F p f P g R wx X) (hp : PgAt w' F p f P') (ht : Turned (PJ F p f) w w') : LSX w0 w' F p f P' g R wx X :=
  ⟨h.ls.read hp ht, fun k hk => ⟨Nat.lt_of_lt_of_le (h.out k hk).1 ht.size, (h.out k hk).2⟩, fun k hk => (ht.block k (h.out k hk).1 (h.out k hk).2.1).trans (h.kept k hk)⟩
theorem LSX.stepT (h : LSX w0 w F p f P g R wx X) (a : PgAt w' F p f' P') (c : ∀ k, PT f' k → PT f k ∨ w.heap.size ≤ k) (d : Turned (PJ F p f) w w') : LSX w0 w' F p f' P' g R wx X := by
  refine ⟨h.ls.stepT a c d, fun k hk => ⟨Nat.lt_of_lt_of_le (h.out k hk).1 d.size, fun e => ?_, (h.out k hk).2.2⟩, fun k hk => (d.block k (h.out k hk).1 (h.out k hk).2.1).trans (h.kept k hk)⟩
  have h1 := h.out k hk
  rcases e with e | e
  · exact h1.2.1 (.inl e)
  · rcases c k e with e | e
    · exact h1.2.1 (.inr e)
    · omega
theorem LSX.stepP (h : LSX w0 w F p f P g R wx X) (ht : PgTo w F p f w' P') : ∃ f', LSX w0 w' F p f' P' g R wx X ∧ f'.q = f.q := by
  obtain ⟨f', a, b, c, d⟩ := ht
  exact ⟨f', h.stepT a c d, b⟩
theorem LSX.stepR (h : LSX w0 w F p f P g R wx X) (ht : RfTo w g w' R') : ∃ g', LSX w0 w' F p f P g' R' wx X ∧ g'.q = g.q := by
  obtain ⟨g', l, q⟩ := h.ls.stepR ht
  obtain ⟨g2, a, b, c, d⟩ := ht
  have l2 : LS w0 w' F p f P g2 R' := by
    refine ⟨l.pg, a, l.below, fun k hk => ?_, fun k hk e => ?_, l.nib⟩
    · rcases hk with hk | hk
      · exact h.own k (.inl hk)
      · rcases c k hk with e | e
        · exact h.own k (.inr e)
        · exact Nat.le_trans h.below.size e
    · rcases c k hk with e2 | e2
      · exact h.ls.apart k e2 e
      · have := h.pg.lt e
        omega
  refine ⟨g2, ⟨l2, fun k hk => ⟨Nat.lt_of_lt_of_le (h.out k hk).1 d.size, (h.out k hk).2.1, fun e => ?_⟩, fun k hk => (d.block k (h.out k hk).1 (h.out k hk).2.2).trans (h.kept k hk)⟩, b⟩
  have h1 := h.out k hk
  rcases c k e with e | e
  · exact h1.2.2 e
  · omega
theorem LSX.other {T : Nat → Prop} (h : LSX w0 w F p f P g R wx X) (ht : Turned T w w') (h1 : ∀ k, T k → w0.heap.size ≤ k) (h2 : ∀ k, T k → ¬ PJ F p f k ∧ ¬ RT8 g k) (h3 : ∀ k, X k → ¬ T k) : LSX w0 w' F p f P g R wx X :=
  ⟨h.ls.other ht h1 h2, fun k hk => ⟨Nat.lt_of_lt_of_le (h.out k hk).1 ht.size, (h.out k hk).2⟩, fun k hk => (ht.block k (h.out k hk).1 (h3 k hk)).trans (h.kept k hk)⟩
/-- a pager whose journal was touched by another's call, its own blocks not -/
theorem PgAt.beside {T : Nat → Prop} (h : PgAt w F p f P) (hj : JAt w' F p P.J) (ht : Turned T w w') (hn : Nib w') (hT : ∀ k, PT f k → ¬ T k) : PgAt w' F p f P := by
  have hb : ∀ k, PT f k → w'.heap[k]? = w.heap[k]? := fun k hk => ht.block k (h.apart k hk).2.2 (hT k hk)
  exact ⟨hj, hn, (hb _ (.inl rfl)).trans h.head, h.now.keep (hb _ (.inr (.inl rfl))), h.was.keep (hb _ (.inr (.inr (.inl rfl)))), h.tab.keep (hb _ (.inr (.inr (.inr (.inl rfl))))), h.pgs.keep fun x hx k hk => hb _ (.inr (.inr (.inr (.inr ⟨x, hx, hk⟩)))), h.ok, fun k hk => ⟨(h.apart k hk).1, (h.apart k hk).2.1, Nat.lt_of_lt_of_le (h.apart k hk).2.2 ht.size⟩, h.sep⟩
end
end Go.Proofs.YtbmmcaoifkboiaaDoor

/- PagerStays: what was read, as two rows beside two pagers over one journal. -/
set_option linter.unusedVariables false
set_option linter.unusedSimpArgs false
set_option maxRecDepth 100000
namespace Go.Proofs.YtbmmcaoifkboiaaDoor
open Go.RowKit

theorem info_errno : (Tryd.prog.info? 35).map (fun i => (i.zero, i.size, i.bytes)) = some (some (.int .i64 0), 1, 8) := by kernel_rfl
/-- a row of errors of one's own -/
def MineE (base : Nat) (w : World) (v : Value) (zs : List Int) : Prop := w.ownsRow base 35 1 v zs.length (iv zs)
theorem MineE.nil (base : Nat) (w : World) : MineE base w (.slice none 0 0) [] := World.ownsRow_nil w base 35 1
theorem MineE.at {base : Nat} {w : World} {v : Value} {ls : List Int} (h : MineE base w v ls) (h0 : ls ≠ []) : ∃ g cap, v = .slice (some ⟨g, 0, none⟩) ls.length cap ∧ ls.length ≤ cap ∧ cap ≤ maxLen ∧ ∀ i (hi : i < ls.length), w.cell? ⟨g, i, none⟩ = some (.int .i64 ls[i]) := by
  rcases h.2 with ⟨rfl, hn⟩ | ⟨g, cap, cur, rfl, hb, hg, hnc, hcm, hcs, htake⟩
  · exact absurd (List.eq_nil_of_length_eq_zero hn) h0
  · refine ⟨g, cap, rfl, hnc, hcm, fun i hi => ?_⟩
    rw [cell_of_row _ _ _ _ _ _ hg]
    have e : (iv ls)[i]? = some (.int .i64 ls[i]) := by simp [iv, hi]
    rw [← htake, List.getElem?_take, if_pos (by simpa [iv] using hi)] at e
    simpa using e
theorem MineE.grow {B : Nat} {w : World} {v : Value} {zs : List Int} (h : MineE B w v zs) (hB : B ≤ w.heap.size) (hL : zs.length ≤ 1000000) (z : Int) (g : Nat) (hg : w.heap[g]? = some (.cells #[.int .i64 z] 35 (0, 0))) :
    ∃ v' w', (Builtin.append_ #[60, 60] 60 #[v, .slice (some ⟨g, 0, none⟩) 1 1]).run Tryd.prog w = .ok v' w' ∧ MineE B w' v' (zs ++ [z]) ∧ w.grownBy w' v.ownBlock ∧ (v'.ownBlock = v.ownBlock ∨ v'.ownBlock = some w.heap.size) := by
  obtain ⟨i, hi, hz, hs, hb⟩ := info_parts (P := Tryd.prog) (e := 35) info_errno
  have hcell : ∀ w' : World, w'.heap = w.heap → ∀ j c, ([.int .i64 z] : List Value)[j]? = some c → w'.cell? ((⟨g, 0, none⟩ : Addr).add j) = some c := fun w' hw j c hj => by
    rw [Addr.add_mid, Nat.zero_add, cell_of_row w' _ _ _ _ _ (by rw [hw]; exact hg)]
    simpa using hj
  obtain ⟨v', w', hr, ho, hgr, _, h5⟩ := run_app (P := Tryd.prog) w B 60 60 60 35 i _ 1 8 _ Tryd.underlying60 Tryd.underlying60 (.inl rfl) hi hz hs hb rfl (by decide) v zs.length (iv zs) h
    (.slice (some ⟨g, 0, none⟩) 1 1) 1 [.int .i64 z] (fun w' => rfl) rfl (fun w' hw => run_firstCells_some (P := Tryd.prog) w' 1 1 ⟨g, 0, none⟩ 1 1 [.int .i64 z] rfl (hcell w' hw)) (by
      intro c hc
      rw [List.mem_singleton.1 hc]; rfl) (by simp [maxLen]; omega) (by omega) hB
  refine ⟨v', w', hr, ?_, hgr, h5⟩
  unfold MineE
  rw [show iv (zs ++ [z]) = iv zs ++ [.int .i64 z] by simp [iv], List.length_append]
  exact ho
theorem MineS.grow2 {B : Nat} {w : World} {v : Value} {zs : List (List UInt8)} (h : MineS B w v zs) (hB : B ≤ w.heap.size) (hL : zs.length ≤ 1000000) (z : List UInt8) (g : Nat) (hg : w.heap[g]? = some (.cells #[.string ⟨z.toArray⟩] 9 (0, 0))) :
    ∃ v' w', (Builtin.append_ #[59, 59] 59 #[v, .slice (some ⟨g, 0, none⟩) 1 1]).run Tryd.prog w = .ok v' w' ∧ MineS B w' v' (zs ++ [z]) ∧ w.grownBy w' v.ownBlock ∧ (v'.ownBlock = v.ownBlock ∨ v'.ownBlock = some w.heap.size) := by
  obtain ⟨i, hi, hz, hs, hb⟩ := info_parts (P := Tryd.prog) (e := 9) info_str
  have hcell : ∀ w' : World, w'.heap = w.heap → ∀ j c, ([.string ⟨z.toArray⟩] : List Value)[j]? = some c → w'.cell? ((⟨g, 0, none⟩ : Addr).add j) = some c := fun w' hw j c hj => by
    rw [Addr.add_mid, Nat.zero_add, cell_of_row w' _ _ _ _ _ (by rw [hw]; exact hg)]
    simpa using hj
  obtain ⟨v', w', hr, ho, hgr, _, h5⟩ := run_app (P := Tryd.prog) w B 59 59 59 9 i _ 1 16 _ Tryd.underlying59 Tryd.underlying59 (.inl rfl) hi hz hs hb rfl (by decide) v zs.length (sv zs) h
    (.slice (some ⟨g, 0, none⟩) 1 1) 1 [.string ⟨z.toArray⟩] (fun w' => rfl) rfl (fun w' hw => run_firstCells_some (P := Tryd.prog) w' 1 1 ⟨g, 0, none⟩ 1 1 [.string ⟨z.toArray⟩] rfl (hcell w' hw)) (by
      intro c hc
      rw [List.mem_singleton.1 hc]; rfl) (by simp [maxLen]; omega) (by omega) hB
  refine ⟨v', w', hr, ?_, hgr, h5⟩
  unfold MineS
  rw [show sv (zs ++ [z]) = sv zs ++ [.string ⟨z.toArray⟩] by simp [sv], List.length_append]
  exact ho
/-- what was read, beside both pagers -/
structure StayI (w1 w : World) (F : Ft) (p : Nat) (f : Pf) (P : Pg) (g : Rf) (R : Rp) (va : Value) (la : List (List UInt8)) (vb : Value) (lb : List Int) : Prop where
  ls : LS w1 w F p f P g R
  ra : MineS 0 w va la
  rb : MineE 0 w vb lb
  aa : ∀ k, va.ownBlock = some k → w1.heap.size ≤ k ∧ ¬ PJ F p f k ∧ ¬ RT8 g k
  ab : ∀ k, vb.ownBlock = some k → w1.heap.size ≤ k ∧ ¬ PJ F p f k ∧ ¬ RT8 g k
  ne : ∀ k, va.ownBlock = some k → vb.ownBlock ≠ some k
section
variable {w1 w w' : World} {F : Ft} {p : Nat} {f f' : Pf} {P P' : Pg} {g g' : Rf} {R R' : Rp} {va vb : Value} {la : List (List UInt8)} {lb : List Int}
theorem StayI.lta (h : StayI w1 w F p f P g R va la vb lb) {k : Nat} (hk : va.ownBlock = some k) : k < w.heap.size := by
  obtain ⟨_, c, hc⟩ := own_lt h.ra hk.symm
  exact lt_of_heap hc
theorem StayI.ltb (h : StayI w1 w F p f P g R va la vb lb) {k : Nat} (hk : vb.ownBlock = some k) : k < w.heap.size := by
  obtain ⟨_, c, hc⟩ := own_lt h.rb hk.symm
  exact lt_of_heap hc
theorem StayI.read (h : StayI w1 w F p f P g R va la vb lb) (hp : PgAt w' F p f P') (ht : Turned (PJ F p f) w w') : StayI w1 w' F p f P' g R va la vb lb :=
  ⟨h.ls.read hp ht, own_keep1 h.ra fun k hk => ht.block k (h.lta hk) (h.aa k hk).2.1, own_keep1 h.rb fun k hk => ht.block k (h.ltb hk) (h.ab k hk).2.1, h.aa, h.ab, h.ne⟩
theorem StayI.step (h : StayI w1 w F p f P g R va la vb lb) (hb : Below w.heap.size w w') : StayI w1 w' F p f P g R va la vb lb :=
  ⟨h.ls.step hb, own_keep1 h.ra fun k hk => hb.block k (h.lta hk), own_keep1 h.rb fun k hk => hb.block k (h.ltb hk), h.aa, h.ab, h.ne⟩
theorem StayI.stepT (h : StayI w1 w F p f P g R va la vb lb) (a : PgAt w' F p f' P') (c : ∀ k, PT f' k → PT f k ∨ w.heap.size ≤ k) (d : Turned (PJ F p f) w w') : StayI w1 w' F p f' P' g R va la vb lb := by
  have hnp : ∀ k, k < w.heap.size → ¬ PJ F p f k → ¬ PJ F p f' k := fun k hk hn e => by
    rcases e with e | e
    · exact hn (.inl e)
    · rcases c k e with e | e
      · exact hn (.inr e)
      · omega
  exact ⟨h.ls.stepT a c d, own_keep1 h.ra fun k hk => d.block k (h.lta hk) (h.aa k hk).2.1, own_keep1 h.rb fun k hk => d.block k (h.ltb hk) (h.ab k hk).2.1,
    fun k hk => ⟨(h.aa k hk).1, hnp k (h.lta hk) (h.aa k hk).2.1, (h.aa k hk).2.2⟩, fun k hk => ⟨(h.ab k hk).1, hnp k (h.ltb hk) (h.ab k hk).2.1, (h.ab k hk).2.2⟩, h.ne⟩
theorem StayI.growA (h : StayI w1 w F p f P g R va la vb lb) (hL : la.length ≤ 1000000) (z : List UInt8) (b : Nat) (hg : w.heap[b]? = some (.cells #[.string ⟨z.toArray⟩] 9 (0, 0))) :
    ∃ v' w', (Builtin.append_ #[59, 59] 59 #[va, .slice (some ⟨b, 0, none⟩) 1 1]).run Tryd.prog w = .ok v' w' ∧ StayI w1 w' F p f P g R v' (la ++ [z]) vb lb := by
  obtain ⟨v', w', hr, hm, hgr, ho⟩ := h.ra.grow2 (Nat.zero_le _) hL z b hg
  have ht : Turned (fun k => va.ownBlock = some k) w w' := ⟨hgr.os, hgr.tape, hgr.output, hgr.size, fun k hk hn => hgr.block k hk fun e => hn e.symm⟩
  have hl := h.ls.other ht (fun k hk => (h.aa k hk).1) fun k hk => (h.aa k hk).2
  refine ⟨v', w', hr, hl, hm, own_keep1 h.rb fun k hk => ht.block k (h.ltb hk) fun e => h.ne k e hk, fun k hk => ?_, h.ab, fun k hk e => ?_⟩
  · rcases ho with e | e
    · exact h.aa k (e ▸ hk)
    · rw [e] at hk
      simp only [Option.some.injEq] at hk
      exact ⟨by have := h.ls.below.size; omega, fun e => by have := h.ls.lt (.inl e); omega, fun e => by have := h.ls.lt (.inr e); omega⟩
  · rcases ho with e2 | e2
    · exact h.ne k (e2 ▸ hk) e
    · rw [e2] at hk
      simp only [Option.some.injEq] at hk
      have := h.ltb e
      omega
theorem StayI.growB (h : StayI w1 w F p f P g R va la vb lb) (hL : lb.length ≤ 1000000) (z : Int) (b : Nat) (hg : w.heap[b]? = some (.cells #[.int .i64 z] 35 (0, 0))) :
    ∃ v' w', (Builtin.append_ #[60, 60] 60 #[vb, .slice (some ⟨b, 0, none⟩) 1 1]).run Tryd.prog w = .ok v' w' ∧ StayI w1 w' F p f P g R va la v' (lb ++ [z]) := by
  obtain ⟨v', w', hr, hm, hgr, ho⟩ := h.rb.grow (Nat.zero_le _) hL z b hg
  have ht : Turned (fun k => vb.ownBlock = some k) w w' := ⟨hgr.os, hgr.tape, hgr.output, hgr.size, fun k hk hn => hgr.block k hk fun e => hn e.symm⟩
  have hl := h.ls.other ht (fun k hk => (h.ab k hk).1) fun k hk => (h.ab k hk).2
  refine ⟨v', w', hr, hl, own_keep1 h.ra fun k hk => ht.block k (h.lta hk) fun e => h.ne k hk e, hm, h.aa, fun k hk => ?_, fun k hk e => ?_⟩
  · rcases ho with e | e
    · exact h.ab k (e ▸ hk)
    · rw [e] at hk
      simp only [Option.some.injEq] at hk
      exact ⟨by have := h.ls.below.size; omega, fun e => by have := h.ls.lt (.inl e); omega, fun e => by have := h.ls.lt (.inr e); omega⟩
  · rcases ho with e2 | e2
    · exact h.ne k hk (e2 ▸ e)
    · rw [e2] at e
      simp only [Option.some.injEq] at e
      have := h.lta hk
      omega
/-- the rows out of reach of calls on both pagers -/
theorem StayI.lsx (h : StayI w1 w F p f P g R va la vb lb) : LSX w1 w F p f P g R w (fun k => va.ownBlock = some k ∨ vb.ownBlock = some k) :=
  ⟨h.ls, fun k hk => hk.elim (fun e => ⟨h.lta e, (h.aa k e).2⟩) fun e => ⟨h.ltb e, (h.ab k e).2⟩, fun k _ => rfl⟩
theorem StayI.back (h : StayI w1 w F p f P g R va la vb lb) (hx : LSX w1 w' F p f' P' g' R' w (fun k => va.ownBlock = some k ∨ vb.ownBlock = some k)) : StayI w1 w' F p f' P' g' R' va la vb lb :=
  ⟨hx.ls, own_keep1 h.ra fun k hk => hx.kept k (.inl hk), own_keep1 h.rb fun k hk => hx.kept k (.inr hk), fun k hk => ⟨(h.aa k hk).1, (hx.out k (.inl hk)).2⟩, fun k hk => ⟨(h.ab k hk).1, (hx.out k (.inr hk)).2⟩, h.ne⟩
end
/-- and a second pager over the same journal -/
structure StayQ (w1 w : World) (F : Ft) (p : Nat) (f : Pf) (P : Pg) (q : Pf) (Q : Pg) (g : Rf) (R : Rp) (va : Value) (la : List (List UInt8)) (vb : Value) (lb : List Int) : Prop where
  st : StayI w1 w F p f P g R va la vb lb
  pq : PgAt w F p q Q
  oq : ∀ k, PT q k → w1.heap.size ≤ k ∧ ¬ PT f k ∧ ¬ RT8 g k ∧ va.ownBlock ≠ some k ∧ vb.ownBlock ≠ some k
  jj : Q.J = P.J
section
variable {w1 w w' : World} {F : Ft} {p : Nat} {f f' q : Pf} {P P' Q : Pg} {g g' : Rf} {R R' : Rp} {va vb : Value} {la : List (List UInt8)} {lb : List Int}
theorem StayQ.step (h : StayQ w1 w F p f P q Q g R va la vb lb) (hb : Below w.heap.size w w') : StayQ w1 w' F p f P q Q g R va la vb lb := ⟨h.st.step hb, h.pq.below hb, h.oq, h.jj⟩
/-- a call of the first's that leaves the journal as it is -/
theorem StayQ.stepT (h : StayQ w1 w F p f P q Q g R va la vb lb) (a : PgAt w' F p f' P') (c : ∀ k, PT f' k → PT f k ∨ w.heap.size ≤ k) (d : Turned (PJ F p f) w w') (hj : P'.J = P.J) : StayQ w1 w' F p f' P' q Q g R va la vb lb := by
  refine ⟨h.st.stepT a c d, h.pq.beside (by rw [h.jj, ← hj]; exact a.jat) d a.nib fun k hk e => ?_, fun k hk => ?_, h.jj.trans hj.symm⟩
  · rcases e with e | e
    · exact (h.pq.apart k hk).1 e
    · exact (h.oq k hk).2.1 e
  · obtain ⟨h1, h2, h3⟩ := h.oq k hk
    refine ⟨h1, fun e => ?_, h3⟩
    rcases c k e with e | e
    · exact h2 e
    · have := (h.pq.apart k hk).2.2
      omega
/-- a read of the second's -/
theorem StayQ.readQ (h : StayQ w1 w F p f P q Q g R va la vb lb) (hp : PgAt w' F p q Q) (ht : Turned (PJ F p q) w w') : StayQ w1 w' F p f P q Q g R va la vb lb := by
  have hpf : PgAt w' F p f P := h.st.ls.pg.beside (by rw [← h.jj]; exact hp.jat) ht hp.nib fun k hk e => by
    rcases e with e | e
    · exact (h.st.ls.pg.apart k hk).1 e
    · exact (h.oq k e).2.1 hk
  have hout : ∀ k, PJ F p q k → w1.heap.size ≤ k ∧ ¬ RT8 g k ∧ va.ownBlock ≠ some k ∧ vb.ownBlock ≠ some k := fun k hk => by
    rcases hk with hk | hk
    · exact ⟨h.st.ls.own k (.inl (.inl hk)), fun e => h.st.ls.apart k e (.inl hk), fun e => (h.st.aa k e).2.1 (.inl hk), fun e => (h.st.ab k e).2.1 (.inl hk)⟩
    · exact ⟨(h.oq k hk).1, (h.oq k hk).2.2.1, (h.oq k hk).2.2.2⟩
  refine ⟨⟨⟨hpf, h.st.ls.rf.turned ht fun k hk e => (hout k e).2.1 hk, h.st.ls.below.trans (ht.below h.st.ls.below.size fun k hk => (hout k hk).1), h.st.ls.own, h.st.ls.apart, h.st.ls.nib⟩,
    own_keep1 h.st.ra fun k hk => ht.block k (h.st.lta hk) fun e => (hout k e).2.2.1 hk, own_keep1 h.st.rb fun k hk => ht.block k (h.st.ltb hk) fun e => (hout k e).2.2.2 hk, h.st.aa, h.st.ab, h.st.ne⟩, hp, h.oq, h.jj⟩
theorem StayI.opened (h : StayI w1 w F p f P g R va la vb lb) (hq : PgAt w' F p q Q) (hf : ∀ k, PT q k → w.heap.size ≤ k) (ht : Turned (JT F p) w w') (hj : Q.J = P.J) : StayQ w1 w' F p f P q Q g R va la vb lb := by
  have hpf : PgAt w' F p f P := h.ls.pg.beside (by rw [← hj]; exact hq.jat) ht hq.nib fun k hk e => (h.ls.pg.apart k hk).1 e
  refine ⟨⟨⟨hpf, h.ls.rf.turned ht fun k hk e => h.ls.apart k hk (.inl e), h.ls.below.trans (ht.below h.ls.below.size fun k hk => h.ls.own k (.inl (.inl hk))), h.ls.own, h.ls.apart, h.ls.nib⟩,
    own_keep1 h.ra fun k hk => ht.block k (h.lta hk) fun e => (h.aa k hk).2.1 (.inl e), own_keep1 h.rb fun k hk => ht.block k (h.ltb hk) fun e => (h.ab k hk).2.1 (.inl e), h.aa, h.ab, h.ne⟩, hq, fun k hk => ?_, hj⟩
  have h1 := hf k hk
  exact ⟨Nat.le_trans h.ls.below.size h1, fun e => by have := (h.ls.pg.apart k e).2.2; omega, fun e => by have := h.ls.lt (.inr e); omega, fun e => by have := h.lta e; omega, fun e => by have := h.ltb e; omega⟩
end
theorem MineS.shape {B : Nat} {w : World} {v : Value} {ls : List (List UInt8)} (h : MineS B w v ls) : ∃ a c, v = .slice a ls.length c := by
  rcases h.2 with ⟨rfl, hn⟩ | ⟨g, cap, cur, rfl, _⟩
  · exact ⟨none, 0, by rw [hn]⟩
  · exact ⟨_, cap, rfl⟩
theorem MineE.shape {B : Nat} {w : World} {v : Value} {ls : List Int} (h : MineE B w v ls) : ∃ a c, v = .slice a ls.length c := by
  rcases h.2 with ⟨rfl, hn⟩ | ⟨g, cap, cur, rfl, _⟩
  · exact ⟨none, 0, by rw [hn]⟩
  · exact ⟨_, cap, rfl⟩
/-- what the first i pages read as -/
def rdA (R : Rp) (i : Nat) : List (List UInt8) := (List.range i).map fun (j : Nat) => (R.read (j : Int)).1
def rdB (R : Rp) (i : Nat) : List Int := (List.range i).map fun (j : Nat) => (R.read (j : Int)).2
theorem rdA_length (R : Rp) (i : Nat) : (rdA R i).length = i := by simp [rdA]
theorem rdB_length (R : Rp) (i : Nat) : (rdB R i).length = i := by simp [rdB]
theorem rdA_succ (R : Rp) (i : Nat) : rdA R (i + 1) = rdA R i ++ [(R.read (i : Int)).1] := by simp [rdA, List.range_succ]
theorem rdB_succ (R : Rp) (i : Nat) : rdB R (i + 1) = rdB R i ++ [(R.read (i : Int)).2] := by simp [rdB, List.range_succ]
theorem rdA_get (R : Rp) (n i : Nat) (h : i < (rdA R n).length) : (rdA R n)[i] = (R.read (i : Int)).1 := by simp [rdA]
theorem rdB_get (R : Rp) (n i : Nat) (h : i < (rdB R n).length) : (rdB R n)[i] = (R.read (i : Int)).2 := by simp [rdB]
theorem St.mono {n m k : Nat} {P : Pg} {R : Rp} (h : St n m P R) (hk : m ≤ k) : St n k P R := by
  obtain ⟨s, B, h1, h2, h3⟩ := h.sim
  have := h.last
  have := h.ops
  have : 328 * m ≤ 328 * k := Nat.mul_le_mul_left _ hk
  exact ⟨⟨s, B, h1, h2, by omega⟩, by omega, h.cut, by omega⟩
theorem St.read {n m : Nat} {P : Pg} {R : Rp} (h : St n m P R) (i : Int) : P.read i = ((R.read i).1, (R.read i).2, P) := by
  obtain ⟨s, B, h1, _⟩ := h.sim
  exact h1.read i
theorem St.read_len {n m : Nat} {P : Pg} {R : Rp} (h : St n m P R) (i : Int) : (R.read i).1.length ≤ 896 := by
  obtain ⟨s, B, h1, _⟩ := h.sim
  exact Rp.read_len (fun k b hb => (h1.pagen k b hb).1) i
theorem St.facts {n m : Nat} {P : Pg} {R : Rp} (h : St n m P R) (hn : n ≤ 331) : P.now.length = R.pages.length ∧ R.pages.length ≤ 20 ∧ P.root = R.root ∧ freeN P.now = freeRN R.pages := by
  obtain ⟨s, B, h1, _⟩ := h.sim
  have := h1.len
  exact ⟨h1.nlen, by omega, h1.root, h1.free_eq⟩
/-- Open of a pager's journal, the journal told -/
theorem St.popen2 {n m : Nat} {P : Pg} {R : Rp} (hs : St n m P R) (hn : 6 ≤ n) (hn2 : n ≤ 331) : ∃ P', P.J.popen = (0, P.J, some P') ∧ P'.J = P.J ∧ St n (m + 1) P' R.abort := by
  obtain ⟨seq, B, h1, h2, h3⟩ := hs.sim
  have hl := h1.len
  obtain ⟨P', p1, p2, p3⟩ := h1.popen (by omega) hn
  exact ⟨P', p1, p2, ⟨seq, B, p3, h2, by omega⟩, by rw [p2]; have := hs.last; omega, by rw [p2]; exact hs.cut, by rw [p2]; have := hs.ops; omega⟩
theorem Pg.abort_J (P : Pg) : P.abort.J = P.J := by unfold Pg.abort; split <;> rfl
theorem St.abort {n m : Nat} {P : Pg} {R : Rp} (hs : St n m P R) : St n (m + 1) P.abort R.abort := hs.of (Pg.abort_J P) fun s B a => a.abort
/-- R's pages beside what C committed -/
def Rp.over (R C : Rp) : Rp := { R with was := C.was, wroot := C.wroot }
theorem over_taken (R C : Rp) (page : Int) : (R.over C).taken page = R.taken page := rfl
theorem over_alloc (R C : Rp) : (R.over C).alloc = (R.alloc.1, R.alloc.2.over C) := by
  have e : (R.over C).pages = R.pages := rfl
  unfold Rp.alloc
  rw [e]
  split <;> rfl
theorem over_free (R C : Rp) (page : Int) : (R.over C).free page = ((R.free page).1, (R.free page).2.over C) := by
  have e : (R.over C).root = R.root := rfl
  unfold Rp.free
  rw [over_taken, e]
  split
  · rfl
  · split <;> rfl
theorem over_setRoot (R C : Rp) (page : Int) : (R.over C).setRoot page = ((R.setRoot page).1, (R.setRoot page).2.over C) := by
  unfold Rp.setRoot
  rw [over_taken]
  split <;> rfl
theorem over_write (R C : Rp) (page : Int) (b : List UInt8) : (R.over C).write page b = ((R.write page b).1, (R.write page b).2.over C) := by
  unfold Rp.write
  rw [over_taken]
  split
  · rfl
  · split <;> rfl
theorem over_read (R C : Rp) (page : Int) : (R.over C).read page = R.read page := rfl
theorem over_abort (R C : Rp) : (R.over C.commit).abort = C.commit := rfl
theorem Sim.over {n : Nat} {P : Pg} {R : Rp} {seq : Int} {B : List (List UInt8)} (h : Sim n P R.commit seq B) : Sim n P (R.over R.commit) seq B :=
  ⟨h.live, h.off, h.now, h.was, h.root, h.wroot, h.len, h.lenw, h.plan, h.rok, h.wok, h.pagew, h.pagen, h.free, h.nodup, h.clean⟩
theorem St.over {n m : Nat} {P : Pg} {R : Rp} (h : St n m P R.commit) : St n m P (R.over R.commit) := by
  obtain ⟨s, B, h1, h2⟩ := h.sim
  exact ⟨⟨s, B, h1.over, h2⟩, h.last, h.cut, h.ops⟩
end Go.Proofs.YtbmmcaoifkboiaaDoor

/- does without Commit and Abort: what was committed stays. -/
set_option linter.unusedVariables false
set_option linter.unusedSimpArgs false
set_option maxRecDepth 100000
namespace Go.Proofs.YtbmmcaoifkboiaaDoor
open Go.RowKit

section
variable {w0 w : World} {F : Ft} {p : Nat} {f : Pf} {P : Pg} {g : Rf} {R : Rp} {n m : Nat} {wx : World} {XB : Nat → Prop} {C : Rp}
/-- what does leaves, what was committed held -/
def Do8W (w0 : World) (F : Ft) (p : Nat) (f : Pf) (g : Rf) (C : Rp) (wx : World) (XB : Nat → Prop) (n m : Nat) (e : Ending) (w' : World) : Prop := e = .returned (.bool true) ∧ ∃ f' g' P' R', f'.q = f.q ∧ g'.q = g.q ∧ LSX w0 w' F p f' P' g' R' wx XB ∧ St n (m + 1) P' (R'.over C)
set_option maxHeartbeats 16000000 in
theorem does8w_0 (h : LSX w0 w F p f P g R wx XB) (hs : St n m P (R.over C)) (hm : m ≤ 2000) (hn : 32 ≤ n) (hn2 : n ≤ 331) (kind page : Int) (y : UInt8) (hk1 : -9223372036854775808 ≤ kind) (hk2 : kind ≤ 9223372036854775807) (hp1 : -9223372036854775808 ≤ page) (hp2 : page ≤ 9223372036854775807) (hK : pickN kind 10 = 0) :
    Calls Tryd.prog 23 #[qptr f.q, qptr g.q, .agg #[.int .i64 kind, .int .i64 page, .int .u8 (y.toNat : Int)]] w (Do8W w0 F p f g C wx XB n m) := by
  obtain ⟨w1, hw1⟩ : ∃ x, x = w.alloc (opRow8 kind page y) := ⟨_, rfl⟩
  have ho1 : w1.heap[w.heap.size]? = some (opRow8 kind page y) := by rw [hw1]; exact heap_alloc_new w _
  have hb1 : Below w.heap.size w w1 := by rw [hw1]; exact (Below.refl _ _).alloc (Nat.le_refl _) _
  obtain ⟨c0, c1, c2⟩ := op_cells8 ho1
  rw [hw1] at c0 c1 c2
  have h1 := h.step hb1
  have HIN : Hid (∀ k, PJ F p f k ∨ RT8 g k → k ≠ w.heap.size) := Lib.hid fun k hk e => by have := h.lt hk; omega
  have HPK := Lib.hid (pick_any w1 kind 10 hk1 hk2 (by omega) (by omega))
  rw [hK] at HPK
  have HW1 := Lib.hid hw1
  have HS := Lib.hid hs
  have HO1 := Lib.hid ho1
  clear h hs hb1 hw1 hK ho1
  obtain ⟨pg, hpp⟩ : ∃ pg : Int, (pg = 0 ∧ (page == 77) = true) ∨ (page = pg ∧ (page == 77) = false) := by
    by_cases e : page = 77
    · exact ⟨0, .inl ⟨rfl, by simpa using e⟩⟩
    · exact ⟨page, .inr ⟨rfl, by simpa using e⟩⟩
  have hg1 : -9223372036854775808 ≤ pg := by omega
  have hg2 : pg ≤ 9223372036854775807 := by omega
  have HLS := Lib.hid h1
  clear h1
  have HA := Lib.hid (alloc_any HLS.out.pg)
  have HEQ : Hid (P.alloc.1 = R.alloc.1) := Lib.hid (by obtain ⟨s, B, a, _⟩ := HS.out.sim; have e := a.alloc.1; rw [over_alloc] at e; exact e)
  have HST := Lib.hid (HS.out.of (P' := P.alloc.2) (R' := R.alloc.2.over C) (by unfold Pg.alloc; split <;> first | rfl | (split <;> rfl)) fun s B a => by have e := a.alloc.2; rw [over_alloc] at e; exact e)
  rw [HEQ.out] at HA
  clear HEQ
  rcases hpp with ⟨rfl, hd⟩ | ⟨rfl, hd⟩
  all_goals
    go_enter Tryd.func23, Tryd.ntmps23
    go_wp2_with fail
    rw [← HW1.out]
    refine HPK.out.mono ?_
    rintro e w' ⟨rfl, hw9⟩
    rw [← hw9]
    clear hw9 w'
    clear c0 c1 c2
    go_wp2_with fail
    refine HA.out.mono ?_
    rintro e w2 ⟨rfl, ht2⟩
    obtain ⟨f2, h2, hq2⟩ := HLS.out.stepP ht2
    have HB := Lib.hid (ralloc_any h2.rf)
    have H2 := Lib.hid h2
    clear h2 ht2
    generalize R.alloc = X at *
    have hx1 : (X.1.1 == X.1.1) = true := by simp
    have hx2 : (X.1.2 == X.1.2) = true := by simp
    go_wp2_with fail
    refine HB.out.mono ?_
    rintro e w3 ⟨rfl, ht3⟩
    obtain ⟨g3, h3, hq3⟩ := H2.out.stepR ht3
    have H3 := Lib.hid h3
    clear h3 ht3
    go_wp2_with fail
    go_ret
    exact ⟨rfl, f2, g3, _, _, hq2, hq3, H3.out, HST.out⟩
set_option maxHeartbeats 16000000 in
theorem does8w_1 (h : LSX w0 w F p f P g R wx XB) (hs : St n m P (R.over C)) (hm : m ≤ 2000) (hn : 32 ≤ n) (hn2 : n ≤ 331) (kind page : Int) (y : UInt8) (hk1 : -9223372036854775808 ≤ kind) (hk2 : kind ≤ 9223372036854775807) (hp1 : -9223372036854775808 ≤ page) (hp2 : page ≤ 9223372036854775807) (hK : pickN kind 10 = 1) :
    Calls Tryd.prog 23 #[qptr f.q, qptr g.q, .agg #[.int .i64 kind, .int .i64 page, .int .u8 (y.toNat : Int)]] w (Do8W w0 F p f g C wx XB n m) := by
  obtain ⟨w1, hw1⟩ : ∃ x, x = w.alloc (opRow8 kind page y) := ⟨_, rfl⟩
  have ho1 : w1.heap[w.heap.size]? = some (opRow8 kind page y) := by rw [hw1]; exact heap_alloc_new w _
  have hb1 : Below w.heap.size w w1 := by rw [hw1]; exact (Below.refl _ _).alloc (Nat.le_refl _) _
  obtain ⟨c0, c1, c2⟩ := op_cells8 ho1
  rw [hw1] at c0 c1 c2
  have h1 := h.step hb1
  have HIN : Hid (∀ k, PJ F p f k ∨ RT8 g k → k ≠ w.heap.size) := Lib.hid fun k hk e => by have := h.lt hk; omega
  have HPK := Lib.hid (pick_any w1 kind 10 hk1 hk2 (by omega) (by omega))
  rw [hK] at HPK
  have HW1 := Lib.hid hw1
  have HS := Lib.hid hs
  have HO1 := Lib.hid ho1
  clear h hs hb1 hw1 hK ho1
  obtain ⟨pg, hpp⟩ : ∃ pg : Int, (pg = 0 ∧ (page == 77) = true) ∨ (page = pg ∧ (page == 77) = false) := by
    by_cases e : page = 77
    · exact ⟨0, .inl ⟨rfl, by simpa using e⟩⟩
    · exact ⟨page, .inr ⟨rfl, by simpa using e⟩⟩
  have hg1 : -9223372036854775808 ≤ pg := by omega
  have hg2 : pg ≤ 9223372036854775807 := by omega
  have HLS := Lib.hid h1
  clear h1
  have HA := Lib.hid (alloc_any HLS.out.pg)
  have HEQ : Hid (P.alloc.1 = R.alloc.1) := Lib.hid (by obtain ⟨s, B, a, _⟩ := HS.out.sim; have e := a.alloc.1; rw [over_alloc] at e; exact e)
  have HST := Lib.hid (HS.out.of (P' := P.alloc.2) (R' := R.alloc.2.over C) (by unfold Pg.alloc; split <;> first | rfl | (split <;> rfl)) fun s B a => by have e := a.alloc.2; rw [over_alloc] at e; exact e)
  rw [HEQ.out] at HA
  clear HEQ
  rcases hpp with ⟨rfl, hd⟩ | ⟨rfl, hd⟩
  all_goals
    go_enter Tryd.func23, Tryd.ntmps23
    go_wp2_with fail
    rw [← HW1.out]
    refine HPK.out.mono ?_
    rintro e w' ⟨rfl, hw9⟩
    rw [← hw9]
    clear hw9 w'
    clear c0 c1 c2
    go_wp2_with fail
    refine HA.out.mono ?_
    rintro e w2 ⟨rfl, ht2⟩
    obtain ⟨f2, h2, hq2⟩ := HLS.out.stepP ht2
    have HB := Lib.hid (ralloc_any h2.rf)
    have H2 := Lib.hid h2
    clear h2 ht2
    generalize R.alloc = X at *
    have hx1 : (X.1.1 == X.1.1) = true := by simp
    have hx2 : (X.1.2 == X.1.2) = true := by simp
    go_wp2_with fail
    refine HB.out.mono ?_
    rintro e w3 ⟨rfl, ht3⟩
    obtain ⟨g3, h3, hq3⟩ := H2.out.stepR ht3
    have H3 := Lib.hid h3
    clear h3 ht3
    go_wp2_with fail
    go_ret
    exact ⟨rfl, f2, g3, _, _, hq2, hq3, H3.out, HST.out⟩
set_option maxHeartbeats 16000000 in
theorem does8w_2 (h : LSX w0 w F p f P g R wx XB) (hs : St n m P (R.over C)) (hm : m ≤ 2000) (hn : 32 ≤ n) (hn2 : n ≤ 331) (kind page : Int) (y : UInt8) (hk1 : -9223372036854775808 ≤ kind) (hk2 : kind ≤ 9223372036854775807) (hp1 : -9223372036854775808 ≤ page) (hp2 : page ≤ 9223372036854775807) (hK : pickN kind 10 = 2) :
    Calls Tryd.prog 23 #[qptr f.q, qptr g.q, .agg #[.int .i64 kind, .int .i64 page, .int .u8 (y.toNat : Int)]] w (Do8W w0 F p f g C wx XB n m) := by
  obtain ⟨w1, hw1⟩ : ∃ x, x = w.alloc (opRow8 kind page y) := ⟨_, rfl⟩
  have ho1 : w1.heap[w.heap.size]? = some (opRow8 kind page y) := by rw [hw1]; exact heap_alloc_new w _
  have hb1 : Below w.heap.size w w1 := by rw [hw1]; exact (Below.refl _ _).alloc (Nat.le_refl _) _
  obtain ⟨c0, c1, c2⟩ := op_cells8 ho1
  rw [hw1] at c0 c1 c2
  have h1 := h.step hb1
  have HIN : Hid (∀ k, PJ F p f k ∨ RT8 g k → k ≠ w.heap.size) := Lib.hid fun k hk e => by have := h.lt hk; omega
  have HPK := Lib.hid (pick_any w1 kind 10 hk1 hk2 (by omega) (by omega))
  rw [hK] at HPK
  have HW1 := Lib.hid hw1
  have HS := Lib.hid hs
  have HO1 := Lib.hid ho1
  clear h hs hb1 hw1 hK ho1
  obtain ⟨pg, hpp⟩ : ∃ pg : Int, (pg = 0 ∧ (page == 77) = true) ∨ (page = pg ∧ (page == 77) = false) := by
    by_cases e : page = 77
    · exact ⟨0, .inl ⟨rfl, by simpa using e⟩⟩
    · exact ⟨page, .inr ⟨rfl, by simpa using e⟩⟩
  have hg1 : -9223372036854775808 ≤ pg := by omega
  have hg2 : pg ≤ 9223372036854775807 := by omega
  have HLS := Lib.hid h1
  clear h1
  have HA := Lib.hid (free_any HLS.out.pg pg hg1 hg2)
  have HBF : Hid (∀ w2 f2 P2, LSX w0 w2 F p f2 P2 g R wx XB → Calls Tryd.prog 48 #[qptr g.q, .int .i64 pg] w2 fun e w' => e = .returned (.int .i64 (R.free pg).1) ∧ RfTo w2 g w' (R.free pg).2) := Lib.hid fun _ _ _ h2 => rfree_any h2.rf pg
  have HEQ : Hid ((P.free pg).1 = (R.free pg).1) := Lib.hid (by obtain ⟨s, B, a, _⟩ := HS.out.sim; have e := (a.freed pg).1; rw [over_free] at e; exact e)
  have HST := Lib.hid (HS.out.of (P' := (P.free pg).2) (R' := (R.free pg).2.over C) (by unfold Pg.free; split <;> first | rfl | (split <;> rfl)) fun s B a => by have e := (a.freed pg).2; rw [over_free] at e; exact e)
  rw [HEQ.out] at HA
  clear HEQ
  generalize R.free pg = X at *
  have hx1 : (X.1 == X.1) = true := by simp
  rcases hpp with ⟨rfl, hd⟩ | ⟨rfl, hd⟩
  all_goals
    go_enter Tryd.func23, Tryd.ntmps23
    go_wp2_with fail
    rw [← HW1.out]
    refine HPK.out.mono ?_
    rintro e w' ⟨rfl, hw9⟩
    rw [← hw9]
    clear hw9 w'
    clear c0 c1 c2
    go_wp2_with fail
    refine HA.out.mono ?_
    rintro e w2 ⟨rfl, ht2⟩
    obtain ⟨f2, h2, hq2⟩ := HLS.out.stepP ht2
    have HB := Lib.hid (HBF.out _ _ _ h2)
    have H2 := Lib.hid h2
    clear h2 ht2
    go_wp2_with fail
    refine HB.out.mono ?_
    rintro e w3 ⟨rfl, ht3⟩
    obtain ⟨g3, h3, hq3⟩ := H2.out.stepR ht3
    have H3 := Lib.hid h3
    clear h3 ht3
    go_wp2_with fail
    go_ret
    exact ⟨rfl, f2, g3, _, _, hq2, hq3, H3.out, HST.out⟩
set_option maxHeartbeats 16000000 in
theorem does8w_3 (h : LSX w0 w F p f P g R wx XB) (hs : St n m P (R.over C)) (hm : m ≤ 2000) (hn : 32 ≤ n) (hn2 : n ≤ 331) (kind page : Int) (y : UInt8) (hk1 : -9223372036854775808 ≤ kind) (hk2 : kind ≤ 9223372036854775807) (hp1 : -9223372036854775808 ≤ page) (hp2 : page ≤ 9223372036854775807) (hK : pickN kind 10 = 3) :
    Calls Tryd.prog 23 #[qptr f.q, qptr g.q, .agg #[.int .i64 kind, .int .i64 page, .int .u8 (y.toNat : Int)]] w (Do8W w0 F p f g C wx XB n m) := by
  obtain ⟨w1, hw1⟩ : ∃ x, x = w.alloc (opRow8 kind page y) := ⟨_, rfl⟩
  have ho1 : w1.heap[w.heap.size]? = some (opRow8 kind page y) := by rw [hw1]; exact heap_alloc_new w _
  have hb1 : Below w.heap.size w w1 := by rw [hw1]; exact (Below.refl _ _).alloc (Nat.le_refl _) _
  obtain ⟨c0, c1, c2⟩ := op_cells8 ho1
  rw [hw1] at c0 c1 c2
  have h1 := h.step hb1
  have HIN : Hid (∀ k, PJ F p f k ∨ RT8 g k → k ≠ w.heap.size) := Lib.hid fun k hk e => by have := h.lt hk; omega
  have HPK := Lib.hid (pick_any w1 kind 10 hk1 hk2 (by omega) (by omega))
  rw [hK] at HPK
  have HW1 := Lib.hid hw1
  have HS := Lib.hid hs
  have HO1 := Lib.hid ho1
  clear h hs hb1 hw1 hK ho1
  obtain ⟨pg, hpp⟩ : ∃ pg : Int, (pg = 0 ∧ (page == 77) = true) ∨ (page = pg ∧ (page == 77) = false) := by
    by_cases e : page = 77
    · exact ⟨0, .inl ⟨rfl, by simpa using e⟩⟩
    · exact ⟨page, .inr ⟨rfl, by simpa using e⟩⟩
  have hg1 : -9223372036854775808 ≤ pg := by omega
  have hg2 : pg ≤ 9223372036854775807 := by omega
  have HLS := Lib.hid h1
  clear h1
  have HA := pread_any HLS.out.pg pg hg1 hg2
  obtain ⟨s0, B0, hsim, hs1, hs2⟩ := HS.out.sim
  rw [hsim.read pg, over_read] at HA
  have HAA := Lib.hid HA
  have HST := Lib.hid (HS.out.of (P' := P) (R' := R.over C) rfl fun s B a => a)
  have hql := Rp.read_len (R := R) (fun k b hb => (hsim.pagen k b hb).1) pg
  clear HA hsim hs1 hs2
  have HRF : Hid (∀ w2, LSX w0 w2 F p f P g R wx XB → Calls Tryd.prog 49 #[qptr g.q, .int .i64 pg] w2 fun e w' => e = .returned (.tuple #[.string ⟨(R.read pg).1.toArray⟩, .int .i64 (R.read pg).2]) ∧ w' = w2) := Lib.hid fun _ h2 => rread_any h2.rf pg
  generalize R.read pg = Q at *
  rcases hpp with ⟨rfl, hd⟩ | ⟨rfl, hd⟩
  all_goals
    go_enter Tryd.func23, Tryd.ntmps23
    go_wp2_with fail
    rw [← HW1.out]
    refine HPK.out.mono ?_
    rintro e w' ⟨rfl, hw9⟩
    rw [← hw9]
    clear hw9 w'
    clear c0 c1 c2
    go_wp2_with fail
    refine HAA.out.mono ?_
    rintro e w2 ⟨v, rfl, hmv, hp2, ht2⟩
    have h2 := HLS.out.read hp2 ht2
    have HRR := Lib.hid (HRF.out _ h2)
    have hcv := run_str (P := Tryd.prog) hmv.isB 42 9 5 Tryd.underlying42 Tryd.underlying5 Tryd.underlying9
    obtain ⟨a, c, rfl, _, _⟩ := hmv.isB.form
    obtain ⟨N, hN⟩ : ∃ N, N = Q.1.length := ⟨_, rfl⟩
    have HM := Lib.hid hmv
    rw [← hN] at HM hcv ⊢
    have H2 := Lib.hid h2
    have HLN : Hid (Q.1.length = N) := Lib.hid hN.symm
    have hbz : HLS.out.below.size = HLS.out.below.size := rfl
    obtain ⟨BB, hBB⟩ : ∃ BB, BB = w1.heap.size := ⟨_, rfl⟩
    rw [← hBB] at HM
    have HBB : Hid (w0.heap.size ≤ BB ∧ ∀ ga, a = some ⟨ga, 0, none⟩ → ∀ j, PJ F p f j ∨ RT8 g j → j ≠ ga) := Lib.hid ⟨by rw [hBB]; exact HLS.out.below.size, fun ga e j hj => by
      have h1 := HLS.out.lt hj
      have h2 := HM.out.lt ga (by rw [e]; rfl)
      omega⟩
    have HBX : Hid (∀ ga, a = some ⟨ga, 0, none⟩ → ∀ j, XB j → j ≠ ga) := Lib.hid fun ga e j hj => by
      have h1 := (HLS.out.out j hj).1
      have h2 := HM.out.lt ga (by rw [e]; rfl)
      omega
    have hx2 : (Q.2 == Q.2) = true := by simp
    have hNl : N ≤ 896 := by rw [hN]; exact hql
    clear hmv hp2 ht2 h2 hN hbz hBB hql
    go_wp2_with fail
    refine HRR.out.mono ?_
    rintro e w3 ⟨rfl, hw3⟩
    rw [hw3]
    clear hw3 w3
    go_wp2_with fail
    go_loopw [17] (fun x wr => ∃ k : Nat, k ≤ N ∧ x = .int .i64 (k : Int) ∧ (∃ L : List UInt8, L.length = N ∧ Mine 5 BB wr (.slice a N c) L) ∧ LSX w0 wr F p f P g R wx XB) (fun x _ => N - (intOf x).toNat)
    case atStart => exact ⟨0, Nat.zero_le _, rfl, ⟨_, HLN.out, HM.out⟩, H2.out⟩
    case round =>
      obtain ⟨k, hk, rfl, ⟨L, hL, hml⟩, hls⟩ := hrel
      by_cases hlt : k < N
      · have hdk : decide ((k : Int) < (N : Int)) = true := decide_eq_true (by omega)
        obtain ⟨ga, rfl⟩ : ∃ ga, a = some ⟨ga, 0, none⟩ := by
          obtain ⟨ga, cc, e, _⟩ := hml.slice (by omega)
          simp only [Value.slice.injEq] at e
          exact ⟨ga, e.1⟩
        have hgl := hml.lt ga rfl
        obtain ⟨k1, k2, k3⟩ := hml.poke k (by omega) (L[k]'(by omega) + 1)
        have hinc := u8_inc (L[k]'(by omega))
        have ht := turned_one wr ga k (.int .u8 (((L[k]'(by omega) + 1).toNat : Nat) : Int))
        have hls2 := hls.other ht (fun j hj => by have := HBB.out.1; omega) (fun j hj => ⟨fun e => HBB.out.2 ga rfl j (.inl e) hj, fun e => HBB.out.2 ga rfl j (.inr e) hj⟩) (fun j e hj => HBX.out ga rfl j e hj)
        have HF := Lib.hid (And.intro k3 (And.intro hls2 (show (L.set k (L[k]'(by omega) + 1)).length = N by rw [List.length_set]; exact hL)))
        generalize L[k]'(by omega) + 1 = z at *
        generalize L[k]'(by omega) = z0 at *
        clear hml hls k3 hls2 ht
        go_wp2_with fail
        go_roundw
        case rel => exact ⟨k + 1, hlt, by go_num, ⟨_, HF.out.2.2, HF.out.1⟩, HF.out.2.1⟩
        case measure => simp [intOf]; omega
      · obtain rfl : k = N := by omega
        have hdz : decide ((k : Int) < (k : Int)) = false := by simp
        have HF := Lib.hid hls
        clear hml hls
        go_wp2_with fail
        go_ret
        exact ⟨rfl, f, g, P, R, rfl, rfl, HF.out, HST.out⟩
set_option maxHeartbeats 16000000 in
theorem does8w_4 (h : LSX w0 w F p f P g R wx XB) (hs : St n m P (R.over C)) (hm : m ≤ 2000) (hn : 32 ≤ n) (hn2 : n ≤ 331) (kind page : Int) (y : UInt8) (hk1 : -9223372036854775808 ≤ kind) (hk2 : kind ≤ 9223372036854775807) (hp1 : -9223372036854775808 ≤ page) (hp2 : page ≤ 9223372036854775807) (hK : pickN kind 10 = 4) :
    Calls Tryd.prog 23 #[qptr f.q, qptr g.q, .agg #[.int .i64 kind, .int .i64 page, .int .u8 (y.toNat : Int)]] w (Do8W w0 F p f g C wx XB n m) := by
  obtain ⟨w1, hw1⟩ : ∃ x, x = w.alloc (opRow8 kind page y) := ⟨_, rfl⟩
  have ho1 : w1.heap[w.heap.size]? = some (opRow8 kind page y) := by rw [hw1]; exact heap_alloc_new w _
  have hb1 : Below w.heap.size w w1 := by rw [hw1]; exact (Below.refl _ _).alloc (Nat.le_refl _) _
  obtain ⟨c0, c1, c2⟩ := op_cells8 ho1
  rw [hw1] at c0 c1 c2
  have h1 := h.step hb1
  have HIN : Hid (∀ k, PJ F p f k ∨ RT8 g k → k ≠ w.heap.size) := Lib.hid fun k hk e => by have := h.lt hk; omega
  have HPK := Lib.hid (pick_any w1 kind 10 hk1 hk2 (by omega) (by omega))
  rw [hK] at HPK
  have HW1 := Lib.hid hw1
  have HS := Lib.hid hs
  have HO1 := Lib.hid ho1
  clear h hs hb1 hw1 hK ho1
  obtain ⟨pg, hpp⟩ : ∃ pg : Int, (pg = 0 ∧ (page == 77) = true) ∨ (page = pg ∧ (page == 77) = false) := by
    by_cases e : page = 77
    · exact ⟨0, .inl ⟨rfl, by simpa using e⟩⟩
    · exact ⟨page, .inr ⟨rfl, by simpa using e⟩⟩
  have hg1 : -9223372036854775808 ≤ pg := by omega
  have hg2 : pg ≤ 9223372036854775807 := by omega
  have HLS := Lib.hid h1
  clear h1
  have HOF := Lib.hid (fun W => of8_any W kind page y)
  have HWP : Hid (∀ w2 v, LSX w0 w2 F p f P g R wx XB → IsB w2 v (ofB page y) → Calls Tryd.prog 17 #[qptr f.q, .int .i64 pg, v] w2 fun e w' => e = .returned (.int .i64 (R.write pg (ofB page y)).1) ∧ PgTo w2 F p f w' (P.write pg (ofB page y)).2) := Lib.hid fun w2 v h2 hv => by
    have hA := pwrite_any h2.pg pg hg1 hg2 v _ hv
    have e : (P.write pg (ofB page y)).1 = (R.write pg (ofB page y)).1 := by obtain ⟨s, B, a, _⟩ := HS.out.sim; have e := (a.write pg (ofB page y)).1; rw [over_write] at e; exact e
    rw [e] at hA
    exact hA
  have HWR : Hid (∀ w2 f2 P2 v, LSX w0 w2 F p f2 P2 g R wx XB → IsB w2 v (ofB page y) → Calls Tryd.prog 50 #[qptr g.q, .int .i64 pg, v] w2 fun e w' => e = .returned (.int .i64 (R.write pg (ofB page y)).1) ∧ RfTo w2 g w' (R.write pg (ofB page y)).2) := Lib.hid fun w2 f2 P2 v h2 hv => rwrite8_any h2.rf pg v _ hv
  have HST := Lib.hid (HS.out.of (P' := (P.write pg (ofB page y)).2) (R' := (R.write pg (ofB page y)).2.over C) (by unfold Pg.write; split <;> first | rfl | (split <;> rfl)) fun s B a => by have e := (a.write pg (ofB page y)).2; rw [over_write] at e; exact e)
  have hbn := ofN_le page y
  have hlw := lt_of_heap HO1.out
  generalize R.write pg (ofB page y) = X at *
  generalize (P.write pg (ofB page y)).2 = P3 at *
  have hx1 : (X.1 == X.1) = true := by simp
  rcases hpp with ⟨rfl, hd⟩ | ⟨rfl, hd⟩
  all_goals
    go_enter Tryd.func23, Tryd.ntmps23
    go_wp2_with fail
    rw [← HW1.out]
    refine HPK.out.mono ?_
    rintro e w' ⟨rfl, hw9⟩
    rw [← hw9]
    clear hw9 w'
    clear c0 c1 c2
    obtain ⟨c0, c1, c2⟩ := op_cells8 HO1.out
    go_wp2_with fail
    refine (HOF.out w1).mono ?_
    rintro e w2 ⟨v, rfl, hmv, hb2⟩
    have h2 := HLS.out.step hb2
    have HWC := Lib.hid (HWP.out w2 v h2 hmv.isB)
    obtain ⟨a, c, rfl, _, _⟩ := hmv.isB.form
    have hN0 := ofB_length page y
    obtain ⟨N, hN⟩ : ∃ N, N = (ofB page y).length := ⟨_, rfl⟩
    rw [← hN] at HWC hmv hN0 ⊢
    have hNl : N ≤ 896 := by omega
    have HLN : Hid ((ofB page y).length = N) := Lib.hid hN.symm
    have HMV := Lib.hid hmv
    have HH2 := Lib.hid h2
    have HB2 := Lib.hid hb2
    clear hmv h2 hb2 hN hN0 c0 c1 c2
    go_wp2_with fail
    refine HWC.out.mono ?_
    rintro e w3 ⟨rfl, ht3⟩
    obtain ⟨f3, hpa, hq3, hpc, hpd⟩ := ht3
    have h3 := HH2.out.stepT hpa hpc hpd
    obtain ⟨BB, hBB⟩ : ∃ BB, BB = w1.heap.size := ⟨_, rfl⟩
    have hm3 : Mine 5 w1.heap.size w3 (.slice a N c) (ofB page y) := by
      have hnp : ∀ k, PJ F p f k → ¬ w1.heap.size ≤ k := fun k e hle => by have := HLS.out.lt (.inl e); omega
      exact HMV.out.keep fun k k1 k2 => hpd.block k k2 fun e => hnp k e k1
    have ho3 : w3.heap[w.heap.size]? = some (opRow8 kind page y) := by
      have e2 := (HB2.out.block _ hlw).trans HO1.out
      refine (hpd.block _ (lt_of_heap e2) fun e => ?_).trans e2
      have h0 := HH2.out.own _ (.inl e)
      have := HLS.out.lt (.inl e)
      have := HIN.out _ (.inl e)
      exact this rfl
    have HBB : Hid (w0.heap.size ≤ BB ∧ ∀ ga, a = some ⟨ga, 0, none⟩ → ∀ j, PJ F p f3 j ∨ RT8 g j → j ≠ ga) := Lib.hid ⟨by rw [hBB]; exact HLS.out.below.size, fun ga e j hj => by
      have h2 := HMV.out.lt ga (by rw [e]; rfl)
      rcases hj with (hj | hj) | hj
      · have := HLS.out.lt (.inl (.inl hj)); omega
      · rcases hpc j hj with h4 | h4
        · have := HLS.out.lt (.inl (.inr h4)); omega
        · omega
      · have := HLS.out.lt (.inr hj); omega⟩
    have HBX : Hid (∀ ga, a = some ⟨ga, 0, none⟩ → ∀ j, XB j → j ≠ ga) := Lib.hid fun ga e j hj => by
      have h1 := (HLS.out.out j hj).1
      have h2 := HMV.out.lt ga (by rw [e]; rfl)
      omega
    have hwB : w.heap.size < BB := by omega
    rw [← hBB] at hm3
    have HM := Lib.hid hm3
    have H2 := Lib.hid h3
    have HO3 := Lib.hid ho3
    clear hm3 h3 ho3 hBB hpa hpc hpd
    go_wp2_with fail
    go_loopw [20] (fun x wr => ∃ k : Nat, k ≤ N ∧ x = .int .i64 (k : Int) ∧ (∃ L : List UInt8, L.length = N ∧ Mine 5 BB wr (.slice a N c) L) ∧ LSX w0 wr F p f3 P3 g R wx XB ∧ wr.heap[w.heap.size]? = some (opRow8 kind page y)) (fun x _ => N - (intOf x).toNat)
    case atStart => exact ⟨0, Nat.zero_le _, rfl, ⟨_, HLN.out, HM.out⟩, H2.out, HO3.out⟩
    case round =>
      obtain ⟨k, hk, rfl, ⟨L, hL, hml⟩, hls, ho⟩ := hrel
      by_cases hlt : k < N
      · have hdk : decide ((k : Int) < (N : Int)) = true := decide_eq_true (by omega)
        obtain ⟨ga, rfl⟩ : ∃ ga, a = some ⟨ga, 0, none⟩ := by
          obtain ⟨ga, cc, e, _⟩ := hml.slice (by omega)
          simp only [Value.slice.injEq] at e
          exact ⟨ga, e.1⟩
        have hgl := hml.lt ga rfl
        obtain ⟨k1, k2, k3⟩ := hml.poke k (by omega) (L[k]'(by omega) + 1)
        have hinc := u8_inc (L[k]'(by omega))
        have ht := turned_one wr ga k (.int .u8 (((L[k]'(by omega) + 1).toNat : Nat) : Int))
        have hls2 := hls.other ht (fun j hj => by have := HBB.out.1; omega) (fun j hj => ⟨fun e => HBB.out.2 ga rfl j (.inl e) hj, fun e => HBB.out.2 ga rfl j (.inr e) hj⟩) (fun j e hj => HBX.out ga rfl j e hj)
        have HF := Lib.hid (And.intro k3 (And.intro hls2 (show (L.set k (L[k]'(by omega) + 1)).length = N by rw [List.length_set]; exact hL)))
        have HOK := Lib.hid ((ht.block _ (lt_of_heap ho) (by omega)).trans ho)
        clear ho
        generalize L[k]'(by omega) + 1 = z at *
        generalize L[k]'(by omega) = z0 at *
        clear hml hls k3 hls2 ht
        go_wp2_with fail
        go_roundw
        case rel => exact ⟨k + 1, hlt, by go_num, ⟨_, HF.out.2.2, HF.out.1⟩, HF.out.2.1, HOK.out⟩
        case measure => simp [intOf]; omega
      · obtain rfl : k = N := by omega
        have hdz : decide ((k : Int) < (k : Int)) = false := by simp
        have HF := Lib.hid hls
        clear hml hls
        obtain ⟨c0, c1, c2⟩ := op_cells8 ho
        clear ho
        go_wp2_with fail
        refine (HOF.out wr).mono ?_
        rintro e w6 ⟨v6, rfl, hm6, hb6⟩
        have h6 := HF.out.step hb6
        have HWD := Lib.hid (HWR.out w6 f3 P3 v6 h6 hm6.isB)
        have H6 := Lib.hid h6
        clear h6 hm6 hb6
        go_wp2_with fail
        refine HWD.out.mono ?_
        rintro e w7 ⟨rfl, ht7⟩
        obtain ⟨g7, h7, hq7⟩ := H6.out.stepR ht7
        have H7 := Lib.hid h7
        clear h7 ht7
        go_wp2_with fail
        go_ret
        exact ⟨rfl, f3, g7, _, _, hq3, hq7, H7.out, HST.out⟩
set_option maxHeartbeats 16000000 in
theorem does8w_5 (h : LSX w0 w F p f P g R wx XB) (hs : St n m P (R.over C)) (hm : m ≤ 2000) (hn : 32 ≤ n) (hn2 : n ≤ 331) (kind page : Int) (y : UInt8) (hk1 : -9223372036854775808 ≤ kind) (hk2 : kind ≤ 9223372036854775807) (hp1 : -9223372036854775808 ≤ page) (hp2 : page ≤ 9223372036854775807) (hK : pickN kind 10 = 5) :
    Calls Tryd.prog 23 #[qptr f.q, qptr g.q, .agg #[.int .i64 kind, .int .i64 page, .int .u8 (y.toNat : Int)]] w (Do8W w0 F p f g C wx XB n m) := by
  obtain ⟨w1, hw1⟩ : ∃ x, x = w.alloc (opRow8 kind page y) := ⟨_, rfl⟩
  have ho1 : w1.heap[w.heap.size]? = some (opRow8 kind page y) := by rw [hw1]; exact heap_alloc_new w _
  have hb1 : Below w.heap.size w w1 := by rw [hw1]; exact (Below.refl _ _).alloc (Nat.le_refl _) _
  obtain ⟨c0, c1, c2⟩ := op_cells8 ho1
  rw [hw1] at c0 c1 c2
  have h1 := h.step hb1
  have HIN : Hid (∀ k, PJ F p f k ∨ RT8 g k → k ≠ w.heap.size) := Lib.hid fun k hk e => by have := h.lt hk; omega
  have HPK := Lib.hid (pick_any w1 kind 10 hk1 hk2 (by omega) (by omega))
  rw [hK] at HPK
  have HW1 := Lib.hid hw1
  have HS := Lib.hid hs
  have HO1 := Lib.hid ho1
  clear h hs hb1 hw1 hK ho1
  obtain ⟨pg, hpp⟩ : ∃ pg : Int, (pg = 0 ∧ (page == 77) = true) ∨ (page = pg ∧ (page == 77) = false) := by
    by_cases e : page = 77
    · exact ⟨0, .inl ⟨rfl, by simpa using e⟩⟩
    · exact ⟨page, .inr ⟨rfl, by simpa using e⟩⟩
  have hg1 : -9223372036854775808 ≤ pg := by omega
  have hg2 : pg ≤ 9223372036854775807 := by omega
  have HLS := Lib.hid h1
  clear h1
  have HOF := Lib.hid (fun W => of8_any W kind page y)
  have HWP : Hid (∀ w2 v, LSX w0 w2 F p f P g R wx XB → IsB w2 v (ofB page y) → Calls Tryd.prog 17 #[qptr f.q, .int .i64 pg, v] w2 fun e w' => e = .returned (.int .i64 (R.write pg (ofB page y)).1) ∧ PgTo w2 F p f w' (P.write pg (ofB page y)).2) := Lib.hid fun w2 v h2 hv => by
    have hA := pwrite_any h2.pg pg hg1 hg2 v _ hv
    have e : (P.write pg (ofB page y)).1 = (R.write pg (ofB page y)).1 := by obtain ⟨s, B, a, _⟩ := HS.out.sim; have e := (a.write pg (ofB page y)).1; rw [over_write] at e; exact e
    rw [e] at hA
    exact hA
  have HWR : Hid (∀ w2 f2 P2 v, LSX w0 w2 F p f2 P2 g R wx XB → IsB w2 v (ofB page y) → Calls Tryd.prog 50 #[qptr g.q, .int .i64 pg, v] w2 fun e w' => e = .returned (.int .i64 (R.write pg (ofB page y)).1) ∧ RfTo w2 g w' (R.write pg (ofB page y)).2) := Lib.hid fun w2 f2 P2 v h2 hv => rwrite8_any h2.rf pg v _ hv
  have HST := Lib.hid (HS.out.of (P' := (P.write pg (ofB page y)).2) (R' := (R.write pg (ofB page y)).2.over C) (by unfold Pg.write; split <;> first | rfl | (split <;> rfl)) fun s B a => by have e := (a.write pg (ofB page y)).2; rw [over_write] at e; exact e)
  have hbn := ofN_le page y
  have hlw := lt_of_heap HO1.out
  generalize R.write pg (ofB page y) = X at *
  generalize (P.write pg (ofB page y)).2 = P3 at *
  have hx1 : (X.1 == X.1) = true := by simp
  rcases hpp with ⟨rfl, hd⟩ | ⟨rfl, hd⟩
  all_goals
    go_enter Tryd.func23, Tryd.ntmps23
    go_wp2_with fail
    rw [← HW1.out]
    refine HPK.out.mono ?_
    rintro e w' ⟨rfl, hw9⟩
    rw [← hw9]
    clear hw9 w'
    clear c0 c1 c2
    obtain ⟨c0, c1, c2⟩ := op_cells8 HO1.out
    go_wp2_with fail
    refine (HOF.out w1).mono ?_
    rintro e w2 ⟨v, rfl, hmv, hb2⟩
    have h2 := HLS.out.step hb2
    have HWC := Lib.hid (HWP.out w2 v h2 hmv.isB)
    obtain ⟨a, c, rfl, _, _⟩ := hmv.isB.form
    have hN0 := ofB_length page y
    obtain ⟨N, hN⟩ : ∃ N, N = (ofB page y).length := ⟨_, rfl⟩
    rw [← hN] at HWC hmv hN0 ⊢
    have hNl : N ≤ 896 := by omega
    have HLN : Hid ((ofB page y).length = N) := Lib.hid hN.symm
    have HMV := Lib.hid hmv
    have HH2 := Lib.hid h2
    have HB2 := Lib.hid hb2
    clear hmv h2 hb2 hN hN0 c0 c1 c2
    go_wp2_with fail
    refine HWC.out.mono ?_
    rintro e w3 ⟨rfl, ht3⟩
    obtain ⟨f3, hpa, hq3, hpc, hpd⟩ := ht3
    have h3 := HH2.out.stepT hpa hpc hpd
    obtain ⟨BB, hBB⟩ : ∃ BB, BB = w1.heap.size := ⟨_, rfl⟩
    have hm3 : Mine 5 w1.heap.size w3 (.slice a N c) (ofB page y) := by
      have hnp : ∀ k, PJ F p f k → ¬ w1.heap.size ≤ k := fun k e hle => by have := HLS.out.lt (.inl e); omega
      exact HMV.out.keep fun k k1 k2 => hpd.block k k2 fun e => hnp k e k1
    have ho3 : w3.heap[w.heap.size]? = some (opRow8 kind page y) := by
      have e2 := (HB2.out.block _ hlw).trans HO1.out
      refine (hpd.block _ (lt_of_heap e2) fun e => ?_).trans e2
      have h0 := HH2.out.own _ (.inl e)
      have := HLS.out.lt (.inl e)
      have := HIN.out _ (.inl e)
      exact this rfl
    have HBB : Hid (w0.heap.size ≤ BB ∧ ∀ ga, a = some ⟨ga, 0, none⟩ → ∀ j, PJ F p f3 j ∨ RT8 g j → j ≠ ga) := Lib.hid ⟨by rw [hBB]; exact HLS.out.below.size, fun ga e j hj => by
      have h2 := HMV.out.lt ga (by rw [e]; rfl)
      rcases hj with (hj | hj) | hj
      · have := HLS.out.lt (.inl (.inl hj)); omega
      · rcases hpc j hj with h4 | h4
        · have := HLS.out.lt (.inl (.inr h4)); omega
        · omega
      · have := HLS.out.lt (.inr hj); omega⟩
    have HBX : Hid (∀ ga, a = some ⟨ga, 0, none⟩ → ∀ j, XB j → j ≠ ga) := Lib.hid fun ga e j hj => by
      have h1 := (HLS.out.out j hj).1
      have h2 := HMV.out.lt ga (by rw [e]; rfl)
      omega
    have hwB : w.heap.size < BB := by omega
    rw [← hBB] at hm3
    have HM := Lib.hid hm3
    have H2 := Lib.hid h3
    have HO3 := Lib.hid ho3
    clear hm3 h3 ho3 hBB hpa hpc hpd
    go_wp2_with fail
    go_loopw [20] (fun x wr => ∃ k : Nat, k ≤ N ∧ x = .int .i64 (k : Int) ∧ (∃ L : List UInt8, L.length = N ∧ Mine 5 BB wr (.slice a N c) L) ∧ LSX w0 wr F p f3 P3 g R wx XB ∧ wr.heap[w.heap.size]? = some (opRow8 kind page y)) (fun x _ => N - (intOf x).toNat)
    case atStart => exact ⟨0, Nat.zero_le _, rfl, ⟨_, HLN.out, HM.out⟩, H2.out, HO3.out⟩
    case round =>
      obtain ⟨k, hk, rfl, ⟨L, hL, hml⟩, hls, ho⟩ := hrel
      by_cases hlt : k < N
      · have hdk : decide ((k : Int) < (N : Int)) = true := decide_eq_true (by omega)
        obtain ⟨ga, rfl⟩ : ∃ ga, a = some ⟨ga, 0, none⟩ := by
          obtain ⟨ga, cc, e, _⟩ := hml.slice (by omega)
          simp only [Value.slice.injEq] at e
          exact ⟨ga, e.1⟩
        have hgl := hml.lt ga rfl
        obtain ⟨k1, k2, k3⟩ := hml.poke k (by omega) (L[k]'(by omega) + 1)
        have hinc := u8_inc (L[k]'(by omega))
        have ht := turned_one wr ga k (.int .u8 (((L[k]'(by omega) + 1).toNat : Nat) : Int))
        have hls2 := hls.other ht (fun j hj => by have := HBB.out.1; omega) (fun j hj => ⟨fun e => HBB.out.2 ga rfl j (.inl e) hj, fun e => HBB.out.2 ga rfl j (.inr e) hj⟩) (fun j e hj => HBX.out ga rfl j e hj)
        have HF := Lib.hid (And.intro k3 (And.intro hls2 (show (L.set k (L[k]'(by omega) + 1)).length = N by rw [List.length_set]; exact hL)))
        have HOK := Lib.hid ((ht.block _ (lt_of_heap ho) (by omega)).trans ho)
        clear ho
        generalize L[k]'(by omega) + 1 = z at *
        generalize L[k]'(by omega) = z0 at *
        clear hml hls k3 hls2 ht
        go_wp2_with fail
        go_roundw
        case rel => exact ⟨k + 1, hlt, by go_num, ⟨_, HF.out.2.2, HF.out.1⟩, HF.out.2.1, HOK.out⟩
        case measure => simp [intOf]; omega
      · obtain rfl : k = N := by omega
        have hdz : decide ((k : Int) < (k : Int)) = false := by simp
        have HF := Lib.hid hls
        clear hml hls
        obtain ⟨c0, c1, c2⟩ := op_cells8 ho
        clear ho
        go_wp2_with fail
        refine (HOF.out wr).mono ?_
        rintro e w6 ⟨v6, rfl, hm6, hb6⟩
        have h6 := HF.out.step hb6
        have HWD := Lib.hid (HWR.out w6 f3 P3 v6 h6 hm6.isB)
        have H6 := Lib.hid h6
        clear h6 hm6 hb6
        go_wp2_with fail
        refine HWD.out.mono ?_
        rintro e w7 ⟨rfl, ht7⟩
        obtain ⟨g7, h7, hq7⟩ := H6.out.stepR ht7
        have H7 := Lib.hid h7
        clear h7 ht7
        go_wp2_with fail
        go_ret
        exact ⟨rfl, f3, g7, _, _, hq3, hq7, H7.out, HST.out⟩
set_option maxHeartbeats 16000000 in
theorem does8w_6 (h : LSX w0 w F p f P g R wx XB) (hs : St n m P (R.over C)) (hm : m ≤ 2000) (hn : 32 ≤ n) (hn2 : n ≤ 331) (kind page : Int) (y : UInt8) (hk1 : -9223372036854775808 ≤ kind) (hk2 : kind ≤ 9223372036854775807) (hp1 : -9223372036854775808 ≤ page) (hp2 : page ≤ 9223372036854775807) (hK : pickN kind 10 = 6) :
    Calls Tryd.prog 23 #[qptr f.q, qptr g.q, .agg #[.int .i64 kind, .int .i64 page, .int .u8 (y.toNat : Int)]] w (Do8W w0 F p f g C wx XB n m) := by
  obtain ⟨w1, hw1⟩ : ∃ x, x = w.alloc (opRow8 kind page y) := ⟨_, rfl⟩
  have ho1 : w1.heap[w.heap.size]? = some (opRow8 kind page y) := by rw [hw1]; exact heap_alloc_new w _
  have hb1 : Below w.heap.size w w1 := by rw [hw1]; exact (Below.refl _ _).alloc (Nat.le_refl _) _
  obtain ⟨c0, c1, c2⟩ := op_cells8 ho1
  rw [hw1] at c0 c1 c2
  have h1 := h.step hb1
  have HIN : Hid (∀ k, PJ F p f k ∨ RT8 g k → k ≠ w.heap.size) := Lib.hid fun k hk e => by have := h.lt hk; omega
  have HPK := Lib.hid (pick_any w1 kind 10 hk1 hk2 (by omega) (by omega))
  rw [hK] at HPK
  have HW1 := Lib.hid hw1
  have HS := Lib.hid hs
  have HO1 := Lib.hid ho1
  clear h hs hb1 hw1 hK ho1
  obtain ⟨pg, hpp⟩ : ∃ pg : Int, (pg = 0 ∧ (page == 77) = true) ∨ (page = pg ∧ (page == 77) = false) := by
    by_cases e : page = 77
    · exact ⟨0, .inl ⟨rfl, by simpa using e⟩⟩
    · exact ⟨page, .inr ⟨rfl, by simpa using e⟩⟩
  have hg1 : -9223372036854775808 ≤ pg := by omega
  have hg2 : pg ≤ 9223372036854775807 := by omega
  have HLS := Lib.hid h1
  clear h1
  have HA := Lib.hid (setroot_any HLS.out.pg pg hg1 hg2)
  have HBF : Hid (∀ w2 f2 P2, LSX w0 w2 F p f2 P2 g R wx XB → Calls Tryd.prog 51 #[qptr g.q, .int .i64 pg] w2 fun e w' => e = .returned (.int .i64 (R.setRoot pg).1) ∧ RfTo w2 g w' (R.setRoot pg).2) := Lib.hid fun _ _ _ h2 => rsetroot_any h2.rf pg
  have HEQ : Hid ((P.setRoot pg).1 = (R.setRoot pg).1) := Lib.hid (by obtain ⟨s, B, a, _⟩ := HS.out.sim; have e := (a.setRoot pg).1; rw [over_setRoot] at e; exact e)
  have HST := Lib.hid (HS.out.of (P' := (P.setRoot pg).2) (R' := (R.setRoot pg).2.over C) (by unfold Pg.setRoot; split <;> rfl) fun s B a => by have e := (a.setRoot pg).2; rw [over_setRoot] at e; exact e)
  rw [HEQ.out] at HA
  clear HEQ
  generalize R.setRoot pg = X at *
  have hx1 : (X.1 == X.1) = true := by simp
  rcases hpp with ⟨rfl, hd⟩ | ⟨rfl, hd⟩
  all_goals
    go_enter Tryd.func23, Tryd.ntmps23
    go_wp2_with fail
    rw [← HW1.out]
    refine HPK.out.mono ?_
    rintro e w' ⟨rfl, hw9⟩
    rw [← hw9]
    clear hw9 w'
    clear c0 c1 c2
    go_wp2_with fail
    refine HA.out.mono ?_
    rintro e w2 ⟨rfl, ht2⟩
    obtain ⟨f2, h2, hq2⟩ := HLS.out.stepP ht2
    have HB := Lib.hid (HBF.out _ _ _ h2)
    have H2 := Lib.hid h2
    clear h2 ht2
    go_wp2_with fail
    refine HB.out.mono ?_
    rintro e w3 ⟨rfl, ht3⟩
    obtain ⟨g3, h3, hq3⟩ := H2.out.stepR ht3
    have H3 := Lib.hid h3
    clear h3 ht3
    go_wp2_with fail
    go_ret
    exact ⟨rfl, f2, g3, _, _, hq2, hq3, H3.out, HST.out⟩
theorem does8w_any (h : LSX w0 w F p f P g R wx XB) (hs : St n m P (R.over C)) (hm : m ≤ 2000) (hn : 32 ≤ n) (hn2 : n ≤ 331) (kind page : Int) (y : UInt8) (hk1 : 0 ≤ kind) (hk2 : kind < 7) (hp1 : -9223372036854775808 ≤ page) (hp2 : page ≤ 9223372036854775807) :
    Calls Tryd.prog 23 #[qptr f.q, qptr g.q, .agg #[.int .i64 kind, .int .i64 page, .int .u8 (y.toNat : Int)]] w (Do8W w0 F p f g C wx XB n m) := by
  rcases (show kind = 0 ∨ kind = 1 ∨ kind = 2 ∨ kind = 3 ∨ kind = 4 ∨ kind = 5 ∨ kind = 6 by omega) with e | e | e | e | e | e | e
  · exact does8w_0 h hs hm hn hn2 kind page y (by omega) (by omega) hp1 hp2 (by rw [e]; decide)
  · exact does8w_1 h hs hm hn hn2 kind page y (by omega) (by omega) hp1 hp2 (by rw [e]; decide)
  · exact does8w_2 h hs hm hn hn2 kind page y (by omega) (by omega) hp1 hp2 (by rw [e]; decide)
  · exact does8w_3 h hs hm hn hn2 kind page y (by omega) (by omega) hp1 hp2 (by rw [e]; decide)
  · exact does8w_4 h hs hm hn hn2 kind page y (by omega) (by omega) hp1 hp2 (by rw [e]; decide)
  · exact does8w_5 h hs hm hn hn2 kind page y (by omega) (by omega) hp1 hp2 (by rw [e]; decide)
  · exact does8w_6 h hs hm hn hn2 kind page y (by omega) (by omega) hp1 hp2 (by rw [e]; decide)
end
end Go.Proofs.YtbmmcaoifkboiaaDoor

/- PagerStays: what was committed is there as it was, whatever is done then and taken back, or opened anew. -/
set_option linter.unusedVariables false
set_option linter.unusedSimpArgs false
set_option maxRecDepth 100000
namespace Go.Proofs.YtbmmcaoifkboiaaDoor
open Go.RowKit

set_option maxHeartbeats 32000000 in
theorem stays8_walk (w : World) (hn : Nib w) (sec_ : Int) (v : Value) (xs : List OpP) (hv : IsRow rdOpP w v xs) (v' : Value) (ys : List OpP) (hv' : IsRow rdOpP w v' ys) (h1 : -9223372036854775808 ≤ sec_) (h2 : sec_ ≤ 9223372036854775807) :
    Calls Tryd.prog 7 #[.int .i64 sec_, v, v'] w fun e w' => e = .returned (.bool true) ∧ Below w.heap.size w w' := by
  obtain ⟨a, c, rfl, hc1, hc2⟩ := hv.form
  obtain ⟨a', c', rfl, hc1', hc2'⟩ := hv'.form
  have hpk := pickN_lt sec_ (n := 300) (by omega)
  obtain ⟨n, hN⟩ : ∃ n, n = 32 + pickN sec_ 300 := ⟨_, rfl⟩
  have hn32 : 32 ≤ n := by omega
  have hn331 : n ≤ 331 := by omega
  have HV := Lib.hid hv
  have HV' := Lib.hid hv'
  have HNB := Lib.hid hn
  have HSH := Lib.hid (shown8_any w hn)
  have HN := Lib.hid hN
  obtain ⟨N, hNx⟩ : ∃ N, N = xs.length := ⟨_, rfl⟩
  obtain ⟨N', hNy⟩ : ∃ N, N = ys.length := ⟨_, rfl⟩
  rw [← hNx] at hc1 ⊢
  rw [← hNy] at hc1' ⊢
  have HNX := Lib.hid hNx
  have HNY := Lib.hid hNy
  unfold maxLen at hc2 hc2'
  clear hv hv' hn hpk hN hNx hNy
  go_enter Tryd.func7, Tryd.ntmps7
  go_wp2_with fail
  refine HSH.out.mono ?_
  rintro e w1 ⟨rfl, hb1⟩
  have HBG := Lib.hid (begun8_any w1 (HNB.out.below hb1) sec_ h1 h2)
  have HB1 := Lib.hid hb1
  clear hb1
  go_wp2_with fail
  refine HBG.out.mono ?_
  rintro e w2 ⟨F, p, f, g, P, R, rfl, hls, hb8⟩
  rw [← HN.out] at hb8
  have HST := Lib.hid (hb8.st hn331)
  have HLS := Lib.hid hls
  obtain ⟨gq, hgq⟩ : ∃ q, q = g.q := ⟨_, rfl⟩
  obtain ⟨fq, hfq⟩ : ∃ q, q = f.q := ⟨_, rfl⟩
  rw [← hgq, ← hfq]
  have HGQ := Lib.hid hgq.symm
  have HFQ := Lib.hid hfq.symm
  clear hls hb8 hgq hfq HBG HSH
  go_wp2_with fail
  go_loopw [12] (fun y wr => ∃ (i : Nat) (f : Pf) (P : Pg) (g : Rf) (R : Rp), i ≤ N ∧ i ≤ 60 ∧ y = .int .i64 (i : Int) ∧ f.q = fq ∧ g.q = gq ∧ LS w1 wr F p f P g R ∧ St n i P R) (fun y _ => N - (intOf y).toNat)
  case atStart => exact ⟨0, f, P, g, R, Nat.zero_le _, Nat.zero_le _, rfl, HFQ.out, HGQ.out, HLS.out, HST.out⟩
  case round =>
    clear HST HLS HGQ HFQ f P g R
    obtain ⟨i, f, P, g, R, hi, hi2, rfl, hfq, hgq, hls, hst⟩ := hrel
    have HB := Lib.hid (HB1.out.trans (hls.below.mono HB1.out.size))
    rcases (show (i < N ∧ i < 60) ∨ (¬ i < N) ∨ (i < N ∧ ¬ i < 60) by omega) with ⟨hlt, hlt2⟩ | hlt | ⟨hlt, hlt2⟩
    · have hd1 : decide ((i : Int) < (N : Int)) = true := decide_eq_true (by omega)
      have hd2 : decide ((i : Int) < 60) = true := decide_eq_true (by omega)
      obtain ⟨ga, o, rfl, k0, k1, k2, ⟨b1, b2⟩, ⟨b3, b4⟩⟩ := op_at8 (HV.out.below HB.out) i (by rw [← HNX.out]; exact hlt)
      generalize (xs[i]'(by rw [← HNX.out]; exact hlt)).kind = kind at *
      generalize (xs[i]'(by rw [← HNX.out]; exact hlt)).page = page at *
      generalize (xs[i]'(by rw [← HNX.out]; exact hlt)).by_ = y at *
      have HPO := Lib.hid (fun W => pick_any W kind 10 b1 b2 (by omega) (by omega))
      have hpl := pickN_lt kind (n := 10) (by omega)
      generalize pickN kind 10 = K at *
      have HLS := Lib.hid hls
      have HST := Lib.hid hst
      have HGQ := Lib.hid hgq
      have HFQ := Lib.hid hfq
      clear hls hst hgq hfq
      obtain ⟨w3, hw3⟩ : ∃ x, x = wr.alloc (opRow8 kind page y) := ⟨_, rfl⟩
      have hb3 : Below wr.heap.size wr w3 := by rw [hw3]; exact (Below.refl _ _).alloc (Nat.le_refl _) _
      have ho3 : w3.heap[wr.heap.size]? = some (opRow8 kind page y) := by rw [hw3]; exact heap_alloc_new wr _
      have HW3 := Lib.hid hw3
      have hl3 := HLS.out.step hb3
      obtain ⟨d0, d1, d2⟩ := op_cells8 ho3
      rw [hw3] at d0 d1 d2
      clear hw3 hb3
      go_wp2_with fail
      rw [← HW3.out]
      refine (HPO.out w3).mono ?_
      rintro e w9 ⟨rfl, hw9⟩
      rw [← hw9]
      clear hw9 w9 d0 d1 d2
      have f0 := frozen_p ho3 0
      have ho4 := head_setCell ho3 (i := 0) (.int .i64 (K : Int))
      have t4 := turned_one w3 wr.heap.size 0 (.int .i64 (K : Int))
      have hl4 := hl3.other t4 (fun k hk => by have := HLS.out.below.size; omega) (fun k hk => ⟨fun e => by have := HLS.out.lt (.inl e); omega, fun e => by have := HLS.out.lt (.inr e); omega⟩)
      obtain ⟨e0, e1, e2⟩ := op_cells8 ho3
      have HDO := Lib.hid (does8_any hl4 HST.out (by omega) hn32 hn331 (K : Int) page y (by omega) (by omega) b3 b4)
      rw [HGQ.out, HFQ.out] at HDO
      clear ho4 t4 hl4 hl3
      go_wp2_with fail
      refine HDO.out.mono ?_
      rintro e w5 ⟨rfl, f5, g5, P5, R5, q5, r5, l5, s5⟩
      have HL5 := Lib.hid l5
      have HS5 := Lib.hid s5
      have HQ5 := Lib.hid (q5.trans HFQ.out)
      have HR5 := Lib.hid (r5.trans HGQ.out)
      clear l5 s5 q5 r5
      go_wp2_with fail
      go_roundw
      case rel => exact ⟨i + 1, f5, P5, g5, R5, hlt, hlt2, by go_num, HQ5.out, HR5.out, HL5.out, HS5.out⟩
      case measure => simp [intOf]; omega
    all_goals
      have hd1 : decide ((i : Int) < (N : Int)) = decide (i < N) := by simp
      have hd2 : decide ((i : Int) < 60) = decide (i < 60) := decide_eq_decide.2 (by omega)
      have HLS := Lib.hid hls
      have HST := Lib.hid hst
      have HGQ := Lib.hid hgq
      have HFQ := Lib.hid hfq
      clear hls hst hgq hfq
      first
        | (rw [decide_eq_false hlt] at hd1
           clear hd2
           go_wp2_with fail)
        | (rw [decide_eq_true hlt] at hd1
           rw [decide_eq_false hlt2] at hd2
           go_wp2_with fail)
      obtain ⟨e0, hst⟩ := HST.out.commit (by omega) hn331 (by omega)
      obtain ⟨sq, hsq⟩ : ∃ sq, P.J.seq = sq ∧ 0 ≤ sq ∧ sq ≤ 3000 := by
        obtain ⟨s, B, a, b, c⟩ := HST.out.sim
        exact ⟨s, a.live.hseq, b, by omega⟩
      have hlst := HST.out.last
      have HA := commit_any HLS.out.pg (by omega) (by omega) (by omega)
      rw [e0, HFQ.out] at HA
      have HAA := Lib.hid HA
      have HST2 := Lib.hid (hst.mono (k := 61) (by omega))
      clear e0 hst hsq hlst HA HST
      clear hd1 hlt
      try clear hd2 hlt2
      obtain ⟨C, hC⟩ : ∃ C, C = R.commit := ⟨_, rfl⟩
      have HC := Lib.hid hC
      rw [← hC] at HST2
      have HSO : Hid (St n 61 P.commit.2 (R.over C)) := Lib.hid (by rw [hC]; exact (hC ▸ HST2.out).over)
      have HCA : Hid (∀ R' : Rp, (R'.over C).abort = C) := Lib.hid fun R' => by rw [hC]; exact over_abort R' R
      clear hC
      go_wp2_with fail
      refine HAA.out.mono ?_
      rintro e w3 ⟨rfl, ht3⟩
      obtain ⟨f3, l3, q3⟩ := HLS.out.stepP ht3
      generalize P.commit.2 = Pc at *
      obtain ⟨Np, hNp⟩ : ∃ N, N = Pc.now.length := ⟨_, rfl⟩
      obtain ⟨t1, t2, t3, t4⟩ := HST2.out.facts hn331
      have hNp20 : Np ≤ 20 := by omega
      have HNP := Lib.hid hNp
      have HTF := Lib.hid (And.intro (show C.pages.length = Np by omega) (And.intro t3 t4))
      have HQ3 := Lib.hid (q3.trans HFQ.out)
      have HSI : Hid (StayI w1 w3 F p f3 Pc g R (.slice none 0 0) (rdA C 0) (.slice none 0 0) (rdB C 0)) := Lib.hid (by
        exact ⟨l3, MineS.nil 0 _, MineE.nil 0 _, fun k e => (by cases e), fun k e => (by cases e), fun k e => (by cases e)⟩)
      clear ht3 l3 q3 hNp t1 t2 t3 t4 HLS HFQ HAA HB
      go_wp2_with fail
      go_loopw [14, 15, 16] (fun va vb y wr => ∃ i : Nat, i ≤ Np ∧ y = .int .i64 (i : Int) ∧ StayI w1 wr F p f3 Pc g R va (rdA C i) vb (rdB C i)) (fun _ _ y _ => Np - (intOf y).toNat)
      case atStart => exact ⟨0, Nat.zero_le _, rfl, HSI.out⟩
      case round =>
        clear HSI
        obtain ⟨k, hk, rfl, hsi⟩ := hrel
        have HPG := pages_any hsi.ls.pg
        rw [← HNP.out, HQ3.out] at HPG
        have HPGS := Lib.hid HPG
        clear HPG
        by_cases hlt : k < Np
        · have hdk : decide ((k : Int) < (Np : Int)) = true := decide_eq_true (by omega)
          have hrd := pread_any hsi.ls.pg (k : Int) (by omega) (by omega)
          rw [HST2.out.read, HQ3.out] at hrd
          have HRD := Lib.hid hrd
          have HSI := Lib.hid hsi
          have hql := HST2.out.read_len (k : Int)
          clear hrd hsi
          go_wp2_with fail
          refine HPGS.out.mono ?_
          rintro e w9 ⟨rfl, hw9⟩
          rw [hw9]
          clear hw9 w9
          go_wp2_with fail
          refine HRD.out.mono ?_
          rintro e w4 ⟨u, rfl, hmu, hp4, ht4⟩
          have hs4 := HSI.out.read hp4 ht4
          have hcv := run_str (P := Tryd.prog) hmu.isB 42 9 5 Tryd.underlying42 Tryd.underlying5 Tryd.underlying9
          obtain ⟨ua, uc, rfl, _, _⟩ := hmu.isB.form
          have HSU : Hid (rdA C (k + 1) = rdA C k ++ [(C.read (k : Int)).1] ∧ rdB C (k + 1) = rdB C k ++ [(C.read (k : Int)).2]) := Lib.hid ⟨rdA_succ C k, rdB_succ C k⟩
          generalize C.read (k : Int) = Q at *
          have hba : Below w4.heap.size w4 (w4.alloc (.cells #[.string ⟨Q.1.toArray⟩] 9)) := (Below.refl _ _).alloc (Nat.le_refl _) _
          obtain ⟨va5, w5, hr5, hs5⟩ := (hs4.step hba).growA (by rw [rdA_length]; omega) Q.1 w4.heap.size (heap_alloc_new _ _)
          have hbb : Below w5.heap.size w5 (w5.alloc (.cells #[.int .i64 Q.2] 35)) := (Below.refl _ _).alloc (Nat.le_refl _) _
          obtain ⟨vb6, w6, hr6, hs6⟩ := (hs5.step hbb).growB (by rw [rdB_length]; omega) Q.2 w5.heap.size (heap_alloc_new _ _)
          rw [← HSU.out.1, ← HSU.out.2] at hs6
          have HS6 := Lib.hid hs6
          obtain ⟨aa, ca, hva⟩ := HSI.out.ra.shape
          obtain ⟨ab, cb, hvb⟩ := HSI.out.rb.shape
          obtain ⟨aa5, ca5, hva5⟩ := hs5.ra.shape
          rw [rdA_length] at hva
          rw [rdB_length] at hvb
          rw [List.length_append, rdA_length, List.length_singleton] at hva5
          subst hva hvb hva5
          clear hmu hp4 ht4 hs4 hba hs5 hbb hs6
          go_wp2_with (at_builtin; first | (refine wpList_append_run rfl (.tmp 81) (.tmp 84) 59 59 rfl _ _ _ rfl rfl hr5 ?_; clear hr5) | (refine wpList_append_run rfl (.tmp 86) (.tmp 88) 60 60 rfl _ _ _ rfl rfl hr6 ?_; clear hr6))
          go_roundw
          case rel => exact ⟨k + 1, by omega, by go_num, HS6.out⟩
          case measure => simp [intOf]; omega
        · obtain rfl : k = Np := by omega
          have hdz : decide ((k : Int) < (k : Int)) = false := by simp
          have HRT := root_any hsi.ls.pg
          have HLF := left_any hsi.ls.pg
          rw [HTF.out.2.1, HQ3.out] at HRT
          rw [HTF.out.2.2, HQ3.out] at HLF
          have HRTS := Lib.hid HRT
          have HLFS := Lib.hid HLF
          have HX0 := Lib.hid hsi.lsx
          have HSI := Lib.hid hsi
          clear HRT HLF hsi
          obtain ⟨aa, ca, hva⟩ := HSI.out.ra.shape
          obtain ⟨ab, cb, hvb⟩ := HSI.out.rb.shape
          rw [rdA_length] at hva
          rw [rdB_length] at hvb
          subst hva hvb
          generalize hW2 : wr = W2 at *
          go_wp2_with (first
            | (go_at_call 16; refine HPGS.out.mono ?_; rintro e w9 ⟨rfl, hw9⟩; rw [hw9]; clear hw9 w9)
            | (go_at_call 31; refine HRTS.out.mono ?_; rintro e w9 ⟨rfl, hw9⟩; rw [hw9]; clear hw9 w9)
            | (go_at_call 11; refine HLFS.out.mono ?_; rintro e w9 ⟨rfl, hw9⟩; rw [hw9]; clear hw9 w9))
          go_loopw [21] (fun y wr => ∃ (i : Nat) (f : Pf) (P : Pg) (g : Rf) (R : Rp), i ≤ N' ∧ i ≤ 60 ∧ y = .int .i64 (i : Int) ∧ f.q = fq ∧ g.q = gq ∧ LSX w1 wr F p f P g R W2 (fun j => (Value.slice aa k ca).ownBlock = some j ∨ (Value.slice ab k cb).ownBlock = some j) ∧ St n (61 + i) P (R.over C)) (fun y _ => N' - (intOf y).toNat)
          case atStart => exact ⟨0, f3, Pc, g, R, Nat.zero_le _, Nat.zero_le _, rfl, HQ3.out, HGQ.out, HX0.out, HSO.out⟩
          case round =>
            clear HX0 HSO HQ3 HGQ HPGS HRTS HLFS
            obtain ⟨i, f, P, g, R, hi, hi2, rfl, hfq, hgq, hlx, hst⟩ := hrel
            have HB := Lib.hid (HB1.out.trans (hlx.below.mono HB1.out.size))
            rcases (show (i < N' ∧ i < 60) ∨ (¬ i < N') ∨ (i < N' ∧ ¬ i < 60) by omega) with ⟨hlt, hlt2⟩ | hlt | ⟨hlt, hlt2⟩
            · have hd1 : decide ((i : Int) < (N' : Int)) = true := decide_eq_true (by omega)
              have hd2 : decide ((i : Int) < 60) = true := decide_eq_true (by omega)
              obtain ⟨ga, o, rfl, k0, k1, k2, ⟨b1, b2⟩, ⟨b3, b4⟩⟩ := op_at8 (HV'.out.below HB.out) i (by rw [← HNY.out]; exact hlt)
              generalize (ys[i]'(by rw [← HNY.out]; exact hlt)).kind = kind at *
              generalize (ys[i]'(by rw [← HNY.out]; exact hlt)).page = page at *
              generalize (ys[i]'(by rw [← HNY.out]; exact hlt)).by_ = y at *
              have HPO := Lib.hid (fun W => pick_any W kind 7 b1 b2 (by omega) (by omega))
              have hpl := pickN_lt kind (n := 7) (by omega)
              generalize pickN kind 7 = K at *
              have HLS := Lib.hid hlx
              have HST := Lib.hid hst
              have HGQ := Lib.hid hgq
              have HFQ := Lib.hid hfq
              clear hlx hst hgq hfq
              obtain ⟨w3, hw3⟩ : ∃ x, x = wr.alloc (opRow8 kind page y) := ⟨_, rfl⟩
              have hb3 : Below wr.heap.size wr w3 := by rw [hw3]; exact (Below.refl _ _).alloc (Nat.le_refl _) _
              have ho3 : w3.heap[wr.heap.size]? = some (opRow8 kind page y) := by rw [hw3]; exact heap_alloc_new wr _
              have HW3 := Lib.hid hw3
              have hl3 := HLS.out.step hb3
              obtain ⟨d0, d1, d2⟩ := op_cells8 ho3
              rw [hw3] at d0 d1 d2
              clear hw3 hb3
              go_wp2_with fail
              rw [← HW3.out]
              refine (HPO.out w3).mono ?_
              rintro e w9 ⟨rfl, hw9⟩
              rw [← hw9]
              clear hw9 w9 d0 d1 d2
              have f0 := frozen_p ho3 0
              have ho4 := head_setCell ho3 (i := 0) (.int .i64 (K : Int))
              have t4 := turned_one w3 wr.heap.size 0 (.int .i64 (K : Int))
              have hl4 := hl3.other t4 (fun k hk => by have := HLS.out.below.size; omega) (fun k hk => ⟨fun e => by have := HLS.out.lt (.inl e); omega, fun e => by have := HLS.out.lt (.inr e); omega⟩) (fun k hk e => by have := (HLS.out.out k hk).1; omega)
              obtain ⟨e0, e1, e2⟩ := op_cells8 ho3
              have HDO := Lib.hid (does8w_any hl4 HST.out (by omega) hn32 hn331 (K : Int) page y (by omega) (by omega) b3 b4)
              rw [HGQ.out, HFQ.out] at HDO
              clear ho4 t4 hl4 hl3
              go_wp2_with fail
              refine HDO.out.mono ?_
              rintro e w5 ⟨rfl, f5, g5, P5, R5, q5, r5, l5, s5⟩
              have HL5 := Lib.hid l5
              have HS5 := Lib.hid s5
              have HQ5 := Lib.hid (q5.trans HFQ.out)
              have HR5 := Lib.hid (r5.trans HGQ.out)
              clear l5 s5 q5 r5
              go_wp2_with fail
              go_roundw
              case rel => exact ⟨i + 1, f5, P5, g5, R5, hlt, hlt2, by go_num, HQ5.out, HR5.out, HL5.out, HS5.out⟩
              case measure => simp [intOf]; omega
            all_goals
              have hd1 : decide ((i : Int) < (N' : Int)) = decide (i < N') := by simp
              have hd2 : decide ((i : Int) < 60) = decide (i < 60) := decide_eq_decide.2 (by omega)
              have HSI3 := Lib.hid (HSI.out.back hlx)
              obtain ⟨Q0, p1, p2, p3⟩ := hst.popen2 (by omega) hn331
              rw [HCA.out] at p3
              have HPO := Lib.hid p1
              have HJQ := Lib.hid p2
              have HSQ := Lib.hid p3
              have hsa := hst.abort
              rw [HCA.out] at hsa
              have HSA := Lib.hid hsa
              have hn22 : 22 ≤ P.J.D.n := by
                obtain ⟨s, B, e, _⟩ := hst.sim
                rw [e.live.hn]
                omega
              have HO := Lib.hid (popen_any wr F p P.J hlx.pg.jat hlx.pg.nib hn22)
              have HFQ := Lib.hid hfq
              clear p1 p2 p3 hsa hn22 hlx hst hfq hgq
              first
                | (rw [decide_eq_false hlt] at hd1
                   clear hd2
                   go_wp2_with fail)
                | (rw [decide_eq_true hlt] at hd1
                   rw [decide_eq_false hlt2] at hd2
                   go_wp2_with fail)
              refine HO.out.mono ?_
              rintro e w6 ⟨_, hsome, t6⟩
              obtain ⟨q6, rfl, hq6, hf6⟩ := hsome _ _ _ HPO.out
              have hsq := HSI3.out.opened hq6 hf6 t6 HJQ.out
              have HAB := abort_any hsq.st.ls.pg
              rw [HFQ.out] at HAB
              have HABS := Lib.hid HAB
              have HS6 := Lib.hid hsq
              clear hsome hq6 hf6 t6 hsq HAB HO
              go_wp2_with fail
              refine HABS.out.mono ?_
              rintro e w7 ⟨rfl, f7, a7, b7, c7, d7⟩
              have HS7 := Lib.hid (HS6.out.stepT a7 c7 d7 (Pg.abort_J P))
              have HQ7 := Lib.hid (b7.trans HFQ.out)
              clear a7 b7 c7 d7
              obtain ⟨u1, u2, u3, u4⟩ := HSA.out.facts hn331
              obtain ⟨y1, y2, y3, y4⟩ := HSQ.out.facts hn331
              have r1 := root_any HS7.out.st.ls.pg
              have r2 := left_any HS7.out.st.ls.pg
              have r3 := root_any HS7.out.pq
              have r4 := left_any HS7.out.pq
              rw [u3, HQ7.out] at r1
              rw [u4, HQ7.out] at r2
              rw [y3] at r3
              rw [y4] at r4
              have HR1 := Lib.hid r1
              have HR2 := Lib.hid r2
              have HR3 := Lib.hid r3
              have HR4 := Lib.hid r4
              have HU1 := Lib.hid (u1.trans HTF.out.1)
              clear r1 r2 r3 r4 u1 u2 u3 u4 y1 y2 y3 y4
              generalize C.root = rt at *
              generalize freeRN C.pages = lf at *
              have hx1 : (rt != rt) = false := by simp
              have hx2 : ((lf : Int) != (lf : Int)) = false := by simp
              go_wp2_with (first
                | (go_at_call 31; (first | (refine HR1.out.mono ?_; clear HR1) | (refine HR3.out.mono ?_)); rintro e w9 ⟨rfl, hw9⟩; rw [hw9]; clear hw9 w9)
                | (go_at_call 11; (first | (refine HR2.out.mono ?_; clear HR2) | (refine HR4.out.mono ?_)); rintro e w9 ⟨rfl, hw9⟩; rw [hw9]; clear hw9 w9))
              go_loopw [25] (fun y wr => ∃ j : Nat, j ≤ k ∧ y = .int .i64 (j : Int) ∧ StayQ w1 wr F p f7 P.abort q6 Q0 g R (.slice aa k ca) (rdA C k) (.slice ab k cb) (rdB C k)) (fun y _ => k - (intOf y).toNat)
              case atStart => exact ⟨0, Nat.zero_le _, rfl, HS7.out⟩
              case round =>
                clear HS7
                obtain ⟨j, hj, rfl, hsq⟩ := hrel
                have hpg := pages_any hsq.st.ls.pg
                rw [HU1.out, HQ7.out] at hpg
                have HPG := Lib.hid hpg
                clear hpg
                by_cases hlj : j < k
                · have hdk : decide ((j : Int) < (k : Int)) = true := decide_eq_true (by omega)
                  have hrd := pread_any hsq.st.ls.pg (j : Int) (by omega) (by omega)
                  rw [HSA.out.read, HQ7.out] at hrd
                  have HRD := Lib.hid hrd
                  have hql := HSA.out.read_len (j : Int)
                  have HSQ4 := Lib.hid hsq
                  obtain ⟨ga, cc, hv1, _, _, _⟩ := hsq.st.ra.at (fun e => by have := rdA_length C k; rw [e] at this; simp at this; omega)
                  obtain ⟨gb, cd, hv2, _, _, _⟩ := hsq.st.rb.at (fun e => by have := rdB_length C k; rw [e] at this; simp at this; omega)
                  simp only [Value.slice.injEq] at hv1 hv2
                  have hv3 := hv1.1
                  have hv4 := hv2.1
                  clear hv1 hv2 hsq
                  subst hv3 hv4
                  go_wp2_with (go_at_call 16; refine HPG.out.mono ?_; rintro e w9 ⟨rfl, hw9⟩; rw [hw9]; clear hw9 w9)
                  refine HRD.out.mono ?_
                  rintro e w4 ⟨u, rfl, hmu, hp4, ht4⟩
                  have hs4 := HSQ4.out.stepT hp4 (fun k hk => .inl hk) ht4 rfl
                  have hrq := pread_any hs4.pq (j : Int) (by omega) (by omega)
                  rw [HSQ.out.read] at hrq
                  have HRQ := Lib.hid hrq
                  have HMU := Lib.hid hmu
                  have HS4 := Lib.hid hs4
                  obtain ⟨ua, uc, hue, _, _⟩ := hmu.isB.form
                  subst hue
                  clear hmu hp4 ht4 hs4 hrq HRD
                  go_wp2_with fail
                  refine HRQ.out.mono ?_
                  rintro e w5 ⟨u2, rfl, hmv, hp5, ht5⟩
                  have hs5 := HS4.out.readQ hp5 ht5
                  have hmu := HMU.out.keep (w' := w5) fun x h1 h2 => ht5.block x h2 fun e => by
                    rcases e with e | e
                    · have := HSQ4.out.st.ls.lt (.inl (.inl e))
                      omega
                    · have := (HSQ4.out.pq.apart x e).2.2
                      omega
                  have hst1 := run_str (P := Tryd.prog) hmu.isB.drew 42 9 5 Tryd.underlying42 Tryd.underlying5 Tryd.underlying9
                  have hst2 := run_str (P := Tryd.prog) hmv.isB.drew 42 9 5 Tryd.underlying42 Tryd.underlying5 Tryd.underlying9
                  obtain ⟨ub, uc2, hue2, _, _⟩ := hmv.isB.form
                  subst hue2
                  obtain ⟨ga', cc2, hv1, _, _, hca⟩ := hs5.st.ra.at (fun e => by have := rdA_length C k; rw [e] at this; simp at this; omega)
                  obtain ⟨gb', cd2, hv2, _, _, hcb⟩ := hs5.st.rb.at (fun e => by have := rdB_length C k; rw [e] at this; simp at this; omega)
                  simp only [Value.slice.injEq, Option.some.injEq, Addr.mk.injEq] at hv1 hv2
                  have hv3 := hv1.1.1
                  have hv4 := hv2.1.1
                  clear hv1 hv2
                  subst hv3 hv4
                  have hcj : w5.drew.cell? ⟨ga, j, none⟩ = some (.string ⟨(C.read (j : Int)).1.toArray⟩) := by
                    have h := hca j (by rw [rdA_length]; exact hlj)
                    rw [rdA_get] at h
                    exact h
                  have hcj2 : w5.drew.cell? ⟨gb, j, none⟩ = some (.int .i64 (C.read (j : Int)).2) := by
                    have h := hcb j (by rw [rdB_length]; exact hlj)
                    rw [rdB_get] at h
                    exact h
                  have HS5 := Lib.hid (hs5.step (Below.refl _ _).drew)
                  clear hca hcb hmu hmv hp5 ht5 hs5 HRQ HMU HS4 HSQ4
                  generalize C.read (j : Int) = Q at *
                  have hbn : (Q.2 != Q.2) = false := by simp
                  go_upto_region 38 with fail
                  go_region
                  go_wp2_with fail
                  go_roundw
                  case rel => exact ⟨j + 1, hlj, by go_num, HS5.out⟩
                  case measure => simp [intOf]; omega
                · obtain rfl : j = k := by omega
                  have hdz : decide ((j : Int) < (j : Int)) = false := by simp
                  have HB9 := Lib.hid (HB1.out.trans (hsq.st.ls.below.mono HB1.out.size))
                  clear hsq
                  go_wp2_with (go_at_call 16; refine HPG.out.mono ?_; rintro e w9 ⟨rfl, hw9⟩; rw [hw9]; clear hw9 w9)
                  go_ret
                  exact ⟨rfl, HB9.out⟩
end Go.Proofs.YtbmmcaoifkboiaaDoor

/- The card of PagerStays: for every input the law answers true, and what came in reads as it did. -/
set_option linter.unusedVariables false
set_option linter.unusedSimpArgs false
set_option maxRecDepth 100000
namespace Go.Proofs.YtbmmcaoifkboiaaDoor.cardPagerStays
open Go.ChangeShapes Go.WideShapes Go.ChangeAt Go.RowKit Go.Deep
open Go.ChangeMaps (open_string shut_string)

theorem gTab : Tryd.prog.globalNamed "usance/wire.nibbles" = some 0 := by kernel_rfl
theorem gTabType : (Tryd.prog.globals[0]?).map (·.type) = some 134 := by kernel_rfl
theorem cellsTab : Tryd.prog.cellsOf 134 = 16 := by kernel_rfl
theorem cellsU32 : Tryd.prog.cellsOf 124 = 1 := by kernel_rfl
/-- what the row lists: the table of the sum -/
theorem table {W : World} (h : laidMetH Tryd.prog Rows.pagerStaysRow.laid W) : Nib W := by
  have ht : Lib.TabIs Tryd.prog W "usance/wire.nibbles" .u32 [0, 498536548, 997073096, 651767980, 1994146192, 1802195444, 1303535960, 1342533948, 3988292384, 4027552580, 3604390888, 3412177804, 2607071920, 2262029012, 2685067896, 3183342108] :=
    Lib.tabIs_of_head (rest := []) gTab gTabType Tryd.underlying134 Tryd.underlying124 cellsU32 cellsTab h
  intro i hi
  rw [ht.cell gTab i (by simpa using hi)]
  have e : ∀ i : Fin 16, ([0, 498536548, 997073096, 651767980, 1994146192, 1802195444, 1303535960, 1342533948, 3988292384, 4027552580, 3604390888, 3412177804, 2607071920, 2262029012, 2685067896, 3183342108] : List Int).getD i.val 0 = ((UsCrc.nib.getD i.val 0 : Nat) : Int) := by decide
  rw [e ⟨i, hi⟩]

theorem contract (H : Type) (enc : TypeId × Value → H) (W : World) (base : Nat) (args : Array Value) (ds gs : List (DataW H)) (before : List MemPlace)
    (hval : ∀ (j : Nat) t v, Tryd.f7.params[j]? = some t → args[j]? = some v → Value.okWide Tryd.prog W .any base t v)
    (hW : DataW.Whole enc Tryd.prog Tryd.f7.params.toList Rows.pagerStaysSpec.vars false W args.toList ds gs before) (hL : laidMetH Tryd.prog Rows.pagerStaysRow.laid W)
    (hsz : (DataW.weightsEach Tryd.prog (Tryd.f7.params.toList ++ (OpenSpec.ofChange Rows.pagerStaysSpec).bare.plain.varTypes Tryd.prog) (ds ++ gs)).all (· ≤ reachBytes) = true) :
    Calls Tryd.prog 7 args W fun e W' => ∃ v, e = .returned v ∧ Rows.pagerStaysSpec.post enc Tryd.prog Tryd.f7 false true false false W args v W' := by
  have hW' := hW
  obtain ⟨p, q, hA0, hV, rfl, hfz, hnd⟩ := hW
  have hA : DataW.TrodAll enc Tryd.prog W 0 (fun _ => true) true Tryd.f7.params.toList args.toList ds p := hA0
  rw [Tryd.params7] at hA hval hsz
  obtain ⟨v0, vs0, d0, ds0, p0, q0, hargs, rfl, rfl, h0, r0⟩ := trodAll_cons hA
  obtain ⟨v1, vs1, d1, ds1, p1, q1, rfl, rfl, rfl, h1, r1⟩ := trodAll_cons r0
  obtain ⟨v2, vs2, d2, ds2, p2, q2, rfl, rfl, rfl, h2, r2⟩ := trodAll_cons r1
  obtain ⟨rfl, rfl, rfl⟩ := trodAll_nil r2
  obtain rfl : args = #[v0, v1, v2] := by cases args; simp_all
  obtain ⟨rfl, rfl⟩ := trodVars_none hV
  have k0 := h0
  have lt0 : ∀ x ∈ p0, x.block < W.heap.size := by obtain ⟨m, hm⟩ := k0; exact DataW.trod_lt m _ _ _ hm
  have k1 := h1
  have lt1 : ∀ x ∈ p1, x.block < W.heap.size := by obtain ⟨m, hm⟩ := k1; exact DataW.trod_lt m _ _ _ hm
  have k2 := h2
  have lt2 : ∀ x ∈ p2, x.block < W.heap.size := by obtain ⟨m, hm⟩ := k2; exact DataW.trod_lt m _ _ _ hm
  simp only [List.append_nil, List.nil_append, List.cons_append] at hsz
  obtain ⟨x0, rfl, rfl, rfl, w0⟩ := open_int Tryd.underlying3 (hval 0 3 v0 rfl rfl) h0
  have b0 := wf_int64 w0
  obtain ⟨xs1, ir1⟩ := open_row rdOpP (by decide) Tryd.underlying22 (hval 1 22 v1 rfl rfl) h1 (light_arg (j := 1) hsz rfl rfl)
  obtain ⟨xs2, ir2⟩ := open_row rdOpP (by decide) Tryd.underlying22 (hval 2 22 v2 rfl rfl) h2 (light_arg (j := 2) hsz rfl rfl)
  have hnib := table hL
  clear hA0
  refine (stays8_walk W hnib x0 v1 xs1 ir1 v2 xs2 ir2 b0.1 b0.2).mono fun e W' ⟨he, bel⟩ => ?_
  subst he
  exact ⟨_, rfl, _, _, _, [], _, [], hW', trodAll_mk1 (shut_bool Tryd.underlying4 _), (trodAll_cons_mk (Below.trod laidOut (by kernel_rfl) (of_decide_eq_true (by kernel_rfl)) k0 bel lt0) (trodAll_cons_mk (Below.trod laidOut (by kernel_rfl) (of_decide_eq_true (by kernel_rfl)) k1 bel lt1) (trodAll_cons_mk (Below.trod laidOut (by kernel_rfl) (of_decide_eq_true (by kernel_rfl)) k2 bel lt2) trodAll_mk0))), rfl, bel.frame _, fun h => by cases h⟩

/-- a world for the witness: the table as its initialiser lays it -/
noncomputable def laidWorld (os : Os) : World :=
  { World.holding Tryd.prog os ⟨#[], #[], []⟩ with heap := (World.holding Tryd.prog os ⟨#[], #[], []⟩).heap.modify 0 fun
      | .cells _ t frozen => .cells #[.int .u32 0, .int .u32 498536548, .int .u32 997073096, .int .u32 651767980, .int .u32 1994146192, .int .u32 1802195444, .int .u32 1303535960, .int .u32 1342533948, .int .u32 3988292384, .int .u32 4027552580, .int .u32 3604390888, .int .u32 3412177804, .int .u32 2607071920, .int .u32 2262029012, .int .u32 2685067896, .int .u32 3183342108] t frozen
      | o => o }
theorem laid_met (os : Os) : laidMet Tryd.prog Rows.pagerStaysRow.laid ((laidWorld os).forCall (fun _ _ => 0) ⟨#[], #[.int .i64 0, .slice none 0 0, .slice none 0 0], []⟩).memory :=
  laidMet_of_run' 8 (by kernel_rfl) (by kernel_rfl)
theorem reads (os : Os) {H : Type} (enc : TypeId × Value → H) : ∃ places, DataW.whole enc Tryd.prog ((laidWorld os).forCall (fun _ _ => 0) ⟨#[], #[.int .i64 0, .slice none 0 0, .slice none 0 0], []⟩).memory Tryd.f7.params.toList Rows.pagerStaysSpec.vars false (#[.int .i64 0, .slice none 0 0, .slice none 0 0] : Array Value).toList 8 = some ([.lit (.int .i64 0), .nil, .nil], [], places) :=
  ⟨[], by kernel_rfl⟩

theorem lifted (os : Os) (started : os.Started) (H : Type) (enc : TypeId × Value → H) (F : Stop.Interp) :
    ReturnsInHanded {} Tryd.checked os 7 .any ((OpenSpec.ofChange Rows.pagerStaysSpec).preRow enc Tryd.prog Tryd.f7 Rows.pagerStaysRow.domain false Rows.pagerStaysRow.laid) (((OpenSpec.ofChange Rows.pagerStaysSpec).at F).post enc Tryd.prog Tryd.f7 false true false false) := by
  obtain ⟨places, hx⟩ := reads os enc
  refine returnsInHanded_of_row (C := Tryd.checked) (s := OpenSpec.ofChange Rows.pagerStaysSpec) own started (by kernel_rfl) Tryd.func7
    (witness_row_at (enc := enc) (C := Tryd.checked) false (laidWorld os) #[.int .i64 0, .slice none 0 0, .slice none 0 0] rfl (by kernel_rfl) (by kernel_rfl) (by kernel_rfl)
      (OpenSpec.preRow_of_cond 8 hx (by kernel_rfl) (fun k hk => by cases hk) (by kernel_rfl) (laid_met os))) ?_
  intro W base args ds gs before hval hW _ hcond hsz hL _ _
  exact contract H enc W base args ds gs before hval hW hL hsz

theorem said : Rows.PagerStaysSaid :=
  OpenClaim.holds_of_cond 7 Tryd.f7 rfl rfl rfl rfl rfl rfl rfl ⟨rfl, rfl, rfl, rfl, rfl⟩ rfl rfl rfl rfl rfl (by kernel_rfl) Tryd.func7 (by kernel_rfl)
    (of_decide_eq_true (by kernel_rfl)) (by unfold Func.isWrapper; first | (rw [if_pos (by decide +kernel)]; kernel_rfl) | (rw [if_neg (by decide +kernel)]; exact ⟨rfl, rfl⟩))
    (fun os started H enc _ F => by rw [OpenClaim.pre_eq_preRow]; exact lifted os started H enc F)

theorem plain (f : FuncId) (fn : Func) (hf : Tryd.pinned.checked.prog.funcNamed "usance/usancelaw08.PagerStays" = some f) (hfn : Tryd.pinned.checked.prog.funcs[f]? = some fn) :
    false = Tryd.pinned.checked.prog.looks [] ∧ ∀ (j : Nat) t, fn.params[j]? = some t → Tryd.pinned.checked.prog.wantsStandIn t = false := by
  obtain rfl : f = 7 := Option.some.inj ((show Tryd.prog.funcNamed "usance/usancelaw08.PagerStays" = some 7 by kernel_rfl).symm.trans hf) |>.symm
  obtain rfl : fn = Tryd.f7 := (Option.some.inj (Tryd.func7.symm.trans hfn)).symm
  refine ⟨by kernel_rfl, fun j t ht => ?_⟩
  rw [Tryd.params7] at ht
  have hm := Array.mem_of_getElem? ht
  simp only [List.mem_toArray, List.mem_cons, List.not_mem_nil, or_false] at hm
  rcases hm with rfl | rfl | rfl
  · exact (show Tryd.prog.wantsStandIn 3 = false by kernel_rfl)
  · exact (show Tryd.prog.wantsStandIn 22 = false by kernel_rfl)
  · exact (show Tryd.prog.wantsStandIn 22 = false by kernel_rfl)

/-- THE CARD -/
theorem proved : Rows.PagerStaysCardSaid :=
  Claim7.holds_tied_plain_at .later [] _ _ _ _ said (fun _ h => by cases h) (by kernel_rfl) (fun _ h => by cases h) pagerStays_row_tie rfl ⟨rfl, rfl⟩ (by kernel_rfl) rfl plain (by kernel_rfl)
#print axioms proved
end Go.Proofs.YtbmmcaoifkboiaaDoor.cardPagerStays
