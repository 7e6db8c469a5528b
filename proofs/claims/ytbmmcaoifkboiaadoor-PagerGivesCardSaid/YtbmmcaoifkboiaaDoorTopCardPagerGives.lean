/- The card CardPagerGives: for every input the law answers true, and what came in reads as it did; with what it needs ahead. -/
import Derived.Test.YtbmmcaoifkboiaaDoorBase4
import Derived.LoopTactic
import Derived.Test.YtbmmcaoifkboiaaDoorCards
import Derived.Test.YtbmmcaoifkboiaaDoorTie
/- PagerGives, the plain law: pages filled from the least on, given back, given again with noughts. -/
set_option linter.unusedVariables false
set_option linter.unusedSimpArgs false
set_option maxRecDepth 100000
namespace Go.Proofs.YtbmmcaoifkboiaaDoor
open Go.RowKit

/-- the bytes page i is filled with -/
def giB (y : UInt8) (i : Nat) : List UInt8 := ofB 0 (y + UInt8.ofNat i)
theorem giB_length (y : UInt8) (i : Nat) : (giB y i).length = 896 := by rw [giB, ofB_length]; rfl
/-- the pages are just these, no root -/
structure GivS (N : Nat) (R : Rp) (pg : Nat → Option (List UInt8)) : Prop where
  len : R.pages.length = N
  at_ : ∀ j, j < N → R.pages[j]? = some (pg j)
  root : R.root = -1
def upd8 (pg : Nat → Option (List UInt8)) (k : Nat) (x : Option (List UInt8)) : Nat → Option (List UInt8) := fun j => if j = k then x else pg j
section
variable {N : Nat} {R : Rp} {pg pg' : Nat → Option (List UInt8)}
theorem GivS.of (h : GivS N R pg) (e : ∀ j, j < N → pg j = pg' j) : GivS N R pg' := ⟨h.len, fun j hj => by rw [h.at_ j hj, e j hj], h.root⟩
theorem GivS.set (h : GivS N R pg) (k : Nat) (x : Option (List UInt8)) (c : Bool) : GivS N { R with pages := R.pages.set k x, change := c } (upd8 pg k x) := by
  refine ⟨by simpa using h.len, fun j hj => ?_, h.root⟩
  show (R.pages.set k x)[j]? = _
  rw [List.getElem?_set]
  by_cases hk : k = j
  · subst hk
    rw [if_pos rfl, if_pos (by rw [h.len]; exact hj)]
    simp [upd8]
  · rw [if_neg hk, h.at_ j hj, upd8, if_neg (fun e => hk e.symm)]
theorem GivS.getD (h : GivS N R pg) {k : Nat} (hk : k < N) : R.pages.getD k none = pg k := by
  rw [List.getD_eq_getElem?_getD, h.at_ k hk]; rfl
theorem GivS.taken (h : GivS N R pg) {k : Nat} (hk : k < N) : R.taken (k : Int) = (pg k).isSome := by
  have e : (k : Int).toNat = k := by omega
  have h1 : decide ((0 : Int) ≤ (k : Int)) = true := decide_eq_true (by omega)
  have h2 : decide ((k : Int) < (R.pages.length : Int)) = true := decide_eq_true (by rw [h.len]; omega)
  rw [Rp.taken, h1, h2, e, h.getD hk]
  simp
theorem GivS.first (h : GivS N R pg) {k : Nat} (hk : k < N) (h0 : pg k = none) (hl : ∀ j, j < k → pg j ≠ none) : freeR R.pages = some k := by
  have hkl : k < R.pages.length := by rw [h.len]; exact hk
  rw [freeR, List.findIdx?_eq_some_iff_getElem]
  refine ⟨hkl, ?_, fun j hj => ?_⟩
  · have := h.at_ k hk
    rw [List.getElem?_eq_getElem hkl, h0] at this
    rw [Option.some.inj this]; rfl
  · have := h.at_ j (by omega)
    rw [List.getElem?_eq_getElem (by omega)] at this
    rw [Option.some.inj this]
    have := hl j hj
    cases hp : pg j with
    | none => exact absurd hp this
    | some b => simp
theorem GivS.full (h : GivS N R pg) (hl : ∀ j, j < N → pg j ≠ none) : freeR R.pages = none := by
  rw [freeR, List.findIdx?_eq_none_iff]
  intro x hx
  obtain ⟨j, hj, rfl⟩ := List.getElem_of_mem hx
  have := h.at_ j (by rw [← h.len]; exact hj)
  rw [List.getElem?_eq_getElem hj] at this
  rw [Option.some.inj this]
  have := hl j (by rw [← h.len]; exact hj)
  cases hp : pg j with
  | none => exact absurd hp this
  | some b => simp
theorem GivS.alloc (h : GivS N R pg) {k : Nat} (hk : k < N) (h0 : pg k = none) (hl : ∀ j, j < k → pg j ≠ none) : R.alloc.1 = ((k : Int), 0) ∧ GivS N R.alloc.2 (upd8 pg k (some z896)) := by
  have e : R.alloc = (((k : Int), 0), R.lay k z896) := by rw [Rp.alloc, h.first hk h0 hl]
  rw [e]
  exact ⟨rfl, h.set k _ true⟩
theorem GivS.alloc_full (h : GivS N R pg) (hl : ∀ j, j < N → pg j ≠ none) : R.alloc = ((0, 80), R) := by rw [Rp.alloc, h.full hl]
theorem GivS.write (h : GivS N R pg) {k : Nat} (hk : k < N) (h0 : pg k ≠ none) (b : List UInt8) (hb : b.length = 896) : (R.write (k : Int) b).1 = 0 ∧ GivS N (R.write (k : Int) b).2 (upd8 pg k (some b)) := by
  have ht : R.taken (k : Int) = true := by
    rw [h.taken hk]
    cases hp : pg k with
    | none => exact absurd hp h0
    | some b => rfl
  have e : R.write (k : Int) b = (0, R.lay k b) := by
    rw [Rp.write, if_neg (by simp [ht]), if_neg (by omega)]
    rfl
  rw [e]
  exact ⟨rfl, h.set k _ true⟩
theorem GivS.free (h : GivS N R pg) {k : Nat} (hk : k < N) (h0 : pg k ≠ none) : (R.free (k : Int)).1 = 0 ∧ GivS N (R.free (k : Int)).2 (upd8 pg k none) ∧ freeRN (R.free (k : Int)).2.pages = freeRN R.pages + 1 := by
  have ht : R.taken (k : Int) = true := by
    rw [h.taken hk]
    cases hp : pg k with
    | none => exact absurd hp h0
    | some b => rfl
  have e : R.free (k : Int) = (0, { R with pages := R.pages.set k none, change := true }) := by
    rw [Rp.free, if_neg (by simp [ht]), if_neg (by rw [h.root]; omega)]
    rfl
  rw [e]
  refine ⟨rfl, h.set k _ true, ?_⟩
  have hkl : k < R.pages.length := by rw [h.len]; exact hk
  have hat := h.at_ k hk
  rw [List.getElem?_eq_getElem hkl] at hat
  show freeRN (R.pages.set k none) = _
  unfold freeRN
  rw [List.countP_set hkl, Option.some.inj hat]
  cases hp : pg k with
  | none => exact absurd hp h0
  | some b => simp
theorem GivS.free_none (h : GivS N R pg) {k : Nat} (hk : k < N) (h0 : pg k = none) : R.free (k : Int) = (81, R) := by
  rw [Rp.free, if_pos]
  rw [h.taken hk, h0]; rfl
theorem GivS.read (h : GivS N R pg) {k : Nat} (hk : k < N) {b : List UInt8} (h0 : pg k = some b) : R.read (k : Int) = (b, 0) := by
  rw [Rp.read, if_neg]
  · show ((R.pages.getD (k : Int).toNat none).getD [], 0) = _
    rw [show (k : Int).toNat = k by omega, h.getD hk, h0]; rfl
  · rw [h.taken hk, h0]; simp
theorem GivS.left0 (h : GivS N R pg) (hl : ∀ j, j < N → pg j ≠ none) : freeRN R.pages = 0 := by
  rw [freeRN, List.countP_eq_zero]
  intro x hx
  obtain ⟨j, hj, rfl⟩ := List.getElem_of_mem hx
  have := h.at_ j (by rw [← h.len]; exact hj)
  rw [List.getElem?_eq_getElem hj] at this
  rw [Option.some.inj this]
  have := hl j (by rw [← h.len]; exact hj)
  cases hp : pg j with
  | none => exact absurd hp this
  | some b => simp
end
/-- the first i are filled -/
def pg1 (y : UInt8) (i : Nat) : Nat → Option (List UInt8) := fun j => if j < i then some (giB y j) else none
/-- those of G are given back -/
def pg2 (y : UInt8) (G : List Int) : Nat → Option (List UInt8) := fun j => if (j : Int) ∈ G then none else some (giB y j)
/-- of those, the ones below i are given again -/
def pg3 (y : UInt8) (G : List Int) (i : Nat) : Nat → Option (List UInt8) := fun j => if (j : Int) ∈ G then (if j < i then some z896 else none) else some (giB y j)
section
variable {N : Nat} {R : Rp} {y : UInt8}
theorem GivS.begun (N : Nat) (hN : R.pages = List.replicate N none) (hr : R.root = -1) : GivS N R (pg1 y 0) :=
  ⟨by simp [hN], fun j hj => by rw [hN, List.getElem?_replicate, if_pos hj, pg1, if_neg (by omega)], hr⟩
/-- a round of filling -/
theorem GivS.fill {i : Nat} (h : GivS N R (pg1 y i)) (hi : i < N) : R.alloc.1 = ((i : Int), 0) ∧ (R.alloc.2.write (i : Int) (giB y i)).1 = 0 ∧ GivS N (R.alloc.2.write (i : Int) (giB y i)).2 (pg1 y (i + 1)) := by
  obtain ⟨a1, a2⟩ := h.alloc hi (by simp [pg1]) (fun j hj => by simp [pg1, hj])
  obtain ⟨b1, b2⟩ := a2.write hi (by simp [upd8]) (giB y i) (giB_length y i)
  refine ⟨a1, b1, b2.of fun j hj => ?_⟩
  simp only [upd8, pg1]
  by_cases hji : j = i
  · subst hji; simp
  · rw [if_neg hji, if_neg hji]
    by_cases hl : j < i
    · rw [if_pos hl, if_pos (by omega)]
    · rw [if_neg hl, if_neg (by omega)]
theorem GivS.filled (h : GivS N R (pg1 y N)) : R.alloc = ((0, 80), R) ∧ GivS N R (pg2 y []) ∧ freeRN R.pages = 0 :=
  ⟨h.alloc_full fun j hj => by simp [pg1, hj], h.of fun j hj => by simp [pg1, pg2, hj], h.left0 fun j hj => by simp [pg1, hj]⟩
/-- what is given back -/
theorem GivS.back {G : List Int} (h : GivS N R (pg2 y G)) (hn : freeRN R.pages = G.length) {k : Nat} (hk : k < N) :
    ((k : Int) ∈ G → R.free (k : Int) = (81, R)) ∧ ((k : Int) ∉ G → (R.free (k : Int)).1 = 0 ∧ GivS N (R.free (k : Int)).2 (pg2 y (G ++ [(k : Int)])) ∧ freeRN (R.free (k : Int)).2.pages = (G ++ [(k : Int)]).length) := by
  refine ⟨fun hm => h.free_none hk (by simp [pg2, hm]), fun hm => ?_⟩
  obtain ⟨a, b, c⟩ := h.free hk (by simp [pg2, hm])
  refine ⟨a, b.of fun j hj => ?_, by rw [c, hn]; simp⟩
  simp only [upd8, pg2, List.mem_append, List.mem_singleton]
  by_cases hjk : j = k
  · subst hjk; simp
  · have : ¬ ((j : Int) = (k : Int)) := by omega
    simp [hjk, this]
theorem GivS.third {G : List Int} (h : GivS N R (pg2 y G)) : GivS N R (pg3 y G 0) := h.of fun j hj => by simp [pg2, pg3]
/-- one that was given back is given again, with noughts -/
theorem GivS.again {G : List Int} {i : Nat} (h : GivS N R (pg3 y G i)) (hi : i < N) (hm : (i : Int) ∈ G) : R.alloc.1 = ((i : Int), 0) ∧ GivS N R.alloc.2 (pg3 y G (i + 1)) ∧ R.alloc.2.read (i : Int) = (z896, 0) := by
  obtain ⟨a1, a2⟩ := h.alloc hi (by simp [pg3, hm]) (fun j hj => by simp only [pg3]; split <;> simp [hj])
  refine ⟨a1, a2.of fun j hj => ?_, a2.read hi (by simp [upd8])⟩
  simp only [upd8, pg3]
  by_cases hji : j = i
  · subst hji; simp [hm]
  · rw [if_neg hji]
    split
    · by_cases hl : j < i
      · rw [if_pos hl, if_pos (by omega)]
      · rw [if_neg hl, if_neg (by omega)]
    · rfl
theorem GivS.kept {G : List Int} {i : Nat} (h : GivS N R (pg3 y G i)) (hi : i < N) (hm : (i : Int) ∉ G) : R.read (i : Int) = (giB y i, 0) ∧ GivS N R (pg3 y G (i + 1)) := by
  refine ⟨h.read hi (by simp [pg3, hm]), h.of fun j hj => ?_⟩
  simp only [pg3]
  split
  · rename_i hj2
    have : j ≠ i := by rintro rfl; exact hm hj2
    by_cases hl : j < i
    · rw [if_pos hl, if_pos (by omega)]
    · rw [if_neg hl, if_neg (by omega)]
  · rfl
theorem GivS.last {G : List Int} (h : GivS N R (pg3 y G N)) : freeRN R.pages = 0 := h.left0 fun j hj => by simp only [pg3]; split <;> simp [hj]
end
/-- the keys of the map -/
def tru (G : List Int) : List (Int × Value) := G.map fun x => (x, .bool true)
theorem tru_look (G : List Int) (n : Int) : (kLook (tru G) n).getD (.bool false) = .bool (decide (n ∈ G)) := by
  rw [tru, kLook_const]
  by_cases h : n ∈ G <;> simp [h]
theorem tru_put_in (G : List Int) (n : Int) (h : n ∈ G) : vPut (tru G) n (.bool true) = tru G := by
  have hl : (kLook (tru G) n).isSome = true := by rw [tru, kLook_const, if_pos h]; rfl
  rw [vPut, if_pos hl, tru, List.map_map]
  apply List.map_congr_left
  intro x hx
  simp only [Function.comp]
  split <;> simp_all
theorem tru_put_new (G : List Int) (n : Int) (h : n ∉ G) : vPut (tru G) n (.bool true) = tru (G ++ [n]) := by
  have hl : kLook (tru G) n = none := by rw [tru, kLook_const, if_neg h]
  rw [vPut, hl]
  simp [tru]
end Go.Proofs.YtbmmcaoifkboiaaDoor

/- Pages that are mine: as rows in memory beside two pagers; in plain lists. -/
set_option linter.unusedVariables false
set_option linter.unusedSimpArgs false
set_option maxRecDepth 100000
namespace Go.Proofs.YtbmmcaoifkboiaaDoor
open Go.RowKit

/-- a row of ints of one's own, apart from both pagers -/
structure RowA (w : World) (F : Ft) (p : Nat) (f : Pf) (g : Rf) (v : Value) (l : List Int) : Prop where
  row : MineI 0 w v l
  apart : ∀ k, v.ownBlock = some k → ¬ PJ F p f k ∧ ¬ RT8 g k
section
variable {w0 w w' : World} {F : Ft} {p : Nat} {f f' : Pf} {P : Pg} {g : Rf} {R : Rp} {v u : Value} {l m : List Int}
theorem RowA.nil (w : World) (F : Ft) (p : Nat) (f : Pf) (g : Rf) : RowA w F p f g (.slice none 0 0) [] := ⟨MineI.nil 0 w, fun k e => by cases e⟩
theorem RowA.lt (h : RowA w F p f g v l) {k : Nat} (hk : v.ownBlock = some k) : k < w.heap.size := by
  obtain ⟨_, c, hc⟩ := own_lt h.row hk.symm
  exact lt_of_heap hc
theorem RowA.stepT (h : RowA w F p f g v l) (c : ∀ k, PT f' k → PT f k ∨ w.heap.size ≤ k) (d : Turned (PJ F p f) w w') : RowA w' F p f' g v l := by
  refine ⟨own_keep1 h.row fun k hk => d.block k (h.lt hk) (h.apart k hk).1, fun k hk => ⟨fun e => ?_, (h.apart k hk).2⟩⟩
  rcases e with e | e
  · exact (h.apart k hk).1 (.inl e)
  · rcases c k e with e | e
    · exact (h.apart k hk).1 (.inr e)
    · have := h.lt hk
      omega
theorem RowA.other {T : Nat → Prop} (h : RowA w F p f g v l) (ht : Turned T w w') (hT : ∀ k, v.ownBlock = some k → ¬ T k) : RowA w' F p f g v l := ⟨own_keep1 h.row fun k hk => ht.block k (h.lt hk) (hT k hk), h.apart⟩
theorem RowA.below (h : RowA w F p f g v l) (hb : Below w.heap.size w w') : RowA w' F p f g v l := ⟨own_keep1 h.row fun k hk => hb.block k (h.lt hk), h.apart⟩
/-- what two rows and the pagers are behind an append onto the first -/
theorem RowA.grown (h : RowA w F p f g v l) (hl : LS w0 w F p f P g R) (hu : IsI w u m) (hL : l.length + m.length ≤ 100000) (h0 : ∀ k, v.ownBlock = some k → w0.heap.size ≤ k) :
    ∃ v' w', (Builtin.append_ #[30, 30] 30 #[v, u]).run Tryd.prog w = .ok v' w' ∧ RowA w' F p f g v' (l ++ m) ∧ LS w0 w' F p f P g R ∧ (∀ k, v'.ownBlock = some k → v.ownBlock = some k ∨ w.heap.size ≤ k) ∧ Turned (fun k => v.ownBlock = some k) w w' := by
  obtain ⟨v', w', hr, hm, hb, hg, _, ho⟩ := run_ints w 0 v l h.row u m hu (by omega) (Nat.zero_le _)
  have ht : Turned (fun k => v.ownBlock = some k) w w' := ⟨hg.os, hg.tape, hg.output, hg.size, fun k hk hn => hg.block k hk fun e => hn e.symm⟩
  have ho' : ∀ k, v'.ownBlock = some k → v.ownBlock = some k ∨ w.heap.size ≤ k := fun k hk => by
    rcases ho with e | e
    · exact .inl (by rw [← e]; exact hk)
    · rw [e] at hk
      simp only [Option.some.injEq] at hk
      exact .inr (by omega)
  refine ⟨v', w', hr, ⟨hm, fun k hk => ?_⟩, hl.other ht h0 fun k hk => h.apart k hk, ho', ht⟩
  rcases ho' k hk with e | e
  · exact h.apart k e
  · exact ⟨fun e2 => by have := hl.lt (.inl e2); omega, fun e2 => by have := hl.lt (.inr e2); omega⟩
end
/-- the numbers l are just the pages that are taken, each once -/
def OwnL (l : List Int) (pages : List (Option (List UInt8))) : Prop := l.Nodup ∧ ∀ k : Int, k ∈ l ↔ 0 ≤ k ∧ ∃ b, pages[k.toNat]? = some (some b)
theorem OwnL.empty (m : Nat) : OwnL [] (List.replicate m none) := by
  refine ⟨List.nodup_nil, fun k => ⟨fun h => (by cases h), fun ⟨_, b, h⟩ => ?_⟩⟩
  rw [List.getElem?_replicate] at h
  split at h <;> simp at h
theorem OwnL.put {l : List Int} {pages : List (Option (List UInt8))} (h : OwnL l pages) (k : Nat) (hk : k < pages.length) (hn : pages[k]? = some none) (b : List UInt8) : OwnL (l ++ [(k : Int)]) (pages.set k (some b)) := by
  have hnl : (k : Int) ∉ l := fun e => by
    obtain ⟨_, c, hc⟩ := (h.2 k).1 e
    rw [Int.toNat_natCast, hn] at hc
    simp at hc
  refine ⟨List.nodup_append.2 ⟨h.1, by simp, fun a ha c hc e => by
    rw [List.mem_singleton.1 hc] at e
    exact hnl (e ▸ ha)⟩, fun j => ?_⟩
  rw [List.mem_append, List.mem_singleton, List.getElem?_set]
  constructor
  · rintro (hj | rfl)
    · obtain ⟨a, c, hc⟩ := (h.2 j).1 hj
      refine ⟨a, c, ?_⟩
      rw [if_neg (fun e => hnl (by have : j = (k : Int) := by omega
                                   exact this ▸ hj))]
      exact hc
    · exact ⟨by omega, b, by rw [Int.toNat_natCast, if_pos rfl, if_pos hk]⟩
  · rintro ⟨a, c, hc⟩
    by_cases e : k = j.toNat
    · exact .inr (by omega)
    · rw [if_neg e] at hc
      exact .inl ((h.2 j).2 ⟨a, c, hc⟩)
theorem OwnL.del {l : List Int} {pages : List (Option (List UInt8))} (h : OwnL l pages) (i : Nat) (hi : i < l.length) : OwnL (l.take i ++ l.drop (i + 1)) (pages.set l[i].toNat none) := by
  have he : l.take i ++ l.drop (i + 1) = l.eraseIdx i := (List.eraseIdx_eq_take_drop_succ ..).symm
  rw [he]
  have hmem : ∀ j : Int, j ∈ l.eraseIdx i ↔ j ≠ l[i] ∧ j ∈ l := fun j => by
    rw [List.mem_eraseIdx_iff_getElem?]
    constructor
    · rintro ⟨q, hq, hj⟩
      refine ⟨fun e => ?_, List.mem_of_getElem? hj⟩
      have h1 : l[i]? = some j := by rw [e]; exact List.getElem?_eq_getElem hi
      have hql : q < l.length := (List.getElem?_eq_some_iff.1 hj).1
      exact hq ((List.getElem?_inj hql h.1).1 (hj.trans h1.symm))
    · rintro ⟨hne, hj⟩
      obtain ⟨q, hq, rfl⟩ := List.getElem_of_mem hj
      exact ⟨q, fun e => hne (by subst e; rfl), List.getElem?_eq_getElem hq⟩
  refine ⟨h.1.sublist (List.eraseIdx_sublist ..), fun j => ?_⟩
  rw [hmem, h.2 j, List.getElem?_set]
  obtain ⟨a0, b0, _⟩ := (h.2 l[i]).1 (List.getElem_mem hi)
  constructor
  · rintro ⟨hne, a, b, hb⟩
    exact ⟨a, b, by rw [if_neg (fun e => hne (by omega))]; exact hb⟩
  · rintro ⟨a, b, hb⟩
    by_cases e : l[i].toNat = j.toNat
    · rw [if_pos e] at hb
      split at hb <;> simp at hb
    · rw [if_neg e] at hb
      exact ⟨fun e2 => e (by rw [e2]), a, b, hb⟩
theorem takenN_count : ∀ (pages : List (Option (List UInt8))), freeRN pages + pages.countP (fun x => x.isSome) = pages.length
  | [] => rfl
  | x :: r => by
    have ih := takenN_count r
    unfold freeRN at ih ⊢
    cases x <;> simp [List.countP_cons] <;> omega
theorem OwnL.count : ∀ (pages : List (Option (List UInt8))) (l : List Int), OwnL l pages → l.length = pages.countP (fun x => x.isSome) := by
  intro pages l h
  have hp : l.Perm (((List.range pages.length).filter fun i => (pages.getD i none).isSome).map fun (i : Nat) => (i : Int)) := by
    refine (List.perm_ext_iff_of_nodup h.1 ?_).2 fun k => ?_
    · rw [List.Nodup, List.pairwise_map]
      exact ((List.nodup_range (n := pages.length)).filter _).imp fun hne e => hne (by omega)
    · rw [h.2 k, List.mem_map]
      constructor
      · rintro ⟨a, b, hb⟩
        refine ⟨k.toNat, List.mem_filter.2 ⟨List.mem_range.2 (List.getElem?_eq_some_iff.1 hb).1, by rw [List.getD_eq_getElem?_getD, hb]; rfl⟩, by omega⟩
      · rintro ⟨i, hi, rfl⟩
        obtain ⟨h1, h2⟩ := List.mem_filter.1 hi
        have h3 := List.mem_range.1 h1
        refine ⟨by omega, ?_⟩
        rw [Int.toNat_natCast]
        rw [List.getD_eq_getElem?_getD, List.getElem?_eq_getElem h3, Option.getD_some] at h2
        rw [List.getElem?_eq_getElem h3]
        exact ⟨_, congrArg some (Option.some_get h2).symm⟩
  rw [hp.length_eq, List.length_map]
  clear hp h
  have e : pages = (List.range pages.length).map fun i => pages.getD i none := by
    apply List.ext_getElem?
    intro j
    rw [List.getElem?_map]
    by_cases hj : j < pages.length
    · rw [List.getElem?_range hj, Option.map_some, List.getD_eq_getElem?_getD, List.getElem?_eq_getElem hj]
      rfl
    · rw [List.getElem?_eq_none (by omega), List.getElem?_eq_none (by simpa using hj)]
      rfl
  conv => rhs; rw [e]
  rw [List.countP_map, List.countP_eq_length_filter]
  rfl
end Go.Proofs.YtbmmcaoifkboiaaDoor

/- PagerGives: pages are given from the least on, with noughts; one that is written is that one alone. -/
set_option linter.unusedVariables false
set_option linter.unusedSimpArgs false
set_option maxRecDepth 100000
namespace Go.Proofs.YtbmmcaoifkboiaaDoor
open Go.RowKit

/-- the pager in memory stands as these pages -/
structure GivM (w1 w : World) (F : Ft) (p : Nat) (f : Pf) (P : Pg) (g : Rf) (R0 : Rp) (n : Nat) (R : Rp) (N : Nat) (pg : Nat → Option (List UInt8)) : Prop where
  ls : LS w1 w F p f P g R0
  sim : ∃ seq B, Sim n P R seq B
  gs : GivS N R pg
/-- and the map beside it -/
structure GivT (w1 w : World) (F : Ft) (p : Nat) (f : Pf) (g : Rf) (M : Nat) (G : List Int) : Prop where
  tab : OTab w M (tru G)
  low : w1.heap.size ≤ M
  out : ¬ PJ F p f M ∧ ¬ RT8 g M
section
variable {w1 w w' : World} {F : Ft} {p : Nat} {f f' : Pf} {P P' : Pg} {g : Rf} {R0 R R' : Rp} {n N M : Nat} {pg pg' : Nat → Option (List UInt8)} {G : List Int}
theorem GivM.len (h : GivM w1 w F p f P g R0 n R N pg) (hn : n ≤ 331) : P.now.length = N ∧ N ≤ 20 ∧ freeN P.now = freeRN R.pages := by
  obtain ⟨s, B, hs⟩ := h.sim
  have := hs.len
  have := hs.nlen
  have := h.gs.len
  exact ⟨by omega, by omega, hs.free_eq⟩
theorem GivM.step (h : GivM w1 w F p f P g R0 n R N pg) (hb : Below w.heap.size w w') : GivM w1 w' F p f P g R0 n R N pg := ⟨h.ls.step hb, h.sim, h.gs⟩
theorem GivM.turn (h : GivM w1 w F p f P g R0 n R N pg) (a : PgAt w' F p f' P') (c : ∀ k, PT f' k → PT f k ∨ w.heap.size ≤ k) (d : Turned (PJ F p f) w w') (hs : ∀ s B, Sim n P R s B → Sim n P' R' s B) (hg : GivS N R' pg') : GivM w1 w' F p f' P' g R0 n R' N pg' := by
  obtain ⟨s, B, h1⟩ := h.sim
  exact ⟨h.ls.stepT a c d, ⟨s, B, hs s B h1⟩, hg⟩
theorem GivT.lt (h : GivT w1 w F p f g M G) : M < w.heap.size := h.tab.lt
theorem GivT.step (h : GivT w1 w F p f g M G) (hb : Below w.heap.size w w') : GivT w1 w' F p f g M G := ⟨h.tab.keep (hb.block M h.tab.lt), h.low, h.out⟩
theorem GivT.turn (h : GivT w1 w F p f g M G) (c : ∀ k, PT f' k → PT f k ∨ w.heap.size ≤ k) (d : Turned (PJ F p f) w w') : GivT w1 w' F p f' g M G := by
  refine ⟨h.tab.keep (d.block M h.tab.lt h.out.1), h.low, fun e => ?_, h.out.2⟩
  rcases e with e | e
  · exact h.out.1 (.inl e)
  · rcases c M e with e | e
    · exact h.out.1 (.inr e)
    · have := h.tab.lt
      omega
theorem GivT.read (h : GivT w1 w F p f g M G) (d : Turned (PJ F p f) w w') : GivT w1 w' F p f g M G := h.turn (fun k hk => .inl hk) d
theorem GivT.look (h : GivT w1 w F p f g M G) (k : Int) : (Instr.lookup 44 (.map (some M)) (.int .i64 k) false).run Tryd.prog w = .ok (.bool (decide (k ∈ G))) w := by
  have := h.tab.kmap.run_look (P := Tryd.prog) (T := 44) Tryd.underlying44 Tryd.underlying3 (.bool false) (fun w => by kernel_rfl) k
  rw [tru_look] at this
  exact this
theorem GivT.len (h : GivT w1 w F p f g M G) (ty : TypeId) : (Builtin.len_ #[44] ty #[.map (some M)]).run Tryd.prog w = .ok (.int .i64 (G.length : Int)) w := by
  obtain ⟨es, cl, hm, he, _⟩ := h.tab
  have h2 := run_len_map (P := Tryd.prog) (w := w) 44 ty M es.toArray cl Tryd.underlying44 hm
  have hl : es.length = G.length := by
    have := congrArg List.length he
    simpa [tru] using this
  rw [h2]
  simp [goInt, hl]
theorem run_build8 (z : Int) (w : World) : (Instr.build 33 #[(2, .int .u8 z)]).run Tryd.prog w = .ok (.agg #[.int .i64 0, .int .i64 0, .int .u8 z]) w := by kernel_rfl
theorem GivM.other {T : Nat → Prop} (h : GivM w1 w F p f P g R0 n R N pg) (ht : Turned T w w') (h1 : ∀ k, T k → w1.heap.size ≤ k) (h2 : ∀ k, T k → ¬ PJ F p f k ∧ ¬ RT8 g k) : GivM w1 w' F p f P g R0 n R N pg := ⟨h.ls.other ht h1 h2, h.sim, h.gs⟩
theorem GivT.put (h : GivT w1 w F p f g M G) (hM : GivM w1 w F p f P g R0 n R N pg) (k : Int) :
    ∃ w', (Instr.mapUpdate 44 (.map (some M)) (.int .i64 k) (.bool true)).run Tryd.prog w = .ok () w' ∧ GivT w1 w' F p f g M (if k ∈ G then G else G ++ [k]) ∧ GivM w1 w' F p f P g R0 n R N pg := by
  obtain ⟨w', hr, ht, hd⟩ := h.tab.run_put (P := Tryd.prog) (T := 44) Tryd.underlying44 Tryd.underlying3 k (.bool true)
  refine ⟨w', hr, ⟨?_, h.low, h.out⟩, hM.other hd (fun j e => by rw [e]; exact h.low) fun j e => by rw [e]; exact h.out⟩
  split
  · rename_i hk
    rwa [tru_put_in G k hk] at ht
  · rename_i hk
    rwa [tru_put_new G k hk] at ht
end
set_option maxHeartbeats 16000000 in
theorem gives8_walk (w : World) (hn : Nib w) (sec_ : Int) (v : Value) (xs : List Int) (hv : IsRow rdInt w v xs) (y : UInt8) (h1 : -9223372036854775808 ≤ sec_) (h2 : sec_ ≤ 9223372036854775807) :
    Calls Tryd.prog 4 #[.int .i64 sec_, v, .int .u8 (y.toNat : Int)] w fun e w' => e = .returned (.bool true) ∧ Below w.heap.size w w' := by
  obtain ⟨a, c, rfl, hc1, hc2⟩ := hv.form
  have hpk := pickN_lt sec_ (n := 300) (by omega)
  obtain ⟨n, hN⟩ : ∃ n, n = 32 + pickN sec_ 300 := ⟨_, rfl⟩
  have hn32 : 32 ≤ n := by omega
  have hn331 : n ≤ 331 := by omega
  have HV := Lib.hid hv
  have HNB := Lib.hid hn
  have HSH := Lib.hid (shown8_any w hn)
  have HN := Lib.hid hN
  obtain ⟨K, hNx⟩ : ∃ N, N = xs.length := ⟨_, rfl⟩
  rw [← hNx] at hc1 ⊢
  have HNX := Lib.hid hNx
  unfold maxLen at hc2
  clear hv hn hpk hN hNx
  go_enter Tryd.func4, Tryd.ntmps4
  go_wp2_with fail
  refine HSH.out.mono ?_
  rintro e w1 ⟨rfl, hb1⟩
  have HBG := Lib.hid (begun8_any w1 (HNB.out.below hb1) sec_ h1 h2)
  have HB1 := Lib.hid hb1
  clear hb1
  go_wp2_with fail
  refine HBG.out.mono ?_
  rintro e w2 ⟨F, p, f, g, P, R0, rfl, hls, hb8⟩
  rw [← HN.out] at hb8
  obtain ⟨fq, hfq⟩ : ∃ q, q = f.q := ⟨_, rfl⟩
  rw [← hfq]
  have HFQ := Lib.hid hfq.symm
  obtain ⟨N, hNP⟩ : ∃ N, N = (n - 2) / 2 := ⟨_, rfl⟩
  have hN0 := hls.rf.n0
  have hgs : GivS R0.pages.length R0 (pg1 y 0) := by
    have hb := hb8.rb
    refine GivS.begun _ ?_ ?_
    · rw [hb]; simp [Rp.begun]
    · rw [hb]; rfl
  have hI0 : GivM w1 w2 F p f P g R0 n R0 R0.pages.length (pg1 y 0) := by
    obtain ⟨s, B, hs, _⟩ := hb8.sim
    exact ⟨hls, ⟨s, B, hs⟩, hgs⟩
  clear N hNP
  obtain ⟨N, hNP⟩ : ∃ N, N = R0.pages.length := ⟨_, rfl⟩
  rw [← hNP] at hI0 hN0
  obtain ⟨hpl, hN20, _⟩ := hI0.len hn331
  have HPG := pages_any hI0.ls.pg
  rw [hpl, ← hfq] at HPG
  have HPGS := Lib.hid HPG
  have HI0 := Lib.hid hI0
  clear hls hb8 hfq HBG HSH hgs hI0 hNP hpl HPG
  go_wp2_with (go_at_call 16; refine HPGS.out.mono ?_; rintro e w9 ⟨rfl, hw9⟩; rw [hw9]; clear hw9 w9)
  go_loopw [13] (fun z wr => ∃ (i : Nat) (f : Pf) (P : Pg) (R : Rp), i ≤ N ∧ z = .int .i64 (i : Int) ∧ f.q = fq ∧ GivM w1 wr F p f P g R0 n R N (pg1 y i)) (fun z _ => N - (intOf z).toNat)
  case atStart => exact ⟨0, f, P, R0, Nat.zero_le _, rfl, HFQ.out, HI0.out⟩
  case round =>
    clear HI0 HFQ HPGS
    obtain ⟨i, f, P, R, hi, rfl, hfq, hI⟩ := hrel
    by_cases hlt : i < N
    case pos =>
      have hd1 : decide ((i : Int) < (N : Int)) = true := decide_eq_true (by omega)
      obtain ⟨sq, Bq, hsim⟩ := hI.sim
      obtain ⟨g1, g2, g3⟩ := hI.gs.fill hlt
      have hal := alloc_any hI.ls.pg
      rw [hsim.alloc.1, g1, hfq] at hal
      have HAL := Lib.hid hal
      have s1 := hsim.alloc.2
      have HW2 : Hid (((P.alloc.2).write (i : Int) (giB y i)).1 = 0 ∧ Sim n ((P.alloc.2).write (i : Int) (giB y i)).2 ((R.alloc.2).write (i : Int) (giB y i)).2 sq Bq) := Lib.hid ⟨((s1.write (i : Int) (giB y i)).1).trans g2, (s1.write (i : Int) (giB y i)).2⟩
      have HG3 := Lib.hid g3
      have HI := Lib.hid hI
      have HFQ := Lib.hid hfq
      clear hsim g1 g2 g3 hal s1 hI hfq
      go_wp2_with fail
      refine HAL.out.mono ?_
      rintro e w3 ⟨rfl, f3, a3, b3, c3, d3⟩
      have hl3 := HI.out.ls.stepT a3 c3 d3
      have HL3 := Lib.hid hl3
      have HQ3 := Lib.hid (b3.trans HFQ.out)
      have HOF := Lib.hid (of8_any w3 0 0 (y + UInt8.ofNat i))
      clear a3 b3 c3 d3 hl3 HAL
      have HU8 := Lib.hid (u8_add y i)
      go_wp2_with (refine wpList_buildTo rfl 33 #[(2, .tmp 61)] rfl (some 62) rfl #[.int .i64 0, .int .i64 0, .int .u8 (((y.toNat : Int) + (i : Int)) % 256)] (by kernel_rfl) ?_)
      rw [HU8.out]
      refine HOF.out.mono ?_
      rintro e w4 ⟨v4, rfl, hm4, hb4⟩
      have hl4 := HL3.out.step hb4
      have hw4 := pwrite_any hl4.pg (i : Int) (by omega) (by omega) v4 (giB y i) hm4.isB
      rw [HW2.out.1, HQ3.out] at hw4
      have HW4 := Lib.hid hw4
      have HL4 := Lib.hid hl4
      obtain ⟨a4, c4, rfl, _, _⟩ := hm4.isB.form
      clear hm4 hb4 hl4 hw4 HOF HU8
      go_wp2_with fail
      refine HW4.out.mono ?_
      rintro e w5 ⟨rfl, f5, a5, b5, c5, d5⟩
      have hl5 := HL4.out.stepT a5 c5 d5
      have HI5 : Hid (GivM w1 w5 F p f5 ((P.alloc.2).write (i : Int) (giB y i)).2 g R0 n ((R.alloc.2).write (i : Int) (giB y i)).2 N (pg1 y (i + 1))) := Lib.hid ⟨hl5, ⟨sq, Bq, HW2.out.2⟩, HG3.out⟩
      have HQ5 := Lib.hid (b5.trans HQ3.out)
      clear hl5 a5 b5 c5 d5 HW4
      have hx1 : ((i : Int) != (i : Int)) = false := by simp
      go_wp2_with fail
      go_roundw
      case rel => exact ⟨i + 1, f5, _, _, hlt, by go_num, HQ5.out, HI5.out⟩
      case measure => simp [intOf]; omega
    case neg =>
      obtain rfl : i = N := by omega
      have hd1 : decide ((i : Int) < (i : Int)) = false := by simp
      obtain ⟨sq, Bq, hsim⟩ := hI.sim
      obtain ⟨g1, g2, g3⟩ := hI.gs.filled
      have hal := alloc_any hI.ls.pg
      have s1 := hsim.alloc.2
      rw [hsim.alloc.1, g1, hfq] at hal
      rw [g1] at s1
      have HAL := Lib.hid hal
      have HS1 : Hid (Sim n P.alloc.2 R sq Bq) := Lib.hid s1
      have HG2 := Lib.hid (And.intro g2 g3)
      have HI := Lib.hid hI
      have HFQ := Lib.hid hfq
      clear hsim g1 g2 g3 hal s1 hI hfq
      go_wp2_with fail
      refine HAL.out.mono ?_
      rintro e w3 ⟨rfl, f3, a3, b3, c3, d3⟩
      have hl3 := HI.out.ls.stepT a3 c3 d3
      have hmm := fun w => run_makeMap (P := Tryd.prog) 44 w
      obtain ⟨W4, hW4⟩ : ∃ x, x = w3.alloc (.map #[] 0) := ⟨_, rfl⟩
      have hb4 : Below w3.heap.size w3 W4 := by rw [hW4]; exact (Below.refl _ _).alloc (Nat.le_refl _) _
      have ht4 : OTab W4 w3.heap.size (tru []) := by rw [hW4]; exact OTab.made w3
      have hl4 := hl3.step hb4
      have HT4 : Hid (GivT w1 W4 F p f3 g w3.heap.size []) := Lib.hid ⟨ht4, hl3.below.size, fun e => by have := hl3.lt (.inl e); omega, fun e => by have := hl3.lt (.inr e); omega⟩
      have HI4 : Hid (GivM w1 W4 F p f3 P.alloc.2 g R0 n R i (pg2 y [])) := Lib.hid ⟨hl4, ⟨sq, Bq, HS1.out⟩, HG2.out.1⟩
      have HQ3 := Lib.hid (b3.trans HFQ.out)
      have HF0 : Hid (freeRN R.pages = ([] : List Int).length) := Lib.hid HG2.out.2
      clear a3 b3 c3 d3 hl3 hl4 hb4 ht4 HAL HFQ HI
      go_wp2_with fail
      rw [← hW4]
      generalize hMM : w3.heap.size = M at *
      clear hMM
      generalize i = N at *
      go_loopw [20] (fun z wr => ∃ (i : Nat) (f : Pf) (P : Pg) (R : Rp) (G : List Int), i ≤ K ∧ z = .int .i64 (i : Int) ∧ f.q = fq ∧ GivM w1 wr F p f P g R0 n R N (pg2 y G) ∧ GivT w1 wr F p f g M G ∧ freeRN R.pages = G.length) (fun z _ => K - (intOf z).toNat)
      case atStart => exact ⟨0, f3, _, R, [], Nat.zero_le _, rfl, HQ3.out, HI4.out, HT4.out, HF0.out⟩
      case round =>
        clear HI4 HT4 HF0 HG2 HQ3 HS1 hmm hW4 f3 w3 W4 f P R sq Bq hi hlt hd1
        obtain ⟨i, f, P, R, G, hi, rfl, hfq, hI, hT, hF⟩ := hrel
        have hgz : decide ((N : Int) > 0) = true := decide_eq_true (by omega)
        have hgz2 : decide (0 < (N : Int)) = true := decide_eq_true (by omega)
        have HB := Lib.hid (HB1.out.trans (hI.ls.below.mono HB1.out.size))
        by_cases hlt : i < K
        case pos =>
          have hd1 : decide ((i : Int) < (K : Int)) = true := decide_eq_true (by omega)
          obtain ⟨hii, hbd⟩ := (HV.out.below HB.out).isI
          have hiK : i < xs.length := by rw [← HNX.out]; exact hlt
          obtain ⟨b1, b2⟩ := hbd _ (List.getElem_mem hiK)
          obtain ⟨a', cap', hv, _, _, hn0, hc4⟩ := hii
          simp only [Value.slice.injEq] at hv
          obtain ⟨rfl, _, rfl⟩ := hv
          obtain ⟨ga, rfl, hcell⟩ : ∃ ga : Addr, a = some ga ∧ ga.spot = none ∧ wr.cell? ⟨ga.block, ga.off + i, none⟩ = some (.int .i64 xs[i]) := by
            cases a with
            | none => have := hn0 rfl; omega
            | some x => exact ⟨x, rfl, (hc4 x rfl).1 (by omega), (hc4 x rfl).2 i hiK⟩
          obtain ⟨gb, go, gs⟩ := ga
          obtain ⟨hsp, hcell⟩ := hcell
          subst hsp
          generalize xs[i] = z at *
          have HPK := Lib.hid (pick_any wr z N b1 b2 (by omega) (by omega))
          have hk := pickN_lt z (n := N) (by omega)
          generalize pickN z N = k at *
          obtain ⟨sq, Bq, hsim⟩ := hI.sim
          have hfa := free_any hI.ls.pg (k : Int) (by omega) (by omega)
          have hfr := hsim.freed (k : Int)
          obtain ⟨hin, hout⟩ := hI.gs.back hF hk
          rw [hfr.1, hfq] at hfa
          have HI := Lib.hid hI
          have HT := Lib.hid hT
          have HFQ := Lib.hid hfq
          have HFR := Lib.hid hfr.2
          have HF := Lib.hid hF
          clear hI hT hfq hfr hF hsim hc4 hbd hn0
          by_cases hm : (k : Int) ∈ G
          · have er := hin hm
            rw [er] at hfa HFR
            have HA := Lib.hid hfa
            have HM := Lib.hid hm
            clear hin hout er hfa hm
            go_wp2_with fail
            refine HPK.out.mono ?_
            rintro e w9 ⟨rfl, hw9⟩
            rw [← hw9]
            clear hw9 w9
            go_wp2_with fail
            refine HA.out.mono ?_
            rintro e w3 ⟨rfl, f3, a3, b3, c3, d3⟩
            have hl3 := HI.out.ls.stepT a3 c3 d3
            have hI3 : GivM w1 w3 F p f3 (P.free (k : Int)).2 g R0 n R N (pg2 y G) := ⟨hl3, ⟨sq, Bq, HFR.out⟩, HI.out.gs⟩
            have hT3 := HT.out.turn c3 d3
            have hlook := hT3.look (k : Int)
            rw [decide_eq_true HM.out] at hlook
            obtain ⟨w4, hput, hT4, hI4⟩ := hT3.put hI3 (k : Int)
            rw [if_pos HM.out] at hT4
            have HI4 := Lib.hid hI4
            have HT4 := Lib.hid hT4
            have HQ4 := Lib.hid (b3.trans HFQ.out)
            clear hl3 a3 b3 c3 d3 hI3 hT3 hT4 hI4 HA
            go_wp2_with fail
            go_roundw
            case rel => exact ⟨i + 1, f3, _, R, G, hlt, by go_num, HQ4.out, HI4.out, HT4.out, HF.out⟩
            case measure => simp [intOf]; omega
          · obtain ⟨e1, e2, e3⟩ := hout hm
            rw [e1] at hfa
            have HA := Lib.hid hfa
            have HM := Lib.hid hm
            have HE := Lib.hid (And.intro e2 e3)
            clear hin hout e1 e2 e3 hfa hm
            go_wp2_with fail
            refine HPK.out.mono ?_
            rintro e w9 ⟨rfl, hw9⟩
            rw [← hw9]
            clear hw9 w9
            go_wp2_with fail
            refine HA.out.mono ?_
            rintro e w3 ⟨rfl, f3, a3, b3, c3, d3⟩
            have hl3 := HI.out.ls.stepT a3 c3 d3
            have hI3 : GivM w1 w3 F p f3 (P.free (k : Int)).2 g R0 n (R.free (k : Int)).2 N (pg2 y (G ++ [(k : Int)])) := ⟨hl3, ⟨sq, Bq, HFR.out⟩, HE.out.1⟩
            have hT3 := HT.out.turn c3 d3
            have hlook := hT3.look (k : Int)
            rw [decide_eq_false HM.out] at hlook
            obtain ⟨w4, hput, hT4, hI4⟩ := hT3.put hI3 (k : Int)
            rw [if_neg HM.out] at hT4
            have HI4 := Lib.hid hI4
            have HT4 := Lib.hid hT4
            have HQ4 := Lib.hid (b3.trans HFQ.out)
            clear hl3 a3 b3 c3 d3 hI3 hT3 hT4 hI4 HA
            go_wp2_with fail
            go_roundw
            case rel => exact ⟨i + 1, f3, _, (R.free (k : Int)).2, G ++ [(k : Int)], hlt, by go_num, HQ4.out, HI4.out, HT4.out, HE.out.2⟩
            case measure => simp [intOf]; omega
        case neg =>
          obtain rfl : i = K := by omega
          have hd1 : decide ((i : Int) < (i : Int)) = false := by simp
          have hlf := left_any hI.ls.pg
          rw [(hI.len hn331).2.2, hF, hfq] at hlf
          have HLF := Lib.hid hlf
          have hlen := hT.len 3
          have HI3 : Hid (GivM w1 wr F p f P g R0 n R N (pg3 y G 0)) := Lib.hid ⟨hI.ls, hI.sim, hI.gs.third⟩
          have HT := Lib.hid hT
          have HFQ := Lib.hid hfq
          have hx1 : ((G.length : Int) != (G.length : Int)) = false := by simp
          clear hlf hI hT hfq hF
          go_wp2_with fail
          refine HLF.out.mono ?_
          rintro e w9 ⟨rfl, hw9⟩
          rw [hw9]
          clear hw9 w9
          go_wp2_with fail
          go_loopw [23] (fun z wr => ∃ (i : Nat) (f : Pf) (P : Pg) (R : Rp), i ≤ N ∧ z = .int .i64 (i : Int) ∧ f.q = fq ∧ GivM w1 wr F p f P g R0 n R N (pg3 y G i) ∧ GivT w1 wr F p f g M G) (fun z _ => N - (intOf z).toNat)
          case atStart => exact ⟨0, f, P, R, Nat.zero_le _, rfl, HFQ.out, HI3.out, HT.out⟩
          case round =>
            clear HLF HI3 HT HFQ hlen hx1 HB f P R hi hlt hd1
            obtain ⟨i, f, P, R, hi, rfl, hfq, hI, hT⟩ := hrel
            by_cases hlt : i < N
            case pos =>
              have hd1 : decide ((i : Int) < (N : Int)) = true := decide_eq_true (by omega)
              obtain ⟨sq, Bq, hsim⟩ := hI.sim
              have hlook := hT.look (i : Int)
              by_cases hm : (i : Int) ∈ G
              · rw [decide_eq_true hm] at hlook
                obtain ⟨g1, g2, g3⟩ := hI.gs.again hlt hm
                have hal := alloc_any hI.ls.pg
                rw [hsim.alloc.1, g1, hfq] at hal
                have HAL := Lib.hid hal
                have HS1 := Lib.hid hsim.alloc.2
                have HG2 := Lib.hid g2
                have HG3 := Lib.hid g3
                have HI := Lib.hid hI
                have HT := Lib.hid hT
                have HFQ := Lib.hid hfq
                clear hsim g1 g2 g3 hal hI hT hfq hm
                go_wp2_with fail
                refine HAL.out.mono ?_
                rintro e w3 ⟨rfl, f3, a3, b3, c3, d3⟩
                have hl3 := HI.out.ls.stepT a3 c3 d3
                have hT3 := HT.out.turn c3 d3
                have hrd := pread_any hl3.pg (i : Int) (by omega) (by omega)
                rw [HS1.out.read, HG3.out, b3, HFQ.out] at hrd
                have HRD := Lib.hid hrd
                have HL3 := Lib.hid hl3
                have HT3 := Lib.hid hT3
                have HQ3 := Lib.hid (b3.trans HFQ.out)
                clear hl3 hT3 hrd a3 b3 c3 d3 HAL HI HT HFQ hlook
                go_wp2_with fail
                refine HRD.out.mono ?_
                rintro e w4 ⟨u, rfl, hmu, hp4, ht4⟩
                have hl4 := HL3.out.read hp4 ht4
                have hT4 := HT3.out.read ht4
                obtain ⟨ua, uc, hue, hu1, hu2⟩ := hmu.isB.form
                rw [z896_length] at hue
                subst hue
                have hS0 : (fun W : World => IsB W (.slice ua 896 uc) z896) w4.drew := hmu.isB.drew
                have HL4 := Lib.hid (hl4.step (Below.refl w4.heap.size w4).drew)
                have HT4 := Lib.hid (hT4.step (Below.refl w4.heap.size w4).drew)
                have hx1 : ((i : Int) != (i : Int)) = false := by simp
                have HI4 : Hid (GivM w1 w4.drew F p f3 P.alloc.2 g R0 n R.alloc.2 N (pg3 y G (i + 1))) := Lib.hid ⟨HL4.out, ⟨sq, Bq, HS1.out⟩, HG2.out⟩
                clear hmu hp4 ht4 hl4 hT4 HRD HL3 HT3 hu1 hu2
                go_upto_region 36 with fail
                refine wp_region_noPanic ?_
                refine wp_region_held_drew (S := (fun W : World => IsB W (.slice ua 896 uc) z896)) (by kernel_rfl) hS0 (fun hH => ?_)
                refine take_at (i := 0) (v := ?_) rfl (by kernel_rfl) (by kernel_rfl) (by kernel_rfl) (fun _ _ _ h => h) (Or.inl ⟨by rfl, ?_⟩) hH ?_
                rotate_left
                · (intro w hSw; have q0 := run_str (P := Tryd.prog) hSw 42 9 5 Tryd.underlying42 Tryd.underlying5 Tryd.underlying9; go_simp; try with_reducible rfl)
                try simp only [Act.put, List.setIfInBounds_toArray, List.set_cons_zero, List.set_cons_succ]
                refine take_at (i := 1) (v := ?_) rfl (by kernel_rfl) (by kernel_rfl) (by kernel_rfl) (fun _ _ _ h => h) (Or.inl ⟨by rfl, ?_⟩) hH ?_
                rotate_left
                · (intro w hSw; have q0 := run_str (P := Tryd.prog) hSw 42 9 5 Tryd.underlying42 Tryd.underlying5 Tryd.underlying9; go_simp; try with_reducible rfl)
                try simp only [Act.put, List.setIfInBounds_toArray, List.set_cons_zero, List.set_cons_succ]
                refine take_at (i := 2) (v := ?_) rfl (by kernel_rfl) (by kernel_rfl) (by kernel_rfl) (fun _ _ _ h => h) (Or.inl ⟨by rfl, ?_⟩) hH ?_
                rotate_left
                · (intro w hSw; have q0 := run_str (P := Tryd.prog) hSw 42 9 5 Tryd.underlying42 Tryd.underlying5 Tryd.underlying9; go_simp; try with_reducible rfl)
                try simp only [Act.put, List.setIfInBounds_toArray, List.set_cons_zero, List.set_cons_succ]
                refine take_at (i := 3) (v := ?_) rfl (by kernel_rfl) (by kernel_rfl) (by kernel_rfl) (fun _ _ _ h => h) (Or.inl ⟨by rfl, ?_⟩) hH ?_
                rotate_left
                · (intro w hSw; have q0 := run_str (P := Tryd.prog) hSw 42 9 5 Tryd.underlying42 Tryd.underlying5 Tryd.underlying9; go_simp; try with_reducible rfl)
                try simp only [Act.put, List.setIfInBounds_toArray, List.set_cons_zero, List.set_cons_succ]
                refine take_at (i := 4) (v := ?_) rfl (by kernel_rfl) (by kernel_rfl) (by kernel_rfl) (fun _ _ _ h => h) (Or.inl ⟨by rfl, ?_⟩) hH ?_
                rotate_left
                · (intro w hSw; have q0 := run_str (P := Tryd.prog) hSw 42 9 5 Tryd.underlying42 Tryd.underlying5 Tryd.underlying9; go_simp; try with_reducible rfl)
                try simp only [Act.put, List.setIfInBounds_toArray, List.set_cons_zero, List.set_cons_succ]
                refine take_at (i := 5) (v := ?_) rfl (by kernel_rfl) (by kernel_rfl) (by kernel_rfl) (fun _ _ _ h => h) (Or.inl ⟨by rfl, ?_⟩) hH ?_
                rotate_left
                · (intro w hSw; have q0 := run_str (P := Tryd.prog) hSw 42 9 5 Tryd.underlying42 Tryd.underlying5 Tryd.underlying9; go_simp; try with_reducible rfl)
                try simp only [Act.put, List.setIfInBounds_toArray, List.set_cons_zero, List.set_cons_succ]
                refine take_at (i := 6) (v := ?_) rfl (by kernel_rfl) (by kernel_rfl) (by kernel_rfl) (fun _ _ _ h => h) (Or.inl ⟨by rfl, ?_⟩) hH ?_
                rotate_left
                · (intro w hSw; have q0 := run_str (P := Tryd.prog) hSw 42 9 5 Tryd.underlying42 Tryd.underlying5 Tryd.underlying9; go_simp; try with_reducible rfl)
                try simp only [Act.put, List.setIfInBounds_toArray, List.set_cons_zero, List.set_cons_succ]
                refine take_at (i := 7) (v := ?_) rfl (by kernel_rfl) (by kernel_rfl) (by kernel_rfl) (fun _ _ _ h => h) (Or.inl ⟨by rfl, ?_⟩) hH ?_
                rotate_left
                · (intro w hSw; have q0 := run_str (P := Tryd.prog) hSw 42 9 5 Tryd.underlying42 Tryd.underlying5 Tryd.underlying9; go_simp; try with_reducible rfl)
                try simp only [Act.put, List.setIfInBounds_toArray, List.set_cons_zero, List.set_cons_succ]
                refine take_at (i := 8) (v := ?_) rfl (by kernel_rfl) (by kernel_rfl) (by kernel_rfl) (fun _ _ _ h => h) (Or.inl ⟨by rfl, ?_⟩) hH ?_
                rotate_left
                · (intro w hSw; have q0 := run_str (P := Tryd.prog) hSw 42 9 5 Tryd.underlying42 Tryd.underlying5 Tryd.underlying9; go_simp; try with_reducible rfl)
                try simp only [Act.put, List.setIfInBounds_toArray, List.set_cons_zero, List.set_cons_succ]
                refine take_at (i := 9) (v := ?_) rfl (by kernel_rfl) (by kernel_rfl) (by kernel_rfl) (fun _ _ _ h => h) (Or.inl ⟨by rfl, ?_⟩) hH ?_
                rotate_left
                · (intro w hSw; have q0 := run_str (P := Tryd.prog) hSw 42 9 5 Tryd.underlying42 Tryd.underlying5 Tryd.underlying9; go_simp; try with_reducible rfl)
                try simp only [Act.put, List.setIfInBounds_toArray, List.set_cons_zero, List.set_cons_succ]
                refine take_at (i := 10) (v := ?_) rfl (by kernel_rfl) (by kernel_rfl) (by kernel_rfl) (fun _ _ _ h => h) (Or.inl ⟨by rfl, ?_⟩) hH ?_
                rotate_left
                · (intro w hSw; have q0 := run_str (P := Tryd.prog) hSw 42 9 5 Tryd.underlying42 Tryd.underlying5 Tryd.underlying9; go_simp; try with_reducible rfl)
                try simp only [Act.put, List.setIfInBounds_toArray, List.set_cons_zero, List.set_cons_succ]
                refine take_at (i := 11) (v := ?_) rfl (by kernel_rfl) (by kernel_rfl) (by kernel_rfl) (fun _ _ _ h => h) (Or.inl ⟨by rfl, ?_⟩) hH ?_
                rotate_left
                · (intro w hSw; have q0 := run_str (P := Tryd.prog) hSw 42 9 5 Tryd.underlying42 Tryd.underlying5 Tryd.underlying9; go_simp; try with_reducible rfl)
                try simp only [Act.put, List.setIfInBounds_toArray, List.set_cons_zero, List.set_cons_succ]
                refine take_at (i := 12) (v := ?_) rfl (by kernel_rfl) (by kernel_rfl) (by kernel_rfl) (fun _ _ _ h => h) (Or.inl ⟨by rfl, ?_⟩) hH ?_
                rotate_left
                · (intro w hSw; have q0 := run_str (P := Tryd.prog) hSw 42 9 5 Tryd.underlying42 Tryd.underlying5 Tryd.underlying9; go_simp; try with_reducible rfl)
                try simp only [Act.put, List.setIfInBounds_toArray, List.set_cons_zero, List.set_cons_succ]
                refine take_at (i := 13) (v := ?_) rfl (by kernel_rfl) (by kernel_rfl) (by kernel_rfl) (fun _ _ _ h => h) (Or.inl ⟨by rfl, ?_⟩) hH ?_
                rotate_left
                · (intro w hSw; have q0 := run_str (P := Tryd.prog) hSw 42 9 5 Tryd.underlying42 Tryd.underlying5 Tryd.underlying9; go_simp; try with_reducible rfl)
                try simp only [Act.put, List.setIfInBounds_toArray, List.set_cons_zero, List.set_cons_succ]
                refine wpAnyH_ready (rs := [14]) (by kernel_rfl) (by simp) ?_
                refine ready_at rfl (fun K hK => ?_) AllReadyH.nil
                have hmk := run_makeB 896 (by omega) w4.drew
                rw [show ((896 : Nat) : Int) = 896 from rfl] at hmk
                have hmz := Mine.lit (e := 5) (base := 0) (w := w4.drew) z896 (Nat.zero_le _) (by simp [maxLen, z896_length])
                rw [z896_length] at hmz
                obtain ⟨w5, hw5⟩ : ∃ x, x = w4.drew.alloc (.cells (bv (List.replicate 896 0)).toArray 5) := ⟨_, rfl⟩
                have hb5 : Below w4.drew.heap.size w4.drew w5 := by rw [hw5]; exact (Below.refl _ _).alloc (Nat.le_refl _) _
                have hm5 : Mine 5 0 w5 (.slice (some ⟨w4.drew.heap.size, 0, none⟩) 896 896) z896 := by rw [hw5]; exact hmz
                rw [← hw5] at hmk
                obtain ⟨sz, hsz⟩ : ∃ x, x = w4.drew.heap.size := ⟨_, rfl⟩
                rw [← hsz] at hm5 hmk
                have q5 := run_str (P := Tryd.prog) hm5.isB 42 9 5 Tryd.underlying42 Tryd.underlying5 Tryd.underlying9
                have hH5 := IsB.below hH hb5
                have HI5 := Lib.hid (HI4.out.step hb5)
                have HT5 := Lib.hid (HT4.out.step hb5)
                refine arm_value (v := .slice (some ⟨sz, 0, none⟩) 896 896) (w' := w5) (by rfl) (by unfold execOp; simp only [Act.eval, Sem.run_bind, hmk, Result.andThen_ok]; rfl) ?_
                clear hsz hmk hmz hw5 hb5 hm5 hH
                refine hK.out _ _ hH5 (fun hH => ?_)
                clear hH5
                clear hK K
                try simp only [Act.put, List.setIfInBounds_toArray, List.set_cons_zero, List.set_cons_succ]
                refine wpAnyH_ready (rs := [15]) (by kernel_rfl) (by simp) ?_
                refine ready_at rfl (fun K hK => ?_) AllReadyH.nil
                go_simp
                refine hK.out _ _ hH (fun _ => ?_)
                clear hK K
                try simp only [Act.put, List.setIfInBounds_toArray, List.set_cons_zero, List.set_cons_succ]
                refine take_at (i := 16) (v := ?_) rfl (by kernel_rfl) (by kernel_rfl) (by kernel_rfl) (fun _ _ _ h => h) (Or.inl ⟨by rfl, ?_⟩) hH ?_
                rotate_left
                · (intro w hSw; have q0 := run_str (P := Tryd.prog) hSw 42 9 5 Tryd.underlying42 Tryd.underlying5 Tryd.underlying9; go_simp; try with_reducible rfl)
                try simp only [Act.put, List.setIfInBounds_toArray, List.set_cons_zero, List.set_cons_succ]
                refine take_at (i := 17) (v := ?_) rfl (by kernel_rfl) (by kernel_rfl) (by kernel_rfl) (fun _ _ _ h => h) (Or.inl ⟨by rfl, ?_⟩) hH ?_
                rotate_left
                · (intro w hSw; have q0 := run_str (P := Tryd.prog) hSw 42 9 5 Tryd.underlying42 Tryd.underlying5 Tryd.underlying9; go_simp; try with_reducible rfl)
                try simp only [Act.put, List.setIfInBounds_toArray, List.set_cons_zero, List.set_cons_succ]
                refine wpAnyH_done (by kernel_rfl) ?_ _
                refine NoPanic.normal ?_
                go_wp2_with fail
                go_roundw
                case rel => exact ⟨i + 1, f3, _, _, hlt, by go_num, HQ3.out, HI5.out, HT5.out⟩
                case measure => simp [intOf]; omega
              · rw [decide_eq_false hm] at hlook
                obtain ⟨g1, g2⟩ := hI.gs.kept hlt hm
                have hrd := pread_any hI.ls.pg (i : Int) (by omega) (by omega)
                rw [hsim.read, g1, hfq] at hrd
                have HRD := Lib.hid hrd
                have HS1 := Lib.hid hsim
                have HG2 := Lib.hid g2
                have HI := Lib.hid hI
                have HT := Lib.hid hT
                have HFQ := Lib.hid hfq
                clear hsim g1 g2 hrd hI hT hfq hm
                go_wp2_with fail
                refine HRD.out.mono ?_
                rintro e w4 ⟨u, rfl, hmu, hp4, ht4⟩
                have hl4 := HI.out.ls.read hp4 ht4
                have hT4 := HT.out.read ht4
                obtain ⟨ua, uc, hue, hu1, hu2⟩ := hmu.isB.form
                rw [giB_length] at hue
                subst hue
                have hS0 : (fun W : World => IsB W (.slice ua 896 uc) (giB y i)) w4.drew := hmu.isB.drew
                have HL4 := Lib.hid (hl4.step (Below.refl w4.heap.size w4).drew)
                have HT4 := Lib.hid (hT4.step (Below.refl w4.heap.size w4).drew)
                have HI4 : Hid (GivM w1 w4.drew F p f P g R0 n R N (pg3 y G (i + 1))) := Lib.hid ⟨HL4.out, ⟨sq, Bq, HS1.out⟩, HG2.out⟩
                have HQ3 := Lib.hid HFQ.out
                have HW8 : Hid (IntKind.u8.wrap ((y.toNat : Int) + IntKind.u8.wrap (i : Int)) = (((y + UInt8.ofNat i).toNat : Nat) : Int)) := Lib.hid (by
                  have := u8_add y i
                  rw [IntKind.wrap_u8, IntKind.wrap_u8]
                  omega)
                clear hmu hp4 ht4 hl4 hT4 HRD HI HT hu1 hu2 hlook
                go_upto_region 32 with fail
                refine wp_region_noPanic ?_
                refine wp_region_held_drew (S := (fun W : World => IsB W (.slice ua 896 uc) (giB y i))) (by kernel_rfl) hS0 (fun hH => ?_)
                refine take_at (i := 0) (v := ?_) rfl (by kernel_rfl) (by kernel_rfl) (by kernel_rfl) (fun _ _ _ h => h) (Or.inl ⟨by rfl, ?_⟩) hH ?_
                rotate_left
                · (intro w hSw; have q0 := run_str (P := Tryd.prog) hSw 42 9 5 Tryd.underlying42 Tryd.underlying5 Tryd.underlying9; go_simp; try with_reducible rfl)
                try simp only [Act.put, List.setIfInBounds_toArray, List.set_cons_zero, List.set_cons_succ]
                refine take_at (i := 1) (v := ?_) rfl (by kernel_rfl) (by kernel_rfl) (by kernel_rfl) (fun _ _ _ h => h) (Or.inl ⟨by rfl, ?_⟩) hH ?_
                rotate_left
                · (intro w hSw; have q0 := run_str (P := Tryd.prog) hSw 42 9 5 Tryd.underlying42 Tryd.underlying5 Tryd.underlying9; go_simp; try with_reducible rfl)
                try simp only [Act.put, List.setIfInBounds_toArray, List.set_cons_zero, List.set_cons_succ]
                refine take_at (i := 2) (v := ?_) rfl (by kernel_rfl) (by kernel_rfl) (by kernel_rfl) (fun _ _ _ h => h) (Or.inl ⟨by rfl, ?_⟩) hH ?_
                rotate_left
                · (intro w hSw; have q0 := run_str (P := Tryd.prog) hSw 42 9 5 Tryd.underlying42 Tryd.underlying5 Tryd.underlying9; go_simp; try with_reducible rfl)
                try simp only [Act.put, List.setIfInBounds_toArray, List.set_cons_zero, List.set_cons_succ]
                refine take_at (i := 3) (v := ?_) rfl (by kernel_rfl) (by kernel_rfl) (by kernel_rfl) (fun _ _ _ h => h) (Or.inl ⟨by rfl, ?_⟩) hH ?_
                rotate_left
                · (intro w hSw; have q0 := run_str (P := Tryd.prog) hSw 42 9 5 Tryd.underlying42 Tryd.underlying5 Tryd.underlying9; go_simp; try with_reducible rfl)
                try simp only [Act.put, List.setIfInBounds_toArray, List.set_cons_zero, List.set_cons_succ]
                refine take_at (i := 4) (v := ?_) rfl (by kernel_rfl) (by kernel_rfl) (by kernel_rfl) (fun _ _ _ h => h) (Or.inl ⟨by rfl, ?_⟩) hH ?_
                rotate_left
                · (intro w hSw; have q0 := run_str (P := Tryd.prog) hSw 42 9 5 Tryd.underlying42 Tryd.underlying5 Tryd.underlying9; go_simp; try with_reducible rfl)
                try simp only [Act.put, List.setIfInBounds_toArray, List.set_cons_zero, List.set_cons_succ]
                refine take_at (i := 5) (v := ?_) rfl (by kernel_rfl) (by kernel_rfl) (by kernel_rfl) (fun _ _ _ h => h) (Or.inl ⟨by rfl, ?_⟩) hH ?_
                rotate_left
                · (intro w hSw; have q0 := run_str (P := Tryd.prog) hSw 42 9 5 Tryd.underlying42 Tryd.underlying5 Tryd.underlying9; go_simp; try with_reducible rfl)
                try simp only [Act.put, List.setIfInBounds_toArray, List.set_cons_zero, List.set_cons_succ]
                refine take_at (i := 6) (v := ?_) rfl (by kernel_rfl) (by kernel_rfl) (by kernel_rfl) (fun _ _ _ h => h) (Or.inl ⟨by rfl, ?_⟩) hH ?_
                rotate_left
                · (intro w hSw; have q0 := run_str (P := Tryd.prog) hSw 42 9 5 Tryd.underlying42 Tryd.underlying5 Tryd.underlying9; go_simp; try with_reducible rfl)
                try simp only [Act.put, List.setIfInBounds_toArray, List.set_cons_zero, List.set_cons_succ]
                refine take_at (i := 7) (v := ?_) rfl (by kernel_rfl) (by kernel_rfl) (by kernel_rfl) (fun _ _ _ h => h) (Or.inl ⟨by rfl, ?_⟩) hH ?_
                rotate_left
                · (intro w hSw; have q0 := run_str (P := Tryd.prog) hSw 42 9 5 Tryd.underlying42 Tryd.underlying5 Tryd.underlying9; go_simp; try with_reducible rfl)
                try simp only [Act.put, List.setIfInBounds_toArray, List.set_cons_zero, List.set_cons_succ]
                refine take_at (i := 8) (v := ?_) rfl (by kernel_rfl) (by kernel_rfl) (by kernel_rfl) (fun _ _ _ h => h) (Or.inl ⟨by rfl, ?_⟩) hH ?_
                rotate_left
                · (intro w hSw; have q0 := run_str (P := Tryd.prog) hSw 42 9 5 Tryd.underlying42 Tryd.underlying5 Tryd.underlying9; go_simp; try with_reducible rfl)
                try simp only [Act.put, List.setIfInBounds_toArray, List.set_cons_zero, List.set_cons_succ]
                refine take_at (i := 9) (v := .agg #[.int .i64 0, .int .i64 0, .int .u8 (IntKind.u8.wrap ((y.toNat : Int) + IntKind.u8.wrap (i : Int)))]) rfl (by kernel_rfl) (by kernel_rfl) (by kernel_rfl) (fun _ _ _ h => h) (Or.inl ⟨by rfl, fun w hSw => by kernel_rfl⟩) hH ?_
                try simp only [Act.put, List.setIfInBounds_toArray, List.set_cons_zero, List.set_cons_succ]
                refine wpAnyH_ready (rs := [10]) (by kernel_rfl) (by simp) ?_
                refine ready_at rfl (fun K hK => ?_) AllReadyH.nil
                go_simp
                rw [HW8.out]
                refine (of8_any w4.drew 0 0 (y + UInt8.ofNat i)).mono ?_
                rintro e w5 ⟨v5, rfl, hm5, hb5⟩
                replace hm5 : Mine 5 w4.drew.heap.size w5 v5 (giB y i) := hm5
                have hH5 := IsB.below hH hb5
                have q5 := run_str (P := Tryd.prog) hm5.isB 42 9 5 Tryd.underlying42 Tryd.underlying5 Tryd.underlying9
                have HI5 := Lib.hid (HI4.out.step hb5)
                have HT5 := Lib.hid (HT4.out.step hb5)
                clear hm5 hb5 hH
                go_wp2_with fail
                refine hK.out _ _ hH5 (fun hH => ?_)
                clear hH5
                clear hK K
                try simp only [Act.put, List.setIfInBounds_toArray, List.set_cons_zero, List.set_cons_succ]
                refine wpAnyH_ready (rs := [11]) (by kernel_rfl) (by simp) ?_
                refine ready_at rfl (fun K hK => ?_) AllReadyH.nil
                go_simp
                refine hK.out _ _ hH (fun _ => ?_)
                clear hK K
                try simp only [Act.put, List.setIfInBounds_toArray, List.set_cons_zero, List.set_cons_succ]
                refine take_at (i := 12) (v := ?_) rfl (by kernel_rfl) (by kernel_rfl) (by kernel_rfl) (fun _ _ _ h => h) (Or.inl ⟨by rfl, ?_⟩) hH ?_
                rotate_left
                · (intro w hSw; have q0 := run_str (P := Tryd.prog) hSw 42 9 5 Tryd.underlying42 Tryd.underlying5 Tryd.underlying9; go_simp; try with_reducible rfl)
                try simp only [Act.put, List.setIfInBounds_toArray, List.set_cons_zero, List.set_cons_succ]
                refine take_at (i := 13) (v := ?_) rfl (by kernel_rfl) (by kernel_rfl) (by kernel_rfl) (fun _ _ _ h => h) (Or.inl ⟨by rfl, ?_⟩) hH ?_
                rotate_left
                · (intro w hSw; have q0 := run_str (P := Tryd.prog) hSw 42 9 5 Tryd.underlying42 Tryd.underlying5 Tryd.underlying9; go_simp; try with_reducible rfl)
                try simp only [Act.put, List.setIfInBounds_toArray, List.set_cons_zero, List.set_cons_succ]
                refine wpAnyH_done (by kernel_rfl) ?_ _
                refine NoPanic.normal ?_
                go_wp2_with fail
                go_roundw
                case rel => exact ⟨i + 1, f, _, _, hlt, by go_num, HQ3.out, HI5.out, HT5.out⟩
                case measure => simp [intOf]; omega
            case neg =>
              obtain rfl : i = N := by omega
              have hd1 : decide ((i : Int) < (i : Int)) = false := by simp
              have hlf := left_any hI.ls.pg
              rw [(hI.len hn331).2.2, hI.gs.last, hfq] at hlf
              have HLF := Lib.hid hlf
              have HB9 := Lib.hid (HB1.out.trans (hI.ls.below.mono HB1.out.size))
              clear hI hT hlf hfq
              go_wp2_with fail
              refine HLF.out.mono ?_
              rintro e w9 ⟨rfl, hw9⟩
              rw [hw9]
              clear hw9 w9
              go_wp2_with fail
              go_ret
              exact ⟨rfl, HB9.out⟩
end Go.Proofs.YtbmmcaoifkboiaaDoor

/- The card of PagerGives: for every input the law answers true, and what came in reads as it did. -/
set_option linter.unusedVariables false
set_option linter.unusedSimpArgs false
set_option maxRecDepth 100000
namespace Go.Proofs.YtbmmcaoifkboiaaDoor.cardPagerGives
open Go.ChangeShapes Go.WideShapes Go.ChangeAt Go.RowKit Go.Deep
open Go.ChangeMaps (open_string shut_string)

theorem gTab : Tryd.prog.globalNamed "usance/wire.nibbles" = some 0 := by kernel_rfl
theorem gTabType : (Tryd.prog.globals[0]?).map (·.type) = some 134 := by kernel_rfl
theorem cellsTab : Tryd.prog.cellsOf 134 = 16 := by kernel_rfl
theorem cellsU32 : Tryd.prog.cellsOf 124 = 1 := by kernel_rfl
/-- what the row lists: the table of the sum -/
theorem table {W : World} (h : laidMetH Tryd.prog Rows.pagerGivesRow.laid W) : Nib W := by
  have ht : Lib.TabIs Tryd.prog W "usance/wire.nibbles" .u32 [0, 498536548, 997073096, 651767980, 1994146192, 1802195444, 1303535960, 1342533948, 3988292384, 4027552580, 3604390888, 3412177804, 2607071920, 2262029012, 2685067896, 3183342108] :=
    Lib.tabIs_of_head (rest := []) gTab gTabType Tryd.underlying134 Tryd.underlying124 cellsU32 cellsTab h
  intro i hi
  rw [ht.cell gTab i (by simpa using hi)]
  have e : ∀ i : Fin 16, ([0, 498536548, 997073096, 651767980, 1994146192, 1802195444, 1303535960, 1342533948, 3988292384, 4027552580, 3604390888, 3412177804, 2607071920, 2262029012, 2685067896, 3183342108] : List Int).getD i.val 0 = ((UsCrc.nib.getD i.val 0 : Nat) : Int) := by decide
  rw [e ⟨i, hi⟩]

theorem contract (H : Type) (enc : TypeId × Value → H) (W : World) (base : Nat) (args : Array Value) (ds gs : List (DataW H)) (before : List MemPlace)
    (hval : ∀ (j : Nat) t v, Tryd.f4.params[j]? = some t → args[j]? = some v → Value.okWide Tryd.prog W .any base t v)
    (hW : DataW.Whole enc Tryd.prog Tryd.f4.params.toList Rows.pagerGivesSpec.vars false W args.toList ds gs before) (hL : laidMetH Tryd.prog Rows.pagerGivesRow.laid W)
    (hsz : (DataW.weightsEach Tryd.prog (Tryd.f4.params.toList ++ (OpenSpec.ofChange Rows.pagerGivesSpec).bare.plain.varTypes Tryd.prog) (ds ++ gs)).all (· ≤ reachBytes) = true) :
    Calls Tryd.prog 4 args W fun e W' => ∃ v, e = .returned v ∧ Rows.pagerGivesSpec.post enc Tryd.prog Tryd.f4 false true false false W args v W' := by
  have hW' := hW
  obtain ⟨p, q, hA0, hV, rfl, hfz, hnd⟩ := hW
  have hA : DataW.TrodAll enc Tryd.prog W 0 (fun _ => true) true Tryd.f4.params.toList args.toList ds p := hA0
  rw [Tryd.params4] at hA hval hsz
  obtain ⟨v0, vs0, d0, ds0, p0, q0, hargs, rfl, rfl, h0, r0⟩ := trodAll_cons hA
  obtain ⟨v1, vs1, d1, ds1, p1, q1, rfl, rfl, rfl, h1, r1⟩ := trodAll_cons r0
  obtain ⟨v2, vs2, d2, ds2, p2, q2, rfl, rfl, rfl, h2, r2⟩ := trodAll_cons r1
  obtain ⟨rfl, rfl, rfl⟩ := trodAll_nil r2
  obtain rfl : args = #[v0, v1, v2] := by cases args; simp_all
  obtain ⟨rfl, rfl⟩ := trodVars_none hV
  have k0 := h0
  have lt0 : ∀ x ∈ p0, x.block < W.heap.size := by obtain ⟨m, hm⟩ := k0; exact DataW.trod_lt m _ _ _ hm
  have k1 := h1
  have lt1 : ∀ x ∈ p1, x.block < W.heap.size := by obtain ⟨m, hm⟩ := k1; exact DataW.trod_lt m _ _ _ hm
  have k2 := h2
  have lt2 : ∀ x ∈ p2, x.block < W.heap.size := by obtain ⟨m, hm⟩ := k2; exact DataW.trod_lt m _ _ _ hm
  simp only [List.append_nil, List.nil_append, List.cons_append] at hsz
  obtain ⟨x0, rfl, rfl, rfl, w0⟩ := open_int Tryd.underlying3 (hval 0 3 v0 rfl rfl) h0
  have b0 := wf_int64 w0
  obtain ⟨xs1, ir1⟩ := open_row rdInt (by decide) Tryd.underlying30 (hval 1 30 v1 rfl rfl) h1 (light_arg (j := 1) hsz rfl rfl)
  obtain ⟨x2, rfl, rfl, rfl, w2⟩ := open_int Tryd.underlying5 (hval 2 5 v2 rfl rfl) h2
  have b2 := wf_byte w2
  obtain ⟨y2, rfl⟩ := b2
  have hnib := table hL
  clear hA0
  refine (gives8_walk W hnib x0 v1 xs1 ir1 y2 b0.1 b0.2).mono fun e W' ⟨he, bel⟩ => ?_
  subst he
  exact ⟨_, rfl, _, _, _, [], _, [], hW', trodAll_mk1 (shut_bool Tryd.underlying4 _), (trodAll_cons_mk (Below.trod laidOut (by kernel_rfl) (of_decide_eq_true (by kernel_rfl)) k0 bel lt0) (trodAll_cons_mk (Below.trod laidOut (by kernel_rfl) (of_decide_eq_true (by kernel_rfl)) k1 bel lt1) (trodAll_cons_mk (Below.trod laidOut (by kernel_rfl) (of_decide_eq_true (by kernel_rfl)) k2 bel lt2) trodAll_mk0))), rfl, bel.frame _, fun h => by cases h⟩

/-- a world for the witness: the table as its initialiser lays it -/
noncomputable def laidWorld (os : Os) : World :=
  { World.holding Tryd.prog os ⟨#[], #[], []⟩ with heap := (World.holding Tryd.prog os ⟨#[], #[], []⟩).heap.modify 0 fun
      | .cells _ t frozen => .cells #[.int .u32 0, .int .u32 498536548, .int .u32 997073096, .int .u32 651767980, .int .u32 1994146192, .int .u32 1802195444, .int .u32 1303535960, .int .u32 1342533948, .int .u32 3988292384, .int .u32 4027552580, .int .u32 3604390888, .int .u32 3412177804, .int .u32 2607071920, .int .u32 2262029012, .int .u32 2685067896, .int .u32 3183342108] t frozen
      | o => o }
theorem laid_met (os : Os) : laidMet Tryd.prog Rows.pagerGivesRow.laid ((laidWorld os).forCall (fun _ _ => 0) ⟨#[], #[.int .i64 0, .slice none 0 0, .int .u8 0], []⟩).memory :=
  laidMet_of_run' 8 (by kernel_rfl) (by kernel_rfl)
theorem reads (os : Os) {H : Type} (enc : TypeId × Value → H) : ∃ places, DataW.whole enc Tryd.prog ((laidWorld os).forCall (fun _ _ => 0) ⟨#[], #[.int .i64 0, .slice none 0 0, .int .u8 0], []⟩).memory Tryd.f4.params.toList Rows.pagerGivesSpec.vars false (#[.int .i64 0, .slice none 0 0, .int .u8 0] : Array Value).toList 8 = some ([.lit (.int .i64 0), .nil, .lit (.int .u8 0)], [], places) :=
  ⟨[], by kernel_rfl⟩

theorem lifted (os : Os) (started : os.Started) (H : Type) (enc : TypeId × Value → H) (F : Stop.Interp) :
    ReturnsInHanded {} Tryd.checked os 4 .any ((OpenSpec.ofChange Rows.pagerGivesSpec).preRow enc Tryd.prog Tryd.f4 Rows.pagerGivesRow.domain false Rows.pagerGivesRow.laid) (((OpenSpec.ofChange Rows.pagerGivesSpec).at F).post enc Tryd.prog Tryd.f4 false true false false) := by
  obtain ⟨places, hx⟩ := reads os enc
  refine returnsInHanded_of_row (C := Tryd.checked) (s := OpenSpec.ofChange Rows.pagerGivesSpec) own started (by kernel_rfl) Tryd.func4
    (witness_row_at (enc := enc) (C := Tryd.checked) false (laidWorld os) #[.int .i64 0, .slice none 0 0, .int .u8 0] rfl (by kernel_rfl) (by kernel_rfl) (by kernel_rfl)
      (OpenSpec.preRow_of_cond 8 hx (by kernel_rfl) (fun k hk => by cases hk) (by kernel_rfl) (laid_met os))) ?_
  intro W base args ds gs before hval hW _ hcond hsz hL _ _
  exact contract H enc W base args ds gs before hval hW hL hsz

theorem said : Rows.PagerGivesSaid :=
  OpenClaim.holds_of_cond 4 Tryd.f4 rfl rfl rfl rfl rfl rfl rfl ⟨rfl, rfl, rfl, rfl, rfl⟩ rfl rfl rfl rfl rfl (by kernel_rfl) Tryd.func4 (by kernel_rfl)
    (of_decide_eq_true (by kernel_rfl)) (by unfold Func.isWrapper; first | (rw [if_pos (by decide +kernel)]; kernel_rfl) | (rw [if_neg (by decide +kernel)]; exact ⟨rfl, rfl⟩))
    (fun os started H enc _ F => by rw [OpenClaim.pre_eq_preRow]; exact lifted os started H enc F)

theorem plain (f : FuncId) (fn : Func) (hf : Tryd.pinned.checked.prog.funcNamed "usance/usancelaw08.PagerGives" = some f) (hfn : Tryd.pinned.checked.prog.funcs[f]? = some fn) :
    false = Tryd.pinned.checked.prog.looks [] ∧ ∀ (j : Nat) t, fn.params[j]? = some t → Tryd.pinned.checked.prog.wantsStandIn t = false := by
  obtain rfl : f = 4 := Option.some.inj ((show Tryd.prog.funcNamed "usance/usancelaw08.PagerGives" = some 4 by kernel_rfl).symm.trans hf) |>.symm
  obtain rfl : fn = Tryd.f4 := (Option.some.inj (Tryd.func4.symm.trans hfn)).symm
  refine ⟨by kernel_rfl, fun j t ht => ?_⟩
  rw [Tryd.params4] at ht
  have hm := Array.mem_of_getElem? ht
  simp only [List.mem_toArray, List.mem_cons, List.not_mem_nil, or_false] at hm
  rcases hm with rfl | rfl | rfl
  · exact (show Tryd.prog.wantsStandIn 3 = false by kernel_rfl)
  · exact (show Tryd.prog.wantsStandIn 30 = false by kernel_rfl)
  · exact (show Tryd.prog.wantsStandIn 5 = false by kernel_rfl)

/-- THE CARD -/
theorem proved : Rows.PagerGivesCardSaid :=
  Claim7.holds_tied_plain_at .later [] _ _ _ _ said (fun _ h => by cases h) (by kernel_rfl) (fun _ h => by cases h) pagerGives_row_tie rfl ⟨rfl, rfl⟩ (by kernel_rfl) rfl plain (by kernel_rfl)
#print axioms proved
end Go.Proofs.YtbmmcaoifkboiaaDoor.cardPagerGives
