/- Contracts of the functions that the statements of this seat reach, part 3: each says what the call answers and what it leaves of the memory. -/
import Derived.Test.YtbmmcaoifkboiaaDoorBase2
import Derived.Laws.MakeOwn
import Derived.Carry
import Derived.Deep.OwnRows
import Derived.LoopTactic
import Derived.StillTailTactics
import Derived.IntWalk
import Derived.Deep.Onto
/- A live journal; what a write comes to. Plain lists. -/
set_option linter.unusedVariables false
set_option linter.unusedSimpArgs false
set_option maxRecDepth 100000
namespace Go.Proofs.YtbmmcaoifkboiaaDoor
open Go.RowKit

/-- a journal that goes on: nothing loose, all blocks where they belong (those that ok holds) -/
structure Live (n : Nat) (J : Jn) (seq : Int) (B : List (List UInt8)) (ok : Nat → Prop) : Prop where
  off : J.off = 0
  doff : J.D.off = false
  flat : J.D.Flat
  dok : J.D.Ok
  hn : J.D.n = n
  hseq : J.seq = seq
  im : ∃ w pl, Im n J.D.now w pl seq J.last B ok
  home : ∀ i, i < (n - 2) / 2 → ok i → HomeOk n J.D.now B i
/-- an image of a journal -/
def Img (n : Nat) (seq : Int) (B : List (List UInt8)) (top : Nat) (l : List UInt8) : Prop := ∃ w pl, Im n l w pl seq top B AllOk
theorem Im.top {n : Nat} {l : List UInt8} {w pl : Nat} {seq : Int} {top top' : Nat} {B : List (List UInt8)} {ok : Nat → Prop} (h : Im n l w pl seq top B ok) (h1 : top ≤ top') (h2 : top' < 4611686018427387904) : Im n l w pl seq top' B ok :=
  ⟨h.len, h.lo, h.hi, h.rows, h.each, Nat.le_trans h.wt h1, h2, h.s0, h.s1, h.few, h.mark, h.old, fun k hk => by
    obtain ⟨v, q, b, e, a1, a2⟩ := h.notes k hk
    exact ⟨v, q, b, e, Nat.le_trans a1 h1, a2⟩, h.full, h.stand⟩
/-- an image all of whose blocks are at home -/
def ImC (n : Nat) (l : List UInt8) (w pl : Nat) (seq : Int) (top : Nat) (B : List (List UInt8)) : Prop := Im n l w pl seq top B AllOk ∧ ∀ i, i < (n - 2) / 2 → HomeOk n l B i
theorem ImC.note_lay {n : Nat} {l : List UInt8} {w pl : Nat} {seq : Int} {top : Nat} {B : List (List UInt8)} (h : ImC n l w pl seq top B) {k v q : Nat} {b : List UInt8} (hk : k < (n - 2) / 2) (hq : q < (n - 2) / 2) (hv : v ≤ top) (hw : w < v) :
    ImC n (putS l (2 + k) (mkF v (2 * 16777216 + q) b)) w pl seq top B := by
  obtain ⟨h, hh⟩ := h
  have hlo := h.lo
  have htt := h.tt
  have hfew := h.few
  have hat : 2 + k < n := by omega
  have hm := mkF_length v (2 * 16777216 + q) b
  have hsame := sec_putS_same h.len hm hat
  have hoth : ∀ j, j < n → j ≠ 2 + k → sec (putS l (2 + k) (mkF v (2 * 16777216 + q) b)) j = sec l j := fun j hj hne => sec_putS_other h.len hm hat hj hne
  have hhome : ∀ i, i < (n - 2) / 2 → HomeOk n (putS l (2 + k) (mkF v (2 * 16777216 + q) b)) B i := fun i hi => by
    obtain ⟨v', b', a1, a2, a3⟩ := hh i hi
    exact ⟨v', b', a1, a2, by rw [hoth _ (by omega) (by omega)]; exact a3⟩
  refine ⟨⟨putS_length h.len hm hat, h.lo, h.hi, h.rows, h.each, h.wt, h.tt, h.s0, h.s1, h.few, ?_, ?_, fun j hj => ?_, fun hf j hj => ?_, fun i hi _ => .inl (hhome i hi)⟩, hhome⟩
  · rw [hoth _ (by omega) (by omega)]; exact h.mark
  · rw [hoth _ (by omega) (by omega)]; exact h.old
  · by_cases he : j = k
    · subst he
      rw [hsame]
      exact ⟨v, q, b, rfl, hv, hq⟩
    · rw [hoth _ (by omega) (by omega)]
      exact h.notes j hj
  · by_cases he : k < pl
    · have := hf k he
      rw [hsame, fwrite_mkF _ _ (by omega)] at this
      omega
    · rw [hoth _ (by omega) (by omega)]
      refine h.full (fun i hi => ?_) j hj
      have := hf i hi
      rw [hoth _ (by omega) (by omega)] at this
      exact this
theorem putS_twice {l b c : List UInt8} {n i : Nat} (hl : l.length = n * 128) (hb : b.length = 128) (hi : i < n) : putS (putS l i b) i c = putS l i c := by
  unfold putS
  have e1 : (l.take (i * 128)).length = i * 128 := by simp; omega
  have e2 : (l.take (i * 128) ++ b).length = i * 128 + 128 := by simp; omega
  rw [List.take_left' e1, ← List.append_assoc (l.take (i * 128)) b, List.drop_left' e2]
theorem markF_length (w pl : Nat) (seq : Int) : (markF w pl seq).length = 128 := mkF_length _ _ _
/-- the image that the new mark makes -/
theorem ImC.write {n : Nat} {l : List UInt8} {w pl : Nat} {seq : Int} {v : Nat} {B : List (List UInt8)} (h : ImC n l w pl seq v B) {zs : List Int} {ls : List (List UInt8)} (hr : rightW ((n - 2) / 2) zs ls = true) (hw : w < v)
    (hs : ∀ k (hk : k < (noteFs v zs ls).length), sec l (2 + k) = (noteFs v zs ls)[k]) :
    Im n (putS l (v % 2) (markF v zs.length (seq + 1))) v zs.length (seq + 1) v (updB B zs ls) AllOk := by
  obtain ⟨h, hh⟩ := h
  have hlo := h.lo
  have htt := h.tt
  have hwt := h.wt
  have hfew := rightW_few hr
  have hs0 := h.s0
  have hs1 := h.s1
  obtain ⟨hlen, hsp⟩ := rightW_spec hr
  have hat : v % 2 < n := by omega
  have hm := markF_length v zs.length (seq + 1)
  have hsame := sec_putS_same h.len hm hat
  have hoth : ∀ j, j < n → j ≠ v % 2 → sec (putS l (v % 2) (markF v zs.length (seq + 1))) j = sec l j := fun j hj hne => sec_putS_other h.len hm hat hj hne
  have hnt : ∀ k (hk : k < zs.length) (hk2 : k < ls.length), sec (putS l (v % 2) (markF v zs.length (seq + 1))) (2 + k) = mkF v (2 * 16777216 + zs[k].toNat) ls[k] := fun k hk hk2 => by
    have hk3 : k < (noteFs v zs ls).length := by rw [noteFs_length hlen]; exact hk
    rw [hoth _ (by omega) (by omega), hs k hk3, noteFs_get hlen k hk hk2 hk3]
  have hpl : ∀ z ∈ zs, z.toNat < (n - 2) / 2 := fun z hz => by have := rightW_place hr hz; omega
  have hhi := h.hi
  have hFull : Full (putS l (v % 2) (markF v zs.length (seq + 1))) v zs.length := fun k hk => by
    rw [hnt k hk (by omega), fwrite_mkF _ _ (by omega)]
  refine ⟨putS_length h.len hm hat, h.lo, h.hi, by rw [updB_length]; exact h.rows, updB_each zs ls B (fun b hb => rightW_bytes hr hb) h.each, Nat.le_refl _, h.tt, by omega, by omega, hfew, hsame, ?_, fun k hk => ?_, fun _ k hk => ?_, fun i hi _ => ?_⟩
  · rw [hoth _ (by omega) (by omega)]
    by_cases he : w % 2 = v % 2
    · obtain ⟨w', pl', s', e, a1, a2, a3⟩ := h.old
      refine ⟨w', pl', s', ?_, by omega, by omega, a3⟩
      rw [show (v + 1) % 2 = (w + 1) % 2 by omega]
      exact e
    · refine ⟨w, pl, seq, ?_, by omega, by omega, h.few⟩
      rw [show (v + 1) % 2 = w % 2 by omega]
      exact h.mark
  · rw [hoth _ (by omega) (by omega)]
    exact h.notes k hk
  · have hz := hpl _ (List.getElem_mem hk)
    rw [hnt k hk (by omega), fplace_mkF _ (by omega) (by omega), fbytes_mkF, pad112_id (hsp k hk (by omega)).2.2.1]
    exact updB_at zs ls B (rightW_nodup hr) (fun z hz => by rw [h.rows]; exact hpl z hz) k hk (by omega)
  · by_cases hi2 : ∃ k, ∃ hk : k < zs.length, zs[k].toNat = i
    · obtain ⟨k, hk, e⟩ := hi2
      have hz := hpl _ (List.getElem_mem hk)
      refine .inr ⟨hFull, k, hk, ?_⟩
      rw [hnt k hk (by omega), fplace_mkF _ (by omega) (by omega), e]
    · obtain ⟨v', b', a1, a2, a3⟩ := hh i hi
      refine .inl ⟨v', b', a1, ?_, by rw [hoth _ (by omega) (by omega)]; exact a3⟩
      rw [updB_other zs ls B fun z hz e => ?_, a2]
      obtain ⟨k, hk, rfl⟩ := List.getElem_of_mem hz
      exact hi2 ⟨k, hk, e⟩
/-- what a write leaves: it is there, or the power went -/
structure Wrote (n : Nat) (J J' : Jn) (seq : Int) (B : List (List UInt8)) (zs : List Int) (ls : List (List UInt8)) : Prop where
  hn : J'.D.n = J.D.n
  cut : J'.D.cut = J.D.cut
  ops : J'.D.ops ≤ J.D.ops + (2 * zs.length + 4)
  last : J'.last = J.last + 1
  ends : (J'.off = 0 ∧ Live n J' (seq + 1) (updB B zs ls) AllOk) ∨ (J'.off = 43 ∧ 0 ≤ J.D.cut ∧ ∃ P, J'.D.In P ∧ ∀ l, P l → Img n seq B (J.last + 1) l ∨ Img n (seq + 1) (updB B zs ls) (J.last + 1) l)
theorem noted_fs {n : Nat} {l : List UInt8} {fs : List (List UInt8)} (hs : ∀ k (hk : k < fs.length), sec l (2 + k) = fs[k]) : noted l fs.length = fs := by
  apply List.ext_getElem
  · simp [noted]
  · intro i h1 h2
    simp only [noted, List.getElem_map, List.getElem_range]
    exact hs i h2
theorem sec_notesX {n : Nat} {l : List UInt8} (hl : l.length = n * 128) {fs : List (List UInt8)} (hfs : ∀ f ∈ fs, f.length = 128) (hn : 2 + fs.length ≤ n) : ∀ m, m ≤ fs.length → (∀ x ∈ notesX fs m, x.1 < n ∧ x.2.length = 128) ∧ ∀ k (hk : k < fs.length), k < m → sec (layL l (notesX fs m)) (2 + k) = fs[k]
  | 0, _ => ⟨fun x hx => by simp [notesX] at hx, fun k _ h => by omega⟩
  | m + 1, hm => by
    obtain ⟨ih1, ih2⟩ := sec_notesX hl hfs hn m (by omega)
    have e : fs.getD m [] = fs[m] := by simp [List.getD_eq_getElem?_getD, List.getElem?_eq_getElem (show m < fs.length by omega)]
    have hlm : (fs[m]'(by omega)).length = 128 := hfs _ (List.getElem_mem _)
    have hll := layL_length (notesX fs m) l hl ih1
    refine ⟨fun x hx => ?_, fun k hk hk2 => ?_⟩
    · rw [notesX_succ] at hx
      rcases List.mem_append.1 hx with hx | hx
      · exact ih1 x hx
      · rw [List.mem_singleton.1 hx, e]
        exact ⟨by show 2 + m < n; omega, hlm⟩
    · rw [notesX_succ, layL_snoc, e]
      by_cases he : k = m
      · subst he
        exact sec_putS_same hll hlm (by omega)
      · refine (sec_putS_other hll hlm (by omega) (by omega) (by omega)).trans (ih2 k hk (by omega))
set_option maxHeartbeats 1000000 in
theorem writes_live {n : Nat} {J : Jn} {seq : Int} {B : List (List UInt8)} {zs : List Int} {ls : List (List UInt8)} (h : Live n J seq B AllOk) (hr : rightW ((n - 2) / 2) zs ls = true) (ht : J.last + 1 < 4611686018427387904) (hb : J.D.ops + (2 * zs.length + 4) ≤ 1048576) :
    Wrote n J (J.writes zs ls) seq B zs ls := by
  obtain ⟨w, pl, him⟩ := h.im
  have hlo := him.lo
  have hhi := him.hi
  have hfew := rightW_few hr
  obtain ⟨hlen, hsp⟩ := rightW_spec hr
  have hwt := him.wt
  have hflen := noteFs_length (write := J.last + 1) hlen
  have hf128 : ∀ f ∈ noteFs (J.last + 1) zs ls, f.length = 128 := fun f hf => by
    obtain ⟨x, _, rfl⟩ := List.mem_map.1 hf
    exact mkF_length _ _ _
  -- the notes
  have hC : ImC n J.D.now w pl seq (J.last + 1) B := ⟨him.top (by omega) ht, fun i hi => h.home i hi trivial⟩
  obtain ⟨hx1, hx2⟩ := sec_notesX him.len hf128 (by omega) zs.length (by omega)
  have hin0 : ({ J with last := J.last + 1 } : Jn).D.In (fun l => ImC n l w pl seq (J.last + 1) B) := h.flat.isIn h.dok hC
  have p1 := phase (J := { J with last := J.last + 1 }) hin0 (.inl h.off) (notesX (noteFs (J.last + 1) zs ls) zs.length) (fun x hx => by
    refine ⟨by show x.1 < J.D.n; rw [h.hn]; exact (hx1 x hx).1, (hx1 x hx).2, fun l hl => ?_⟩
    obtain ⟨k, hk, rfl⟩ := List.mem_map.1 hx
    rw [List.mem_range] at hk
    have e : (noteFs (J.last + 1) zs ls).getD k [] = mkF (J.last + 1) (2 * 16777216 + zs[k].toNat) (ls[k]'(by omega)) := by
      rw [List.getD_eq_getElem?_getD, List.getElem?_eq_getElem (by omega), Option.getD_some]
      exact noteFs_get hlen k hk (by omega) (by omega)
    show ImC n (putS l (2 + k) ((noteFs (J.last + 1) zs ls).getD k [])) w pl seq (J.last + 1) B
    rw [e]
    have := rightW_place hr (List.getElem_mem hk)
    exact hl.note_lay (by omega) (by omega) (Nat.le_refl _) (by omega)) (by
      show J.D.ops + _ + 1 ≤ _
      simp only [notesX, List.length_map, List.length_range]
      omega)
  rw [← Jn.layTo_lays] at p1
  have hxl : (notesX (noteFs (J.last + 1) zs ls) zs.length).length = zs.length := by simp [notesX]
  rw [hxl] at p1
  obtain ⟨l1, hl1⟩ : ∃ l1, l1 = layL J.D.now (notesX (noteFs (J.last + 1) zs ls) zs.length) := ⟨_, rfl⟩
  have hs1 : ∀ k (hk : k < (noteFs (J.last + 1) zs ls).length), sec l1 (2 + k) = (noteFs (J.last + 1) zs ls)[k] := fun k hk => by rw [hl1]; exact hx2 k hk (by omega)
  have hll1 : l1.length = n * 128 := by rw [hl1]; exact layL_length _ _ him.len hx1
  have hJ : J.writes zs ls = (let J6 := ((((({ J with last := J.last + 1 } : Jn).layTo (noteFs (J.last + 1) zs ls) zs.length).flush).lay ((J.last + 1) % 2) (markF (J.last + 1) zs.length (J.seq + 1))).flush).spread (noteFs (J.last + 1) zs ls)
    if J6.off = 0 then { J6 with seq := J.seq + 1 } else J6) := rfl
  obtain ⟨J1, hJ1⟩ : ∃ J1, J1 = (({ J with last := J.last + 1 } : Jn).layTo (noteFs (J.last + 1) zs ls) zs.length).flush := ⟨_, rfl⟩
  rw [← hJ1] at p1 hJ
  have p1' : Done (fun l => ImC n l w pl seq (J.last + 1) B) { J with last := J.last + 1 } J1 l1 (zs.length + 1) := by rw [hl1]; exact p1
  clear p1 hJ1 hl1 hx1 hx2
  have hseq1 : J1.seq = J.seq := p1'.seq
  have hlast1 : J1.last = J.last + 1 := p1'.last
  have hn1 : J1.D.n = J.D.n := p1'.n
  have hcut1 : J1.D.cut = J.D.cut := p1'.cut
  have hops1 : J1.D.ops ≤ J.D.ops + (zs.length + 1) := p1'.ops
  rcases p1'.off with h1 | h1
  case inr =>
    have hne : J1.off ≠ 0 := by rw [h1]; decide
    have e : J.writes zs ls = J1 := by
      rw [hJ]
      have e2 : ((J1.lay ((J.last + 1) % 2) (markF (J.last + 1) zs.length (J.seq + 1))).flush).spread (noteFs (J.last + 1) zs ls) = J1 := by
        rw [Jn.lay, if_neg hne, Jn.flush_off hne, Jn.spread_lays, Jn.lays_off hne, Jn.flush_off hne]
      rw [e2]
      show (if J1.off = 0 then _ else _) = _
      rw [if_neg hne]
    rw [e]
    refine ⟨hn1, hcut1, by omega, hlast1, .inr ⟨h1, ?_, _, p1'.isIn, fun l hl => .inl ⟨w, pl, hl.1⟩⟩⟩
    exact Classical.byContradiction fun hc => by
      have := (p1'.never h.off h.doff (by show J.D.cut < 0; omega)).1
      exact hne this
  -- the mark
  obtain ⟨hf1, ho1⟩ := p1'.flat h1
  have hnow1 : J1.D.now = l1 := (p1'.laid h1).2
  have hC1 : ImC n l1 w pl seq (J.last + 1) B := by rw [← hnow1]; exact p1'.isIn.now
  have hok1 := p1'.isIn.ok
  have hI2 := hC1.write hr (by omega) hs1
  obtain ⟨m, hm⟩ : ∃ m, m = markF (J.last + 1) zs.length (seq + 1) := ⟨_, rfl⟩
  have hml : m.length = 128 := by rw [hm]; exact markF_length _ _ _
  rw [← hm] at hI2
  have hm2 : (J.last + 1) % 2 < n := by omega
  have p2 := phase (P := fun l => l = l1 ∨ l = putS l1 ((J.last + 1) % 2) m) (J := J1) (hf1.isIn hok1 (.inl hnow1)) (.inl h1) [((J.last + 1) % 2, m)] (fun x hx => by
    rw [List.mem_singleton.1 hx]
    refine ⟨by rw [hn1, h.hn]; exact hm2, hml, fun l hl => ?_⟩
    rcases hl with rfl | rfl
    · exact .inr rfl
    · right
      exact putS_twice hll1 hml hm2) (by show J1.D.ops + 1 + 1 ≤ 1048576; omega)
  rw [hnow1] at p2
  have e2 : (J1.lays [((J.last + 1) % 2, m)]).flush = (J1.lay ((J.last + 1) % 2) m).flush := rfl
  rw [e2] at p2
  rw [show layL l1 [((J.last + 1) % 2, m)] = putS l1 ((J.last + 1) % 2) m from rfl] at p2
  rw [show ((J.last + 1) % 2, m) :: [] = [((J.last + 1) % 2, m)] from rfl, List.length_singleton] at p2
  rw [h.hseq, ← hm] at hJ
  obtain ⟨J2, hJ2⟩ : ∃ J2, J2 = (J1.lay ((J.last + 1) % 2) m).flush := ⟨_, rfl⟩
  rw [← hJ2] at p2 hJ
  clear hJ2 e2
  have hseq2 : J2.seq = J.seq := p2.seq.trans hseq1
  have hlast2 : J2.last = J.last + 1 := p2.last.trans hlast1
  have hn2 : J2.D.n = J.D.n := p2.n.trans hn1
  have hcut2 : J2.D.cut = J.D.cut := p2.cut.trans hcut1
  have hops2 : J2.D.ops ≤ J1.D.ops + (1 + 1) := p2.ops
  rcases p2.off with h2 | h2
  case inr =>
    have hne : J2.off ≠ 0 := by rw [h2]; decide
    have e : J.writes zs ls = J2 := by
      rw [hJ]
      have e2 : J2.spread (noteFs (J.last + 1) zs ls) = J2 := by
        rw [Jn.spread_lays, Jn.lays_off hne, Jn.flush_off hne]
      rw [e2]
      show (if J2.off = 0 then _ else _) = _
      rw [if_neg hne]
    rw [e]
    refine ⟨hn2, hcut2, by omega, hlast2, .inr ⟨h2, ?_, _, p2.isIn, fun l hl => ?_⟩⟩
    · exact Classical.byContradiction fun hc => by
        have := (p2.never h1 ho1 (by omega)).1
        exact hne this
    · rcases hl with rfl | rfl
      · exact .inl ⟨w, pl, hC1.1⟩
      · exact .inr ⟨_, _, hI2⟩
  -- the blocks
  obtain ⟨hf2, ho2⟩ := p2.flat h2
  have hnow2 : J2.D.now = putS l1 ((J.last + 1) % 2) m := (p2.laid h2).2
  have hok2 := p2.isIn.ok
  have hs2 : ∀ k (hk : k < (noteFs (J.last + 1) zs ls).length), sec J2.D.now (2 + k) = (noteFs (J.last + 1) zs ls)[k] := fun k hk => by
    rw [hnow2, sec_putS_other hll1 hml hm2 (by omega) (by omega)]
    exact hs1 k hk
  rw [← hnow2] at hI2
  have hFull : Full J2.D.now (J.last + 1) zs.length := fun k hk => by
    rw [hs2 k (by omega), noteFs_get hlen k hk (by omega) (by omega), fwrite_mkF _ _ (by omega)]
  have hnoted : noted J2.D.now zs.length = noteFs (J.last + 1) zs ls := by
    have := noted_fs (n := n) hs2
    rw [hflen] at this
    exact this
  obtain ⟨s1, s2⟩ := hI2.spread hFull (D := J2.D) (by rw [hn2, h.hn])
  rw [hnoted] at s1 s2
  have hhl : (homes J2.D (noteFs (J.last + 1) zs ls)).length = zs.length := by simp [homes, hflen]
  have p3 := phase (P := fun l => Im n l (J.last + 1) zs.length (seq + 1) (J.last + 1) (updB B zs ls) AllOk) (J := J2) (hf2.isIn hok2 hI2) (.inl h2) (homes J2.D (noteFs (J.last + 1) zs ls)) (fun x hx => by
    obtain ⟨a1, a2, a3⟩ := s1 x hx
    exact ⟨by rw [hn2, h.hn]; exact a1, a2, a3⟩) (by omega)
  rw [← Jn.spread_lays, hhl] at p3
  obtain ⟨J3, hJ3⟩ : ∃ J3, J3 = J2.spread (noteFs (J.last + 1) zs ls) := ⟨_, rfl⟩
  rw [← hJ3] at p3 hJ
  have hJ' : J.writes zs ls = if J3.off = 0 then { J3 with seq := seq + 1 } else J3 := hJ
  have hlast3 : J3.last = J.last + 1 := p3.last.trans hlast2
  have hn3 : J3.D.n = J.D.n := p3.n.trans hn2
  have hcut3 : J3.D.cut = J.D.cut := p3.cut.trans hcut2
  have hops3 : J3.D.ops ≤ J2.D.ops + (zs.length + 1) := p3.ops
  clear hJ hJ3
  rw [hJ']
  rcases p3.off with h3 | h3
  · rw [if_pos h3]
    obtain ⟨hf3, ho3⟩ := p3.flat h3
    have hnow3 := (p3.laid h3).2
    refine ⟨hn3, hcut3, by show J3.D.ops ≤ _; omega, hlast3, .inl ⟨h3, ⟨h3, ho3, hf3, p3.isIn.ok, by show J3.D.n = n; rw [hn3, h.hn], rfl, ⟨J.last + 1, zs.length, ?_⟩, fun i hi _ => ?_⟩⟩⟩
    · show Im n J3.D.now _ _ _ J3.last _ _
      rw [hlast3]
      exact p3.isIn.now
    · show HomeOk n J3.D.now _ _
      rw [hnow3]
      rcases s2 i hi with h4 | ⟨h4, _⟩
      · exact h4
      · exact absurd trivial h4
  · have hne : J3.off ≠ 0 := by rw [h3]; decide
    rw [if_neg hne]
    refine ⟨hn3, hcut3, by omega, hlast3, .inr ⟨h3, ?_, _, p3.isIn, fun l hl => .inr ⟨_, _, hl⟩⟩⟩
    exact Classical.byContradiction fun hc => by
      have := (p3.never h2 ho2 (by omega)).1
      exact hne this
end Go.Proofs.YtbmmcaoifkboiaaDoor

/- What an opening, a formatting and a read come to. Plain lists. -/
set_option linter.unusedVariables false
set_option linter.unusedSimpArgs false
set_option maxRecDepth 100000
namespace Go.Proofs.YtbmmcaoifkboiaaDoor
open Go.RowKit

theorem fwrite_markF {w pl : Nat} (seq : Int) (h : w < 18446744073709551616) : fwrite (markF w pl seq) = w := fwrite_mkF _ _ h
theorem fplace_markF (w : Nat) {pl : Nat} (seq : Int) (h : pl < 16777216) : fplace (markF w pl seq) = pl := fplace_mkF _ (by decide) h
theorem fkind_markF (w : Nat) {pl : Nat} (seq : Int) (h : pl < 16777216) : fkind (markF w pl seq) = 1 := fkind_mkF _ (by decide) h
theorem mseq_markF (w pl : Nat) {seq : Int} (h0 : 0 ≤ seq) (h1 : seq < 9223372036854775808) : mseq (markF w pl seq) = seq := by
  unfold mseq
  have e : (fbytes (markF w pl seq)).take 8 = le 8 (seq % 18446744073709551616).toNat := by
    rw [markF, fbytes_mkF, pad112, List.take_append_of_le_length (by simp [le_length]), List.take_take, List.take_of_length_le (by simp [le_length])]
  rw [e, leR_le 8 _ (by omega), toI64, if_pos (by omega)]
  omega
theorem Dk.markOk_of {D : Dk} {i w pl : Nat} {seq : Int} (h : sec D.now i = markF w pl seq) (h1 : w < 18446744073709551616) (h2 : pl < 16777216) (h3 : w % 2 = i) (h4 : pl ≤ D.blocks) : D.markOk i = true := by
  unfold Dk.markOk
  rw [h, fkind_markF _ _ h2, fwrite_markF _ h1, fplace_markF _ _ h2, markF, fright_mkF]
  simp [h3, h4]
theorem Im.marks {n : Nat} {l : List UInt8} {w pl : Nat} {seq : Int} {top : Nat} {B : List (List UInt8)} {ok : Nat → Prop} {D : Dk} (h : Im n D.now w pl seq top B ok) (hn : D.n = n) :
    D.markOk 0 = true ∧ D.markOk 1 = true ∧ D.mark = markF w pl seq := by
  obtain ⟨w', pl', s', e, a1, a2, a3⟩ := h.old
  have hm := h.mark
  have hlo := h.lo
  have hhi := h.hi
  have hwt := h.wt
  have htt := h.tt
  have hfew := h.few
  have hb : D.blocks = (n - 2) / 2 := by rw [Dk.blocks, hn]
  rcases Nat.mod_two_eq_zero_or_one w with h0 | h0
  · rw [h0] at hm
    rw [show (w + 1) % 2 = 1 by omega] at e
    refine ⟨Dk.markOk_of hm (by omega) (by omega) h0 (by omega), Dk.markOk_of e (by omega) (by omega) (by omega) (by omega), ?_⟩
    rw [Dk.mark, hm, e, fwrite_markF _ (by omega), fwrite_markF _ (by omega), if_neg (by omega)]
  · rw [h0] at hm
    rw [show (w + 1) % 2 = 0 by omega] at e
    refine ⟨Dk.markOk_of e (by omega) (by omega) (by omega) (by omega), Dk.markOk_of hm (by omega) (by omega) h0 (by omega), ?_⟩
    rw [Dk.mark, hm, e, fwrite_markF _ (by omega), fwrite_markF _ (by omega), if_pos (by omega)]
theorem Dk.lastTo_le {D : Dk} {m : List UInt8} {top : Nat} (h0 : fwrite m ≤ top) : ∀ k, (∀ j, j < k → fwrite (sec D.now (2 + j)) ≤ top) → D.lastTo m k ≤ top
  | 0, _ => h0
  | k + 1, h => Nat.max_le.2 ⟨Dk.lastTo_le h0 k fun j hj => h j (by omega), h k (by omega)⟩
theorem Dk.lastTo_ge {D : Dk} {m : List UInt8} : ∀ k, fwrite m ≤ D.lastTo m k ∧ ∀ j, j < k → fwrite (sec D.now (2 + j)) ≤ D.lastTo m k
  | 0 => ⟨Nat.le_refl _, fun j hj => by omega⟩
  | k + 1 => by
    obtain ⟨h1, h2⟩ := Dk.lastTo_ge (D := D) (m := m) k
    refine ⟨Nat.le_trans h1 (Nat.le_max_left _ _), fun j hj => ?_⟩
    by_cases he : j = k
    · subst he
      exact Nat.le_max_right _ _
    · exact Nat.le_trans (h2 j (by omega)) (Nat.le_max_left _ _)
theorem Dk.againTo_eq {D : Dk} {m : List UInt8} : ∀ k, D.againTo m k = ((List.range (min k (fplace m))).filter fun j => decide (fwrite (sec D.now (2 + j)) = fwrite m)).map fun j => sec D.now (2 + j)
  | 0 => by simp [Dk.againTo]
  | k + 1 => by
    rw [Dk.againTo, Dk.againTo_eq k]
    by_cases hk : k < fplace m
    · rw [show min (k + 1) (fplace m) = min k (fplace m) + 1 by omega, List.range_succ, List.filter_append, List.map_append, show min k (fplace m) = k by omega]
      by_cases he : fwrite (sec D.now (2 + k)) = fwrite m
      · rw [if_pos ⟨hk, he⟩]; simp [he]
      · rw [if_neg fun h => he h.2]; simp [he]
    · rw [if_neg fun h => hk h.1, show min (k + 1) (fplace m) = min k (fplace m) by omega]
theorem Im.retop {n : Nat} {l : List UInt8} {w pl : Nat} {seq : Int} {top t : Nat} {B : List (List UInt8)} {ok : Nat → Prop} (h : Im n l w pl seq top B ok) (h1 : w ≤ t) (h2 : ∀ k, k < (n - 2) / 2 → fwrite (sec l (2 + k)) ≤ t) (h3 : t ≤ top) : Im n l w pl seq t B ok :=
  ⟨h.len, h.lo, h.hi, h.rows, h.each, h1, Nat.lt_of_le_of_lt h3 h.tt, h.s0, h.s1, h.few, h.mark, h.old, fun k hk => by
    obtain ⟨v, q, b, e, a1, a2⟩ := h.notes k hk
    have := h2 k hk
    rw [e, fwrite_mkF _ _ (by have := h.tt; omega)] at this
    exact ⟨v, q, b, e, this, a2⟩, h.full, h.stand⟩
/-- what an opening leaves -/
structure Opened (n : Nat) (D : Dk) (J : Jn) (c : Int) (seq : Int) (top : Nat) (B : List (List UInt8)) (ok : Nat → Prop) : Prop where
  eq : D.openJ = (c, J)
  hn : J.D.n = D.n
  cut : J.D.cut = D.cut
  ops : J.D.ops ≤ D.ops + ((n - 2) / 2 + 1)
  last : J.last ≤ top
  ends : (c = 0 ∧ Live n J seq B ok ∧ ∀ i, i < (n - 2) / 2 → HomeOk n J.D.now B i ∨ sec J.D.now (2 + (n - 2) / 2 + i) = sec D.now (2 + (n - 2) / 2 + i)) ∨ (c = 43 ∧ 0 ≤ D.cut ∧ ∃ w pl t, t ≤ top ∧ J.D.In fun l => Im n l w pl seq t B ok)
set_option maxHeartbeats 1000000 in
theorem open_im {n : Nat} {D : Dk} {w pl : Nat} {seq : Int} {top : Nat} {B : List (List UInt8)} {ok : Nat → Prop} (h : Im n D.now w pl seq top B ok) (hf : D.Flat) (hok : D.Ok) (hn : D.n = n) (hoff : D.off = false) (hb : D.ops + ((n - 2) / 2 + 1) ≤ 1048576) :
    ∃ c J, Opened n D J c seq top B ok := by
  obtain ⟨m0, m1, hm⟩ := h.marks (l := D.now) hn
  have hlo := h.lo
  have hhi := h.hi
  have hwt := h.wt
  have htt := h.tt
  have hfew := h.few
  have hs0 := h.s0
  have hs1 := h.s1
  have hbl : D.blocks = (n - 2) / 2 := by rw [Dk.blocks, hn]
  have hfw : fwrite D.mark = w := by rw [hm, fwrite_markF _ (by omega)]
  have hfp : fplace D.mark = pl := by rw [hm, fplace_markF _ _ (by omega)]
  have hseq : mseq D.mark = seq := by rw [hm, mseq_markF _ _ hs0 (by omega)]
  obtain ⟨g1, g2⟩ := Dk.lastTo_ge (D := D) (m := D.mark) D.blocks
  have g3 : D.lastTo D.mark D.blocks ≤ top := Dk.lastTo_le (by omega) _ fun j hj => (h.note_of (by omega)).2.2.1
  rw [hfw] at g1
  have hnote : ¬ ∃ i, i < D.blocks ∧ D.noteOk i = false := by
    rintro ⟨i, hi, e⟩
    obtain ⟨a1, a2, a3, a4⟩ := h.note_of (k := i) (by omega)
    rw [Dk.noteOk, a1, a2, hbl] at e
    simp at e
    omega
  have hIm : Im n D.now w pl seq (D.lastTo D.mark D.blocks) B ok := h.retop g1 (fun k hk => g2 k (by omega)) g3
  have e1 : D.openJ = if (D.againTo D.mark D.blocks).length = fplace D.mark ∧ 0 < (D.againTo D.mark D.blocks).length
    then ((D.found.spread (D.againTo D.mark D.blocks)).off, D.found.spread (D.againTo D.mark D.blocks)) else (0, D.found) := by
    rw [Dk.openJ, if_neg (by omega), if_neg (by simp [hoff]), if_neg (by simp [m0]), if_neg (by simp [m0, m1]), if_neg hnote]
  have hag := Dk.againTo_eq (D := D) (m := D.mark) D.blocks
  rw [hfw, hfp, show min D.blocks pl = pl by omega] at hag
  by_cases hF : Full D.now w pl ∧ 0 < pl
  · obtain ⟨hF, hp⟩ := hF
    have hag2 : D.againTo D.mark D.blocks = noted D.now pl := by
      rw [hag, noted, List.filter_eq_self.2 fun k hk => by simpa using hF k (List.mem_range.1 hk)]
    have hnl : (noted D.now pl).length = pl := by simp [noted]
    rw [hag2, hnl, hfp, if_pos ⟨rfl, hp⟩] at e1
    obtain ⟨s1, s2⟩ := hIm.spread hF hn
    have p := phase (P := fun l => Im n l w pl seq (D.lastTo D.mark D.blocks) B ok) (J := D.found) (hf.isIn hok hIm) (.inl rfl) (homes D (noted D.now pl)) (fun x hx => by
      obtain ⟨a1, a2, a3⟩ := s1 x hx
      exact ⟨by show x.1 < D.n; omega, a2, a3⟩) (by show D.ops + (homes D (noted D.now pl)).length + 1 ≤ _; rw [homes, List.length_map, hnl]; omega)
    have hhl : (homes D (noted D.now pl)).length = pl := by rw [homes, List.length_map, hnl]
    rw [show homes D (noted D.now pl) = homes D.found.D (noted D.now pl) from rfl, ← Jn.spread_lays] at p
    rw [show (homes D.found.D (noted D.now pl)).length = pl from hhl] at p
    obtain ⟨J, hJ⟩ : ∃ J, J = D.found.spread (noted D.now pl) := ⟨_, rfl⟩
    rw [← hJ] at p e1
    have hlast : J.last = D.lastTo D.mark D.blocks := p.last
    refine ⟨J.off, J, e1, p.n, p.cut, ?_, by rw [hlast]; exact g3, ?_⟩
    · have : J.D.ops ≤ D.ops + (pl + 1) := p.ops
      omega
    · rcases p.off with h0 | h0
      · obtain ⟨f1, f2⟩ := p.flat h0
        have hnow := (p.laid h0).2
        refine .inl ⟨h0, ⟨h0, f2, f1, p.isIn.ok, p.n.trans hn, p.seq.trans hseq, ⟨w, pl, by rw [hlast]; exact p.isIn.now⟩, fun i hi hi2 => ?_⟩, fun i hi => ?_⟩
        · rw [hnow]
          rcases s2 i hi with h4 | ⟨h4, _⟩
          · exact h4
          · exact absurd hi2 h4
        · rw [hnow]
          rcases s2 i hi with h4 | ⟨_, h4⟩
          · exact .inl h4
          · exact .inr h4
      · refine .inr ⟨h0, ?_, w, pl, _, g3, p.isIn⟩
        exact Classical.byContradiction fun hc => by
          have := (p.never rfl hoff (by show D.cut < 0; omega)).1
          rw [h0] at this
          exact absurd this (by decide)
  · have hne : ¬ ((D.againTo D.mark D.blocks).length = fplace D.mark ∧ 0 < (D.againTo D.mark D.blocks).length) := by
      rintro ⟨a1, a2⟩
      refine hF ⟨fun k hk => ?_, by omega⟩
      rw [hag, List.length_map, hfp] at a1
      have : (List.filter (fun j => decide (fwrite (sec D.now (2 + j)) = w)) (List.range pl)).length = (List.range pl).length := by rw [a1, List.length_range]
      have := (List.length_filter_eq_length_iff.1 this) k (List.mem_range.2 hk)
      simpa using this
    rw [if_neg hne] at e1
    refine ⟨0, D.found, e1, rfl, rfl, by show D.ops ≤ _; omega, g3, .inl ⟨rfl, ⟨rfl, hoff, hf, hok, hn, hseq, ⟨w, pl, hIm⟩, fun i hi hi2 => ?_⟩, fun i hi => .inr rfl⟩⟩
    rcases h.stand i hi hi2 with h4 | ⟨h4, k, hk, _⟩
    · exact h4
    · exact absurd ⟨h4, by omega⟩ hF
/-- a read of a block -/
theorem read_live {n : Nat} {J : Jn} {seq : Int} {B : List (List UInt8)} {ok : Nat → Prop} (h : Live n J seq B ok) {i : Nat} (hi : i < (n - 2) / 2) (hk : ok i) {b : List UInt8} (hb : B[i]? = some b) : J.read (i : Int) = (b, 0, J) := by
  obtain ⟨w, pl, him⟩ := h.im
  have hhi := him.hi
  have hbl : J.D.blocks = (n - 2) / 2 := by rw [Dk.blocks, h.hn]
  obtain ⟨v, b', a1, a2, a3⟩ := h.home i hi hk
  rw [hb] at a2
  obtain rfl := Option.some.inj a2
  have e : sec J.D.now (J.D.home (i : Int).toNat) = mkF v (3 * 16777216 + i) b := by
    rw [Dk.home, hbl, Int.toNat_natCast]
    exact a3
  have h112 : b.length = 112 := him.each b (List.mem_of_getElem? hb)
  rw [Jn.read, if_neg (by simp [h.off]), if_neg (by rw [hbl]; simp; omega), if_neg (by simp [h.doff]), e, fright_mkF, fkind_mkF _ (by decide) (by omega), fplace_mkF _ (by decide) (by omega), fbytes_mkF, pad112_id h112]
  simp
theorem read_hole {n : Nat} {J : Jn} {seq : Int} {B : List (List UInt8)} {ok : Nat → Prop} (h : Live n J seq B ok) {i : Nat} (hi : i < (n - 2) / 2) (hr : fright (sec J.D.now (2 + (n - 2) / 2 + i)) = false) : J.read (i : Int) = ([], 62, J) := by
  have hbl : J.D.blocks = (n - 2) / 2 := by rw [Dk.blocks, h.hn]
  have e : fright (sec J.D.now (J.D.home (i : Int).toNat)) = false := by
    rw [Dk.home, hbl, Int.toNat_natCast]
    exact hr
  rw [Jn.read, if_neg (by simp [h.off]), if_neg (by rw [hbl]; simp; omega), if_neg (by simp [h.doff]), e]
  simp
end Go.Proofs.YtbmmcaoifkboiaaDoor

/- What a formatting comes to. Plain lists. -/
set_option linter.unusedVariables false
set_option linter.unusedSimpArgs false
set_option maxRecDepth 100000
namespace Go.Proofs.YtbmmcaoifkboiaaDoor
open Go.RowKit

/-- the notes and blocks that Format lays -/
def fmtX (D : Dk) : Nat → List (Nat × List UInt8)
  | 0 => []
  | i + 1 => fmtX D i ++ [(2 + i, mkF 0 (2 * 16777216 + 0) []), (D.home i, mkF 0 (3 * 16777216 + i) [])]
theorem Jn.fmtTo_lays (J : Jn) (k : Nat) : J.fmtTo k = J.lays (fmtX J.D k) := by
  induction k with
  | zero => rfl
  | succ k ih =>
    rw [Jn.fmtTo, fmtX, ih]
    simp [Jn.lays]
theorem fmtX_mem {D : Dk} {x : Nat × List UInt8} : ∀ m, x ∈ fmtX D m ↔ ∃ i, i < m ∧ (x = (2 + i, mkF 0 (2 * 16777216 + 0) []) ∨ x = (D.home i, mkF 0 (3 * 16777216 + i) []))
  | 0 => by simp [fmtX]
  | m + 1 => by
    rw [fmtX, List.mem_append, fmtX_mem m]
    simp only [List.mem_cons, List.not_mem_nil, or_false]
    constructor
    · rintro (⟨i, hi, h⟩ | h)
      · exact ⟨i, by omega, h⟩
      · exact ⟨m, by omega, h⟩
    · rintro ⟨i, hi, h⟩
      by_cases he : i = m
      · subst he; exact .inr h
      · exact .inl ⟨i, by omega, h⟩
theorem fmtX_length (D : Dk) (m : Nat) : (fmtX D m).length = 2 * m := by
  induction m with
  | zero => rfl
  | succ m ih => rw [fmtX, List.length_append, ih]; simp; omega
theorem mkF_zeros (w kp : Nat) : mkF w kp [] = mkF w kp (List.replicate 112 0) := by
  have : pad112 [] = pad112 (List.replicate 112 0) := by decide
  rw [mkF, mkF, fbody, fbody, this]
/-- the blocks of a fresh journal -/
def zeroB (n : Nat) : List (List UInt8) := List.replicate ((n - 2) / 2) (List.replicate 112 0)
/-- what a formatting leaves -/
structure Formed (n : Nat) (D D' : Dk) : Prop where
  eq : D.format = (0, D')
  hn : D'.n = n
  ok : D'.Ok
  flat : D'.Flat
  off : D'.off = false
  cut : D'.cut = D.cut
  ops : D'.ops ≤ D.ops + (n + 4)
  im : Im n D'.now 1 0 0 1 (zeroB n) AllOk
set_option maxHeartbeats 1000000 in
theorem format_im {n : Nat} {D : Dk} (hok : D.Ok) (hn : D.n = n) (h32 : 32 ≤ n) (hoff : D.off = false) (hcut : D.cut < 0) (hflat : D.Flat) (hb : D.ops + (n + 4) ≤ 1048576) : ∃ D', Formed n D D' := by
  have hnm := hok.nm
  have hbl : D.blocks = (n - 2) / 2 := by rw [Dk.blocks, hn]
  have hhm : ∀ i, D.home i = 2 + (n - 2) / 2 + i := fun i => by rw [Dk.home, hbl]
  obtain ⟨J, hJ⟩ : ∃ J : Jn, J = ⟨D, 0, 0, 0⟩ := ⟨_, rfl⟩
  have hJD : J.D = D := by rw [hJ]
  have hJ0 : J.off = 0 := by rw [hJ]
  have hx : ∀ x ∈ fmtX D D.blocks, x.1 < n ∧ x.2.length = 128 := fun x hx => by
    obtain ⟨i, hi, rfl | rfl⟩ := (fmtX_mem _).1 hx
    · exact ⟨by show 2 + i < n; omega, mkF_length _ _ _⟩
    · exact ⟨by show D.home i < n; rw [hhm]; omega, mkF_length _ _ _⟩
  have p1 := phase (P := fun _ => True) (J := J) (by rw [hJD]; exact hflat.isIn hok trivial) (.inl hJ0) (fmtX D D.blocks) (fun x h => ⟨by rw [hJD, hn]; exact (hx x h).1, (hx x h).2, fun _ _ => trivial⟩) (by rw [hJD, fmtX_length]; omega)
  rw [fmtX_length, ← hJD, ← Jn.fmtTo_lays, hJD] at p1
  obtain ⟨J1, hJ1⟩ : ∃ J1, J1 = (J.fmtTo D.blocks).flush := ⟨_, rfl⟩
  rw [← hJ1] at p1
  obtain ⟨o1, o2⟩ := p1.never hJ0 (by rw [hJD]; exact hoff) (by rw [hJD]; exact hcut)
  obtain ⟨f1, f2⟩ := p1.flat o1
  have now1 := (p1.laid o1).2
  have hn1 : J1.D.n = n := by rw [p1.n, hJD, hn]
  have hops1 : J1.D.ops ≤ D.ops + (2 * D.blocks + 1) := by have := p1.ops; rw [hJD] at this; exact this
  have hcut1 : J1.D.cut = D.cut := by rw [p1.cut, hJD]
  have p2 := phase (P := fun _ => True) (J := J1) (f1.isIn p1.isIn.ok trivial) (.inl o1) [(0, markF 0 0 0), (1, markF 1 0 0)] (fun x h => by
    simp only [List.mem_cons, List.not_mem_nil, or_false] at h
    rcases h with rfl | rfl
    · exact ⟨by show 0 < J1.D.n; omega, markF_length _ _ _, fun _ _ => trivial⟩
    · exact ⟨by show 1 < J1.D.n; omega, markF_length _ _ _, fun _ _ => trivial⟩) (by show J1.D.ops + 2 + 1 ≤ _; omega)
  rw [show J1.lays [(0, markF 0 0 0), (1, markF 1 0 0)] = J1.fmtMarks 2 from rfl] at p2
  obtain ⟨J2, hJ2⟩ : ∃ J2, J2 = (J1.fmtMarks 2).flush := ⟨_, rfl⟩
  rw [← hJ2] at p2
  obtain ⟨q1, q2⟩ := p2.never o1 o2 (by rw [hcut1]; exact hcut)
  obtain ⟨g1, g2⟩ := p2.flat q1
  have now2 := (p2.laid q1).2
  have hops2 : J2.D.ops ≤ J1.D.ops + (2 + 1) := p2.ops
  have e : D.format = (0, J2.D) := by
    have : Jn.format ⟨D, 0, 0, 0⟩ = J2 := by rw [hJ2, hJ1, ← hJ, Jn.format, hJD]
    rw [Dk.format, if_neg (by omega), this, q1]
  have hl1 : J1.D.now.length = n * 128 := by rw [now1]; exact layL_length _ _ (by rw [hok.now, hn]) hx
  have hl2 : J2.D.now.length = n * 128 := by
    rw [now2]
    refine layL_length _ _ hl1 fun x h => ?_
    simp only [List.mem_cons, List.not_mem_nil, or_false] at h
    rcases h with rfl | rfl
    · exact ⟨by show 0 < n; omega, markF_length _ _ _⟩
    · exact ⟨by show 1 < n; omega, markF_length _ _ _⟩
  have hp0 : (putS J1.D.now 0 (markF 0 0 0)).length = n * 128 := putS_length hl1 (markF_length _ _ _) (by omega)
  have now2' : J2.D.now = putS (putS J1.D.now 0 (markF 0 0 0)) 1 (markF 1 0 0) := now2
  have hs1 : sec J2.D.now 1 = markF 1 0 0 := by rw [now2']; exact sec_putS_same hp0 (markF_length _ _ _) (by omega)
  have hs0 : sec J2.D.now 0 = markF 0 0 0 := by
    rw [now2', sec_putS_other hp0 (markF_length _ _ _) (by omega) (by omega) (by omega)]
    exact sec_putS_same hl1 (markF_length _ _ _) (by omega)
  have hso : ∀ k, 2 ≤ k → k < n → sec J2.D.now k = sec (layL D.now (fmtX D D.blocks)) k := fun k h1 h2 => by
    rw [now2', sec_putS_other hp0 (markF_length _ _ _) (by omega) (by omega) (by omega), sec_putS_other hl1 (markF_length _ _ _) (by omega) (by omega) (by omega), now1]
  have hnote : ∀ k, k < (n - 2) / 2 → sec J2.D.now (2 + k) = mkF 0 (2 * 16777216 + 0) [] := fun k hk => by
    rw [hso _ (by omega) (by omega)]
    rcases sec_layL (n := n) (i := 2 + k) (by omega) (fmtX D D.blocks) D.now (by rw [hok.now, hn]) hx with ⟨h1, _⟩ | ⟨x, h1, h2, h3⟩
    · exact absurd rfl (h1 (2 + k, mkF 0 (2 * 16777216 + 0) []) ((fmtX_mem _).2 ⟨k, by omega, .inl rfl⟩))
    · rw [h3]
      obtain ⟨i, hi, rfl | rfl⟩ := (fmtX_mem _).1 h1
      · rfl
      · have : D.home i = 2 + k := h2
        rw [hhm] at this
        omega
  have hhome : ∀ k, k < (n - 2) / 2 → sec J2.D.now (2 + (n - 2) / 2 + k) = mkF 0 (3 * 16777216 + k) [] := fun k hk => by
    rw [hso _ (by omega) (by omega)]
    rcases sec_layL (n := n) (i := 2 + (n - 2) / 2 + k) (by omega) (fmtX D D.blocks) D.now (by rw [hok.now, hn]) hx with ⟨h1, _⟩ | ⟨x, h1, h2, h3⟩
    · exact absurd (hhm k) (h1 (D.home k, mkF 0 (3 * 16777216 + k) []) ((fmtX_mem _).2 ⟨k, by omega, .inr rfl⟩))
    · rw [h3]
      obtain ⟨i, hi, rfl | rfl⟩ := (fmtX_mem _).1 h1
      · have : 2 + i = 2 + (n - 2) / 2 + k := h2
        omega
      · have : D.home i = 2 + (n - 2) / 2 + k := h2
        rw [hhm] at this
        rw [show i = k by omega]
  refine ⟨J2.D, e, by rw [p2.n, hn1], p2.isIn.ok, g1, g2, by rw [p2.cut, hcut1], by omega, ?_⟩
  refine ⟨hl2, h32, by omega, by simp [zeroB], fun b hb => ?_, Nat.le_refl _, by omega, by omega, by omega, by omega, hs1, ⟨0, 0, 0, hs0, by omega, by omega, by omega⟩, fun k hk => ⟨0, 0, [], hnote k hk, by omega, by omega⟩, fun _ k hk => by omega, fun i hi _ => .inl ⟨0, List.replicate 112 0, by omega, ?_, ?_⟩⟩
  · rw [List.eq_of_mem_replicate hb]; rfl
  · rw [zeroB, List.getElem?_replicate, if_pos hi]
  · rw [hhome i hi, mkF_zeros]
/-- a disk of noughts is no journal -/
theorem open_zero {D : Dk} {n : Nat} (h : D.now = List.replicate (n * 128) 0) (hn : D.n = n) (h32 : 32 ≤ n) (hoff : D.off = false) : D.openJ = (60, ⟨D, 0, 0, 0⟩) := by
  have hz : ∀ k, k < n → D.markOk k = false := fun k hk => by
    have e : sec D.now k = List.replicate 128 0 := by
      rw [h, sec, List.drop_replicate, List.take_replicate]
      congr 1
      omega
    rw [Dk.markOk, e, show fkind (List.replicate 128 0) = 0 by decide]
    simp
  rw [Dk.openJ, if_neg (by omega), if_neg (by simp [hoff]), if_pos ⟨hz 0 (by omega), hz 1 (by omega)⟩]
end Go.Proofs.YtbmmcaoifkboiaaDoor

/- A new disk. -/
set_option linter.unusedVariables false
set_option linter.unusedSimpArgs false
set_option maxRecDepth 100000
namespace Go.Proofs.YtbmmcaoifkboiaaDoor
open Go.RowKit

/-- a new disk of n sectors -/
def Dk.new (n : Nat) : Dk := ⟨n, List.replicate (n * 128) 0, List.replicate (n * 128) 0, [], 0, -1, false⟩
theorem Dk.new_ok {n : Nat} (h1 : 1 ≤ n) (h2 : n ≤ 16384) : (Dk.new n).Ok :=
  ⟨h1, h2, by simp [Dk.new], by simp [Dk.new], fun x hx => (by cases hx), Nat.le_refl _, by simp [Dk.new], by simp [Dk.new], by simp [Dk.new]⟩

theorem run_make_sects (n : Nat) (hn : n ≤ 16384) : ∃ C : Array Value, C.toList = bv (List.replicate (n * 128) 0) ∧
    ∀ w : World, (Instr.makeSlice 91 (.int .i64 (n : Int)) (.int .i64 (n : Int))).run Tryd.prog w = .ok (.slice (some ⟨w.heap.size, 0, none⟩) n n) (w.alloc (.cells C 131)) := by
  obtain ⟨i, hi, hz, hs, hb⟩ : ∃ i, Tryd.prog.info? 131 = some i ∧ i.zero = some (.agg (List.replicate 128 (.int .u8 0)).toArray) ∧ i.size = 128 ∧ i.bytes = 128 := by
    have h : (Tryd.prog.info? 131).map (fun i => (i.zero, i.size, i.bytes)) = some (some (.agg (List.replicate 128 (.int .u8 0)).toArray), 128, 128) := by kernel_rfl
    cases hq : Tryd.prog.info? 131 with
    | none => rw [hq] at h; cases h
    | some i =>
      rw [hq, Option.map_some, Option.some.injEq, Prod.mk.injEq, Prod.mk.injEq] at h
      exact ⟨i, rfl, h⟩
  refine ⟨madeCells (List.replicate 128 (.int .u8 0)).toArray (n * 128), ?_, fun w => ?_⟩
  · apply List.ext_getElem?
    intro j
    have hget : ∀ x : List UInt8, ∀ i : Nat, (bv x)[i]? = (x[i]?).map fun b => Value.int .u8 (b.toNat : Int) := fun x i => by simp [bv]
    rw [hget]
    by_cases hj : j < n * 128
    · have hm : j % 128 < 128 := Nat.mod_lt _ (by omega)
      have hz : ∀ (Z : Array Value), Z.toList = List.replicate 128 (Value.int .u8 0) → (madeCells Z (n * 128)).toList[j]? = some (.int .u8 0) := by
        intro Z hZ
        have hs : Z.size = 128 := by rw [← Array.length_toList, hZ, List.length_replicate]
        have hg : Z[j % 128]! = .int .u8 0 := by
          have e : Z[j % 128]? = some (.int .u8 0) := by rw [← Array.getElem?_toList, hZ, List.getElem?_replicate, if_pos hm]
          rw [getElem!_def, e]
        simp only [madeCells, Array.toList_map, Array.toList_range, List.getElem?_map, List.getElem?_range hj, Option.map_some, hs, hg]
      rw [hz _ (by rw [List.toList_toArray]), List.getElem?_replicate, if_pos hj]
      rfl
    · rw [List.getElem?_eq_none (by simp [madeCells]; omega), List.getElem?_eq_none (by simp; omega)]
      rfl
  · have := run_make w 91 131 i _ Tryd.underlying91 hi hz .i64 .i64 (n : Int) (n : Int) (by omega) (by omega) (by rw [hb]; omega) (by omega)
    rw [this, hs, Int.toNat_natCast]
    rfl
theorem new_at {w : World} {p S N M n : Nat} {C : Array Value} (hC : C.toList = bv (List.replicate (n * 128) 0)) (h1 : 1 ≤ n) (h2 : n ≤ 16384) (hf : Ft.Ok ⟨p, S, N, M, n, n⟩)
    (hp : w.heap[p]? = some (.cells #[.slice (some ⟨S, 0, none⟩) n n, .slice (some ⟨N, 0, none⟩) n n, .map (some M), .int .i64 0, .int .i64 (-1), .bool false] 94 (0, 0)))
    (hS : w.heap[S]? = some (.cells C 131 (0, 0))) (hN : w.heap[N]? = some (.cells C 131 (0, 0))) (hM : w.heap[M]? = some (.map #[] 0)) : DkAt w ⟨p, S, N, M, n, n⟩ (Dk.new n) := by
  have hsz : C.size = n * 128 := by rw [← Array.length_toList, hC, bv_length, List.length_replicate]
  have hm : n ≤ maxLen := by simp [maxLen]; omega
  have hs : ∀ g, w.heap[g]? = some (.cells C 131 (0, 0)) → Sects w g n n (List.replicate (n * 128) 0) := fun g hg =>
    ⟨C, hg, Nat.le_refl _, hm, hsz, by simp, by rw [hC, List.take_of_length_le (by rw [bv_length]; exact Nat.le_refl _)]⟩
  exact ⟨hf, Dk.new_ok h1 h2, hp, hs S hS, hs N hN, ⟨[], 0, hM, rfl, fun i hi => by simp [Dk.new] at hi⟩⟩

theorem heap4 (w : World) (a b c d : Obj) : ((((w.alloc a).alloc b).alloc c).alloc d).drew.heap[w.heap.size]? = some a ∧ ((((w.alloc a).alloc b).alloc c).alloc d).drew.heap[w.heap.size + 1]? = some b ∧
    ((((w.alloc a).alloc b).alloc c).alloc d).drew.heap[w.heap.size + 1 + 1]? = some c ∧ ((((w.alloc a).alloc b).alloc c).alloc d).drew.heap[w.heap.size + 1 + 1 + 1]? = some d := by
  show ((((w.heap.push a).push b).push c).push d)[_]? = _ ∧ ((((w.heap.push a).push b).push c).push d)[_]? = _ ∧ ((((w.heap.push a).push b).push c).push d)[_]? = _ ∧ ((((w.heap.push a).push b).push c).push d)[_]? = _
  have push_old : ∀ (H : Array Obj) (x : Obj) (k : Nat), k < H.size → (H.push x)[k]? = H[k]? := fun H x k hk => by rw [Array.getElem?_push, if_neg (by omega)]
  have push_new : ∀ (H : Array Obj) (x : Obj) (k : Nat), k = H.size → (H.push x)[k]? = some x := fun H x k hk => by rw [Array.getElem?_push, if_pos hk]
  refine ⟨?_, ?_, ?_, ?_⟩
  · rw [push_old _ _ _ (by simp only [Array.size_push]; omega), push_old _ _ _ (by simp only [Array.size_push]; omega), push_old _ _ _ (by simp only [Array.size_push]; omega), push_new _ _ _ rfl]
  · rw [push_old _ _ _ (by simp only [Array.size_push]; omega), push_old _ _ _ (by simp only [Array.size_push]; omega), push_new _ _ _ (by simp only [Array.size_push])]
  · rw [push_old _ _ _ (by simp only [Array.size_push]; omega), push_new _ _ _ (by simp only [Array.size_push])]
  · rw [push_new _ _ _ (by simp only [Array.size_push])]
theorem below4 (w : World) (a b c d : Obj) : Below w.heap.size w ((((w.alloc a).alloc b).alloc c).alloc d).drew := by
  have e1 : (w.alloc a).heap.size = w.heap.size + 1 := Array.size_push ..
  have e2 : ((w.alloc a).alloc b).heap.size = w.heap.size + 1 + 1 := (Array.size_push ..).trans (by rw [e1])
  have e3 : (((w.alloc a).alloc b).alloc c).heap.size = w.heap.size + 1 + 1 + 1 := (Array.size_push ..).trans (by rw [e2])
  exact (((((Below.refl _ _).alloc (Nat.le_refl _) _).alloc (by omega) _).alloc (by omega) _).alloc (by omega) _).drew
/-- A disk that was made has blocks of its own. -/
def Ft.new (F : Ft) (w : World) : Prop := ∀ k, F.has k → w.heap.size ≤ k
theorem new4 (w : World) (a b c x y : Nat) (ha : w.heap.size ≤ a) (hb : w.heap.size ≤ b) (hc : w.heap.size ≤ c) : Ft.new ⟨w.heap.size + 1 + 1 + 1, a, b, c, x, y⟩ w := by
  rintro k (rfl | rfl | rfl | rfl)
  · show _ ≤ w.heap.size + 1 + 1 + 1
    omega
  · exact ha
  · exact hb
  · exact hc

set_option maxHeartbeats 4000000 in
theorem new_any (w : World) (n : Int) (h1 : -9223372036854775808 ≤ n) (h2 : n ≤ 9223372036854775807) (hn : ¬ (1 ≤ n ∧ n ≤ 16384)) :
    Calls Tryd.prog 25 #[.int .i64 n] w fun e w' => e = .returned (.tuple #[.pointer none, .int .i64 40]) ∧ w = w' := by
  by_cases h0 : n < 1
  · have d0 : decide (n < 1) = true := by simpa using h0
    go_enter Tryd.func25, Tryd.ntmps25
    go_wp2
    go_ret2
    exact ⟨rfl, rfl⟩
  · have d0 : decide (n < 1) = false := by simpa using h0
    have d1 : decide (16384 < n) = true := by simp; omega
    go_enter Tryd.func25, Tryd.ntmps25
    go_wp2
    go_ret2
    exact ⟨rfl, rfl⟩
set_option maxHeartbeats 4000000 in
theorem new_some (w : World) (n : Nat) (hn : 1 ≤ n ∧ n ≤ 16384) :
    Calls Tryd.prog 25 #[.int .i64 (n : Int)] w fun e w' => ∃ F : Ft, e = .returned (.tuple #[F.ptr, .int .i64 0]) ∧ DkAt w' F (Dk.new n) ∧ F.new w ∧ Below w.heap.size w w' := by
  obtain ⟨C, hC, hmk⟩ := run_make_sects n hn.2
  have d0 : decide ((n : Int) < 1) = false := by simp; omega
  have d1 : decide ((16384 : Int) < (n : Int)) = false := by simp; omega
  have hmm := fun w => run_makeMap (P := Tryd.prog) 92 w
  obtain ⟨g1, g2⟩ := hn
  go_enter Tryd.func25, Tryd.ntmps25
  go_wp2
  go_region
  all_goals go_wp2
  all_goals go_ret2
  all_goals first
    | (exact ⟨⟨w.heap.size + 1 + 1 + 1, w.heap.size, w.heap.size + 1, w.heap.size + 1 + 1, n, n⟩, rfl, new_at hC g1 g2 ⟨(by simp only [ne_eq]; omega), (by simp only [ne_eq]; omega), (by simp only [ne_eq]; omega), (by simp only [ne_eq]; omega), (by simp only [ne_eq]; omega), (by simp only [ne_eq]; omega)⟩ (heap4 w _ _ _ _).2.2.2 (heap4 w _ _ _ _).1 (heap4 w _ _ _ _).2.1 (heap4 w _ _ _ _).2.2.1, new4 _ _ _ _ _ _ (by omega) (by omega) (by omega), below4 w _ _ _ _⟩)
    | (exact ⟨⟨w.heap.size + 1 + 1 + 1, w.heap.size, w.heap.size + 1 + 1, w.heap.size + 1, n, n⟩, rfl, new_at hC g1 g2 ⟨(by simp only [ne_eq]; omega), (by simp only [ne_eq]; omega), (by simp only [ne_eq]; omega), (by simp only [ne_eq]; omega), (by simp only [ne_eq]; omega), (by simp only [ne_eq]; omega)⟩ (heap4 w _ _ _ _).2.2.2 (heap4 w _ _ _ _).1 (heap4 w _ _ _ _).2.2.1 (heap4 w _ _ _ _).2.1, new4 _ _ _ _ _ _ (by omega) (by omega) (by omega), below4 w _ _ _ _⟩)
    | (exact ⟨⟨w.heap.size + 1 + 1 + 1, w.heap.size + 1, w.heap.size, w.heap.size + 1 + 1, n, n⟩, rfl, new_at hC g1 g2 ⟨(by simp only [ne_eq]; omega), (by simp only [ne_eq]; omega), (by simp only [ne_eq]; omega), (by simp only [ne_eq]; omega), (by simp only [ne_eq]; omega), (by simp only [ne_eq]; omega)⟩ (heap4 w _ _ _ _).2.2.2 (heap4 w _ _ _ _).2.1 (heap4 w _ _ _ _).1 (heap4 w _ _ _ _).2.2.1, new4 _ _ _ _ _ _ (by omega) (by omega) (by omega), below4 w _ _ _ _⟩)
    | (exact ⟨⟨w.heap.size + 1 + 1 + 1, w.heap.size + 1, w.heap.size + 1 + 1, w.heap.size, n, n⟩, rfl, new_at hC g1 g2 ⟨(by simp only [ne_eq]; omega), (by simp only [ne_eq]; omega), (by simp only [ne_eq]; omega), (by simp only [ne_eq]; omega), (by simp only [ne_eq]; omega), (by simp only [ne_eq]; omega)⟩ (heap4 w _ _ _ _).2.2.2 (heap4 w _ _ _ _).2.1 (heap4 w _ _ _ _).2.2.1 (heap4 w _ _ _ _).1, new4 _ _ _ _ _ _ (by omega) (by omega) (by omega), below4 w _ _ _ _⟩)
    | (exact ⟨⟨w.heap.size + 1 + 1 + 1, w.heap.size + 1 + 1, w.heap.size, w.heap.size + 1, n, n⟩, rfl, new_at hC g1 g2 ⟨(by simp only [ne_eq]; omega), (by simp only [ne_eq]; omega), (by simp only [ne_eq]; omega), (by simp only [ne_eq]; omega), (by simp only [ne_eq]; omega), (by simp only [ne_eq]; omega)⟩ (heap4 w _ _ _ _).2.2.2 (heap4 w _ _ _ _).2.2.1 (heap4 w _ _ _ _).1 (heap4 w _ _ _ _).2.1, new4 _ _ _ _ _ _ (by omega) (by omega) (by omega), below4 w _ _ _ _⟩)
    | (exact ⟨⟨w.heap.size + 1 + 1 + 1, w.heap.size + 1 + 1, w.heap.size + 1, w.heap.size, n, n⟩, rfl, new_at hC g1 g2 ⟨(by simp only [ne_eq]; omega), (by simp only [ne_eq]; omega), (by simp only [ne_eq]; omega), (by simp only [ne_eq]; omega), (by simp only [ne_eq]; omega), (by simp only [ne_eq]; omega)⟩ (heap4 w _ _ _ _).2.2.2 (heap4 w _ _ _ _).2.2.1 (heap4 w _ _ _ _).2.1 (heap4 w _ _ _ _).1, new4 _ _ _ _ _ _ (by omega) (by omega) (by omega), below4 w _ _ _ _⟩)
end Go.Proofs.YtbmmcaoifkboiaaDoor

/- A journal of one's own; a disk of one's own; openings. -/
set_option linter.unusedVariables false
set_option linter.unusedSimpArgs false
set_option maxRecDepth 100000
namespace Go.Proofs.YtbmmcaoifkboiaaDoor
open Go.RowKit

/-- a journal whose blocks all lie from block B on -/
structure JB (B : Nat) (w0 w : World) (F : Ft) (p : Nat) (J : Jn) : Prop where
  jat : JAt w F p J
  nib : Nib w
  below : Below B w0 w
  own : ∀ k, JT F p k → B ≤ k
  base : B ≤ w.heap.size
theorem JB.step {B : Nat} {w0 w w' : World} {F : Ft} {p : Nat} {J : Jn} (h : JB B w0 w F p J) (hb : Below w.heap.size w w') : JB B w0 w' F p J :=
  ⟨h.jat.below hb, h.nib.below hb, h.below.trans (hb.mono h.base), h.own, Nat.le_trans h.base hb.size⟩
theorem JB.turn {B : Nat} {w0 w w' : World} {F : Ft} {p : Nat} {J J' : Jn} (h : JB B w0 w F p J) (hj : JAt w' F p J') (ht : Turned (JT F p) w w') : JB B w0 w' F p J' :=
  ⟨hj, h.nib.turned h.jat ht, h.below.trans (ht.below h.base h.own), h.own, Nat.le_trans h.base ht.size⟩
/-- blocks of others are turned -/
theorem JB.other {B : Nat} {w0 w w' : World} {F : Ft} {p : Nat} {J : Jn} {T : Nat → Prop} (h : JB B w0 w F p J) (ht : Turned T w w') (hT : ∀ k, T k → ¬ JT F p k ∧ B ≤ k ∧ k ≠ 0) : JB B w0 w' F p J :=
  ⟨h.jat.turned ht (fun k hk e => (hT k e).1 hk), h.nib.of_turned ht (fun e => (hT _ e).2.2 rfl), h.below.trans (ht.below h.base (fun k hk => (hT k hk).2.1)), h.own, Nat.le_trans h.base ht.size⟩
/-- the disk alone -/
structure DB (B : Nat) (w0 w : World) (F : Ft) (D : Dk) : Prop where
  dat : DkAt w F D
  nib : Nib w
  below : Below B w0 w
  own : ∀ k, F.has k → B ≤ k
  base : B ≤ w.heap.size
theorem DB.step {B : Nat} {w0 w w' : World} {F : Ft} {D : Dk} (h : DB B w0 w F D) (hb : Below w.heap.size w w') : DB B w0 w' F D :=
  ⟨h.dat.below hb, h.nib.below hb, h.below.trans (hb.mono h.base), h.own, Nat.le_trans h.base hb.size⟩
theorem DB.turn {B : Nat} {w0 w w' : World} {F : Ft} {D D' : Dk} (h : DB B w0 w F D) (hj : DkAt w' F D') (ht : Turned F.has w w') : DB B w0 w' F D' :=
  ⟨hj, h.nib.turnedD h.dat ht, h.below.trans (ht.below h.base h.own), h.own, Nat.le_trans h.base ht.size⟩
theorem open_good (w : World) (F : Ft) (D : Dk) (h : DkAt w F D) (hn : Nib w) {J : Jn} (he : D.openJ = (0, J)) : Calls Tryd.prog 27 #[F.ptr] w fun e w' => ∃ p, e = .returned (.tuple #[jptr p, .int .i64 0]) ∧ JAt w' F p J ∧ w.heap.size ≤ p ∧ Turned F.has w w' := by
  refine (open_any w F D h hn).mono ?_
  rintro e w' ⟨h1, h2⟩
  rw [he, if_pos rfl] at h1
  obtain ⟨p, e1, e2, e3⟩ := h1
  exact ⟨p, e1, e2, e3, h2⟩
theorem open_not (w : World) (F : Ft) (D : Dk) (h : DkAt w F D) (hn : Nib w) {c : Int} {J : Jn} (he : D.openJ = (c, J)) (hc : c ≠ 0) : Calls Tryd.prog 27 #[F.ptr] w fun e w' => e = .returned (.tuple #[.pointer none, .int .i64 c]) ∧ DkAt w' F J.D ∧ Turned F.has w w' := by
  refine (open_any w F D h hn).mono ?_
  rintro e w' ⟨h1, h2⟩
  rw [he, if_neg hc] at h1
  exact ⟨h1.1, h1.2, h2⟩
theorem JB.of {B : Nat} {w0 w w' : World} {F : Ft} {p : Nat} {D : Dk} {J : Jn} (h : DB B w0 w F D) (hj : JAt w' F p J) (hp : w.heap.size ≤ p) (ht : Turned F.has w w') : JB B w0 w' F p J :=
  ⟨hj, h.nib.turnedD h.dat ht, h.below.trans (ht.below h.base h.own), fun k hk => by
    rcases hk with hk | hk
    · exact h.own k hk
    · have := h.base; omega, Nat.le_trans h.base ht.size⟩
theorem JB.disk {B : Nat} {w0 w : World} {F : Ft} {p : Nat} {J : Jn} (h : JB B w0 w F p J) : DB B w0 w F J.D := ⟨h.jat.disk, h.nib, h.below, fun k hk => h.own k (.inl hk), h.base⟩
/-- the journal that begins -/
theorem begun_plain {n : Nat} (h1 : 32 ≤ n) (h2 : n ≤ 16384) : ∃ D1 J, (Dk.new n).format = (0, D1) ∧ D1.openJ = (0, J) ∧ Live n J 0 (zeroB n) AllOk ∧ J.last ≤ 1 ∧ J.D.cut < 0 ∧ J.D.ops ≤ 2 * n + 5 := by
  obtain ⟨D1, f⟩ := format_im (n := n) (D := Dk.new n) (Dk.new_ok (by omega) h2) rfl h1 rfl (by show (-1 : Int) < 0; decide) ⟨rfl, rfl⟩ (by show 0 + _ ≤ _; omega)
  have hops := f.ops
  have hops0 : (Dk.new n).ops = 0 := rfl
  have hcut : D1.cut = -1 := f.cut
  obtain ⟨c, J, o⟩ := open_im f.im f.flat f.ok f.hn f.off (by omega)
  have hJo := o.ops
  rcases o.ends with ⟨rfl, hl, _⟩ | ⟨_, h3, _⟩
  · exact ⟨D1, J, f.eq, o.eq, hl, o.last, by rw [o.cut, hcut]; decide, by omega⟩
  · omega
end Go.Proofs.YtbmmcaoifkboiaaDoor

/- A pager in memory; fails, must, Pages, Root, heard, SetRoot. -/
set_option linter.unusedVariables false
set_option linter.unusedSimpArgs false
set_option maxRecDepth 100000
namespace Go.Proofs.YtbmmcaoifkboiaaDoor
open Go.RowKit

/-- block g holds these bools -/
def BoR (w : World) (g c : Nat) (t : List Bool) : Prop := ∃ cur : Array Value, w.heap[g]? = some (.cells cur 4 (0, 0)) ∧ t.length ≤ c ∧ c ≤ maxLen ∧ cur.size = c ∧ cur.toList.take t.length = bov t
theorem BoR.lt {w : World} {g c : Nat} {t : List Bool} (h : BoR w g c t) : g < w.heap.size := by obtain ⟨cur, h1, _⟩ := h; exact lt_of_heap h1
theorem BoR.mine {w : World} {g c : Nat} {t : List Bool} (h : BoR w g c t) (B : Nat) (hB : B ≤ g) : MineO B w (.slice (some ⟨g, 0, none⟩) t.length c) t := by
  obtain ⟨cur, h1, h2, h3, h4, h5⟩ := h
  exact ⟨by simp [bov_length], .inr ⟨g, c, cur, rfl, hB, h1, h2, h3, by simp [h4], by simpa using h5⟩⟩
theorem MineO.boR {B : Nat} {w : World} {v : Value} {t : List Bool} (h : MineO B w v t) (h0 : 0 < t.length) : ∃ g c, v = .slice (some ⟨g, 0, none⟩) t.length c ∧ B ≤ g ∧ BoR w g c t := by
  rcases h.2 with ⟨rfl, hn⟩ | ⟨g, cap, cur, rfl, hb, hg, hnc, hcm, hcs, htake⟩
  · omega
  · exact ⟨g, cap, rfl, hb, cur, hg, hnc, hcm, by simpa using hcs, by simpa using htake⟩
theorem BoR.keep {w w' : World} {g c : Nat} {t : List Bool} (h : BoR w g c t) (hw : w'.heap[g]? = w.heap[g]?) : BoR w' g c t := by
  obtain ⟨cur, h1, h2⟩ := h
  exact ⟨cur, hw.trans h1, h2⟩
theorem BoR.cell {w : World} {g c : Nat} {t : List Bool} (h : BoR w g c t) (i : Nat) (hi : i < t.length) : w.cell? ⟨g, i, none⟩ = some (.bool t[i]) := by
  obtain ⟨cur, h1, h2, h3, h4, h5⟩ := h
  rw [cell_of_row _ _ _ _ _ _ h1]
  have e : (bov t)[i]? = some (.bool t[i]) := bov_get t i hi
  rw [← h5, List.getElem?_take, if_pos (by omega)] at e
  simpa using e
theorem BoR.frozen {w : World} {g c : Nat} {t : List Bool} (h : BoR w g c t) (i : Nat) : w.frozen? ⟨g, i, none⟩ = false := by
  obtain ⟨cur, h1, _⟩ := h
  exact frozen_p h1 i
theorem BoR.set {w : World} {g c : Nat} {t : List Bool} (h : BoR w g c t) (i : Nat) (b : Bool) : BoR (w.setCell ⟨g, i, none⟩ (.bool b)) g c (t.set i b) := by
  obtain ⟨cur, h1, h2, h3, h4, h5⟩ := h
  refine ⟨_, head_setCell h1 (i := i) (.bool b), by simpa using h2, h3, by simpa using h4, ?_⟩
  rw [Array.toList_setIfInBounds, List.length_set]
  rw [show bov (t.set i b) = (bov t).set i (.bool b) by simp [bov, List.map_set], ← h5]
  apply List.ext_getElem?
  intro j
  by_cases hj : j < t.length
  · rw [List.getElem?_take_of_lt hj, List.getElem?_set, List.getElem?_set, List.getElem?_take_of_lt hj]
    simp only [List.length_take]
    by_cases hij : i = j
    · subst hij
      have hc : i < cur.toList.length := by simp; omega
      rw [if_pos rfl, if_pos rfl, if_pos hc, if_pos (by omega)]
    · rw [if_neg hij, if_neg hij]
  · rw [List.getElem?_take_eq_none (by omega), List.getElem?_eq_none (by simp; omega)]
/-- where a pager's own blocks lie -/
structure Pf where
  q : Nat
  gn : Nat
  cn : Nat
  gw : Nat
  cw : Nat
  M : Nat
  kv : List (Int × Value)
def PT (f : Pf) (k : Nat) : Prop := k = f.q ∨ k = f.gn ∨ k = f.gw ∨ k = f.M ∨ ∃ x ∈ f.kv, x.2.ownBlock = some k
/-- the table's pages, entry for entry -/
def Pgs (w : World) : List (Int × Value) → List (Int × List UInt8) → Prop
  | [], [] => True
  | x :: kv, y :: o => x.1 = y.1 ∧ y.2.length = 896 ∧ Mine 5 0 w x.2 y.2 ∧ Pgs w kv o
  | _, _ => False
theorem own_keep1 {B : Nat} {e : TypeId} {s n : Nat} {w w' : World} {u : Value} {xs : List Value} (h : w.ownsRow B e s u n xs) (hw : ∀ k, u.ownBlock = some k → w'.heap[k]? = w.heap[k]?) : w'.ownsRow B e s u n xs := by
  obtain ⟨h1, h2⟩ := h
  refine ⟨h1, ?_⟩
  rcases h2 with h2 | ⟨g, cap, cur, hu, hb, hh, r⟩
  · exact .inl h2
  · exact .inr ⟨g, cap, cur, hu, hb, (hw g (by rw [hu]; rfl)).trans hh, r⟩
theorem Pgs.keep {w w' : World} : ∀ {kv : List (Int × Value)} {o : List (Int × List UInt8)}, Pgs w kv o → (∀ x ∈ kv, ∀ k, x.2.ownBlock = some k → w'.heap[k]? = w.heap[k]?) → Pgs w' kv o
  | [], [], _, _ => trivial
  | [], _ :: _, h, _ => h.elim
  | _ :: _, [], h, _ => h.elim
  | x :: kv, y :: o, h, hw => ⟨h.1, h.2.1, own_keep1 h.2.2.1 (hw x (by simp)), Pgs.keep h.2.2.2 fun x hx => hw x (by simp [hx])⟩
theorem Pgs.keys {w : World} : ∀ {kv : List (Int × Value)} {o : List (Int × List UInt8)}, Pgs w kv o → kv.map (·.1) = o.map (·.1)
  | [], [], _ => rfl
  | [], _ :: _, h => h.elim
  | _ :: _, [], h => h.elim
  | x :: kv, y :: o, h => by simp [h.1, Pgs.keys h.2.2.2]
/-- a look: the value and the bytes, or nothing in both -/
theorem Pgs.look {w : World} (k : Int) : ∀ {kv : List (Int × Value)} {o : List (Int × List UInt8)}, Pgs w kv o → (kLook kv k = none ∧ oLook o k = none) ∨ ∃ v b, kLook kv k = some v ∧ oLook o k = some b ∧ b.length = 896 ∧ Mine 5 0 w v b ∧ (k, v) ∈ kv
  | [], [], _ => .inl ⟨rfl, rfl⟩
  | [], _ :: _, h => h.elim
  | _ :: _, [], h => h.elim
  | x :: kv, y :: o, h => by
    obtain ⟨h1, h2, h3, h4⟩ := h
    rw [kLook_cons]
    by_cases hk : x.1 = k
    · refine .inr ⟨x.2, y.2, by rw [if_pos hk], ?_, h2, h3, by rw [← hk]; simp⟩
      have hy : (y.1 == k) = true := by rw [← h1]; simpa using hk
      simp [oLook, List.find?_cons, hy]
    · have hy : (y.1 == k) = false := by rw [← h1]; simpa using hk
      have e : oLook (y :: o) k = oLook o k := by simp [oLook, List.find?_cons, hy]
      rw [if_neg hk, e]
      rcases Pgs.look k h4 with h5 | ⟨v, b, h5, h6, h7, h8, h9⟩
      · exact .inl h5
      · exact .inr ⟨v, b, h5, h6, h7, h8, by simp [h9]⟩
theorem Pgs.del {w : World} (k : Int) : ∀ {kv : List (Int × Value)} {o : List (Int × List UInt8)}, Pgs w kv o → Pgs w (vDel kv k) (oDel o k)
  | [], [], _ => trivial
  | [], _ :: _, h => h.elim
  | _ :: _, [], h => h.elim
  | x :: kv, y :: o, h => by
    obtain ⟨h1, h2, h3, h4⟩ := h
    have ih := Pgs.del k h4
    by_cases hk : x.1 = k
    · have hy : (y.1 != k) = false := by rw [← h1]; simpa using hk
      have hx : (x.1 != k) = false := by simpa using hk
      simpa [vDel, oDel, List.filter_cons, hx, hy] using ih
    · have hy : (y.1 != k) = true := by rw [← h1]; simpa using hk
      have hx : (x.1 != k) = true := by simpa using hk
      simp only [vDel, oDel, List.filter_cons, hx, hy, if_true]
      exact ⟨h1, h2, h3, ih⟩
theorem Pgs.snoc {w : World} {k : Int} {v : Value} {b : List UInt8} (hb : b.length = 896) (hv : Mine 5 0 w v b) : ∀ {kv : List (Int × Value)} {o : List (Int × List UInt8)}, Pgs w kv o → Pgs w (kv ++ [(k, v)]) (o ++ [(k, b)])
  | [], [], _ => ⟨rfl, hb, hv, trivial⟩
  | [], _ :: _, h => h.elim
  | _ :: _, [], h => h.elim
  | x :: kv, y :: o, h => ⟨h.1, h.2.1, h.2.2.1, Pgs.snoc hb hv h.2.2.2⟩
theorem Pgs.over {w : World} {k : Int} {v : Value} {b : List UInt8} (hb : b.length = 896) (hv : Mine 5 0 w v b) : ∀ {kv : List (Int × Value)} {o : List (Int × List UInt8)}, Pgs w kv o →
    Pgs w (kv.map fun x => if x.1 = k then (k, v) else x) (o.map fun x => if x.1 = k then (k, b) else x)
  | [], [], _ => trivial
  | [], _ :: _, h => h.elim
  | _ :: _, [], h => h.elim
  | x :: kv, y :: o, h => by
    obtain ⟨h1, h2, h3, h4⟩ := h
    have ih := Pgs.over (k := k) hb hv h4
    simp only [List.map_cons]
    by_cases hk : x.1 = k
    · rw [if_pos hk, if_pos (by rw [← h1]; exact hk)]
      exact ⟨rfl, hb, hv, ih⟩
    · rw [if_neg hk, if_neg (by rw [← h1]; exact hk)]
      exact ⟨h1, h2, h3, ih⟩
theorem Pgs.put {w : World} {k : Int} {v : Value} {b : List UInt8} (hb : b.length = 896) (hv : Mine 5 0 w v b) {kv : List (Int × Value)} {o : List (Int × List UInt8)} (h : Pgs w kv o) : Pgs w (vPut kv k v) (oPut o k b) := by
  rcases h.look k with ⟨h1, h2⟩ | ⟨v', b', h1, h2, _⟩
  · simp only [vPut, oPut, h1, h2, Option.isSome_none, Bool.false_eq_true, if_false]
    exact h.snoc hb hv
  · simp only [vPut, oPut, h1, h2, Option.isSome_some, if_true]
    exact h.over hb hv
theorem mem_vPut {kv : List (Int × Value)} {k : Int} {v : Value} {x : Int × Value} (h : x ∈ vPut kv k v) : x ∈ kv ∨ x.2 = v := by
  unfold vPut at h
  split at h
  · obtain ⟨y, hy, rfl⟩ := List.mem_map.1 h
    split
    · exact .inr rfl
    · exact .inl hy
  · rcases List.mem_append.1 h with h | h
    · exact .inl h
    · rw [List.mem_singleton.1 h]; exact .inr rfl
theorem mem_vDel {kv : List (Int × Value)} {k : Int} {x : Int × Value} (h : x ∈ vDel kv k) : x ∈ kv := (List.mem_filter.1 h).1
abbrev pgRow (p : Nat) (f : Pf) (P : Pg) : Obj := .cells #[jptr p, .slice (some ⟨f.gn, 0, none⟩) P.now.length f.cn, .int .i64 P.root, .slice (some ⟨f.gw, 0, none⟩) P.was.length f.cw, .int .i64 P.wroot, .map (some f.M), .bool P.change, .int .i64 P.off] 68 (0, 0)
/-- the numbers of a pager are such as they can be -/
structure Pok (P : Pg) : Prop where
  n0 : 0 < P.now.length
  n1 : P.now.length ≤ 1023
  was : P.was.length = P.now.length
  r0 : -1 ≤ P.root
  r1 : P.root < (P.now.length : Int)
  s0 : -1 ≤ P.wroot
  s1 : P.wroot < (P.now.length : Int)
  keys : ∀ x ∈ P.own, 0 ≤ x.1 ∧ x.1 < (P.now.length : Int)
  jn : P.now.length = P.J.pages
/-- the pager P lies in memory -/
structure PgAt (w : World) (F : Ft) (p : Nat) (f : Pf) (P : Pg) : Prop where
  jat : JAt w F p P.J
  nib : Nib w
  head : w.heap[f.q]? = some (pgRow p f P)
  now : BoR w f.gn f.cn P.now
  was : BoR w f.gw f.cw P.was
  tab : OTab w f.M f.kv
  pgs : Pgs w f.kv P.own
  ok : Pok P
  apart : ∀ k, PT f k → ¬ JT F p k ∧ k ≠ 0 ∧ k < w.heap.size
  sep : f.gn ≠ f.gw
theorem Pgs.uint8 {w : World} : ∀ {kv : List (Int × Value)} {o : List (Int × List UInt8)}, Pgs w kv o → ∀ x ∈ kv, ∀ k, x.2.ownBlock = some k → ∃ c, w.heap[k]? = some (.cells c 5 (0, 0))
  | [], _, _, x, hx, _, _ => by cases hx
  | _ :: _, [], h, _, _, _, _ => h.elim
  | y :: kv, z :: o, h, x, hx, k, hk => by
    rcases List.mem_cons.1 hx with rfl | hx
    · exact (own_lt h.2.2.1 hk.symm).2
    · exact Pgs.uint8 h.2.2.2 x hx k hk
section
variable {w w' : World} {F : Ft} {p : Nat} {f : Pf} {P : Pg}
theorem nib_lt (h : Nib w) : 0 < w.heap.size := World.block_lt_of_cell? w _ (h 0 (by omega))
theorem PgAt.keep (h : PgAt w F p f P) (hw : ∀ k, JT F p k ∨ PT f k ∨ k = 0 → w'.heap[k]? = w.heap[k]?) (hs : w.heap.size ≤ w'.heap.size) : PgAt w' F p f P :=
  ⟨h.jat.keep fun k hk => hw k (.inl hk), fun i hi => (World.cell?_of_block (hw _ (.inr (.inr rfl)))).trans (h.nib i hi), (hw _ (.inr (.inl (.inl rfl)))).trans h.head, h.now.keep (hw _ (.inr (.inl (.inr (.inl rfl))))), h.was.keep (hw _ (.inr (.inl (.inr (.inr (.inl rfl)))))), h.tab.keep (hw _ (.inr (.inl (.inr (.inr (.inr (.inl rfl))))))),
   h.pgs.keep fun x hx k hk => hw k (.inr (.inl (.inr (.inr (.inr (.inr ⟨x, hx, hk⟩)))))), h.ok, fun k hk => ⟨(h.apart k hk).1, (h.apart k hk).2.1, Nat.lt_of_lt_of_le (h.apart k hk).2.2 hs⟩, h.sep⟩
theorem PgAt.lt (h : PgAt w F p f P) {k : Nat} (hk : JT F p k ∨ PT f k) : k < w.heap.size := hk.elim h.jat.lt fun hk => (h.apart k hk).2.2
theorem PgAt.lt3 (h : PgAt w F p f P) {k : Nat} (hk : JT F p k ∨ PT f k ∨ k = 0) : k < w.heap.size := by
  rcases hk with hk | hk | hk
  · exact h.lt (.inl hk)
  · exact h.lt (.inr hk)
  · rw [hk]; exact nib_lt h.nib
theorem PgAt.turned {T : Nat → Prop} (h : PgAt w F p f P) (ht : Turned T w w') (hT : ∀ k, JT F p k ∨ PT f k ∨ k = 0 → ¬ T k) : PgAt w' F p f P := h.keep (fun k hk => ht.block k (h.lt3 hk) (hT k hk)) ht.size
theorem PgAt.below (h : PgAt w F p f P) (hb : Below w.heap.size w w') : PgAt w' F p f P := h.keep (fun k hk => hb.block k (h.lt3 hk)) hb.size
theorem PgAt.nib_ne (h : PgAt w F p f P) : f.q ≠ 0 ∧ f.gn ≠ 0 ∧ f.gw ≠ 0 ∧ f.M ≠ 0 :=
  ⟨(h.apart _ (.inl rfl)).2.1, (h.apart _ (.inr (.inl rfl))).2.1, (h.apart _ (.inr (.inr (.inl rfl)))).2.1, (h.apart _ (.inr (.inr (.inr (.inl rfl))))).2.1⟩
theorem PgAt.drew (h : PgAt w F p f P) : PgAt w.drew F p f P := h.keep (fun _ _ => rfl) (Nat.le_refl _)
theorem PgAt.cells (h : PgAt w F p f P) : w.cell? ⟨f.q, 0, none⟩ = some (jptr p) ∧ w.cell? ⟨f.q, 1, none⟩ = some (.slice (some ⟨f.gn, 0, none⟩) P.now.length f.cn) ∧ w.cell? ⟨f.q, 2, none⟩ = some (.int .i64 P.root) ∧
    w.cell? ⟨f.q, 3, none⟩ = some (.slice (some ⟨f.gw, 0, none⟩) P.was.length f.cw) ∧ w.cell? ⟨f.q, 4, none⟩ = some (.int .i64 P.wroot) ∧ w.cell? ⟨f.q, 5, none⟩ = some (.map (some f.M)) ∧ w.cell? ⟨f.q, 6, none⟩ = some (.bool P.change) ∧ w.cell? ⟨f.q, 7, none⟩ = some (.int .i64 P.off) := by
  refine ⟨?_, ?_, ?_, ?_, ?_, ?_, ?_, ?_⟩ <;> · rw [cell_of_row _ _ _ _ _ _ h.head]; rfl
theorem PgAt.frozen (h : PgAt w F p f P) (i : Nat) : w.frozen? ⟨f.q, i, none⟩ = false := frozen_p h.head i
theorem PgAt.qn (h : PgAt w F p f P) : f.q ≠ f.gn ∧ f.q ≠ f.gw ∧ f.q ≠ f.M ∧ (∀ x ∈ f.kv, x.2.ownBlock ≠ some f.q) ∧ f.gn ≠ f.M ∧ f.gw ≠ f.M ∧ (∀ x ∈ f.kv, x.2.ownBlock ≠ some f.gn) ∧ (∀ x ∈ f.kv, x.2.ownBlock ≠ some f.gw) ∧ (∀ x ∈ f.kv, x.2.ownBlock ≠ some f.M) := by
  obtain ⟨c1, n1, _⟩ := h.now
  obtain ⟨c2, n2, _⟩ := h.was
  obtain ⟨es, cl, n3, _⟩ := h.tab
  have hq := h.head
  have hx := fun (x : Int × Value) (hx : x ∈ f.kv) (k : Nat) => h.pgs.uint8 x hx k
  refine ⟨fun e => ?_, fun e => ?_, fun e => ?_, fun x hm e => ?_, fun e => ?_, fun e => ?_, fun x hm e => ?_, fun x hm e => ?_, fun x hm e => ?_⟩
  · rw [e, n1] at hq; simp at hq
  · rw [e, n2] at hq; simp at hq
  · rw [e, n3] at hq; simp at hq
  · obtain ⟨c, hc⟩ := hx x hm _ e; rw [hc] at hq; simp at hq
  · rw [e, n3] at n1; simp at n1
  · rw [e, n3] at n2; simp at n2
  · obtain ⟨c, hc⟩ := hx x hm _ e; rw [hc] at n1; simp at n1
  · obtain ⟨c, hc⟩ := hx x hm _ e; rw [hc] at n2; simp at n2
  · obtain ⟨c, hc⟩ := hx x hm _ e; rw [hc] at n3; simp at n3
end
theorem PgAt.n22 {w : World} {F : Ft} {p : Nat} {f : Pf} {P : Pg} (h : PgAt w F p f P) : 22 ≤ P.J.D.n := by
  have h1 := h.ok.jn
  have h2 := h.ok.n0
  rw [Jn.pages, Dk.blocks] at h1
  omega
theorem PgAt.put_j {w w' : World} {F : Ft} {p : Nat} {f : Pf} {P : Pg} {J' : Jn} (h : PgAt w F p f P) (hj : JAt w' F p J') (ht : Turned (JT F p) w w') (hn : J'.D.n = P.J.D.n) : PgAt w' F p f { P with J := J' } := by
  have hT : ∀ k, PT f k → ¬ JT F p k := fun k hk => (h.apart k hk).1
  have o := h.ok
  refine ⟨hj, h.nib.turned h.jat ht, (ht.block _ (lt_of_heap h.head) (hT _ (.inl rfl))).trans h.head, h.now.keep (ht.block _ h.now.lt (hT _ (.inr (.inl rfl)))), h.was.keep (ht.block _ h.was.lt (hT _ (.inr (.inr (.inl rfl))))), h.tab.keep (ht.block _ h.tab.lt (hT _ (.inr (.inr (.inr (.inl rfl)))))),
    h.pgs.keep fun x hx k hk => ht.block _ (h.apart k (.inr (.inr (.inr (.inr ⟨x, hx, hk⟩))))).2.2 (hT _ (.inr (.inr (.inr (.inr ⟨x, hx, hk⟩))))), ⟨o.n0, o.n1, o.was, o.r0, o.r1, o.s0, o.s1, o.keys, ?_⟩, fun k hk => ⟨(h.apart k hk).1, (h.apart k hk).2.1, Nat.lt_of_lt_of_le (h.apart k hk).2.2 ht.size⟩, h.sep⟩
  have := o.jn
  simp only [Jn.pages, Dk.blocks, hn] at this ⊢
  exact this
abbrev qptr (q : Nat) : Value := .pointer (some ⟨q, 0, none⟩)
/-- what a call may turn of a pager and its journal -/
def PJ (F : Ft) (p : Nat) (f : Pf) (k : Nat) : Prop := JT F p k ∨ PT f k
/-- what a call leaves: the pager P', its blocks the old ones or new -/
def PgTo (w : World) (F : Ft) (p : Nat) (f : Pf) (w' : World) (P' : Pg) : Prop := ∃ f', PgAt w' F p f' P' ∧ f'.q = f.q ∧ (∀ k, PT f' k → PT f k ∨ w.heap.size ≤ k) ∧ Turned (PJ F p f) w w'
theorem PgTo.same {w : World} {F : Ft} {p : Nat} {f : Pf} {P : Pg} (h : PgAt w F p f P) : PgTo w F p f w P := ⟨f, h, rfl, fun _ hk => .inl hk, Turned.refl _ _⟩
theorem PgTo.of_below {w w' : World} {F : Ft} {p : Nat} {f : Pf} {P : Pg} (h : PgAt w F p f P) (hb : Below w.heap.size w w') : PgTo w F p f w' P := ⟨f, h.below hb, rfl, fun _ hk => .inl hk, Turned.of_below hb⟩
theorem PgTo.then {w w1 w2 : World} {F : Ft} {p : Nat} {f f1 : Pf} {P2 : Pg} (hq : f1.q = f.q) (hk : ∀ k, PT f1 k → PT f k ∨ w.heap.size ≤ k) (ht : Turned (PJ F p f) w w1) (h2 : PgTo w1 F p f1 w2 P2) : PgTo w F p f w2 P2 := by
  obtain ⟨f2, a, b, c, d⟩ := h2
  refine ⟨f2, a, b.trans hq, fun k hk2 => ?_, ht.then d fun i hi hp => ?_⟩
  · rcases c k hk2 with h | h
    · exact hk k h
    · exact .inr (Nat.le_trans ht.size h)
  · rcases hp with hp | hp
    · exact .inl hp
    · rcases hk i hp with h | h
      · exact .inr h
      · omega
theorem turned_q (w : World) (F : Ft) (p : Nat) (f : Pf) (i : Nat) (v : Value) : Turned (PJ F p f) w (w.setCell ⟨f.q, i, none⟩ v) := (turned_one w f.q i v).mono fun k _ e => .inr (.inl e)
end Go.Proofs.YtbmmcaoifkboiaaDoor

/- A pager's fails, must, Pages, Root, heard, SetRoot. -/
set_option linter.unusedVariables false
set_option linter.unusedSimpArgs false
set_option maxRecDepth 100000
namespace Go.Proofs.YtbmmcaoifkboiaaDoor
open Go.RowKit

section
variable {w : World} {F : Ft} {p : Nat} {f : Pf} {P : Pg}
set_option maxHeartbeats 4000000 in
theorem fails_any (h : PgAt w F p f P) (page : Int) (b1 : -9223372036854775808 ≤ page) (b2 : page ≤ 9223372036854775807) :
    Calls Tryd.prog 33 #[qptr f.q, .int .i64 page] w fun e w' => e = .returned (.int .i64 (P.fails page)) ∧ w' = w := by
  obtain ⟨c0, c1, c2, c3, c4, c5, c6, c7⟩ := h.cells
  by_cases ho : P.off = 0
  case neg =>
    have e : P.fails page = P.off := by rw [Pg.fails, if_pos ho]
    have hd : (P.off != 0) = true := by simpa using ho
    rw [e]
    clear e ho h
    go_enter Tryd.func33, Tryd.ntmps33
    go_wp2
    go_ret
    exact ⟨rfl, rfl⟩
  have hn := Lib.hid h.now
  obtain ⟨n, hN⟩ : ∃ n, n = P.now.length := ⟨_, rfl⟩
  have HN := Lib.hid hN
  rw [ho] at c7
  have e0 : P.fails page = if (n : Int) ≤ page ∨ page < -1 ∨ (0 ≤ page ∧ P.now.getD page.toNat false = false) then 81 else 0 := by rw [Pg.fails, if_neg (by simp [ho]), hN]
  rw [e0]
  rw [← hN] at c1
  clear e0 hN ho h
  by_cases h1 : (n : Int) ≤ page
  · rw [if_pos (.inl h1)]
    have d1 : decide (page ≥ (n : Int)) = true := decide_eq_true h1
    have d2 : decide ((n : Int) ≤ page) = true := decide_eq_true h1
    go_enter Tryd.func33, Tryd.ntmps33
    go_wp2
    go_ret
    exact ⟨rfl, rfl⟩
  have d1 : decide (page ≥ (n : Int)) = false := decide_eq_false h1
  have d2 : decide ((n : Int) ≤ page) = false := decide_eq_false h1
  by_cases h2 : page < -1
  · rw [if_pos (.inr (.inl h2))]
    have d3 : decide (page < -1) = true := decide_eq_true h2
    go_enter Tryd.func33, Tryd.ntmps33
    go_wp2
    go_ret
    exact ⟨rfl, rfl⟩
  have d3 : decide (page < -1) = false := decide_eq_false h2
  by_cases h3 : 0 ≤ page
  case neg =>
    rw [if_neg (by omega)]
    have d4 : decide (0 ≤ page) = false := decide_eq_false h3
    go_enter Tryd.func33, Tryd.ntmps33
    go_wp2
    go_ret
    exact ⟨rfl, rfl⟩
  have d4 : decide (0 ≤ page) = true := decide_eq_true h3
  have hlt : page < (n : Int) := by omega
  have hlt2 : page.toNat < n := by omega
  have hcl := hn.out.cell page.toNat (by rw [← HN.out]; exact hlt2)
  obtain ⟨tr, htr⟩ : ∃ x, x = P.now.getD page.toNat false := ⟨_, rfl⟩
  have e1 : P.now[page.toNat]'(by rw [← HN.out]; exact hlt2) = tr := by rw [htr, List.getD_eq_getElem?_getD, List.getElem?_eq_getElem (by rw [← HN.out]; exact hlt2)]; rfl
  rw [e1] at hcl
  rw [← htr]
  clear e1 htr
  cases tr with
  | true =>
    rw [if_neg (by simp; omega)]
    go_enter Tryd.func33, Tryd.ntmps33
    go_wp2
    go_ret
    exact ⟨rfl, rfl⟩
  | false =>
    rw [if_pos (by simp [h3])]
    go_enter Tryd.func33, Tryd.ntmps33
    go_wp2
    go_ret
    exact ⟨rfl, rfl⟩
theorem must_any (h : PgAt w F p f P) (page : Int) (b1 : -9223372036854775808 ≤ page) (b2 : page ≤ 9223372036854775807) :
    Calls Tryd.prog 35 #[qptr f.q, .int .i64 page] w fun e w' => e = .returned (.int .i64 (P.must page)) ∧ w' = w := by
  have HF := Lib.hid (fails_any h page b1 b2)
  by_cases h0 : P.fails page = 0
  · by_cases h1 : page = -1
    · have e : P.must page = 81 := by rw [Pg.must, if_neg (fun a => a.elim (fun a => a h0) (fun a => a h1))]
      have d1 : (page != -1) = false := by simpa using h1
      rw [e]
      rw [h0] at HF
      clear h h0 h1 e
      go_enter Tryd.func35, Tryd.ntmps35
      go_wp2_with (go_at_call 33; refine HF.out.mono ?_; rintro e w2 ⟨rfl, rfl⟩)
      go_ret
      exact ⟨rfl, rfl⟩
    · have e : P.must page = 0 := by rw [Pg.must, if_pos (.inr h1), h0]
      have d1 : (page != -1) = true := by simpa using h1
      rw [e]
      rw [h0] at HF
      clear h h0 h1 e
      go_enter Tryd.func35, Tryd.ntmps35
      go_wp2_with (go_at_call 33; refine HF.out.mono ?_; rintro e w2 ⟨rfl, rfl⟩)
      go_ret
      exact ⟨rfl, rfl⟩
  · have e : P.must page = P.fails page := by rw [Pg.must, if_pos (.inl h0)]
    have d1 : (P.fails page != 0) = true := by simpa using h0
    rw [e]
    clear h h0 e
    generalize P.fails page = x at *
    go_enter Tryd.func35, Tryd.ntmps35
    go_wp2_with (go_at_call 33; refine HF.out.mono ?_; rintro e w2 ⟨rfl, rfl⟩)
    go_ret
    exact ⟨rfl, rfl⟩
theorem pages_any (h : PgAt w F p f P) : Calls Tryd.prog 16 #[qptr f.q] w fun e w' => e = .returned (.int .i64 (P.now.length : Int)) ∧ w' = w := by
  obtain ⟨c0, c1, c2, c3, c4, c5, c6, c7⟩ := h.cells
  go_enter Tryd.func16, Tryd.ntmps16
  go_wp2
  go_ret
  exact ⟨rfl, rfl⟩
theorem root_any (h : PgAt w F p f P) : Calls Tryd.prog 31 #[qptr f.q] w fun e w' => e = .returned (.int .i64 P.root) ∧ w' = w := by
  obtain ⟨c0, c1, c2, c3, c4, c5, c6, c7⟩ := h.cells
  go_enter Tryd.func31, Tryd.ntmps31
  go_wp2
  go_ret
  exact ⟨rfl, rfl⟩
theorem PgAt.put_off (h : PgAt w F p f P) (e : Int) : PgAt (w.setCell ⟨f.q, 7, none⟩ (.int .i64 e)) F p f { P with off := e } := by
  have ht := turned_one w f.q 7 (.int .i64 e)
  obtain ⟨q1, q2, q3, q4, _⟩ := h.qn
  exact ⟨h.jat.turned ht fun k hk e => by rw [e] at hk; exact (h.apart _ (.inl rfl)).1 hk, h.nib.of_turned ht (Ne.symm h.nib_ne.1), head_setCell h.head _, h.now.keep (ht.block _ h.now.lt (Ne.symm q1)), h.was.keep (ht.block _ h.was.lt (Ne.symm q2)), h.tab.keep (ht.block _ h.tab.lt (Ne.symm q3)),
    h.pgs.keep fun x hx k hk => ht.block _ (h.apart k (.inr (.inr (.inr (.inr ⟨x, hx, hk⟩))))).2.2 (fun e => q4 x hx (by rw [hk, e])), ⟨h.ok.n0, h.ok.n1, h.ok.was, h.ok.r0, h.ok.r1, h.ok.s0, h.ok.s1, h.ok.keys, h.ok.jn⟩, fun k hk => ⟨(h.apart k hk).1, (h.apart k hk).2.1, Nat.lt_of_lt_of_le (h.apart k hk).2.2 ht.size⟩, h.sep⟩
theorem PgAt.put_root (h : PgAt w F p f P) (e : Int) (h1 : -1 ≤ e) (h2 : e < (P.now.length : Int)) : PgAt (w.setCell ⟨f.q, 2, none⟩ (.int .i64 e)) F p f { P with root := e } := by
  have ht := turned_one w f.q 2 (.int .i64 e)
  obtain ⟨q1, q2, q3, q4, _⟩ := h.qn
  exact ⟨h.jat.turned ht fun k hk e => by rw [e] at hk; exact (h.apart _ (.inl rfl)).1 hk, h.nib.of_turned ht (Ne.symm h.nib_ne.1), head_setCell h.head _, h.now.keep (ht.block _ h.now.lt (Ne.symm q1)), h.was.keep (ht.block _ h.was.lt (Ne.symm q2)), h.tab.keep (ht.block _ h.tab.lt (Ne.symm q3)),
    h.pgs.keep fun x hx k hk => ht.block _ (h.apart k (.inr (.inr (.inr (.inr ⟨x, hx, hk⟩))))).2.2 (fun e => q4 x hx (by rw [hk, e])), ⟨h.ok.n0, h.ok.n1, h.ok.was, h1, h2, h.ok.s0, h.ok.s1, h.ok.keys, h.ok.jn⟩, fun k hk => ⟨(h.apart k hk).1, (h.apart k hk).2.1, Nat.lt_of_lt_of_le (h.apart k hk).2.2 ht.size⟩, h.sep⟩
theorem PgAt.put_change (h : PgAt w F p f P) (e : Bool) : PgAt (w.setCell ⟨f.q, 6, none⟩ (.bool e)) F p f { P with change := e } := by
  have ht := turned_one w f.q 6 (.bool e)
  obtain ⟨q1, q2, q3, q4, _⟩ := h.qn
  exact ⟨h.jat.turned ht fun k hk e => by rw [e] at hk; exact (h.apart _ (.inl rfl)).1 hk, h.nib.of_turned ht (Ne.symm h.nib_ne.1), head_setCell h.head _, h.now.keep (ht.block _ h.now.lt (Ne.symm q1)), h.was.keep (ht.block _ h.was.lt (Ne.symm q2)), h.tab.keep (ht.block _ h.tab.lt (Ne.symm q3)),
    h.pgs.keep fun x hx k hk => ht.block _ (h.apart k (.inr (.inr (.inr (.inr ⟨x, hx, hk⟩))))).2.2 (fun e => q4 x hx (by rw [hk, e])), ⟨h.ok.n0, h.ok.n1, h.ok.was, h.ok.r0, h.ok.r1, h.ok.s0, h.ok.s1, h.ok.keys, h.ok.jn⟩, fun k hk => ⟨(h.apart k hk).1, (h.apart k hk).2.1, Nat.lt_of_lt_of_le (h.apart k hk).2.2 ht.size⟩, h.sep⟩
theorem heard_any (h : PgAt w F p f P) (x : Int) : Calls Tryd.prog 40 #[qptr f.q, .int .i64 x] w fun e w' => e = .returned (.int .i64 x) ∧ PgAt w' F p f { P with off := heardOff P.off x } ∧ Turned (PJ F p f) w w' := by
  obtain ⟨c0, c1, c2, c3, c4, c5, c6, c7⟩ := h.cells
  have f7 := h.frozen 7
  have HP := Lib.hid (And.intro (h.put_off x) (turned_q w F p f 7 (.int .i64 x)))
  have HH := Lib.hid h
  clear h
  by_cases h1 : x = 43
  · have e : heardOff P.off x = x := by rw [heardOff, if_pos (.inl h1)]
    rw [e]
    subst h1
    clear e
    go_enter Tryd.func40, Tryd.ntmps40
    go_wp2
    go_ret
    exact ⟨rfl, HP.out⟩
  have d1 : (x == 43) = false := by simpa using h1
  by_cases h2 : x = 44
  · have e : heardOff P.off x = x := by rw [heardOff, if_pos (.inr h2)]
    rw [e]
    subst h2
    clear e
    go_enter Tryd.func40, Tryd.ntmps40
    go_wp2
    go_ret
    exact ⟨rfl, HP.out⟩
  have d2 : (x == 44) = false := by simpa using h2
  have e : heardOff P.off x = P.off := by rw [heardOff, if_neg (by simp [h1, h2])]
  rw [e]
  clear e h1 h2
  go_enter Tryd.func40, Tryd.ntmps40
  go_wp2
  go_ret
  exact ⟨rfl, HH.out, Turned.refl _ _⟩
theorem Pg.fails_bounds {P : Pg} {page : Int} (h : P.fails page = 0) : -1 ≤ page ∧ page < (P.now.length : Int) := by
  unfold Pg.fails at h
  split at h
  · omega
  · split at h
    · omega
    · omega
theorem setroot_any (h : PgAt w F p f P) (page : Int) (b1 : -9223372036854775808 ≤ page) (b2 : page ≤ 9223372036854775807) :
    Calls Tryd.prog 32 #[qptr f.q, .int .i64 page] w fun e w' => e = .returned (.int .i64 (P.setRoot page).1) ∧ PgTo w F p f w' (P.setRoot page).2 := by
  have HF := Lib.hid (fails_any h page b1 b2)
  by_cases h0 : P.fails page = 0
  case neg =>
    have e : P.setRoot page = (P.fails page, P) := by rw [Pg.setRoot, if_pos h0]
    have d1 : (P.fails page != 0) = true := by simpa using h0
    have HS := Lib.hid (PgTo.same h)
    rw [e]
    clear h h0 e
    generalize P.fails page = x at *
    go_enter Tryd.func32, Tryd.ntmps32
    go_wp2_with (go_at_call 33; refine HF.out.mono ?_; rintro e w2 ⟨rfl, rfl⟩)
    go_ret
    exact ⟨rfl, HS.out⟩
  have e : P.setRoot page = (0, { P with root := page, change := true }) := by rw [Pg.setRoot, if_neg (by simp [h0])]
  rw [e]
  obtain ⟨k1, k2⟩ := Pg.fails_bounds h0
  have h1 := h.put_root page k1 k2
  have h2 := h1.put_change true
  have t1 := turned_q w F p f 2 (.int .i64 page)
  have t2 := turned_q (w.setCell ⟨f.q, 2, none⟩ (.int .i64 page)) F p f 6 (.bool true)
  have HX : Hid (PgTo w F p f _ { P with root := page, change := true }) := Lib.hid ⟨f, h2, rfl, fun _ hk => .inl hk, t1.trans t2⟩
  rw [h0] at HF
  obtain ⟨c0, c1, c2, c3, c4, c5, c6, c7⟩ := h.cells
  obtain ⟨g0, g1, g2, g3, g4, g5, g6, g7⟩ := h1.cells
  have f2 := h.frozen 2
  have f6 := h1.frozen 6
  clear h h1 h2 t1 t2 e h0 k1 k2
  go_enter Tryd.func32, Tryd.ntmps32
  go_wp2_with (go_at_call 33; refine HF.out.mono ?_; rintro e w2 ⟨rfl, rfl⟩)
  go_ret
  exact ⟨rfl, HX.out⟩
end
end Go.Proofs.YtbmmcaoifkboiaaDoor

/- A pager's Alloc, Free. -/
set_option linter.unusedVariables false
set_option linter.unusedSimpArgs false
set_option maxRecDepth 100000
namespace Go.Proofs.YtbmmcaoifkboiaaDoor
open Go.RowKit

theorem run_make896 (w : World) : (Instr.makeSlice 42 (.int .i64 896) (.int .i64 896)).run Tryd.prog w = .ok (.slice (some ⟨w.heap.size, 0, none⟩) 896 896) (w.alloc (.cells (bv z896).toArray 5)) := by
  rw [show (896 : Int) = ((896 : Nat) : Int) from rfl, run_make_row' (P := Tryd.prog) 42 5 (.int .u8 0) 1 Tryd.underlying42 info_byte rfl .i64 .i64 896 (by omega) (by simp) w]
  congr 3
  simp only [madeCells, bv, z896, List.map_replicate, List.size_toArray, List.toArray_replicate]
  apply Array.ext
  · simp
  · intro i h1 h2
    simp [Nat.mod_one]
theorem mine_z896 (w : World) : Mine 5 0 (w.alloc (.cells (bv z896).toArray 5)) (.slice (some ⟨w.heap.size, 0, none⟩) 896 896) z896 := by
  have h := Mine.lit (e := 5) (w := w) z896 (Nat.zero_le _) (by simp [maxLen, z896_length])
  rw [z896_length] at h
  exact h
theorem idxB_free (t : List Bool) : idxB t false = match freeAt t with | some k => (k : Int) | none => -1 := by
  have e : (fun b : Bool => b == false) = fun b => !b := by funext b; cases b <;> rfl
  simp only [idxB, freeAt, e]
  rfl
theorem freeAt_some {t : List Bool} {k : Nat} (h : freeAt t = some k) : k < t.length ∧ t.getD k true = false := by
  unfold freeAt at h
  obtain ⟨hk, h1, _⟩ := List.findIdx?_eq_some_iff_getElem.1 h
  refine ⟨hk, ?_⟩
  rw [List.getD_eq_getElem?_getD, List.getElem?_eq_getElem hk]
  simpa using h1
section
variable {w : World} {F : Ft} {p : Nat} {f : Pf} {P : Pg}
theorem PgAt.put_bit (h : PgAt w F p f P) (k : Nat) (b : Bool) : PgAt (w.setCell ⟨f.gn, k, none⟩ (.bool b)) F p f { P with now := P.now.set k b } := by
  have ht := turned_one w f.gn k (.bool b)
  obtain ⟨q1, q2, q3, q4, q5, q6, q7, q8, q9⟩ := h.qn
  have hl : (P.now.set k b).length = P.now.length := by simp
  refine ⟨h.jat.turned ht fun k hk e => by rw [e] at hk; exact (h.apart _ (.inr (.inl rfl))).1 hk, h.nib.of_turned ht (Ne.symm h.nib_ne.2.1), ?_, h.now.set k b, h.was.keep (ht.block _ h.was.lt (Ne.symm h.sep)), h.tab.keep (ht.block _ h.tab.lt (Ne.symm q5)),
    h.pgs.keep fun x hx k hk => ht.block _ (h.apart k (.inr (.inr (.inr (.inr ⟨x, hx, hk⟩))))).2.2 (fun e => q7 x hx (by rw [hk, e])), ?_, fun k hk => ⟨(h.apart k hk).1, (h.apart k hk).2.1, Nat.lt_of_lt_of_le (h.apart k hk).2.2 ht.size⟩, h.sep⟩
  · rw [ht.block _ (lt_of_heap h.head) q1, h.head]
    simp only [pgRow, hl]
  · have o := h.ok
    exact ⟨by rw [hl]; exact o.n0, by rw [hl]; exact o.n1, by rw [hl]; exact o.was, o.r0, by rw [hl]; exact o.r1, o.s0, by rw [hl]; exact o.s1, fun x hx => by rw [hl]; exact o.keys x hx, by rw [hl]; exact o.jn⟩
theorem turned_gn (w : World) (F : Ft) (p : Nat) (f : Pf) (i : Nat) (v : Value) : Turned (PJ F p f) w (w.setCell ⟨f.gn, i, none⟩ v) := (turned_one w f.gn i v).mono fun k _ e => .inr (.inr (.inl e))
theorem oPut_keys {o : List (Int × List UInt8)} {k : Int} {b : List UInt8} {n : Int} (h : ∀ x ∈ o, 0 ≤ x.1 ∧ x.1 < n) (h1 : 0 ≤ k) (h2 : k < n) : ∀ x ∈ oPut o k b, 0 ≤ x.1 ∧ x.1 < n := by
  intro x hx
  unfold oPut at hx
  split at hx
  · obtain ⟨y, hy, rfl⟩ := List.mem_map.1 hx
    split
    · exact ⟨h1, h2⟩
    · exact h y hy
  · rcases List.mem_append.1 hx with hx | hx
    · exact h x hx
    · rw [List.mem_singleton.1 hx]; exact ⟨h1, h2⟩
/-- a page laid into the table -/
theorem PgAt.put_own (h : PgAt w F p f P) {w1 w' : World} (hb : Below w.heap.size w w1) (k : Int) (h1 : 0 ≤ k) (h2 : k < (P.now.length : Int)) (b : List UInt8) (hl : b.length = 896) (v : Value) (hv : Mine 5 w.heap.size w1 v b) (ht : Turned (· = f.M) w1 w') (htab : OTab w' f.M (vPut f.kv k v)) :
    PgAt w' F p { f with kv := vPut f.kv k v } { P with own := oPut P.own k b } ∧ (∀ j, PT { f with kv := vPut f.kv k v } j → PT f j ∨ w.heap.size ≤ j) ∧ Turned (PJ F p f) w w' := by
  have g := h.below hb
  obtain ⟨q1, q2, q3, q4, q5, q6, q7, q8, q9⟩ := g.qn
  have hT : ∀ j, PT { f with kv := vPut f.kv k v } j → PT f j ∨ v.ownBlock = some j := by
    rintro j (e | e | e | e | ⟨x, hx, e⟩)
    · exact .inl (.inl e)
    · exact .inl (.inr (.inl e))
    · exact .inl (.inr (.inr (.inl e)))
    · exact .inl (.inr (.inr (.inr (.inl e))))
    · rcases mem_vPut hx with hx | hx
      · exact .inl (.inr (.inr (.inr (.inr ⟨x, hx, e⟩))))
      · rw [hx] at e; exact .inr e
  have hown : ∀ j, v.ownBlock = some j → w.heap.size ≤ j ∧ j < w1.heap.size ∧ j ≠ f.M := fun j hj => by
    obtain ⟨a, c, hc⟩ := own_lt hv hj.symm
    refine ⟨a, lt_of_heap hc, fun e => ?_⟩
    have := (h.apart _ (.inr (.inr (.inr (.inl rfl))))).2.2
    omega
  have hM : ¬ JT F p f.M := (h.apart _ (.inr (.inr (.inr (.inl rfl))))).1
  have hvm : Mine 5 0 w1 v b := World.ownsRow.mono hv (Nat.zero_le _)
  refine ⟨⟨g.jat.turned ht fun j hj e => hM (by rw [← e]; exact hj), g.nib.of_turned ht (Ne.symm g.nib_ne.2.2.2), (ht.block _ (lt_of_heap g.head) q3).trans g.head, g.now.keep (ht.block _ g.now.lt q5), g.was.keep (ht.block _ g.was.lt q6), htab, ?_, ?_, fun j hj => ?_, h.sep⟩, fun j hj => ?_, ?_⟩
  · have hp := g.pgs.put (k := k) hl hvm
    refine hp.keep fun x hx j hj => ?_
    rcases mem_vPut hx with hx | hx
    · exact ht.block _ (g.apart j (.inr (.inr (.inr (.inr ⟨x, hx, hj⟩))))).2.2 (fun e => q9 x hx (by rw [hj, e]))
    · rw [hx] at hj
      exact ht.block _ (hown j hj).2.1 (hown j hj).2.2
  · have o := h.ok
    exact ⟨o.n0, o.n1, o.was, o.r0, o.r1, o.s0, o.s1, oPut_keys o.keys h1 h2, o.jn⟩
  · rcases hT j hj with hj | hj
    · exact ⟨(g.apart j hj).1, (g.apart j hj).2.1, Nat.lt_of_lt_of_le (g.apart j hj).2.2 ht.size⟩
    · refine ⟨fun e => ?_, fun e => ?_, Nat.lt_of_lt_of_le (hown j hj).2.1 ht.size⟩
      · have := h.jat.lt e
        have := (hown j hj).1
        omega
      · have h3 := (hown j hj).1
        have h4 := nib_lt h.nib
        omega
  · rcases hT j hj with hj | hj
    · exact .inl hj
    · exact .inr (hown j hj).1
  · exact (Turned.of_below hb).trans (ht.mono fun j _ e => .inr (.inr (.inr (.inr (.inl e)))))
set_option maxHeartbeats 8000000 in
theorem alloc_any (h : PgAt w F p f P) :
    Calls Tryd.prog 12 #[qptr f.q] w fun e w' => e = .returned (.tuple #[.int .i64 P.alloc.1.1, .int .i64 P.alloc.1.2]) ∧ PgTo w F p f w' P.alloc.2 := by
  have HF := Lib.hid (fails_any h (-1) (by omega) (by omega))
  by_cases h0 : P.fails (-1) = 0
  case neg =>
    have e : P.alloc = ((0, P.fails (-1)), P) := by rw [Pg.alloc, if_pos h0]
    have d1 : (P.fails (-1) != 0) = true := by simpa using h0
    have HS := Lib.hid (PgTo.same h)
    rw [e]
    clear h h0 e
    generalize P.fails (-1) = x at *
    go_enter Tryd.func12, Tryd.ntmps12
    go_wp2_with (go_at_call 33; refine HF.out.mono ?_; rintro e w2 ⟨rfl, rfl⟩)
    go_ret2
    exact ⟨rfl, HS.out⟩
  rw [h0] at HF
  have HI := Lib.hid (indexO_any w 0 _ P.now false (h.now.mine 0 (Nat.zero_le _)) (by have := h.ok.n1; omega))
  obtain ⟨c0, c1, c2, c3, c4, c5, c6, c7⟩ := h.cells
  cases hfa : freeAt P.now with
  | none =>
    have e : P.alloc = ((0, 80), P) := by rw [Pg.alloc, if_neg (by simp [h0]), hfa]
    rw [idxB_free, hfa] at HI
    dsimp only at HI
    have HS := Lib.hid (PgTo.same h)
    rw [e]
    clear h h0 e hfa
    go_enter Tryd.func12, Tryd.ntmps12
    go_wp2_with (first | (go_at_call 33; refine HF.out.mono ?_; rintro e w2 ⟨rfl, rfl⟩) | (go_at_call 34; refine HI.out.mono ?_; rintro e w2 ⟨rfl, rfl⟩))
    go_ret2
    exact ⟨rfl, HS.out⟩
  | some k =>
    have e : P.alloc = (((k : Int), 0), { P with now := P.now.set k true, own := oPut P.own k z896, change := true }) := by rw [Pg.alloc, if_neg (by simp [h0]), hfa]
    obtain ⟨hk, _⟩ := freeAt_some hfa
    rw [idxB_free, hfa] at HI
    dsimp only at HI
    rw [e]
    have hkn : ¬ ((k : Int) < 0) := by omega
    have hkl : (k : Int) < (P.now.length : Int) := by omega
    have hk0 : (0 : Int) ≤ (k : Int) := by omega
    obtain ⟨ck, hcell⟩ : ∃ u, w.cell? ⟨f.gn, k, none⟩ = some u := ⟨_, h.now.cell k hk⟩
    have hfz := h.now.frozen k
    have H1 := Lib.hid (h.put_bit k true)
    have HT1 := Lib.hid (turned_gn w F p f k (.bool true))
    have HN := Lib.hid hk
    have hmk := run_make896
    clear h h0 e hfa hk
    go_enter Tryd.func12, Tryd.ntmps12
    go_upto_region 8 with (first | (go_at_call 33; refine HF.out.mono ?_; rintro e w2 ⟨rfl, hw2⟩; rw [hw2]; clear hw2 w2) | (go_at_call 34; refine HI.out.mono ?_; rintro e w2 ⟨rfl, hw2⟩; rw [← hw2]; clear hw2 w2))
    have h1 := H1.out
    have t1 := HT1.out
    have hl1 : (P.now.set k true).length = P.now.length := by simp
    generalize w.setCell ⟨f.gn, k, none⟩ (.bool true) = w1 at *
    have hb2 : Below w1.heap.size w1 (w1.alloc (.cells (bv z896).toArray 5)).drew := ((Below.refl _ _).alloc (Nat.le_refl _) _).drew
    obtain ⟨w3, hput, htab3, ht3⟩ := (h1.tab.keep (hb2.block _ h1.tab.lt)).run_put (P := Tryd.prog) (T := 66) Tryd.underlying66 Tryd.underlying3 (k : Int) (.slice (some ⟨w1.heap.size, 0, none⟩) 896 896)
    have hz : Mine 5 w1.heap.size ((w1.alloc (.cells (bv z896).toArray 5)).drew) (.slice (some ⟨w1.heap.size, 0, none⟩) 896 896) z896 := by
      have := Mine.lit (e := 5) (w := w1) z896 (Nat.le_refl _) (by simp [maxLen, z896_length])
      rw [z896_length] at this
      exact this
    obtain ⟨h3, k3, t3⟩ := h1.put_own hb2 (k : Int) (by omega) (by rw [hl1]; exact hkl) z896 z896_length _ hz ht3 htab3
    have h4 := h3.put_change true
    have t4 := turned_q w3 F p { f with kv := vPut f.kv k (.slice (some ⟨w1.heap.size, 0, none⟩) 896 896) } 6 (.bool true)
    obtain ⟨g0, g1, g2, g3, g4, g5, g6, g7⟩ := h1.cells
    obtain ⟨m0, m1, m2, m3, m4, m5, m6, m7⟩ := h3.cells
    have f6 := h3.frozen 6
    dsimp only at m6 f6 g5 k3 t3
    clear m0 m1 m2 m3 m4 m5 m7 g0 g1 g2 g3 g4 g6 g7
    have g5b := cells_below hb2 _ _ g5
    have g5a : (w1.alloc (.cells (bv z896).toArray 5)).cell? ⟨f.q, 5, none⟩ = some (.map (some f.M)) := g5b
    have HX : Hid (PgTo w F p f _ { P with now := P.now.set k true, own := oPut P.own k z896, change := true }) := Lib.hid
      (PgTo.then (f1 := f) rfl (fun _ hk => .inl hk) t1 (PgTo.then (f1 := { f with kv := vPut f.kv k (.slice (some ⟨w1.heap.size, 0, none⟩) 896 896) }) rfl k3 t3 ⟨_, h4, rfl, fun _ hk => .inl hk, t4⟩))
    clear h1 t1 hb2 htab3 ht3 hz h3 k3 t3 h4 t4 H1 HT1 HN c0 c1 c2 c3 c4 c5 c6 c7 HF HI
    go_region
    go_wp2_with fail
    go_ret2
    exact ⟨rfl, HX.out⟩
end
end Go.Proofs.YtbmmcaoifkboiaaDoor

/- A pager's Free, Write. -/
set_option linter.unusedVariables false
set_option linter.unusedSimpArgs false
set_option maxRecDepth 100000
namespace Go.Proofs.YtbmmcaoifkboiaaDoor
open Go.RowKit

section
variable {w : World} {F : Ft} {p : Nat} {f : Pf} {P : Pg}
theorem Pg.must_bounds {P : Pg} {page : Int} (h : P.must page = 0) : 0 ≤ page ∧ page < (P.now.length : Int) ∧ P.now.getD page.toNat false = true ∧ P.fails page = 0 := by
  unfold Pg.must at h
  split at h
  · rename_i h1
    have hf := h
    unfold Pg.fails at h
    have hb := Pg.fails_bounds hf
    have hp : page ≠ -1 := h1.elim (fun e => absurd hf e) id
    refine ⟨by omega, by omega, ?_, hf⟩
    split at h
    · rename_i h2; exact absurd h h2
    · split at h
      · omega
      · rename_i h3
        cases hg : P.now.getD page.toNat false with
        | true => rfl
        | false => exact absurd (.inr (.inr ⟨by omega, hg⟩)) h3
  · omega
theorem oDel_keys {o : List (Int × List UInt8)} {k : Int} {n : Int} (h : ∀ x ∈ o, 0 ≤ x.1 ∧ x.1 < n) : ∀ x ∈ oDel o k, 0 ≤ x.1 ∧ x.1 < n := fun x hx => h x (List.mem_filter.1 hx).1
/-- a page taken out of the table -/
theorem PgAt.del_own (h : PgAt w F p f P) {w' : World} (k : Int) (ht : Turned (· = f.M) w w') (htab : OTab w' f.M (vDel f.kv k)) :
    PgAt w' F p { f with kv := vDel f.kv k } { P with own := oDel P.own k } ∧ (∀ j, PT { f with kv := vDel f.kv k } j → PT f j ∨ w.heap.size ≤ j) ∧ Turned (PJ F p f) w w' := by
  obtain ⟨q1, q2, q3, q4, q5, q6, q7, q8, q9⟩ := h.qn
  have hT : ∀ j, PT { f with kv := vDel f.kv k } j → PT f j := by
    rintro j (e | e | e | e | ⟨x, hx, e⟩)
    · exact .inl e
    · exact .inr (.inl e)
    · exact .inr (.inr (.inl e))
    · exact .inr (.inr (.inr (.inl e)))
    · exact .inr (.inr (.inr (.inr ⟨x, mem_vDel hx, e⟩)))
  have hM : ¬ JT F p f.M := (h.apart _ (.inr (.inr (.inr (.inl rfl))))).1
  refine ⟨⟨h.jat.turned ht fun j hj e => hM (by rw [← e]; exact hj), h.nib.of_turned ht (Ne.symm h.nib_ne.2.2.2), (ht.block _ (lt_of_heap h.head) q3).trans h.head, h.now.keep (ht.block _ h.now.lt q5), h.was.keep (ht.block _ h.was.lt q6), htab, ?_, ?_, fun j hj => ?_, h.sep⟩, fun j hj => .inl (hT j hj), ht.mono fun j _ e => .inr (.inr (.inr (.inr (.inl e))))⟩
  · exact (h.pgs.del k).keep fun x hx j hj => ht.block _ (h.apart j (.inr (.inr (.inr (.inr ⟨x, mem_vDel hx, hj⟩))))).2.2 (fun e => q9 x (mem_vDel hx) (by rw [hj, e]))
  · have o := h.ok
    exact ⟨o.n0, o.n1, o.was, o.r0, o.r1, o.s0, o.s1, oDel_keys o.keys, o.jn⟩
  · have := h.apart j (hT j hj)
    exact ⟨this.1, this.2.1, Nat.lt_of_lt_of_le this.2.2 ht.size⟩
set_option maxHeartbeats 8000000 in
theorem free_any (h : PgAt w F p f P) (page : Int) (b1 : -9223372036854775808 ≤ page) (b2 : page ≤ 9223372036854775807) :
    Calls Tryd.prog 13 #[qptr f.q, .int .i64 page] w fun e w' => e = .returned (.int .i64 (P.free page).1) ∧ PgTo w F p f w' (P.free page).2 := by
  have HF := Lib.hid (must_any h page b1 b2)
  by_cases h0 : P.must page = 0
  case neg =>
    have e : P.free page = (P.must page, P) := by rw [Pg.free, if_pos h0]
    have d1 : (P.must page != 0) = true := by simpa using h0
    have HS := Lib.hid (PgTo.same h)
    rw [e]
    clear h h0 e
    generalize P.must page = x at *
    go_enter Tryd.func13, Tryd.ntmps13
    go_wp2_with (go_at_call 35; refine HF.out.mono ?_; rintro e w2 ⟨rfl, rfl⟩)
    go_ret
    exact ⟨rfl, HS.out⟩
  rw [h0] at HF
  obtain ⟨c0, c1, c2, c3, c4, c5, c6, c7⟩ := h.cells
  by_cases hr : page = P.root
  · have e : P.free page = (2, P) := by rw [Pg.free, if_neg (by simp [h0]), if_pos hr]
    have d1 : (page == P.root) = true := by simpa using hr
    have HS := Lib.hid (PgTo.same h)
    rw [e]
    clear h h0 e hr
    generalize P.root = R at *
    go_enter Tryd.func13, Tryd.ntmps13
    go_wp2_with (go_at_call 35; refine HF.out.mono ?_; rintro e w2 ⟨rfl, rfl⟩)
    go_ret
    exact ⟨rfl, HS.out⟩
  have e : P.free page = (0, { P with now := P.now.set page.toNat false, own := oDel P.own page, change := true }) := by rw [Pg.free, if_neg (by simp [h0]), if_neg hr]
  have d1 : (page == P.root) = false := by simpa using hr
  rw [e]
  obtain ⟨k0, k1, _, _⟩ := Pg.must_bounds h0
  obtain ⟨ck, hcell⟩ : ∃ u, w.cell? ⟨f.gn, page.toNat, none⟩ = some u := ⟨_, h.now.cell page.toNat (by omega)⟩
  have hfz := h.now.frozen page.toNat
  have h1 := h.put_bit page.toNat false
  have t1 := turned_gn w F p f page.toNat (.bool false)
  obtain ⟨g0, g1, g2, g3, g4, g5, g6, g7⟩ := h1.cells
  obtain ⟨w2, hdel, htab2, ht2⟩ := h1.tab.run_del (P := Tryd.prog) (T := 66) Tryd.underlying66 Tryd.underlying3 page 0
  obtain ⟨h2, k2, t2⟩ := h1.del_own page ht2 htab2
  have h3 := h2.put_change true
  have t3 := turned_q w2 F p { f with kv := vDel f.kv page } 6 (.bool true)
  obtain ⟨m0, m1, m2, m3, m4, m5, m6, m7⟩ := h2.cells
  have f6 := h2.frozen 6
  dsimp only at m6 f6 g5
  have HX : Hid (PgTo w F p f _ { P with now := P.now.set page.toNat false, own := oDel P.own page, change := true }) := Lib.hid
    (PgTo.then (f1 := f) rfl (fun _ hk => .inl hk) t1 (PgTo.then (f1 := { f with kv := vDel f.kv page }) rfl k2 t2 ⟨_, h3, rfl, fun _ hk => .inl hk, t3⟩))
  clear h h0 e hr h1 t1 h2 k2 t2 h3 t3 htab2 ht2 m0 m1 m2 m3 m4 m5 m7 g0 g1 g2 g3 g4 g6 g7
  generalize P.root = R at *
  go_enter Tryd.func13, Tryd.ntmps13
  go_wp2_with (go_at_call 35; refine HF.out.mono ?_; rintro e w9 ⟨rfl, hw9⟩; rw [hw9]; clear hw9 w9)
  go_ret
  exact ⟨rfl, HX.out⟩
set_option maxHeartbeats 8000000 in
theorem pwrite_any (h : PgAt w F p f P) (page : Int) (b1 : -9223372036854775808 ≤ page) (b2 : page ≤ 9223372036854775807) (v : Value) (b : List UInt8) (hv : IsB w v b) :
    Calls Tryd.prog 17 #[qptr f.q, .int .i64 page, v] w fun e w' => e = .returned (.int .i64 (P.write page b).1) ∧ PgTo w F p f w' (P.write page b).2 := by
  have HF := Lib.hid (must_any h page b1 b2)
  by_cases h0 : P.must page = 0
  case neg =>
    have e : P.write page b = (P.must page, P) := by rw [Pg.write, if_pos h0]
    have d1 : (P.must page != 0) = true := by simpa using h0
    have HS := Lib.hid (PgTo.same h)
    rw [e]
    clear h h0 e
    generalize P.must page = x at *
    go_enter Tryd.func17, Tryd.ntmps17
    go_wp2_with (go_at_call 35; refine HF.out.mono ?_; rintro e w2 ⟨rfl, rfl⟩)
    go_ret
    exact ⟨rfl, HS.out⟩
  rw [h0] at HF
  obtain ⟨a, c, rfl, hc1, hc2⟩ := hv.form
  by_cases hr : b.length = 896
  case neg =>
    have e : P.write page b = (2, P) := by rw [Pg.write, if_neg (by simp [h0]), if_pos hr]
    have d1 : ((b.length : Int) != 896) = true := by rw [bne_iff_ne]; omega
    have HS := Lib.hid (PgTo.same h)
    rw [e]
    clear h h0 e hr hv
    go_enter Tryd.func17, Tryd.ntmps17
    go_wp2_with (go_at_call 35; refine HF.out.mono ?_; rintro e w2 ⟨rfl, rfl⟩)
    go_ret
    exact ⟨rfl, HS.out⟩
  have e : P.write page b = (0, { P with own := oPut P.own page b, change := true }) := by rw [Pg.write, if_neg (by simp [h0]), if_neg (by simp [hr])]
  rw [e]
  obtain ⟨k0, k1, _, _⟩ := Pg.must_bounds h0
  obtain ⟨c0, c1, c2, c3, c4, c5, c6, c7⟩ := h.cells
  have HC := Lib.hid (clone_any _ b w.drew hv (by omega))
  have HV := Lib.hid hv
  have HR := Lib.hid hr
  rw [hr] at HC HV ⊢
  clear c0 c1 c2 c3 c4 c6 c7 e h0 hv hr
  have HH := Lib.hid h
  clear h
  go_enter Tryd.func17, Tryd.ntmps17
  go_upto_region 6 with (go_at_call 35; refine HF.out.mono ?_; rintro e w9 ⟨rfl, hw9⟩; rw [hw9]; clear hw9 w9)
  go_region_with (first | (go_at_call 42; refine HC.out.mono ?_; rintro e w2 ⟨u, rfl, hu, hb2⟩; have hb2 := (Below.refl w.heap.size w).drew.trans hb2; obtain ⟨w3, hput, htab3, ht3⟩ := ((HH.out.below hb2).tab).run_put (P := Tryd.prog) (T := 66) Tryd.underlying66 Tryd.underlying3 page u; obtain ⟨h3, k3, t3⟩ := HH.out.put_own hb2 page k0 k1 b HR.out _ hu ht3 htab3; have h4 := h3.put_change true; have t4 := turned_q w3 F p { f with kv := vPut f.kv page u } 6 (.bool true); obtain ⟨m0, m1, m2, m3, m4, m5, m6, m7⟩ := h3.cells; have f6 := h3.frozen 6; dsimp only at m6 f6; have g5 := (HH.out.below hb2).cells.2.2.2.2.2.1; have HX : Hid (PgTo w F p f (w3.setCell ⟨f.q, 6, none⟩ (.bool true)) { P with own := oPut P.own page b, change := true }) := Lib.hid (PgTo.then (f1 := { f with kv := vPut f.kv page u }) rfl k3 t3 ⟨_, h4, rfl, fun _ hk => .inl hk, t4⟩); clear m0 m1 m2 m3 m4 m5 m7 h3 k3 t3 h4 t4 htab3 ht3 hb2 hu))
  all_goals
    go_wp2_with fail
    go_ret
    exact ⟨rfl, HX.out⟩
end
end Go.Proofs.YtbmmcaoifkboiaaDoor

/- A pager's Read. -/
set_option linter.unusedVariables false
set_option linter.unusedSimpArgs false
set_option maxRecDepth 100000
namespace Go.Proofs.YtbmmcaoifkboiaaDoor
open Go.RowKit

theorem Jn.read_D (J : Jn) (a : Int) : (J.read a).2.2.D = J.D := by unfold Jn.read; (repeat' split) <;> rfl
theorem Jn.read_ok {J : Jn} {a : Int} (h : (J.read a).2.1 = 0) : (J.read a).2.2 = J := by
  unfold Jn.read at h ⊢
  split
  · rename_i h0
    rfl
  · rename_i h0
    rw [if_neg h0] at h
    split
    · rfl
    · rename_i h1
      rw [if_neg h1] at h
      split
      · rename_i h2
        rw [if_pos h2] at h
        cases h
      · split <;> rfl
theorem Jn.read_len (J : Jn) (a : Int) : (J.read a).1.length ≤ 112 := by
  have : ∀ (l : List UInt8) (k : Nat), (fbytes (sec l k)).length ≤ 112 := fun l k => by simp [fbytes, sec]; omega
  unfold Jn.read
  (repeat' split) <;> first | exact this _ _ | simp
theorem Jn.reads_D (J : Jn) (a : Int) : ∀ k, (J.reads a k).2.2.D = J.D
  | 0 => rfl
  | k + 1 => by
    have ih := Jn.reads_D J a k
    rw [Jn.reads]
    simp only
    split
    · exact ih
    · split <;> · simp only [Jn.read_D]; exact ih
theorem Jn.reads_len (J : Jn) (a : Int) : ∀ k, (J.reads a k).1.length ≤ 112 * k
  | 0 => by simp [Jn.reads]
  | k + 1 => by
    have ih := Jn.reads_len J a k
    have h2 := Jn.read_len (J.reads a k).2.2 (a + k)
    rw [Jn.reads]
    simp only
    split
    · omega
    · split
      · simp
      · simp only [List.length_append]; omega
theorem Jn.reads_ok {J : Jn} {a : Int} : ∀ {k : Nat}, (J.reads a k).2.1 = 0 → (J.reads a k).2.2 = J
  | 0, _ => rfl
  | k + 1, h => by
    rw [Jn.reads] at h ⊢
    simp only at h ⊢
    split at h
    · rename_i h1; exact absurd h h1
    · rename_i h1
      rw [if_neg h1]
      have ih := Jn.reads_ok (Decidable.not_not.1 h1)
      split at h
      · rename_i h2; exact absurd h h2
      · rename_i h2
        rw [if_neg h2]
        show ((J.reads a k).2.2.read (a + k)).2.2 = J
        rw [Jn.read_ok (Decidable.not_not.1 h2), ih]
/-- once an error has come it stays -/
theorem Jn.reads_err {J : Jn} {a : Int} {k : Nat} (h : (J.reads a k).2.1 ≠ 0) : ∀ m, k ≤ m → J.reads a m = J.reads a k := by
  intro m hm
  induction m with
  | zero => obtain rfl : k = 0 := by omega
            rfl
  | succ m ih =>
    by_cases e : k = m + 1
    · rw [e]
    · have := ih (by omega)
      rw [Jn.reads]
      simp only
      rw [this, if_pos h]
theorem Jn.reads_next {J : Jn} {a : Int} {k : Nat} (h : (J.reads a k).2.1 = 0) (h2 : (J.read (a + k)).2.1 = 0) : J.reads a (k + 1) = ((J.reads a k).1 ++ (J.read (a + k)).1, 0, J) := by
  rw [Jn.reads]
  simp only
  rw [if_neg (by simp [h]), Jn.reads_ok h, if_neg (by simp [h2]), Jn.read_ok h2]
theorem Jn.reads_stop {J : Jn} {a : Int} {k : Nat} (h : (J.reads a k).2.1 = 0) (h2 : (J.read (a + k)).2.1 ≠ 0) : J.reads a (k + 1) = ([], (J.read (a + k)).2.1, (J.read (a + k)).2.2) := by
  rw [Jn.reads]
  simp only
  rw [if_neg (by simp [h]), Jn.reads_ok h, if_pos h2]
theorem run_make0_896 (w : World) : (Instr.makeSlice 42 (.int .i64 0) (.int .i64 896)).run Tryd.prog w = .ok (.slice (some ⟨w.heap.size, 0, none⟩) 0 896) (w.alloc (.cells (bv z896).toArray 5)) := by
  obtain ⟨i, hi, hz, hs, hb⟩ := info_parts (P := Tryd.prog) (e := 5) info_byte
  have hr := run_make (P := Tryd.prog) w 42 5 i (.int .u8 0) Tryd.underlying42 hi hz .i64 .i64 0 896 (by omega) (by omega) (by rw [hb]; omega) (by omega)
  rw [hr, hs]
  have e : madeCells (Value.int .u8 0).cells ((896 : Int).toNat * 1) = (bv z896).toArray := by
    simp only [madeCells, bv, z896, List.map_replicate, List.size_toArray, List.toArray_replicate, Value.cells]
    apply Array.ext
    · simp
    · intro i h1 h2
      simp [Nat.mod_one]
  rw [e]
  rfl
theorem mine_make0 (w : World) : Mine 5 w.heap.size (w.alloc (.cells (bv z896).toArray 5)) (.slice (some ⟨w.heap.size, 0, none⟩) 0 896) [] :=
  ⟨rfl, .inr ⟨w.heap.size, 896, _, rfl, Nat.le_refl _, heap_alloc_new w _, Nat.zero_le _, by simp [maxLen], by simp [bv, z896], rfl⟩⟩
theorem Mine.keep {B : Nat} {e : TypeId} {w w' : World} {v : Value} {l : List UInt8} (h : Mine e B w v l) (hw : ∀ k, B ≤ k → k < w.heap.size → w'.heap[k]? = w.heap[k]?) : Mine e B w' v l := own_keep h hw
theorem PgAt.on {w w1 w2 : World} {F : Ft} {p : Nat} {f : Pf} {P P' : Pg} (h0 : PgAt w F p f P) (h : PgAt w1 F p f P') (hb : Below w.heap.size w1 w2) : PgAt w2 F p f P' := h.keep (fun k hk => hb.block k (h0.lt3 hk)) hb.size
theorem Turned.on {T : Nat → Prop} {w w1 w2 : World} (h : Turned T w w1) (hb : Below w.heap.size w1 w2) : Turned T w w2 :=
  ⟨hb.os.trans h.os, hb.tape.trans h.tape, hb.output.trans h.output, Nat.le_trans h.size hb.size, fun k hk hn => (hb.block k hk).trans (h.block k hk hn)⟩
section
variable {w : World} {F : Ft} {p : Nat} {f : Pf} {P : Pg}
/-- what Read leaves -/
def ReadEnd (w : World) (F : Ft) (p : Nat) (f : Pf) (r : List UInt8 × Int × Pg) (e : Ending) (w' : World) : Prop :=
  ∃ v, e = .returned (.tuple #[v, .int .i64 r.2.1]) ∧ Mine 5 w.heap.size w' v r.1 ∧ PgAt w' F p f r.2.2 ∧ Turned (PJ F p f) w w'
set_option maxHeartbeats 8000000 in
theorem pread_any (h : PgAt w F p f P) (page : Int) (b1 : -9223372036854775808 ≤ page) (b2 : page ≤ 9223372036854775807) :
    Calls Tryd.prog 19 #[qptr f.q, .int .i64 page] w (ReadEnd w F p f (P.read page)) := by
  have HF := Lib.hid (must_any h page b1 b2)
  by_cases h0 : P.must page = 0
  case neg =>
    have e : P.read page = ([], P.must page, P) := by rw [Pg.read, if_pos h0]
    have d1 : (P.must page != 0) = true := by simpa using h0
    have HS := Lib.hid h
    rw [e]
    clear h h0 e
    generalize P.must page = x at *
    go_enter Tryd.func19, Tryd.ntmps19
    go_wp2_with (go_at_call 35; refine HF.out.mono ?_; rintro e w9 ⟨rfl, hw9⟩; rw [hw9]; clear hw9 w9)
    go_ret2
    exact ⟨_, rfl, Mine.nil _ _ _, HS.out, Turned.refl _ _⟩
  rw [h0] at HF
  obtain ⟨k0, k1, _, _⟩ := Pg.must_bounds h0
  obtain ⟨c0, c1, c2, c3, c4, c5, c6, c7⟩ := h.cells
  have hlo := h.tab.kmap.run_look_ok (P := Tryd.prog) (T := 66) Tryd.underlying66 Tryd.underlying3 (.slice none 0 0) (fun w => by kernel_rfl) page
  rcases h.pgs.look page with ⟨l1, l2⟩ | ⟨v, b, l1, l2, l3, l4, l5⟩
  case inr =>
    have e : P.read page = (b, 0, P) := by rw [Pg.read, if_neg (by simp [h0]), l2]
    rw [e]
    rw [l1] at hlo
    have HC := Lib.hid (clone_any v b w l4.isB (by omega))
    have HH := Lib.hid h
    dsimp only [Option.getD, Option.isSome] at hlo
    clear e h l1 l2 h0
    go_enter Tryd.func19, Tryd.ntmps19
    go_wp2_with (first | (go_at_call 35; refine HF.out.mono ?_; rintro e w9 ⟨rfl, hw9⟩; rw [hw9]; clear hw9 w9) | (go_at_call 42; refine HC.out.mono ?_; rintro e w2 ⟨u, rfl, hu, hb2⟩))
    go_ret2
    exact ⟨_, rfl, hu, HH.out.below hb2, Turned.of_below hb2⟩
  have hn := h.ok.n1
  have w1 : IntKind.i64.wrap (page * 8) = page * 8 := IntWalk.i64_in _ (by omega)
  have w2 : IntKind.i64.wrap (2 + page * 8) = 2 + page * 8 := IntWalk.i64_in _ (by omega)
  have hmk := run_make0_896
  have e : P.read page = if (P.J.reads (2 + page * 8) 8).2.1 ≠ 0 then ([], (P.J.reads (2 + page * 8) 8).2.1, { P with J := (P.J.reads (2 + page * 8) 8).2.2, off := heardOff P.off (P.J.reads (2 + page * 8) 8).2.1 }) else ((P.J.reads (2 + page * 8) 8).1, 0, { P with J := (P.J.reads (2 + page * 8) 8).2.2 }) := by
    rw [Pg.read, if_neg (by simp [h0]), l2]
  have HE := Lib.hid e
  rw [l1] at hlo
  dsimp only [Option.getD, Option.isSome] at hlo
  have HH := Lib.hid h
  clear e h l1 l2 h0
  go_enter Tryd.func19, Tryd.ntmps19
  go_wp2_with (go_at_call 35; refine HF.out.mono ?_; rintro e w9 ⟨rfl, hw9⟩; rw [hw9]; clear hw9 w9)
  go_loopw [9, 32] (fun o x wr => ∃ k : Nat, k ≤ 8 ∧ x = .int .i64 (k : Int) ∧ (P.J.reads (2 + page * 8) k).2.1 = 0 ∧ Mine 5 w.heap.size wr o (P.J.reads (2 + page * 8) k).1 ∧ PgAt wr F p f P ∧ Turned (PJ F p f) w wr) (fun _ x _ => 8 - (intOf x).toNat)
  case atStart =>
    have hb : Below w.heap.size w (w.alloc (.cells (bv z896).toArray 5)) := (Below.refl _ _).alloc (Nat.le_refl _) _
    exact ⟨0, Nat.zero_le _, rfl, rfl, mine_make0 w, HH.out.below hb, Turned.of_below hb⟩
  case round =>
    obtain ⟨k, hk, rfl, hok, hm, hp, ht⟩ := hrel
    obtain ⟨a, c, rfl, _, _⟩ := hm.isB.form
    by_cases hlt : k < 8
    · have hd : decide ((k : Int) < 8) = true := decide_eq_true (by omega)
      have w3 : IntKind.i64.wrap (2 + page * 8 + (k : Int)) = 2 + page * 8 + (k : Int) := IntWalk.i64_in _ (by omega)
      obtain ⟨g0, _⟩ := hp.cells
      have HJ := Lib.hid (jread_any wr F p P.J hp.jat hp.nib (by have := hp.n22; omega) (2 + page * 8 + (k : Int)) (by omega) (by omega))
      have HP := Lib.hid hp
      have HT := Lib.hid ht
      have HM := Lib.hid hm
      have hsz := ht.size
      have HOK := Lib.hid hok
      have hlen := Jn.reads_len P.J (2 + page * 8) k
      clear hp ht hm hok c0 c1 c2 c3 c4 c5 c6 c7
      go_wp2_with fail
      refine HJ.out.mono ?_
      rintro e w4 ⟨v, rfl, hv, hj4, ht4⟩
      have hp4 := HP.out.put_j hj4 ht4 (by rw [Jn.read_D])
      have hpj : Turned (PJ F p f) wr w4 := ht4.mono fun _ _ e => .inl e
      have hm4 := HM.out.keep (w' := w4) fun k h1 h2 => ht4.block k h2 fun e => by
        have := HH.out.jat.lt e
        omega
      obtain ⟨va, vc, rfl, _, _⟩ := hv.now.form
      have hlen2 := Jn.read_len P.J (2 + page * 8 + (k : Int))
      by_cases hz : (P.J.read (2 + page * 8 + (k : Int))).2.1 = 0
      · have hd2 : ((P.J.read (2 + page * 8 + (k : Int))).2.1 != 0) = false := by simpa using hz
        have HN := Lib.hid (Jn.reads_next HOK.out hz)
        have HP4 : Hid (PgAt w4 F p f P) := Lib.hid (by rw [Jn.read_ok hz] at hp4; exact hp4)
        have HT4 := Lib.hid (HT.out.trans hpj)
        have HB := Lib.hid hv.now
        have HZ := Lib.hid hz
        have HM4 := Lib.hid hm4
        clear hp4 hj4 ht4 hpj hv hm4 hz
        generalize (P.J.read (2 + page * 8 + (k : Int))) = R at *
        generalize (P.J.reads (2 + page * 8) k) = L at *
        have hsz4 := HT4.out.size
        go_wp2_with (at_builtin; refine wpList_bytes rfl (.tmp 53) (.tmp 54) 42 rfl w.heap.size 5 info_byte Tryd.underlying42 _ L.1 rfl HM4.out _ R.1 rfl HB.out (by omega) hsz4 ?_)
        intro v' w6 hm6 _ hb6 _ _
        obtain ⟨a6, c6, rfl, _, _⟩ := hm6.isB.form
        have HM6 := Lib.hid hm6
        clear hm6
        go_wp2_with fail
        go_roundw
        case rel => exact ⟨k + 1, by omega, by go_num, by rw [HN.out], by rw [HN.out]; exact HM6.out, HH.out.on HP4.out hb6, HT4.out.on hb6⟩
        case measure => simp [intOf]; omega
      · have hd2 : ((P.J.read (2 + page * 8 + (k : Int))).2.1 != 0) = true := by simpa using hz
        have HN := Lib.hid (Jn.reads_stop HOK.out hz)
        have HR := Lib.hid (heard_any hp4 (P.J.read (2 + page * 8 + (k : Int))).2.1)
        have HT4 := Lib.hid (HT.out.trans hpj)
        have HX : Hid (P.read page = ([], (P.J.read (2 + page * 8 + (k : Int))).2.1, { P with J := (P.J.read (2 + page * 8 + (k : Int))).2.2, off := heardOff P.off (P.J.read (2 + page * 8 + (k : Int))).2.1 })) := Lib.hid (by
          have h8 := Jn.reads_err (J := P.J) (a := 2 + page * 8) (k := k + 1) (by rw [HN.out]; exact hz) 8 (by omega)
          rw [HE.out, h8, HN.out, if_pos hz])
        clear hp4 hj4 ht4 hpj hv hm4 hz
        generalize (P.J.read (2 + page * 8 + (k : Int))) = R at *
        go_wp2_with fail
        refine HR.out.mono ?_
        rintro e w5 ⟨rfl, hp5, ht5⟩
        go_wp2_with fail
        go_ret2
        rw [HX.out]
        exact ⟨_, rfl, Mine.nil _ _ _, hp5, HT4.out.trans ht5⟩
    · obtain rfl : k = 8 := by omega
      have HX : Hid (P.read page = ((P.J.reads (2 + page * 8) 8).1, 0, P)) := Lib.hid (by
        rw [HE.out, if_neg (by simp [hok]), Jn.reads_ok hok])
      have HM := Lib.hid hm
      have HP := Lib.hid hp
      have HT := Lib.hid ht
      clear hok hm hp ht
      generalize (P.J.reads (2 + page * 8) 8).1 = L at *
      go_wp2_with fail
      go_ret2
      rw [HX.out]
      exact ⟨_, rfl, HM.out, HP.out, HT.out⟩
end
end Go.Proofs.YtbmmcaoifkboiaaDoor

/- A pager's Abort, Left. -/
set_option linter.unusedVariables false
set_option linter.unusedSimpArgs false
set_option maxRecDepth 100000
namespace Go.Proofs.YtbmmcaoifkboiaaDoor
open Go.RowKit

section
variable {w : World} {F : Ft} {p : Nat} {f : Pf} {P : Pg}
theorem PgAt.made {W : World} {f' : Pf} {P' : Pg} (h : PgAt w F p f P) (hJ : P'.J = P.J) (ht : Turned (PT f) w W) (hq : f'.q = f.q) (head : W.heap[f'.q]? = some (pgRow p f' P')) (now : BoR W f'.gn f'.cn P'.now) (was : BoR W f'.gw f'.cw P'.was)
    (tab : OTab W f'.M f'.kv) (pgs : Pgs W f'.kv P'.own) (ok : Pok P') (hT : ∀ k, PT f' k → PT f k ∨ w.heap.size ≤ k) (hlt : ∀ k, PT f' k → k < W.heap.size) (sep : f'.gn ≠ f'.gw) : PgTo w F p f W P' := by
  have hnj := fun k hk => (h.apart k hk).1
  refine ⟨f', ⟨?_, h.nib.of_turned ht fun e => (h.apart _ e).2.1 rfl, head, now, was, tab, pgs, ok, fun k hk => ?_, sep⟩, hq, hT, ht.mono fun k _ e => .inr e⟩
  · rw [hJ]
    exact h.jat.turned ht fun k hk e => hnj k e hk
  · rcases hT k hk with e | e
    · exact ⟨(h.apart k e).1, (h.apart k e).2.1, hlt k hk⟩
    · refine ⟨fun hj => ?_, fun he => ?_, hlt k hk⟩
      · have := h.jat.lt hj
        omega
      · have := nib_lt h.nib
        omega
/-- cells stored into a pager's row, and a new table -/
theorem turned_q2 (w : World) (q i j : Nat) (a b : Value) : Turned (· = q) w ((w.setCell ⟨q, i, none⟩ a).setCell ⟨q, j, none⟩ b) := (turned_one w q i a).trans (turned_one _ q j b)
/-- a table made anew, no change: the last stores of Abort and Commit -/
theorem PgAt.anew {w1 w3 : World} {cs : Array Value} {f' : Pf} {P' : Pg} (h : PgAt w F p f P) (hb : Below w.heap.size w w1) (ht : Turned (· = f.q) w1 w3) (hd : w3.heap[f.q]? = some (.cells cs 68 (0, 0))) (hs : cs.size = 8)
    (hJ : P'.J = P.J) (hq : f'.q = f.q) (hM : f'.M = w3.heap.size) (hkv : f'.kv = []) (hown : P'.own = []) (hrow : (cs.setIfInBounds 5 (.map (some w3.heap.size))).setIfInBounds 6 (.bool false) = #[jptr p, .slice (some ⟨f'.gn, 0, none⟩) P'.now.length f'.cn, .int .i64 P'.root, .slice (some ⟨f'.gw, 0, none⟩) P'.was.length f'.cw, .int .i64 P'.wroot, .map (some f'.M), .bool P'.change, .int .i64 P'.off])
    (now : BoR w1 f'.gn f'.cn P'.now) (was : BoR w1 f'.gw f'.cw P'.was) (hgn : f'.gn = f.gn ∨ w.heap.size ≤ f'.gn) (hgw : f'.gw = f.gw ∨ w.heap.size ≤ f'.gw) (hne : f'.gn ≠ f'.gw) (ok : Pok P') :
    (∃ u, (w3.alloc (.map #[] 0)).cell? ⟨f.q, 5, none⟩ = some u) ∧ (w3.alloc (.map #[] 0)).frozen? ⟨f.q, 5, none⟩ = false ∧ (∃ u, (w3.alloc (.map #[] 0)).cell? ⟨f.q, 6, none⟩ = some u) ∧ (w3.alloc (.map #[] 0)).frozen? ⟨f.q, 6, none⟩ = false ∧
    PgTo w F p f (((w3.alloc (.map #[] 0)).setCell ⟨f.q, 5, none⟩ (.map (some w3.heap.size))).setCell ⟨f.q, 6, none⟩ (.bool false)) P' := by
  have hb4 : Below w3.heap.size w3 (w3.alloc (.map #[] 0)) := (Below.refl _ _).alloc (Nat.le_refl _) _
  have hd4 := (hb4.block _ (lt_of_heap hd)).trans hd
  have hd5 := head_setCell hd4 (i := 5) (.map (some w3.heap.size))
  have hd6 := head_setCell hd5 (i := 6) (.bool false)
  have ht5 := turned_q2 (w3.alloc (.map #[] 0)) f.q 5 6 (.map (some w3.heap.size)) (.bool false)
  have hlq := lt_of_heap hd
  have hsz := ht.size
  have hs4 : (w3.alloc (.map #[] 0)).heap.size = w3.heap.size + 1 := by simp
  refine ⟨⟨cs[5]'(by omega), by rw [cell_of_row _ _ _ _ _ _ hd4]; exact Array.getElem?_eq_getElem _⟩, frozen_p hd4 5, ⟨cs[6]'(by omega), by rw [cell_of_row _ _ _ _ _ _ hd4]; exact Array.getElem?_eq_getElem _⟩, frozen_p hd4 6, ?_⟩
  · have hq1 := h.qn
    have hbo : ∀ {g c : Nat} {t : List Bool}, BoR w1 g c t → BoR (((w3.alloc (.map #[] 0)).setCell ⟨f.q, 5, none⟩ (.map (some w3.heap.size))).setCell ⟨f.q, 6, none⟩ (.bool false)) g c t ∧ g < w3.heap.size := fun {g c t} hg => by
      have hgq : g ≠ f.q := by
        obtain ⟨cur, hc, _⟩ := hg
        intro e
        have h2 := (hb.block _ (lt_of_heap h.head)).trans h.head
        rw [e, h2] at hc
        simp at hc
      have hl := hg.lt
      exact ⟨((hg.keep (ht.block _ hl hgq)).keep (hb4.block _ (by omega))).keep (ht5.block _ (by omega) hgq), by omega⟩
    obtain ⟨n1, n2⟩ := hbo now
    obtain ⟨m1, m2⟩ := hbo was
    have hPT : ∀ k, PT f' k → k = f.q ∨ k = f'.gn ∨ k = f'.gw ∨ k = w3.heap.size := by
      rintro k (e | e | e | e | ⟨x, hx, _⟩)
      · exact .inl (e.trans hq)
      · exact .inr (.inl e)
      · exact .inr (.inr (.inl e))
      · exact .inr (.inr (.inr (e.trans hM)))
      · rw [hkv] at hx; cases hx
    have hbs := hb.size
    refine h.made hJ ?_ hq ?_ n1 m1 ?_ (by rw [hkv, hown]; trivial) ok (fun k hk => ?_) (fun k hk => ?_) hne
    · refine (Turned.of_below hb).trans ((ht.mono fun _ _ e => .inl e).trans ((Turned.of_below hb4).trans (ht5.mono fun _ _ e => .inl e)))
    · rw [hq, hd6, hrow]
    · rw [hM, hkv]
      exact (OTab.made w3).keep (ht5.block _ (by omega) (by omega))
    · rcases hPT k hk with e | e | e | e
      · exact .inl (.inl e)
      · rcases hgn with h1 | h1
        · exact .inl (.inr (.inl (by rw [e, h1])))
        · exact .inr (by omega)
      · rcases hgw with h1 | h1
        · exact .inl (.inr (.inr (.inl (by rw [e, h1]))))
        · exact .inr (by omega)
      · exact .inr (by omega)
    · have := ht5.size
      rcases hPT k hk with e | e | e | e <;> omega
theorem Below.turned_pt {w w1 W : World} {f : Pf} (hb : Below w.heap.size w w1) (ht : Turned (· = f.q) w1 W) : Turned (PT f) w W := (Turned.of_below hb).trans (ht.mono fun _ _ e => .inl e)
set_option maxHeartbeats 8000000 in
theorem abort_any (h : PgAt w F p f P) : Calls Tryd.prog 15 #[qptr f.q] w fun e w' => e = .returned (.tuple #[]) ∧ PgTo w F p f w' P.abort := by
  have HF := Lib.hid (fails_any h (-1) (by omega) (by omega))
  by_cases h0 : P.fails (-1) = 0
  case neg =>
    have e : P.abort = P := by rw [Pg.abort, if_neg h0]
    have d1 : (P.fails (-1) == 0) = false := by simpa using h0
    have HS := Lib.hid (PgTo.same h)
    rw [e]
    clear h h0 e
    generalize P.fails (-1) = x at *
    go_enter Tryd.func15, Tryd.ntmps15
    go_wp2_with (go_at_call 33; refine HF.out.mono ?_; rintro e w2 ⟨rfl, rfl⟩)
    go_end0
    exact ⟨rfl, HS.out⟩
  rw [h0] at HF
  have e : P.abort = { P with now := P.was, root := P.wroot, own := [], change := false } := by rw [Pg.abort, if_pos h0]
  rw [e]
  have o := h.ok
  obtain ⟨c0, c1, c2, c3, c4, c5, c6, c7⟩ := h.cells
  have HC := Lib.hid (pclone_any w 0 _ P.was P.wroot (h.was.mine 0 (Nat.zero_le _)) (by have := o.n1; have := o.was; omega))
  have HH := Lib.hid h
  have HO := Lib.hid o
  clear h h0 e o
  go_enter Tryd.func15, Tryd.ntmps15
  go_wp2_with (go_at_call 33; refine HF.out.mono ?_; rintro e w9 ⟨rfl, hw9⟩; rw [hw9]; clear hw9 w9)
  refine HC.out.mono ?_
  rintro e w1 ⟨u, rfl, hu, hb1⟩
  obtain ⟨g, c, rfl, hg, hbo⟩ := hu.boR (by have := HO.out.n0; have := HO.out.was; omega)
  have h1 := HH.out.below hb1
  have f1 := h1.frozen 1
  have f2 := h1.frozen 2
  have hd1 := h1.head
  have hd3 := head_setCell (head_setCell hd1 (i := 1) (.slice (some ⟨g, 0, none⟩) P.was.length c)) (i := 2) (.int .i64 P.wroot)
  have t3 := turned_q2 w1 f.q 1 2 (.slice (some ⟨g, 0, none⟩) P.was.length c) (.int .i64 P.wroot)
  have hs3 : ((w1.setCell ⟨f.q, 1, none⟩ (.slice (some ⟨g, 0, none⟩) P.was.length c)).setCell ⟨f.q, 2, none⟩ (.int .i64 P.wroot)).heap.size = w1.heap.size := by simp [World.setCell]
  obtain ⟨d0, d1, d2, d3, d4, d5, d6, d7⟩ := h1.cells
  clear hu
  have hmm := fun w => run_makeMap (P := Tryd.prog) 66 w
  obtain ⟨w3, hw3⟩ : ∃ x, x = (w1.setCell ⟨f.q, 1, none⟩ (.slice (some ⟨g, 0, none⟩) P.was.length c)).setCell ⟨f.q, 2, none⟩ (.int .i64 P.wroot) := ⟨_, rfl⟩
  rw [← hw3] at hd3 t3 hs3
  obtain ⟨⟨u5, e5⟩, f5, ⟨u6, e6⟩, f6, hpt⟩ := HH.out.anew (f' := { f with gn := g, cn := c, M := w3.heap.size, kv := [] }) (P' := { P with now := P.was, root := P.wroot, own := [], change := false }) hb1 t3 hd3 (by rfl) rfl rfl rfl rfl rfl (by rfl) hbo (HH.out.was.keep (hb1.block _ HH.out.was.lt)) (.inr hg) (.inl rfl) (by
    have := HH.out.was.lt
    dsimp only
    omega) (by
    have o := HO.out
    exact ⟨by have := o.n0; have := o.was; dsimp only; omega, by have := o.n1; have := o.was; dsimp only; omega, rfl, o.s0, by have := o.s1; have := o.was; dsimp only; omega, o.s0, by have := o.s1; have := o.was; dsimp only; omega, fun x hx => (by cases hx), by have := o.jn; have := o.was; dsimp only; omega⟩)
  rw [hs3] at hpt
  have HX := Lib.hid hpt
  have hs3' := hs3
  clear hpt hd3 t3 hs3 h1 hb1 hbo hd1
  rw [hs3'] at *
  subst hw3
  clear hs3'
  go_wp2_with fail
  go_end0
  exact ⟨rfl, HX.out⟩
end
end Go.Proofs.YtbmmcaoifkboiaaDoor

/- What a Commit writes, as rows of slices. -/
set_option linter.unusedVariables false
set_option linter.unusedSimpArgs false
set_option maxRecDepth 100000
namespace Go.Proofs.YtbmmcaoifkboiaaDoor
open Go.RowKit

def ElB (w : World) : List Value → List (List UInt8) → Prop
  | [], [] => True
  | u :: us, l :: ls => IsB w u l ∧ ElB w us ls
  | _, _ => False
theorem ElB.len {w : World} : ∀ {us : List Value} {ls : List (List UInt8)}, ElB w us ls → us.length = ls.length
  | [], [], _ => rfl
  | [], _ :: _, h => h.elim
  | _ :: _, [], h => h.elim
  | _ :: _, _ :: _, h => by simp [ElB.len h.2]
theorem ElB.get {w : World} : ∀ {us : List Value} {ls : List (List UInt8)}, ElB w us ls → ∀ i (h1 : i < us.length) (h2 : i < ls.length), IsB w us[i] ls[i]
  | [], [], _, i, h1, _ => by simp at h1
  | [], _ :: _, h, _, _, _ => h.elim
  | _ :: _, [], h, _, _, _ => h.elim
  | u :: us, l :: ls, h, 0, _, _ => h.1
  | u :: us, l :: ls, h, i + 1, h1, h2 => ElB.get h.2 i (by simpa using h1) (by simpa using h2)
theorem ElB.append {w : World} {us' : List Value} {ls' : List (List UInt8)} (h' : ElB w us' ls') : ∀ {us : List Value} {ls : List (List UInt8)}, ElB w us ls → ElB w (us ++ us') (ls ++ ls')
  | [], [], _ => h'
  | [], _ :: _, h => h.elim
  | _ :: _, [], h => h.elim
  | _ :: _, _ :: _, h => ⟨h.1, ElB.append h' h.2⟩
theorem RowV.elB {B : Nat} {w : World} {v : Value} {us : List Value} (h : RowV B w v us) {ls : List (List UInt8)} (he : ElB w us ls) : IsBs w v ls := h.isBs he.len he.get
/-- parts of bytes -/
theorem IsB.part {w : World} {g N c : Nat} {b : List UInt8} (h : IsB w (.slice (some ⟨g, 0, none⟩) N c) b) (i n : Nat) (hn : i + n ≤ b.length) : IsB w (.slice (some ⟨g, i, none⟩) n n) ((b.drop i).take n) := by
  obtain ⟨a, cap, hv, h1, h2, h3, h4⟩ := h
  simp only [Value.slice.injEq] at hv
  obtain ⟨rfl, hN, rfl⟩ := hv
  obtain ⟨_, hc⟩ := h4 _ rfl
  have hl : ((b.drop i).take n).length = n := by simp; omega
  refine ⟨some ⟨g, i, none⟩, n, by rw [hl], by rw [hl]; exact Nat.le_refl _, by omega, fun e => (by cases e), fun x hx => ?_⟩
  obtain rfl := Option.some.inj hx
  refine ⟨fun _ => rfl, fun j hj => ?_⟩
  rw [hl] at hj
  have := hc (i + j) (by omega)
  simp only [Nat.zero_add] at this
  rw [this]
  simp
theorem chunks_eq : ∀ (m : Nat) (b : List UInt8), chunks m b = (List.range m).map fun i => (b.drop (112 * i)).take 112
  | 0, b => rfl
  | m + 1, b => by
    rw [chunks, chunks_eq m, List.range_succ_eq_map, List.map_cons, List.map_map]
    congr 1
    apply List.map_congr_left
    intro i _
    simp only [Function.comp, List.drop_drop]
    congr 2
    omega
theorem chunks_length (m : Nat) (b : List UInt8) : (chunks m b).length = m := by simp [chunks_eq]
theorem chunk_elB {w : World} {g N c : Nat} {b : List UInt8} (h : IsB w (.slice (some ⟨g, 0, none⟩) N c) b) (l : List Nat) (hl : ∀ i ∈ l, 112 * i + 112 ≤ b.length) : ElB w (chunkVals g l) (l.map fun i => (b.drop (112 * i)).take 112) := by
  induction l with
  | nil => trivial
  | cons x r ih => exact ⟨h.part (112 * x) 112 (hl x (by simp)), ih fun i hi => hl i (by simp [hi])⟩
theorem chunks_elB {w : World} {g N c : Nat} {b : List UInt8} (h : IsB w (.slice (some ⟨g, 0, none⟩) N c) b) (m : Nat) (hm : 112 * m ≤ b.length) : ElB w (chunkVals g (List.range m)) (chunks m b) := by
  rw [chunks_eq]
  exact chunk_elB h _ fun i hi => by have := List.mem_range.1 hi; omega
def pageG (kv : List (Int × Value)) (k : Int) : Nat := match kLook kv k with | some v => v.ownBlock.getD 0 | none => 0
theorem Mine.slice {e : TypeId} {B : Nat} {w : World} {v : Value} {b : List UInt8} (h : Mine e B w v b) (h0 : 0 < b.length) : ∃ g c, v = .slice (some ⟨g, 0, none⟩) b.length c ∧ B ≤ g ∧ b.length ≤ c ∧ g < w.heap.size := by
  rcases h.2 with ⟨rfl, hn⟩ | ⟨g, cap, cur, rfl, hb, hg, hnc, hcm, hcs, htake⟩
  · omega
  · exact ⟨g, cap, rfl, hb, hnc, lt_of_heap hg⟩
/-- the values of a Commit's blocks -/
def commitVals (gu : Nat) (kv : List (Int × Value)) (ks : List Int) : List Value := chunkVals gu (List.range 2) ++ ks.flatMap fun k => chunkVals (pageG kv k) (List.range 8)
def commitPlaces (ks : List Int) : List Int := placesFrom 0 2 ++ ks.flatMap fun k => placesFrom (2 + k * 8) 8
def commitBlocks (P : Pg) (ks : List Int) : List (List UInt8) := chunks 2 (planB P.now P.root) ++ ks.flatMap fun k => chunks 8 ((oLook P.own k).getD [])
theorem oLook_mem {o : List (Int × List UInt8)} {k : Int} (h : k ∈ o.map (·.1)) : oLook o k ≠ none := by
  obtain ⟨y, hy, rfl⟩ := List.mem_map.1 h
  intro e
  simp only [oLook, Option.map_eq_none_iff, List.find?_eq_none] at e
  simpa using e y hy
theorem Pgs.at {w : World} {kv : List (Int × Value)} {o : List (Int × List UInt8)} (h : Pgs w kv o) {k : Int} (hk : k ∈ o.map (·.1)) : ∃ c b, kLook kv k = some (.slice (some ⟨pageG kv k, 0, none⟩) 896 c) ∧ oLook o k = some b ∧ b.length = 896 ∧ 896 ≤ c ∧ Mine 5 0 w (.slice (some ⟨pageG kv k, 0, none⟩) 896 c) b := by
  rcases h.look k with ⟨_, h2⟩ | ⟨v, b, h1, h2, h3, h4, h5⟩
  · exact absurd h2 (oLook_mem hk)
  · obtain ⟨g, c, rfl, _, hc, _⟩ := h4.slice (by omega)
    have e : pageG kv k = g := by rw [pageG, h1]; rfl
    rw [h3] at h1 h4 hc
    exact ⟨c, b, by rw [e, h1], h2, h3, hc, by rw [e]; exact h4⟩
theorem pages_elB {w : World} {kv : List (Int × Value)} {o : List (Int × List UInt8)} (h : Pgs w kv o) : ∀ (ks : List Int), (∀ k ∈ ks, k ∈ o.map (·.1)) → ElB w (ks.flatMap fun k => chunkVals (pageG kv k) (List.range 8)) (ks.flatMap fun k => chunks 8 ((oLook o k).getD []))
  | [], _ => trivial
  | k :: ks, hk => by
    rw [List.flatMap_cons, List.flatMap_cons]
    obtain ⟨c, b, h1, h2, h3, h4, h5⟩ := h.at (hk k (by simp))
    refine ElB.append (pages_elB h ks fun x hx => hk x (by simp [hx])) ?_
    rw [h2]
    exact chunks_elB h5.isB 8 (by omega)
theorem commit_elB {w : World} {gu cu : Nat} {kv : List (Int × Value)} {P : Pg} (hu : IsB w (.slice (some ⟨gu, 0, none⟩) 224 cu) (planB P.now P.root)) (h : Pgs w kv P.own) (ks : List Int) (hk : ∀ k ∈ ks, k ∈ P.own.map (·.1)) : ElB w (commitVals gu kv ks) (commitBlocks P ks) :=
  ElB.append (pages_elB h ks hk) (chunks_elB hu 2 (by rw [planB_length]; omega))
theorem RowV.cat {B : Nat} {w : World} {v : Value} {us : List Value} (h : RowV B w v us) (hB : B ≤ w.heap.size) {B' : Nat} {u : Value} {xs : List Value} (hu : RowV B' w u xs) (hx : ∀ x ∈ xs, x.oneCell' = true) (hL : us.length + xs.length ≤ 1000000) :
    ∃ v' w', (Builtin.append_ #[70, 70] 70 #[v, u]).run Tryd.prog w = .ok v' w' ∧ RowV B w' v' (us ++ xs) ∧ w.grownBy w' v.ownBlock := by
  obtain ⟨i, hi, hz, hs, hb⟩ := info_parts (P := Tryd.prog) (e := 42) info_bytes2
  obtain ⟨v', w', hr, ho, hgr, _, hown⟩ := run_app (P := Tryd.prog) w B 70 70 70 42 i _ 1 24 _ Tryd.underlying70 Tryd.underlying70 (.inl rfl) hi hz hs hb rfl (by decide) v us.length us h
    u xs.length xs (own_lenOf hu) (by simp) (run_firstCells_own hu) hx (by simp [maxLen]; omega) (by omega) hB
  refine ⟨v', w', hr, ?_, hgr⟩
  unfold RowV
  rw [List.length_append]
  exact ho
theorem chunkVals_one (g : Nat) (l : List Nat) : ∀ x ∈ chunkVals g l, x.oneCell' = true := by
  intro x hx
  obtain ⟨i, _, rfl⟩ := List.mem_map.1 hx
  rfl
theorem nodup_range : ∀ (n : Nat) (l : List Int), l.Nodup → (∀ x ∈ l, 0 ≤ x ∧ x < (n : Int)) → l.length ≤ n
  | 0, [], _, _ => Nat.le_refl _
  | 0, x :: l, _, h => by have := h x (by simp); omega
  | n + 1, l, hn, h => by
    have h1 := nodup_range n (l.erase (n : Int)) (hn.erase _) fun x hx => by
      obtain ⟨h2, h3⟩ := (hn.mem_erase_iff).1 hx
      have := h x h3
      omega
    rw [List.length_erase] at h1
    split at h1 <;> omega
theorem PgAt.own_len {w : World} {F : Ft} {p : Nat} {f : Pf} {P : Pg} (h : PgAt w F p f P) : P.own.length ≤ P.now.length ∧ f.kv.length = P.own.length := by
  have e := h.pgs.keys
  have hnd := h.tab.nodup
  rw [e] at hnd
  have hl := nodup_range P.now.length _ hnd fun x hx => by
    obtain ⟨y, hy, rfl⟩ := List.mem_map.1 hx
    exact h.ok.keys y hy
  have := congrArg List.length e
  simp at hl this
  exact ⟨hl, this⟩
theorem mem_upI {zs : List Int} {k : Int} : k ∈ upI zs ↔ k ∈ zs := (List.mergeSort_perm zs _).mem_iff
theorem commitPlaces_succ (ks : List Int) (i : Nat) (h : i < ks.length) : commitPlaces (ks.take (i + 1)) = commitPlaces (ks.take i) ++ placesFrom (2 + ks[i] * 8) 8 := by
  rw [commitPlaces, commitPlaces, List.take_add_one, List.getElem?_eq_getElem h, Option.toList_some, List.flatMap_append, List.flatMap_cons, List.flatMap_nil, List.append_nil, List.append_assoc]
theorem commitVals_succ (gu : Nat) (kv : List (Int × Value)) (ks : List Int) (i : Nat) (h : i < ks.length) : commitVals gu kv (ks.take (i + 1)) = commitVals gu kv (ks.take i) ++ chunkVals (pageG kv ks[i]) (List.range 8) := by
  rw [commitVals, commitVals, List.take_add_one, List.getElem?_eq_getElem h, Option.toList_some, List.flatMap_append, List.flatMap_cons, List.flatMap_nil, List.append_nil, List.append_assoc]
theorem commitPlaces_len (ks : List Int) : (commitPlaces ks).length = 2 + 8 * ks.length := by
  rw [commitPlaces, List.length_append, placesFrom_length]
  congr 1
  induction ks with
  | nil => rfl
  | cons k r ih => rw [List.flatMap_cons, List.length_append, placesFrom_length, ih, List.length_cons]; omega
theorem commitVals_len (gu : Nat) (kv : List (Int × Value)) (ks : List Int) : (commitVals gu kv ks).length = 2 + 8 * ks.length := by
  rw [commitVals, List.length_append, chunkVals_length, List.length_range]
  congr 1
  induction ks with
  | nil => rfl
  | cons k r ih => rw [List.flatMap_cons, List.length_append, chunkVals_length, List.length_range, ih, List.length_cons]; omega
theorem commitPlaces_bounds {ks : List Int} (h : ∀ k ∈ ks, 0 ≤ k ∧ k < 1024) : ∀ n ∈ commitPlaces ks, -9223372036854775808 ≤ n ∧ n ≤ 9223372036854775807 := by
  intro n hn
  rcases List.mem_append.1 hn with hn | hn
  · obtain ⟨i, hi, rfl⟩ := List.mem_map.1 hn
    have := List.mem_range.1 hi
    omega
  · obtain ⟨k, hk, hn⟩ := List.mem_flatMap.1 hn
    obtain ⟨i, hi, rfl⟩ := List.mem_map.1 hn
    have := List.mem_range.1 hi
    have := h k hk
    omega
end Go.Proofs.YtbmmcaoifkboiaaDoor

/- A plan's bytes. -/
set_option linter.unusedVariables false
set_option linter.unusedSimpArgs false
set_option maxRecDepth 100000
namespace Go.Proofs.YtbmmcaoifkboiaaDoor
open Go.RowKit

theorem planHead_split (n r : Nat) : planHead n r = ((((layB (List.replicate 224 0) 0 [85, 80, 71, 49]).set 4 (UInt8.ofNat n)).set 5 (UInt8.ofNat (n / 256))).set 6 (UInt8.ofNat r)).set 7 (UInt8.ofNat (r / 256)) := by
  simp [planHead, layB, List.replicate]
def headTo (n r : Nat) : Nat → List UInt8
  | 0 => layB (List.replicate 224 0) 0 [85, 80, 71, 49]
  | 1 => ((layB (List.replicate 224 0) 0 [85, 80, 71, 49]).set 4 (UInt8.ofNat n)).set 5 (UInt8.ofNat (n / 256))
  | _ => planHead n r
theorem headTo_length (n r k : Nat) : (headTo n r k).length = 224 := by
  match k with
  | 0 => simp [headTo, layB]
  | 1 => simp [headTo, layB]
  | _ + 2 => simp [headTo, planHead]
theorem byte_of (n : Nat) : (n : Int) % 256 = (((UInt8.ofNat n).toNat : Nat) : Int) := by rw [UInt8.toNat_ofNat']; omega
theorem byte_of8 (n : Nat) : (n : Int) / 256 % 256 = (((UInt8.ofNat (n / 256)).toNat : Nat) : Int) := by rw [UInt8.toNat_ofNat']; omega
theorem run_shl1 (j : Nat) (hj : j < 8) (W : World) : Sem.run Tryd.prog (Op.shift .shl .u8 1 .i64 ((j : Nat) : Int)) W = .ok (.int .u8 ((2 ^ j : Nat) : Int)) W := by
  rcases (show j = 0 ∨ j = 1 ∨ j = 2 ∨ j = 3 ∨ j = 4 ∨ j = 5 ∨ j = 6 ∨ j = 7 by omega) with rfl | rfl | rfl | rfl | rfl | rfl | rfl | rfl <;> kernel_rfl
theorem tmod8 (k : Nat) : (k : Int).tmod 8 = ((k % 8 : Nat) : Int) := by rw [Int.tmod_eq_emod_of_nonneg (by omega)]; omega
theorem or_bit (x : UInt8) (j : Nat) (hj : j < 8) : bits .or .u8 ((x.toNat : Nat) : Int) ((2 ^ j : Nat) : Int) = (((x ||| UInt8.ofNat (2 ^ j)).toNat : Nat) : Int) := by
  have hp : (2 : Nat) ^ j < 256 := by
    have := Nat.pow_lt_pow_right (a := 2) (by omega) hj
    omega
  rw [u8_or_nat _ _ x.toNat_lt hp, UInt8.toNat_or, UInt8.toNat_ofNat', Nat.mod_eq_of_lt (by omega)]
theorem byte_of8' (n : Nat) (h : n < 65536) : (n : Int) / 256 = (((UInt8.ofNat (n / 256)).toNat : Nat) : Int) := by rw [UInt8.toNat_ofNat']; omega
theorem headTo_one (n r : Nat) : ((headTo n r 0).set 4 (UInt8.ofNat n)).set 5 (UInt8.ofNat (n / 256)) = headTo n r 1 := rfl
theorem headTo_two (n r : Nat) : ((headTo n r 1).set 6 (UInt8.ofNat r)).set 7 (UInt8.ofNat (r / 256)) = headTo n r 2 := (planHead_split n r).symm
set_option maxHeartbeats 8000000 in
theorem planB_any (w : World) (B : Nat) (v : Value) (t : List Bool) (r : Int) (hv : MineO B w v t) (ht : t.length ≤ 1023) (h1 : -1 ≤ r) (h2 : r < 65535) :
    Calls Tryd.prog 37 #[.agg #[v, .int .i64 r]] w fun e w' => ∃ u, e = .returned u ∧ Mine 5 w.heap.size w' u (planB t r) ∧ Below w.heap.size w w' := by
  obtain ⟨a, c, rfl, hc1, hc2⟩ := hv.form
  have HV := Lib.hid hv
  obtain ⟨rn, hrn⟩ : ∃ rn : Nat, r + 1 = (rn : Int) := ⟨(r + 1).toNat, by omega⟩
  have hrn2 : rn < 65536 := by omega
  obtain ⟨tn, htn⟩ : ∃ tn, tn = t.length := ⟨_, rfl⟩
  obtain ⟨N1, hN1⟩ : ∃ N1, N1 = headTo tn rn 1 := ⟨_, rfl⟩
  obtain ⟨N2, hN2⟩ : ∃ N2, N2 = planHead tn rn := ⟨_, rfl⟩
  have HP : Hid (planB t r = planTo t (planHead tn rn) tn) := Lib.hid (by rw [planB, htn, hrn, Int.toNat_natCast])
  obtain ⟨R, hR⟩ : ∃ R, R = List.replicate 224 (0 : UInt8) := ⟨_, rfl⟩
  have hmk := run_make224
  rw [← hR] at hmk
  obtain ⟨W1, hW1⟩ : ∃ W1, W1 = w.alloc (.cells #[.slice a t.length c, .int .i64 r] 64) := ⟨_, rfl⟩
  have hp1 : W1.heap[w.heap.size]? = some (.cells #[.slice a t.length c, .int .i64 r] 64 (0, 0)) := by rw [hW1]; exact heap_alloc_new w _
  have hb1 : Below w.heap.size w W1 := by rw [hW1]; exact (Below.refl _ _).alloc (Nat.le_refl _) _
  have hs1 : W1.heap.size = w.heap.size + 1 := by rw [hW1]; simp
  obtain ⟨W2, hW2⟩ : ∃ W2, W2 = W1.alloc (.cells (bv R).toArray 5) := ⟨_, rfl⟩
  have hr2 : RowB W2 W1.heap.size 5 R := by rw [hW2]; exact RowB.alloc W1 _ _
  have hb2 : Below W1.heap.size W1 W2 := by rw [hW2]; exact (Below.refl _ _).alloc (Nat.le_refl _) _
  have hcp := run_copy_word hr2 (by rw [hR]; simp) 3
  have hr3 := hr2.lay 0 [85, 80, 71, 49] (by rw [hR]; simp)
  have ht3 := turned_cells W2 W1.heap.size 0 (bv [85, 80, 71, 49])
  have hr3' : RowB (W2.setCells W1.heap.size 0 (bv [85, 80, 71, 49])) W1.heap.size 5 (headTo tn rn 0) := by rw [headTo, ← hR]; exact hr3
  have hp3 : (W2.setCells W1.heap.size 0 (bv [85, 80, 71, 49])).heap[w.heap.size]? = some (.cells #[.slice a t.length c, .int .i64 r] 64 (0, 0)) :=
    (ht3.block w.heap.size (by have := hb2.size; omega) (by omega)).trans ((hb2.block w.heap.size (by omega)).trans hp1)
  have hb3 : Below w.heap.size w (W2.setCells W1.heap.size 0 (bv [85, 80, 71, 49])) := (hb1.trans (hb2.mono (by omega))).trans (ht3.below (by have := hb2.size; omega) (fun k hk => by omega))
  have hg3 : W1.heap.size < (W2.setCells W1.heap.size 0 (bv [85, 80, 71, 49])).heap.size := Nat.lt_of_lt_of_le hr2.lt ht3.size
  have hgG : w.heap.size < W1.heap.size := by omega
  have HW1 := Lib.hid hW1
  have HW2 := Lib.hid hW2
  have HR := Lib.hid hR
  have Htn := Lib.hid htn
  have Hrn := Lib.hid hrn
  clear hv hr2 hr3 ht3 hb1 hb2 hp1 hs1 hR hW1 hW2 hN1 hN2 N1 N2 hrn
  rw [← htn] at hc1 hp3 ht ⊢
  rw [← htn] at HV HW1
  clear htn
  go_enter Tryd.func37, Tryd.ntmps37
  go_upto_region 1 with fail
  rw [← HW1.out]
  go_upto_region 2 with fail
  rw [← HW2.out]
  generalize W1.heap.size = G at *
  go_upto_region 3 with fail
  generalize W2.setCells G 0 (bv [85, 80, 71, 49]) = W3 at *
  clear hcp HW1 HW2 HR
  have c0 : W3.cell? ⟨w.heap.size, 0, none⟩ = some (.slice a tn c) := by rw [cell_of_row _ _ _ _ _ _ hp3]; rfl
  have c1 : W3.cell? ⟨w.heap.size, 1, none⟩ = some (.int .i64 r) := by rw [cell_of_row _ _ _ _ _ _ hp3]; rfl
  have hba : Below W3.heap.size W3 (W3.alloc (.cells #[.int .i64 (tn : Int), .int .i64 (r + 1)] 3)) := (Below.refl _ _).alloc (Nat.le_refl _) _
  have hl4 : (W3.alloc (.cells #[.int .i64 (tn : Int), .int .i64 (r + 1)] 3)).heap[W3.heap.size]? = some (.cells #[.int .i64 (tn : Int), .int .i64 (r + 1)] 3 (0, 0)) := heap_alloc_new W3 _
  have hr4 := hr3'.below hba
  have hp4 := (hba.block w.heap.size (lt_of_heap hp3)).trans hp3
  have hb4 := hb3.trans (hba.mono hb3.size)
  have hrr : -1 ≤ r ∧ r ≤ 65535 := by omega
  obtain ⟨hrr1, hrr2⟩ := hrr
  go_wp2_with fail
  generalize hg5 : W3.heap.size = g5 at *
  have hg5n : g5 ≠ G := by omega
  clear hg5
  generalize W3.alloc (.cells #[.int .i64 (tn : Int), .int .i64 (r + 1)] 3) = W4 at *
  clear c0 c1 hba hr3' hp3 hb3 hg3
  rw [Hrn.out] at hl4 ⊢
  go_loopw [19] (fun x wr => ∃ k : Nat, k ≤ 2 ∧ x = .int .i64 (k : Int) ∧ RowB wr G 5 (headTo tn rn k) ∧ wr.heap[g5]? = some (.cells #[.int .i64 (tn : Int), .int .i64 (rn : Int)] 3 (0, 0)) ∧ wr.heap[w.heap.size]? = some (.cells #[.slice a tn c, .int .i64 r] 64 (0, 0)) ∧ Below w.heap.size w wr) (fun x _ => 2 - (intOf x).toNat)
  case atStart => exact ⟨0, by omega, rfl, hr4, hl4, hp4, hb4⟩
  case round =>
    clear hr4 hl4 hp4 hb4
    obtain ⟨k, hk, rfl, hr, hl, hp, hb⟩ := hrel
    by_cases hk0 : k = 0
    · subst hk0
      have c0 : wr.cell? ⟨g5, 0, none⟩ = some (.int .i64 (tn : Int)) := by rw [cell_of_row _ _ _ _ _ _ hl]; rfl
      have hL := headTo_length tn rn 0
      have b4 := hr.cell 4 (by omega)
      have b5 := hr.cell 5 (by omega)
      have f4 := hr.frozen 4
      have f5 := hr.frozen 5
      have htn2 : tn ≤ 1023 := ht
      have hr' := (hr.set 4 (UInt8.ofNat tn)).set 5 (UInt8.ofNat (tn / 256))
      have ht1 := (turned_one wr G 4 (.int .u8 ((UInt8.ofNat tn).toNat : Int))).trans (turned_one _ G 5 (.int .u8 ((UInt8.ofNat (tn / 256)).toNat : Int)))
      rw [headTo_one] at hr'
      rw [← byte_of tn, ← byte_of8' tn (by omega)] at hr' ht1
      have HF := Lib.hid (And.intro hr' (And.intro ((ht1.block g5 (lt_of_heap hl) (by omega)).trans hl) (And.intro ((ht1.block w.heap.size (lt_of_heap hp) (by omega)).trans hp) (hb.trans (ht1.below hb.size (fun k hk => by omega))))))
      clear hr' ht1 hr hl hp hb
      go_wp2_with fail
      go_roundw
      case rel => exact ⟨1, by omega, by go_num, HF.out⟩
      case measure => simp [intOf]
    by_cases hk1 : k = 1
    · subst hk1
      have c0 : wr.cell? ⟨g5, 1, none⟩ = some (.int .i64 (rn : Int)) := by rw [cell_of_row _ _ _ _ _ _ hl]; rfl
      have hL := headTo_length tn rn 1
      have b4 := hr.cell 6 (by omega)
      have b5 := hr.cell 7 (by omega)
      have f4 := hr.frozen 6
      have f5 := hr.frozen 7
      have hr' := (hr.set 6 (UInt8.ofNat rn)).set 7 (UInt8.ofNat (rn / 256))
      have ht1 := (turned_one wr G 6 (.int .u8 ((UInt8.ofNat rn).toNat : Int))).trans (turned_one _ G 7 (.int .u8 ((UInt8.ofNat (rn / 256)).toNat : Int)))
      rw [headTo_two] at hr'
      rw [← byte_of rn, ← byte_of8' rn (by omega)] at hr' ht1
      have HF := Lib.hid (And.intro hr' (And.intro ((ht1.block g5 (lt_of_heap hl) (by omega)).trans hl) (And.intro ((ht1.block w.heap.size (lt_of_heap hp) (by omega)).trans hp) (hb.trans (ht1.below hb.size (fun k hk => by omega))))))
      clear hr' ht1 hr hl hp hb
      go_wp2_with fail
      go_roundw
      case rel => exact ⟨2, by omega, by go_num, HF.out⟩
      case measure => simp [intOf]
    · obtain rfl : k = 2 := by omega
      have c0 : wr.cell? ⟨w.heap.size, 0, none⟩ = some (.slice a tn c) := by rw [cell_of_row _ _ _ _ _ _ hp]; rfl
      clear hk0 hk1 hl
      rw [show ((2 : Nat) : Int) = 2 from rfl]
      go_wp2_with fail
      have hr0 : RowB wr G 5 (planTo t (planHead tn rn) 0) := hr
      clear hr hp c0
      go_loopw [43] (fun x wr => ∃ k : Nat, k ≤ tn ∧ x = .int .i64 (k : Int) ∧ RowB wr G 5 (planTo t (planHead tn rn) k) ∧ Below w.heap.size w wr) (fun x _ => tn - (intOf x).toNat)
      case atStart => exact ⟨0, Nat.zero_le _, rfl, hr0, hb⟩
      case round =>
        clear hr0 hb
        obtain ⟨k, hk, rfl, hr, hb⟩ := hrel
        have hL : (planTo t (planHead tn rn) k).length = 224 := by rw [planTo_length, planHead_length]
        by_cases hlt : k < tn
        case neg =>
          obtain rfl : k = tn := by omega
          have hm := hr
          have hdz : decide ((k : Int) < (k : Int)) = false := by simp
          go_wp2_with fail
          go_ret
          refine ⟨_, rfl, ?_, hb⟩
          rw [HP.out]
          have hrow : wr.ownsRow w.heap.size 5 1 (.slice (some ⟨G, 0, none⟩) 224 224) 224 (bv (planTo t (planHead k rn) k)) :=
            ⟨by rw [bv_length, hL], .inr ⟨G, 224, _, rfl, by omega, hm, Nat.le_refl _, by simp [maxLen], by simp [bv_length, hL], by simp [List.take_of_length_le, bv_length, hL]⟩⟩
          unfold Mine
          rw [hL]
          exact hrow
        have hkt : k < t.length := by rw [← Htn.out]; exact hlt
        obtain ⟨g0, cc, hv, _, _, hcs⟩ := HV.out.cell (fun e => by rw [e] at hkt; simp at hkt)
        simp only [Value.slice.injEq] at hv
        have hav := hv.1
        clear hv
        subst hav
        have hc := cells_below hb _ _ (hcs k hkt)
        have hd : decide ((k : Int) < (tn : Int)) = true := decide_eq_true (by omega)
        have hget : t.getD k false = t[k] := by rw [List.getD_eq_getElem?_getD, List.getElem?_eq_getElem hkt]; rfl
        have hstep : planTo t (planHead tn rn) (k + 1) = if t[k] then setBit (planTo t (planHead tn rn) k) k else planTo t (planHead tn rn) k := by rw [planTo, hget]
        have Hstep := Lib.hid hstep
        clear hcs hget hstep
        generalize t[k] = tk at *
        generalize planTo t (planHead tn rn) k = L at *
        cases tk with
        | false =>
          go_wp2_with fail
          go_roundw
          case rel => exact ⟨k + 1, by omega, by go_num, by rw [Hstep.out]; exact hr, hb⟩
          case measure => simp [intOf]; omega
        | true =>
          have hk8 : k / 8 < 216 := by omega
          have bc := hr.cell (8 + k / 8) (by omega)
          have fc := hr.frozen (8 + k / 8)
          replace bc : wr.drew.cell? _ = _ := bc
          replace fc : wr.drew.frozen? _ = _ := fc
          have hw1 : IntKind.i64.wrap ((k : Int) / 8) = (k : Int) / 8 := IntWalk.i64_in _ (by omega)
          have hw2 : IntKind.i64.wrap (8 + (k : Int) / 8) = 8 + (k : Int) / 8 := IntWalk.i64_in _ (by omega)
          have hw3 : (0 : Int) ≤ 8 + (k : Int) / 8 := by omega
          have hw4 : 8 + (k : Int) / 8 < 224 := by omega
          have hsh : ∀ W, Sem.run Tryd.prog (Op.shift .shl .u8 1 .i64 ((k : Int).tmod 8)) W = .ok (.int .u8 ((2 ^ (k % 8) : Nat) : Int)) W := fun W => by rw [tmod8]; exact run_shl1 _ (by omega) W
          have hor := or_bit L[8 + k / 8] (k % 8) (by omega)
          rw [show ((2 ^ (k % 8) : Nat) : Int) = (2 : Int) ^ (k % 8) by simp] at hor
          have hrd : RowB wr.drew G 5 L := hr
          have hs := hrd.set (8 + k / 8) (L[8 + k / 8] ||| UInt8.ofNat (2 ^ (k % 8)))
          have hts := turned_one wr.drew G (8 + k / 8) (.int .u8 ((L[8 + k / 8] ||| UInt8.ofNat (2 ^ (k % 8))).toNat : Int))
          have hsb : L.set (8 + k / 8) (L[8 + k / 8] ||| UInt8.ofNat (2 ^ (k % 8))) = setBit L k := by rw [setBit, List.getD_eq_getElem?_getD, List.getElem?_eq_getElem (by omega), Option.getD_some]
          rw [hsb] at hs
          rw [← hor] at hs hts
          have HF := Lib.hid (And.intro hs (hb.drew.trans (hts.below (B := w.heap.size) (by have := hb.size; exact this) (fun k hk => by omega))))
          clear hor hrd hs hts hsb hb hr
          have hw5 : (8 + (k : Int) / 8).toNat = 8 + k / 8 := by omega
          go_wp2_with fail
          refine wp_region_still_tail 11 (by kernel_rfl) (by kernel_rfl) ?_
          simp only [List.take_succ_cons, List.take_zero, List.drop_succ_cons, List.drop_zero]
          change wpStill _ _ wr.drew (fun a' => wpList _ _ _ _ a' wr.drew) _ _
          generalize wr.drew = W5 at *
          iterate 11 still_step
          refine wpStill_nil ?_
          go_wp2_with fail
          go_roundw
          case rel => exact ⟨k + 1, by omega, by go_num, by rw [Hstep.out]; exact HF.out.1, HF.out.2⟩
          case measure => simp [intOf]; omega
end Go.Proofs.YtbmmcaoifkboiaaDoor

/- A pager's Commit. -/
set_option linter.unusedVariables false
set_option linter.unusedSimpArgs false
set_option maxRecDepth 100000
namespace Go.Proofs.YtbmmcaoifkboiaaDoor
open Go.RowKit

theorem Jn.writes_n (J : Jn) (zs : List Int) (ls : List (List UInt8)) : (J.writes zs ls).D.n = J.D.n := by
  have h : ∀ (J : Jn) (fs : List (List UInt8)), (J.spread fs).D.n = J.D.n := fun J fs => by rw [Jn.spread, Jn.flush_n, Jn.spreads_n]
  unfold Jn.writes
  simp only
  split <;> rw [h, Jn.flush_n, Jn.lay_n, Jn.flush_n, Jn.layTo_n]
theorem Jn.write_n (J : Jn) (zs : List Int) (ls : List (List UInt8)) : (J.write zs ls).2.D.n = J.D.n := by
  unfold Jn.write
  split
  · rfl
  · split
    · rfl
    · split
      · rfl
      · exact Jn.writes_n J zs ls
theorem commit_keys (P : Pg) : keysOf P.own = upI (P.own.map (·.1)) := rfl
theorem commit_places (P : Pg) : P.places = commitPlaces (keysOf P.own) := rfl
theorem commit_blocks (P : Pg) : P.blocks = commitBlocks P (keysOf P.own) := rfl
section
variable {w : World} {F : Ft} {p : Nat} {f : Pf} {P : Pg}
set_option maxHeartbeats 16000000 in
theorem commit_any (h : PgAt w F p f P) (hlast : P.J.last + 1 < 18446744073709551616) (hsq1 : -9223372036854775808 ≤ P.J.seq) (hsq2 : P.J.seq < 9223372036854775807) :
    Calls Tryd.prog 14 #[qptr f.q] w fun e w' => e = .returned (.int .i64 P.commit.1) ∧ PgTo w F p f w' P.commit.2 := by
  have HF := Lib.hid (fails_any h (-1) (by omega) (by omega))
  by_cases h0 : P.fails (-1) = 0
  case neg =>
    have e : P.commit = (P.fails (-1), P) := by rw [Pg.commit, if_pos h0]
    have d1 : (P.fails (-1) != 0) = true := by simpa using h0
    have HS := Lib.hid (PgTo.same h)
    rw [e]
    clear h h0 e
    generalize P.fails (-1) = x at *
    go_enter Tryd.func14, Tryd.ntmps14
    go_wp2_with (go_at_call 33; refine HF.out.mono ?_; rintro e w2 ⟨rfl, rfl⟩)
    go_ret
    exact ⟨rfl, HS.out⟩
  rw [h0] at HF
  obtain ⟨c0, c1, c2, c3, c4, c5, c6, c7⟩ := h.cells
  cases hch : P.change with
  | false =>
    have e : P.commit = (0, P) := by rw [Pg.commit, if_neg (by simp [h0]), if_pos hch]
    have HS := Lib.hid (PgTo.same h)
    rw [hch] at c6
    rw [e]
    clear h h0 e hch
    go_enter Tryd.func14, Tryd.ntmps14
    go_wp2_with (go_at_call 33; refine HF.out.mono ?_; rintro e w2 ⟨rfl, rfl⟩)
    go_ret
    exact ⟨rfl, HS.out⟩
  | true =>
  rw [hch] at c6
  have HE := Lib.hid (show P.commit = if (P.J.write P.places P.blocks).1 ≠ 0 then ((P.J.write P.places P.blocks).1, { P with J := (P.J.write P.places P.blocks).2, off := heardOff P.off (P.J.write P.places P.blocks).1 }) else (0, { P with J := (P.J.write P.places P.blocks).2, was := P.now, wroot := P.root, own := [], change := false }) by
    rw [Pg.commit, if_neg (by simp [h0]), if_neg (by simp [hch])])
  have o := h.ok
  have HPB := Lib.hid (planB_any w 0 _ P.now P.root (h.now.mine 0 (Nat.zero_le _)) o.n1 o.r0 (by have := o.r1; have := o.n1; omega))
  obtain ⟨L1, hL1⟩ : ∃ L, L = planB P.now P.root := ⟨_, rfl⟩
  have hlen : L1.length = 224 := by rw [hL1, planB_length]
  have HL1 := Lib.hid hL1
  rw [← hL1] at HPB
  have HH := Lib.hid h
  have HO := Lib.hid o
  have HLN := Lib.hid hlen
  clear h h0 hch o hL1 hlen
  go_enter Tryd.func14, Tryd.ntmps14
  go_wp2_with (go_at_call 33; refine HF.out.mono ?_; rintro e w9 ⟨rfl, hw9⟩; rw [hw9]; clear hw9 w9)
  refine HPB.out.mono ?_
  rintro e w1 ⟨u, rfl, hu, hb1⟩
  obtain ⟨gu, cu, rfl, hgu, hcu, hgl⟩ := hu.slice (by have := HLN.out; omega)
  rw [HLN.out] at *
  have HP1 := Lib.hid (parts_any w1 0 gu cu 2 224 rfl hcu (by omega) (by omega) (by omega))
  have hs1 := hb1.size
  have HU := Lib.hid hu
  clear hu
  go_wp2_with fail
  refine HP1.out.mono ?_
  rintro e w2 ⟨ua, ul, rfl, ha2, hl2, hb2⟩
  have hs2 := hb2.size
  have h2 := HH.out.below (hb1.trans (hb2.mono hs1))
  have g5 := h2.cells.2.2.2.2.2.1
  have HK := Lib.hid (keys_any w2 f.M f.kv h2.tab (by have := h2.own_len; have := h2.ok.n1; omega))
  have hU2 : Mine 5 w.heap.size w2 (.slice (some ⟨gu, 0, none⟩) 224 cu) L1 := HU.out.below hb2
  have HU2 := Lib.hid hU2
  have HA2 := Lib.hid ha2
  have HL2 := Lib.hid hl2
  have HB2 := Lib.hid (hb1.trans (hb2.mono hs1))
  clear c0 c1 c2 c3 c4 c5 c6 c7 hU2 ha2 hl2 h2 hb1 hb2
  go_wp2_with fail
  refine HK.out.mono ?_
  rintro e w3 ⟨v, rfl, hv3, hb3⟩
  obtain ⟨K, hK⟩ : ∃ K, K = upI (f.kv.map (·.1)) := ⟨_, rfl⟩
  rw [← hK] at hv3
  have hKo : K = keysOf P.own := by rw [hK, HH.out.pgs.keys]; rfl
  have HKM : Hid (∀ k ∈ K, k ∈ P.own.map (·.1)) := Lib.hid fun k hk => by rw [hK, mem_upI, HH.out.pgs.keys] at hk; exact hk
  have HKB : Hid (∀ k ∈ K, 0 ≤ k ∧ k < 1024) := Lib.hid fun k hk => by
    obtain ⟨y, hy, rfl⟩ := List.mem_map.1 (HKM.out k hk)
    have := HO.out.keys y hy
    have := HO.out.n1
    omega
  have hKl : K.length ≤ 1023 := by
    rw [hK, upI_length, List.length_map, HH.out.own_len.2]
    have := HH.out.own_len.1
    have := HO.out.n1
    omega
  have HKO := Lib.hid hKo
  clear hK hKo
  obtain ⟨av, cv, rfl, hvc1, hvc2⟩ := hv3.form
  have hs2' := HB2.out.size
  have hb03 := HB2.out.trans (hb3.mono hs2')
  have HCELL : Hid (∀ i (h : i < K.length), ∃ gk, av = some ⟨gk, 0, none⟩ ∧ w3.cell? ⟨gk, i, none⟩ = some (.int .i64 K[i])) := Lib.hid fun i hi => by
    obtain ⟨g, cap, hv, _, _, hc⟩ := hv3.cell (fun e => by rw [e] at hi; simp at hi)
    simp only [Value.slice.injEq] at hv
    exact ⟨g, hv.1, hc i hi⟩
  have HOWN : Hid (∀ gk, av = some ⟨gk, 0, none⟩ → w2.heap.size ≤ gk ∧ gk < w3.heap.size ∧ ∃ c, w3.heap[gk]? = some (.cells c 3 (0, 0))) := Lib.hid fun gk e => by
    have hv := hv3
    rw [e] at hv
    obtain ⟨a, c, hc⟩ := own_lt hv (k := gk) rfl
    exact ⟨a, lt_of_heap hc, c, hc⟩
  have HA3 : Hid (MineI w.heap.size w3 ua (placesFrom 0 2)) := Lib.hid (World.ownsRow.mono (HA2.out.below hb3) hs1)
  have HL3 : Hid (RowV w.heap.size w3 ul (chunkVals gu (List.range 2))) := Lib.hid (World.ownsRow.mono (HL2.out.below hb3) hs1)
  have HU3 := Lib.hid (HU2.out.below hb3)
  have HNE : Hid (∀ gk, av = some ⟨gk, 0, none⟩ → ua.ownBlock ≠ some gk) := Lib.hid fun gk e e2 => by
    have h1 := HOWN.out gk e
    obtain ⟨a, c, hc⟩ := own_lt HA2.out e2.symm
    have := lt_of_heap hc
    omega
  have HB3 := Lib.hid hb03
  clear hv3 hb3 hb03
  go_wp2_with fail
  go_loopw [4, 5, 38] (fun at_ l x wr => ∃ i : Nat, i ≤ K.length ∧ x = .int .i64 (i : Int) ∧ MineI w.heap.size wr at_ (commitPlaces (K.take i)) ∧ RowV w.heap.size wr l (commitVals gu f.kv (K.take i)) ∧ Mine 5 w.heap.size wr (.slice (some ⟨gu, 0, none⟩) 224 cu) L1 ∧
    (∀ gk, av = some ⟨gk, 0, none⟩ → wr.heap[gk]? = w3.heap[gk]? ∧ at_.ownBlock ≠ some gk ∧ gk < wr.heap.size) ∧ Below w.heap.size w wr) (fun _ _ x _ => K.length - (intOf x).toNat)
  case atStart =>
    refine ⟨0, Nat.zero_le _, rfl, ?_, ?_, HU3.out, fun gk e => ⟨rfl, HNE.out gk e, (HOWN.out gk e).2.1⟩, HB3.out⟩
    · simpa [commitPlaces] using HA3.out
    · simpa [commitVals] using HL3.out
  case round =>
    obtain ⟨i, hi, rfl, hat, hl, hur, hkr, hbr⟩ := hrel
    have hsr := hbr.size
    have HPR := Lib.hid (HH.out.on HH.out hbr)
    by_cases hlt : i < K.length
    · have hd : decide ((i : Int) < (K.length : Int)) = true := decide_eq_true (by omega)
      obtain ⟨gk, hav, hck⟩ := HCELL.out i hlt
      subst hav
      obtain ⟨hk1, hk2, hk3⟩ := hkr gk rfl
      obtain ⟨_, _, ck, hk4⟩ := HOWN.out gk rfl
      have hcr : wr.cell? ⟨gk, i, none⟩ = some (.int .i64 K[i]) := (World.cell?_of_block hk1).trans hck
      obtain ⟨k, hk⟩ : ∃ k, k = K[i] := ⟨_, rfl⟩
      have hkb := HKB.out K[i] (List.getElem_mem hlt)
      have hkm := HKM.out K[i] (List.getElem_mem hlt)
      have HS1 := Lib.hid (commitPlaces_succ K i hlt)
      have HS2 := Lib.hid (commitVals_succ gu f.kv K i hlt)
      rw [← hk] at hcr hkb hkm HS1 HS2
      obtain ⟨ch, b, l1, l2, l3, l4, l5⟩ := HPR.out.pgs.at hkm
      have hlo := HPR.out.tab.kmap.run_look (P := Tryd.prog) (T := 66) Tryd.underlying66 Tryd.underlying3 (.slice none 0 0) (fun w => by kernel_rfl) k
      rw [l1] at hlo
      dsimp only [Option.getD] at hlo
      have g5 := HPR.out.cells.2.2.2.2.2.1
      have hw1 : IntKind.i64.wrap (k * 8) = k * 8 := IntWalk.i64_in _ (by omega)
      have hw2 : IntKind.i64.wrap (2 + k * 8) = 2 + k * 8 := IntWalk.i64_in _ (by omega)
      have HPT := Lib.hid (parts_any wr (2 + k * 8) (pageG f.kv k) ch 8 896 rfl l4 (by omega) (by omega) (by omega))
      obtain ⟨aa, ac, rfl, ha1, ha2⟩ := hat.form
      obtain ⟨la, lc, rfl, hlc1, hlc2⟩ := hl.form
      have HPL := Lib.hid (commitPlaces_len (K.take i))
      have HVL := Lib.hid (commitVals_len gu f.kv (K.take i))
      have HTL : Hid ((K.take i).length = i) := Lib.hid (by rw [List.length_take]; omega)
      have HHk := Lib.hid (And.intro hk1 (And.intro hk2 (And.intro hk3 hk4)))
      have HAT := Lib.hid hat
      have HL := Lib.hid hl
      have HUR := Lib.hid hur
      have HBR := Lib.hid hbr
      clear hk1 hk2 hk3 hk4 hck hkr hat hl hur hbr l1 l2 l3 l4 l5 hk hkm
      go_wp2_with fail
      refine HPT.out.mono ?_
      rintro e w4 ⟨pu, pv, rfl, hpu, hpv, hb4⟩
      obtain ⟨pa, pc, rfl, hp1, hp2⟩ := hpu.form
      obtain ⟨qa, qc, rfl, hq1, hq2⟩ := hpv.form
      have hs4 := hb4.size
      have hat4 := HAT.out.below hb4
      have hl4 := HL.out.below hb4
      have hu4 := HUR.out.below hb4
      obtain ⟨hk1, hk2, hk3, hk4⟩ := HHk.out
      have hk14 := (hb4.block gk hk3).trans hk1
      obtain ⟨v5, w5, hr5, hm5, hb5, hg5, _, ho5⟩ := run_ints w4 w.heap.size _ _ hat4 _ _ hpu.isI (by rw [HPL.out, placesFrom_length, HTL.out]; omega) (by omega)
      have hl5 : RowV w.heap.size w5 _ _ := own_other hl4 hat4 (by decide) hg5
      have hq5 : RowV 0 w5 _ _ := own_other (World.ownsRow.mono hpv (Nat.zero_le _)) (World.ownsRow.mono hat4 (Nat.zero_le _)) (by decide) hg5
      have hu5 : Mine 5 w.heap.size w5 _ _ := own_other hu4 hat4 (by decide) hg5
      have hs5 := hb5.size
      obtain ⟨v6, w6, hr6, hm6, hg6⟩ := hl5.cat (by omega) hq5 (chunkVals_one _ _) (by rw [HVL.out, chunkVals_length, List.length_range, HTL.out]; omega)
      have hat6 : MineI w.heap.size w6 _ _ := own_other hm5 hl5 (by decide) hg6
      have hu6 : Mine 5 w.heap.size w6 _ _ := own_other hu5 hl5 (by decide) hg6
      have hb6 := (Below.refl w.heap.size w5).grown hg6 (by omega) fun k hk => (World.ownsRow.lt hl5 k hk).1
      rw [← HS1.out] at hat6 hm5
      rw [← HS2.out] at hm6
      have hk5 : w5.heap[gk]? = w3.heap[gk]? := (hg5.block gk (by omega) (fun e => hk2 e.symm)).trans hk14
      have hk6 : w6.heap[gk]? = w3.heap[gk]? := (hg6.block gk (by omega) (fun e => by
        obtain ⟨_, c, hc⟩ := own_lt hl5 e
        rw [hk5, hk4] at hc
        simp at hc)).trans hk5
      have hne : v5.ownBlock ≠ some gk := by
        rcases ho5 with e | e
        · rw [e]; exact hk2
        · rw [e]
          simp only [ne_eq, Option.some.injEq]
          omega
      have hs6 := hb6.size
      obtain ⟨a5, c5', rfl, _, _⟩ := hm5.form
      obtain ⟨a6, c6', rfl, _, _⟩ := hm6.form
      have HX := Lib.hid (And.intro hat6 (And.intro hm6 (And.intro hu6 (And.intro (show ∀ gk', (some ⟨gk, 0, none⟩ : Option Addr) = some ⟨gk', 0, none⟩ → w6.heap[gk']? = w3.heap[gk']? ∧ Value.ownBlock _ ≠ some gk' ∧ gk' < w6.heap.size from fun gk' e => by
        simp only [Option.some.injEq, Addr.mk.injEq, and_true] at e
        obtain rfl := e
        exact ⟨hk6, hne, by omega⟩) ((HBR.out.trans (hb4.mono hsr)).trans (hb5.trans hb6))))))
      clear hat6 hm6 hu6 hne hk6 hk5 hk1 hk2 hk3 hk4 hk14 hat4 hl4 hu4 hpu hpv hm5 hg5 hl5 hq5 hu5 hg6 hb6 ho5 hb4 hb5
      go_wp2_with (first | (at_builtin; refine wpList_append_run rfl (.tmp 55) (.tmp 56) 30 30 rfl _ _ _ rfl rfl hr5 ?_; clear hr5) | (at_builtin; refine wpList_append_run rfl (.tmp 58) (.tmp 59) 70 70 rfl _ _ _ rfl rfl hr6 ?_; clear hr6))
      go_roundw
      case rel => exact ⟨i + 1, hlt, by go_num, HX.out.1, HX.out.2.1, HX.out.2.2.1, HX.out.2.2.2.1, HX.out.2.2.2.2⟩
      case measure => simp [intOf]; omega
    · obtain rfl : i = K.length := by omega
      have hdz : decide ((K.length : Int) < (K.length : Int)) = false := by simp
      rw [List.take_length] at hat hl
      have hnj : ∀ k, JT F p k → ¬ w.heap.size ≤ k := fun k e h => by have := HH.out.jat.lt e; omega
      have HW := Lib.hid (jwrite_any wr F p P.J HPR.out.jat HPR.out.nib (by have := HPR.out.n22; omega) _ (commitPlaces K) (fun w' ht => (hat.keep fun k h1 h2 => ht.block k h2 fun e => hnj k e h1).isI) _ (commitBlocks P K)
        (fun w' ht => (hl.keep fun k h1 h2 => ht.block k h2 fun e => hnj k e h1).elB (commit_elB (by
          have := (hur.keep fun k h1 h2 => ht.block k h2 fun e => hnj k e h1).isB
          rw [HL1.out] at this
          exact this) (HPR.out.pgs.keep fun x hx k hk => ht.block k (HPR.out.apart k (.inr (.inr (.inr (.inr ⟨x, hx, hk⟩))))).2.2 (HPR.out.apart k (.inr (.inr (.inr (.inr ⟨x, hx, hk⟩))))).1) K HKM.out))
        (commitPlaces_bounds HKB.out) hlast hsq1 hsq2)
      have HEE : Hid (P.commit = if (P.J.write (commitPlaces K) (commitBlocks P K)).1 ≠ 0 then ((P.J.write (commitPlaces K) (commitBlocks P K)).1, { P with J := (P.J.write (commitPlaces K) (commitBlocks P K)).2, off := heardOff P.off (P.J.write (commitPlaces K) (commitBlocks P K)).1 }) else (0, { P with J := (P.J.write (commitPlaces K) (commitBlocks P K)).2, was := P.now, wroot := P.root, own := [], change := false })) := Lib.hid (by
        rw [HE.out, commit_places, commit_blocks, HKO.out])
      have HJN := Lib.hid (Jn.write_n P.J (commitPlaces K) (commitBlocks P K))
      obtain ⟨aa, ac, rfl, _, _⟩ := hat.form
      obtain ⟨la, lc, rfl, _, _⟩ := hl.form
      have g0 := HPR.out.cells.1
      have HBR := Lib.hid hbr
      clear hkr hat hl hur hbr hnj
      go_wp2_with fail
      refine HW.out.mono ?_
      rintro e w5 ⟨rfl, hj5, ht5⟩
      have hp5 := HPR.out.put_j hj5 ht5 HJN.out
      have hpj : Turned (PJ F p f) wr w5 := ht5.mono fun _ _ e => .inl e
      generalize (P.J.write (commitPlaces K) (commitBlocks P K)) = R at *
      by_cases hz : R.1 = 0
      · have hd2 : (R.1 != 0) = false := by simpa using hz
        have HC : Hid (P.commit = (0, { P with J := R.2, was := P.now, wroot := P.root, own := [], change := false })) := Lib.hid (by rw [HEE.out, if_neg (by simp [hz])])
        have o := HO.out
        have HCL := Lib.hid (pclone_any w5 0 _ P.now P.root (hp5.now.mine 0 (Nat.zero_le _)) (by have := o.n1; omega))
        have HT5 := Lib.hid ((Turned.of_below (T := PJ F p f) HBR.out).trans hpj)
        have HP5 := Lib.hid hp5
        obtain ⟨c0, c1, c2, c3, c4, c5, c6, c7⟩ := hp5.cells
        dsimp only at c1 c2 c3 c4
        clear o hj5 ht5 hp5 hpj hz
        go_wp2_with fail
        refine HCL.out.mono ?_
        rintro e w6 ⟨u, rfl, hu, hb6⟩
        obtain ⟨g, c, rfl, hg, hbo⟩ := hu.boR HO.out.n0
        have h6 := HP5.out.below hb6
        have f3 := h6.frozen 3
        have f4 := h6.frozen 4
        have hd1 := h6.head
        have hd3 := head_setCell (head_setCell hd1 (i := 3) (.slice (some ⟨g, 0, none⟩) P.now.length c)) (i := 4) (.int .i64 P.root)
        have t3 := turned_q2 w6 f.q 3 4 (.slice (some ⟨g, 0, none⟩) P.now.length c) (.int .i64 P.root)
        have hs3 : ((w6.setCell ⟨f.q, 3, none⟩ (.slice (some ⟨g, 0, none⟩) P.now.length c)).setCell ⟨f.q, 4, none⟩ (.int .i64 P.root)).heap.size = w6.heap.size := by simp [World.setCell]
        obtain ⟨d0, d1, d2, d3, d4, d5, d6, d7⟩ := h6.cells
        dsimp only at d3 d4 d5 d6 d7
        have hmm := fun w => run_makeMap (P := Tryd.prog) 66 w
        obtain ⟨w7, hw7⟩ : ∃ x, x = (w6.setCell ⟨f.q, 3, none⟩ (.slice (some ⟨g, 0, none⟩) P.now.length c)).setCell ⟨f.q, 4, none⟩ (.int .i64 P.root) := ⟨_, rfl⟩
        rw [← hw7] at hd3 t3 hs3
        obtain ⟨⟨u5, e5⟩, f5, ⟨u6, e6⟩, f6, hpt⟩ := HP5.out.anew (f' := { f with gw := g, cw := c, M := w7.heap.size, kv := [] }) (P' := { P with J := R.2, was := P.now, wroot := P.root, own := [], change := false }) hb6 t3 hd3 (by rfl) rfl rfl rfl rfl rfl (by rfl) (HP5.out.now.keep (hb6.block _ HP5.out.now.lt)) hbo (.inl rfl) (.inr hg) (by
          have := HP5.out.now.lt
          dsimp only
          omega) (by
          have o := HP5.out.ok
          exact ⟨o.n0, o.n1, rfl, o.r0, o.r1, o.r0, o.r1, fun x hx => (by cases hx), o.jn⟩)
        rw [hs3] at hpt
        have HX := Lib.hid (PgTo.then (f1 := f) rfl (fun _ hk => .inl hk) HT5.out hpt)
        have hs3' := hs3
        clear hpt hd3 t3 hs3 h6 hb6 hbo hd1
        rw [hs3'] at *
        subst hw7
        clear hs3'
        go_wp2_with fail
        go_ret
        rw [HC.out]
        exact ⟨rfl, HX.out⟩
      · have hd2 : (R.1 != 0) = true := by simpa using hz
        have HC : Hid (P.commit = (R.1, { P with J := R.2, off := heardOff P.off R.1 })) := Lib.hid (by rw [HEE.out, if_pos hz])
        have HR := Lib.hid (heard_any hp5 R.1)
        have HT5 := Lib.hid ((Turned.of_below (T := PJ F p f) HBR.out).trans hpj)
        clear hj5 ht5 hp5 hpj hz
        go_wp2_with fail
        refine HR.out.mono ?_
        rintro e w6 ⟨rfl, hp6, ht6⟩
        go_wp2_with fail
        go_ret
        rw [HC.out]
        exact ⟨rfl, f, hp6, rfl, fun _ hk => .inl hk, HT5.out.trans ht6⟩
end
end Go.Proofs.YtbmmcaoifkboiaaDoor

/- How many pages there are. -/
set_option linter.unusedVariables false
set_option linter.unusedSimpArgs false
set_option maxRecDepth 100000
namespace Go.Proofs.YtbmmcaoifkboiaaDoor
open Go.RowKit

theorem pagesOf_any (w : World) (F : Ft) (p : Nat) (J : Jn) (h : JAt w F p J) (h2 : 6 ≤ J.D.n) : Calls Tryd.prog 45 #[jptr p] w fun e w' => e = .returned (.int .i64 (J.pages : Int)) ∧ w = w' := by
  have hB := Lib.hid (blocks_any w F p J h (by omega))
  have hn := h.disk.ok.nm
  have hb : 2 ≤ J.D.blocks := by unfold Dk.blocks; omega
  have hb2 : J.D.blocks ≤ 1000000000 := by unfold Dk.blocks; omega
  have e1 : (J.pages : Int) = ((J.D.blocks : Int) - 2) / 8 := by unfold Jn.pages; omega
  rw [e1]
  clear e1 h
  go_enter Tryd.func45, Tryd.ntmps45
  go_wp2_with (go_at_call 30; refine hB.out.mono ?_; rintro e w2 ⟨rfl, rfl⟩)
  go_ret
  refine ⟨?_, rfl⟩
  go_num
end Go.Proofs.YtbmmcaoifkboiaaDoor

/- planned: bytes read as a plan. -/
set_option linter.unusedVariables false
set_option linter.unusedSimpArgs false
set_option maxRecDepth 100000
namespace Go.Proofs.YtbmmcaoifkboiaaDoor
open Go.RowKit

theorem cell_alloc (w : World) (o : Obj) {a : Addr} {v : Value} (h : w.cell? a = some v) : (w.alloc o).cell? a = some v := by
  have hl : a.block < w.heap.size := by
    rcases Nat.lt_or_ge a.block w.heap.size with hl | hl
    · exact hl
    · have := Array.getElem?_eq_none (xs := w.heap) hl
      simp [World.cell?, this] at h
  rw [((Below.refl w.heap.size w).alloc (Nat.le_refl _) o).cell hl]
  exact h
def RowO (w : World) (g : Nat) (t : List Bool) : Prop := w.heap[g]? = some (.cells (bov t).toArray 4 (0, 0))
theorem and_bit (x : UInt8) (j : Nat) (hj : j < 8) : (bits .and .u8 ((x.toNat : Nat) : Int) ((2 ^ j : Nat) : Int) != 0) = x.toNat.testBit j := by
  have hp : (2 : Nat) ^ j < 256 := by
    have := Nat.pow_lt_pow_right (a := 2) (by omega) hj
    omega
  have e : x.toNat &&& 2 ^ j = if x.toNat.testBit j then 2 ^ j else 0 := by
    apply Nat.eq_of_testBit_eq
    intro i
    rw [Nat.testBit_and, Nat.testBit_two_pow]
    by_cases h : j = i
    · subst h
      cases hb : x.toNat.testBit j <;> simp
    · cases hb : x.toNat.testBit j <;> simp [h, Nat.testBit_two_pow]
  rw [u8_and_nat _ _ x.toNat_lt hp, e]
  have h0 : (2 : Nat) ^ j ≠ 0 := by
    have := Nat.two_pow_pos j
    omega
  cases x.toNat.testBit j with
  | false => simp
  | true =>
    rw [if_pos rfl, bne_iff_ne]
    intro q
    exact h0 (by exact_mod_cast q)
def takenK (b : List UInt8) (n k : Nat) : List Bool := takenOf b k ++ List.replicate (n - k) false
theorem takenK_length (b : List UInt8) (n k : Nat) (h : k ≤ n) : (takenK b n k).length = n := by simp [takenK, takenOf_length]; omega
theorem takenK_set (b : List UInt8) (n k : Nat) (h : k < n) : (takenK b n k).set k (bitAt b k) = takenK b n (k + 1) := by
  have hl : (takenOf b k).length = k := takenOf_length b k
  have e1 : n - k = (n - (k + 1)) + 1 := by omega
  have e2 : takenOf b (k + 1) = takenOf b k ++ [bitAt b k] := by simp [takenOf, List.range_succ]
  rw [takenK, takenK, e2, e1, List.replicate_succ, List.set_append_right _ _ (by omega), hl, Nat.sub_self, List.set_cons_zero, List.append_assoc]
  rfl
theorem RowO.cell {w : World} {g : Nat} {t : List Bool} (h : RowO w g t) (i : Nat) (hi : i < t.length) : w.cell? ⟨g, i, none⟩ = some (.bool t[i]) := by
  rw [cell_of_row _ _ _ _ _ _ h]
  simp [bov, hi]
theorem RowO.set {w : World} {g : Nat} {t : List Bool} (h : RowO w g t) (i : Nat) (b : Bool) : RowO (w.setCell ⟨g, i, none⟩ (.bool b)) g (t.set i b) := by
  have := head_setCell h (i := i) (.bool b)
  rw [RowO, this]
  simp [bov, List.map_set]
theorem results_cell_tmp {P : Program} {fn : Func} {tmps : Array Value} {a : Tmp} {t : TypeId} {p : Addr} {v : Value} {w : World} {b : Tmp} (hr : fn.results = #[.cell a t, .tmp b]) (ha : tmps.getD a undef = .pointer (some p)) (hv : (loadVar t p).run P w = .ok v w) :
    (results fn tmps).run P w = .ok (.tuple #[v, tmps.getD b undef]) w := by
  unfold results
  simp only [hr, List.mapM_toArray, List.mapM_cons, List.mapM_nil, ha, asAddr, Sem.run_bind, Sem.run_pure, Result.andThen_ok, hv, bind_assoc, pure_bind, Sem.run_map]
  rfl
theorem two_blocks (W : World) (o1 o2 : Obj) : ((W.alloc o1).alloc o2).heap[W.heap.size]? = some o1 ∧ ((W.alloc o1).alloc o2).heap[W.heap.size + 1]? = some o2 ∧ Below W.heap.size W ((W.alloc o1).alloc o2) := by
  have h1 := heap_alloc_new W o1
  have h2 := heap_alloc_new (W.alloc o1) o2
  have hs : (W.alloc o1).heap.size = W.heap.size + 1 := by simp
  rw [hs] at h2
  have hb := (Below.refl (W.alloc o1).heap.size (W.alloc o1)).alloc (Nat.le_refl _) o2
  refine ⟨(hb.block _ (by omega)).trans h1, h2, ((Below.refl _ _).alloc (Nat.le_refl _) o1).alloc (by omega) o2⟩
theorem run_makeO (n : Nat) (hn : n ≤ 1000000) (w : World) : (Instr.makeSlice 62 (.int .i64 (n : Int)) (.int .i64 (n : Int))).run Tryd.prog w = .ok (.slice (some ⟨w.heap.size, 0, none⟩) n n) (w.alloc (.cells (bov (List.replicate n false)).toArray 4)) := by
  rw [run_make_row' (P := Tryd.prog) 62 4 (.bool false) 1 Tryd.underlying62 info_bool rfl .i64 .i64 n (by omega) (by omega) w]
  congr 3
  simp only [madeCells, bov, List.map_replicate, List.size_toArray, List.toArray_replicate]
  apply Array.ext
  · simp
  · intro i h1 h2
    simp [Nat.mod_one]
set_option maxHeartbeats 8000000 in
theorem planned_any (w : World) (v : Value) (b : List UInt8) (n : Nat) (hv : IsB w v b) (hb : b.length = 224) (hn : n ≤ 1023) :
    Calls Tryd.prog 44 #[v, .int .i64 (n : Int)] w fun e w' => ∃ u, e = .returned (.tuple #[.agg #[u, .int .i64 (rootOf b)], .bool (planOk b n)]) ∧ MineO w.heap.size w' u (takenOf b n) ∧ Below w.heap.size w w' := by
  obtain ⟨a, c, rfl, hc1, hc2⟩ := hv.form
  have hmk := run_makeO n (by omega)
  obtain ⟨vb, vo, rfl, h6⟩ := isB_at hv 6 (by omega)
  obtain ⟨vb', vo', hh, h7⟩ := isB_at hv 7 (by omega)
  obtain ⟨rfl, rfl⟩ : vb = vb' ∧ vo = vo' := by simpa using hh
  clear hh
  obtain ⟨x6, hx6⟩ : ∃ x, x = (b[6]'(by omega)).toNat := ⟨_, rfl⟩
  obtain ⟨x7, hx7⟩ : ∃ x, x = (b[7]'(by omega)).toNat := ⟨_, rfl⟩
  rw [← hx6] at h6
  rw [← hx7] at h7
  have l6 : x6 < 256 := by rw [hx6]; exact UInt8.toNat_lt _
  have l7 : x7 < 256 := by rw [hx7]; exact UInt8.toNat_lt _
  have HR : Hid (rootOf b = (x6 : Int) + 256 * (x7 : Int) - 1) := Lib.hid (by
    rw [hx6, hx7, rootOf, List.getD_eq_getElem?_getD, List.getElem?_eq_getElem (by omega), List.getD_eq_getElem?_getD, List.getElem?_eq_getElem (by omega)]
    rfl)
  have w6 : IntKind.i64.wrap (x6 : Int) = (x6 : Int) := IntWalk.i64_in _ (by omega)
  have w7 : IntKind.i64.wrap (x7 : Int) = (x7 : Int) := IntWalk.i64_in _ (by omega)
  have wa : IntKind.i64.wrap ((x7 : Int) * 256) = (x7 : Int) * 256 := IntWalk.i64_in _ (by omega)
  have wb : IntKind.i64.wrap ((x6 : Int) + (x7 : Int) * 256) = (x6 : Int) + (x7 : Int) * 256 := IntWalk.i64_in _ (by omega)
  have wc : IntKind.i64.wrap ((x6 : Int) + (x7 : Int) * 256 - 1) = rootOf b := by rw [HR.out, IntWalk.i64_in _ (by omega)]; omega
  have hr1 : -1 ≤ rootOf b := by rw [HR.out]; omega
  have hr2 : rootOf b < 65535 := by rw [HR.out]; omega
  obtain ⟨R, hR⟩ : ∃ R, R = rootOf b := ⟨_, rfl⟩
  rw [← hR] at wc hr1 hr2 ⊢
  have HRb := Lib.hid hR
  clear hx6 hx7 hR
  have HV := Lib.hid hv
  obtain ⟨W1, hW1⟩ : ∃ W1, W1 = w.alloc (.cells #[.slice none 0 0, .int .i64 0] 64) := ⟨_, rfl⟩
  have hq1 : W1.heap[w.heap.size]? = some (planRow (.slice none 0 0) 0) := by rw [hW1]; exact heap_alloc_new w _
  have hb1 : Below w.heap.size w W1 := by rw [hW1]; exact (Below.refl _ _).alloc (Nat.le_refl _) _
  have hs1 : W1.heap.size = w.heap.size + 1 := by rw [hW1]; simp
  have h61 : W1.cell? ⟨vb, vo + 6, none⟩ = some (.int .u8 (x6 : Int)) := by rw [hW1]; exact cell_alloc w _ h6
  have h71 : W1.cell? ⟨vb, vo + 7, none⟩ = some (.int .u8 (x7 : Int)) := by rw [hW1]; exact cell_alloc w _ h7
  have HW1 := Lib.hid hW1
  clear h6 h7 hW1 hv
  go_enter Tryd.func44, Tryd.ntmps44
  go_upto_region 1 with fail
  rw [← HW1.out]
  clear HW1
  have hS0 : (fun W : World => W.cell? ⟨vb, vo + 6, none⟩ = some (.int .u8 (x6 : Int)) ∧ W.cell? ⟨vb, vo + 7, none⟩ = some (.int .u8 (x7 : Int))) W1.drew := ⟨h61, h71⟩
  refine wp_region_noPanic ?_
  refine wp_region_held_drew (S := (fun W : World => W.cell? ⟨vb, vo + 6, none⟩ = some (.int .u8 (x6 : Int)) ∧ W.cell? ⟨vb, vo + 7, none⟩ = some (.int .u8 (x7 : Int)))) (by kernel_rfl) hS0 (fun hH => ?_)
  refine take_at (i := 0) (v := ?_) rfl (by kernel_rfl) (by kernel_rfl) (by kernel_rfl) (fun _ _ _ h => h) (Or.inl ⟨by rfl, ?_⟩) hH ?_
  rotate_left
  · (intro w hSw; obtain ⟨q0, q1⟩ := hSw; go_simp; try with_reducible rfl)
  try simp only [Act.put, List.setIfInBounds_toArray, List.set_cons_zero, List.set_cons_succ]
  refine take_at (i := 2) (v := ?_) rfl (by kernel_rfl) (by kernel_rfl) (by kernel_rfl) (fun _ _ _ h => h) (Or.inl ⟨by rfl, ?_⟩) hH ?_
  rotate_left
  · (intro w hSw; obtain ⟨q0, q1⟩ := hSw; go_simp; try with_reducible rfl)
  try simp only [Act.put, List.setIfInBounds_toArray, List.set_cons_zero, List.set_cons_succ]
  refine take_at (i := 3) (v := ?_) rfl (by kernel_rfl) (by kernel_rfl) (by kernel_rfl) (fun _ _ _ h => h) (Or.inl ⟨by rfl, ?_⟩) hH ?_
  rotate_left
  · (intro w hSw; obtain ⟨q0, q1⟩ := hSw; go_simp; try with_reducible rfl)
  try simp only [Act.put, List.setIfInBounds_toArray, List.set_cons_zero, List.set_cons_succ]
  refine take_at (i := 4) (v := ?_) rfl (by kernel_rfl) (by kernel_rfl) (by kernel_rfl) (fun _ _ _ h => h) (Or.inl ⟨by rfl, ?_⟩) hH ?_
  rotate_left
  · (intro w hSw; obtain ⟨q0, q1⟩ := hSw; go_simp; try with_reducible rfl)
  try simp only [Act.put, List.setIfInBounds_toArray, List.set_cons_zero, List.set_cons_succ]
  refine take_at (i := 5) (v := ?_) rfl (by kernel_rfl) (by kernel_rfl) (by kernel_rfl) (fun _ _ _ h => h) (Or.inl ⟨by rfl, ?_⟩) hH ?_
  rotate_left
  · (intro w hSw; obtain ⟨q0, q1⟩ := hSw; go_simp; try with_reducible rfl)
  try simp only [Act.put, List.setIfInBounds_toArray, List.set_cons_zero, List.set_cons_succ]
  refine take_at (i := 6) (v := ?_) rfl (by kernel_rfl) (by kernel_rfl) (by kernel_rfl) (fun _ _ _ h => h) (Or.inl ⟨by rfl, ?_⟩) hH ?_
  rotate_left
  · (intro w hSw; obtain ⟨q0, q1⟩ := hSw; go_simp; try with_reducible rfl)
  try simp only [Act.put, List.setIfInBounds_toArray, List.set_cons_zero, List.set_cons_succ]
  refine take_at (i := 7) (v := ?_) rfl (by kernel_rfl) (by kernel_rfl) (by kernel_rfl) (fun _ _ _ h => h) (Or.inl ⟨by rfl, ?_⟩) hH ?_
  rotate_left
  · (intro w hSw; obtain ⟨q0, q1⟩ := hSw; go_simp; try with_reducible rfl)
  try simp only [Act.put, List.setIfInBounds_toArray, List.set_cons_zero, List.set_cons_succ]
  refine take_at (i := 8) (v := ?_) rfl (by kernel_rfl) (by kernel_rfl) (by kernel_rfl) (fun _ _ _ h => h) (Or.inl ⟨by rfl, ?_⟩) hH ?_
  rotate_left
  · (intro w hSw; obtain ⟨q0, q1⟩ := hSw; go_simp; try with_reducible rfl)
  try simp only [Act.put, List.setIfInBounds_toArray, List.set_cons_zero, List.set_cons_succ]
  refine take_at (i := 9) (v := ?_) rfl (by kernel_rfl) (by kernel_rfl) (by kernel_rfl) (fun _ _ _ h => h) (Or.inl ⟨by rfl, ?_⟩) hH ?_
  rotate_left
  · (intro w hSw; obtain ⟨q0, q1⟩ := hSw; go_simp; try with_reducible rfl)
  try simp only [Act.put, List.setIfInBounds_toArray, List.set_cons_zero, List.set_cons_succ]
  refine take_at (i := 10) (v := ?_) rfl (by kernel_rfl) (by kernel_rfl) (by kernel_rfl) (fun _ _ _ h => h) (Or.inl ⟨by rfl, ?_⟩) hH ?_
  rotate_left
  · (intro w hSw; obtain ⟨q0, q1⟩ := hSw; go_simp; try with_reducible rfl)
  try simp only [Act.put, List.setIfInBounds_toArray, List.set_cons_zero, List.set_cons_succ]
  refine take_at (i := 11) (v := ?_) rfl (by kernel_rfl) (by kernel_rfl) (by kernel_rfl) (fun _ _ _ h => h) (Or.inl ⟨by rfl, ?_⟩) hH ?_
  rotate_left
  · (intro w hSw; obtain ⟨q0, q1⟩ := hSw; go_simp; try with_reducible rfl)
  try simp only [Act.put, List.setIfInBounds_toArray, List.set_cons_zero, List.set_cons_succ]
  refine take_at (i := 12) (v := ?_) rfl (by kernel_rfl) (by kernel_rfl) (by kernel_rfl) (fun _ _ _ h => h) (Or.inl ⟨by rfl, ?_⟩) hH ?_
  rotate_left
  · (intro w hSw; obtain ⟨q0, q1⟩ := hSw; go_simp; try with_reducible rfl)
  try simp only [Act.put, List.setIfInBounds_toArray, List.set_cons_zero, List.set_cons_succ]
  refine wpAnyH_ready (rs := [1, 14]) (by kernel_rfl) (by simp) ?_
  refine ready_at rfl (fun K hK => ?_) ?_
  · go_simp
    go_wp2_with fail
    refine hK.out _ _ ⟨cell_alloc _ _ hH.1, cell_alloc _ _ hH.2⟩ (fun hH => ?_)
    clear hK K
    try simp only [Act.put, List.setIfInBounds_toArray, List.set_cons_zero, List.set_cons_succ]
    refine take_at (i := 13) (v := ?_) rfl (by kernel_rfl) (by kernel_rfl) (by kernel_rfl) (fun _ _ _ h => h) (Or.inl ⟨by rfl, ?_⟩) hH ?_
    rotate_left
    · (intro w hSw; obtain ⟨q0, q1⟩ := hSw; go_simp; try with_reducible rfl)
    try simp only [Act.put, List.setIfInBounds_toArray, List.set_cons_zero, List.set_cons_succ]
    refine wpAnyH_ready (rs := [14]) (by kernel_rfl) (by simp) ?_
    refine ready_at rfl (fun K hK => ?_) AllReadyH.nil
    go_simp
    go_wp2_with fail
    refine hK.out _ _ ⟨cell_alloc _ _ hH.1, cell_alloc _ _ hH.2⟩ (fun hH => ?_)
    clear hK K
    try simp only [Act.put, List.setIfInBounds_toArray, List.set_cons_zero, List.set_cons_succ]
    refine wpAnyH_ready (rs := [15]) (by kernel_rfl) (by simp) ?_
    refine ready_at rfl (fun K hK => ?_) AllReadyH.nil
    go_simp
    obtain ⟨hrow, hpl, hbn⟩ := two_blocks W1 (.cells (bov (List.replicate n false)).toArray 4) (.cells #[.slice (some ⟨w.heap.size + 1, 0, none⟩) n n, .int .i64 R] 64)
    have h64 := cell_alloc _ (.cells #[.slice (some ⟨w.heap.size + 1, 0, none⟩) n n, .int .i64 R] 64) (cell_alloc _ (.cells (bov (List.replicate n false)).toArray 4) h61)
    have h74 := cell_alloc _ (.cells #[.slice (some ⟨w.heap.size + 1, 0, none⟩) n n, .int .i64 R] 64) (cell_alloc _ (.cells (bov (List.replicate n false)).toArray 4) h71)
    rw [hs1] at hrow hpl hbn
    clear h61 h71 hH
    generalize (W1.alloc (.cells (bov (List.replicate n false)).toArray 4)).alloc (.cells #[.slice (some ⟨w.heap.size + 1, 0, none⟩) n n, .int .i64 R] 64) = W4 at *
    generalize hpb : w.heap.size + 1 + 1 = pb at *
    generalize hrb : w.heap.size + 1 = rb at *
    refine hK.out _ _ ⟨h64, h74⟩ (fun hH => ?_)
    clear h64 h74 hH
    clear hK K
    try simp only [Act.put, List.setIfInBounds_toArray, List.set_cons_zero, List.set_cons_succ]
    refine wpAnyH_done (by kernel_rfl) ?_ _
    refine NoPanic.normal ?_
    have hres := (hbn.block _ (by omega)).trans hq1
    have hbw : Below w.heap.size w W4.drew := (hb1.trans (hbn.mono (by omega))).drew
    have hrow5 : RowO W4.drew rb (takenK b n 0) := by
      rw [show takenK b n 0 = List.replicate n false from rfl]
      exact hrow
    replace hpl : W4.drew.heap[pb]? = some (planRow (.slice (some ⟨rb, 0, none⟩) n n) R) := hpl
    replace hres : W4.drew.heap[w.heap.size]? = some (planRow (.slice none 0 0) 0) := hres
    have hne1 : rb ≠ pb := by omega
    have hne2 : w.heap.size < rb := by omega
    have hne3 : w.heap.size < pb := by omega
    clear hrow hbn hq1 hb1 hs1 hpb hrb hmk
    generalize W4.drew = W5 at *
    go_wp2_with fail
    go_loopw [24] (fun x wr => ∃ k : Nat, k ≤ n ∧ x = .int .i64 (k : Int) ∧ RowO wr rb (takenK b n k) ∧ wr.heap[pb]? = some (planRow (.slice (some ⟨rb, 0, none⟩) n n) R) ∧ wr.heap[w.heap.size]? = some (planRow (.slice none 0 0) 0) ∧ Below w.heap.size w wr) (fun x _ => n - (intOf x).toNat)
    case atStart => exact ⟨0, Nat.zero_le _, rfl, hrow5, hpl, hres, hbw⟩
    case round =>
      clear hrow5 hpl hres hbw
      obtain ⟨k, hk, rfl, hrow, hpl, hres, hbw⟩ := hrel
      by_cases hlt : k < n
      · have hd : decide ((k : Int) < (n : Int)) = true := decide_eq_true (by omega)
        have hk8 : k / 8 < 216 := by omega
        obtain ⟨b', o', ha, hc⟩ := isB_at (HV.out.below hbw) (8 + k / 8) (by omega)
        obtain ⟨rfl, rfl⟩ : vb = b' ∧ vo = o' := by simpa using ha
        clear ha
        have hTl := takenK_length b n k hk
        have hfz := frozen_p hrow k
        have hcp : wr.cell? ⟨pb, 0, none⟩ = some (.slice (some ⟨rb, 0, none⟩) n n) := (plan_cells hpl).1
        obtain ⟨tk, hcr⟩ : ∃ u, wr.cell? ⟨rb, k, none⟩ = some u := ⟨_, hrow.cell k (by omega)⟩
        replace hc : wr.drew.cell? _ = _ := hc
        replace hfz : wr.drew.frozen? _ = _ := hfz
        replace hcp : wr.drew.cell? _ = _ := hcp
        replace hcr : wr.drew.cell? _ = _ := hcr
        have hw1 : IntKind.i64.wrap ((k : Int) / 8) = (k : Int) / 8 := IntWalk.i64_in _ (by omega)
        have hw2 : IntKind.i64.wrap (8 + (k : Int) / 8) = 8 + (k : Int) / 8 := IntWalk.i64_in _ (by omega)
        have hw3 : (0 : Int) ≤ 8 + (k : Int) / 8 := by omega
        have hw4 : 8 + (k : Int) / 8 < 224 := by omega
        have hw5 : (8 + (k : Int) / 8).toNat = 8 + k / 8 := by omega
        have hsh : ∀ W, Sem.run Tryd.prog (Op.shift .shl .u8 1 .i64 ((k : Int).tmod 8)) W = .ok (.int .u8 ((2 ^ (k % 8) : Nat) : Int)) W := fun W => by rw [tmod8]; exact run_shl1 _ (by omega) W
        have hand := and_bit b[8 + k / 8] (k % 8) (by omega)
        rw [show ((2 ^ (k % 8) : Nat) : Int) = (2 : Int) ^ (k % 8) by simp] at hand
        have hbit : b[8 + k / 8].toNat.testBit (k % 8) = bitAt b k := by rw [bitAt, List.getD_eq_getElem?_getD, List.getElem?_eq_getElem (by omega)]; rfl
        rw [hbit] at hand
        have hrd : RowO wr.drew rb (takenK b n k) := hrow
        have hs := hrd.set k (bitAt b k)
        rw [takenK_set b n k hlt] at hs
        have hts := turned_one wr.drew rb k (.bool (bitAt b k))
        have HF := Lib.hid (And.intro hs (And.intro ((hts.block pb (lt_of_heap hpl) (by omega)).trans hpl) (And.intro ((hts.block w.heap.size (lt_of_heap hres) (by omega)).trans hres) (hbw.drew.trans (hts.below (B := w.heap.size) (by have := hbw.size; exact this) (fun k hk => by omega))))))
        clear hrow hpl hres hbw hrd hs hts hbit hTl
        generalize bitAt b k = bk at *
        go_wp2_with fail
        refine wp_region_still_tail 15 (by kernel_rfl) (by kernel_rfl) ?_
        simp only [List.take_succ_cons, List.take_zero, List.drop_succ_cons, List.drop_zero]
        change wpStill _ _ wr.drew (fun a' => wpList _ _ _ _ a' wr.drew) _ _
        generalize wr.drew = W6 at *
        iterate 15 still_step
        refine wpStill_nil ?_
        go_wp2_with fail
        go_roundw
        case rel => exact ⟨k + 1, by omega, by go_num, HF.out.1, HF.out.2.1, HF.out.2.2.1, HF.out.2.2.2⟩
        case measure => simp [intOf]; omega
      · obtain rfl : k = n := by omega
        have hdz : decide ((k : Int) < (k : Int)) = false := by simp
        have e0 : takenK b k k = takenOf b k := by simp [takenK]
        rw [e0] at hrow
        have hTl := takenOf_length b k
        obtain ⟨T, hT⟩ : ∃ T, T = takenOf b k := ⟨_, rfl⟩
        have HOK : Hid (planOk b k = (decide (R < (k : Int)) && (decide (R < 0) || T.getD R.toNat false) && (planB T R == b))) := Lib.hid (by rw [planOk, HRb.out, hT])
        rw [← hT] at hrow hTl
        have hm : MineO w.heap.size wr (.slice (some ⟨rb, 0, none⟩) k k) T := by
          unfold MineO
          rw [hTl]
          exact ⟨by simp [bov_length, hTl], .inr ⟨rb, k, _, rfl, by omega, hrow, Nat.le_refl _, by simp [maxLen]; omega, by simp [bov_length, hTl], by simp [List.take_of_length_le, bov_length, hTl]⟩⟩
        have HT := Lib.hid hT
        obtain ⟨g00, g01⟩ := plan_cells hpl
        obtain ⟨s00, s01⟩ := plan_cells hres
        have f0 := frozen_p hres 0
        have f1 := frozen_p hres 1
        clear hT e0
        replace hm : MineO (w.heap.size + 1) wr (.slice (some ⟨rb, 0, none⟩) k k) T := by
          unfold MineO
          rw [hTl]
          exact ⟨by simp [bov_length, hTl], .inr ⟨rb, k, _, rfl, by omega, hrow, Nat.le_refl _, by simp [maxLen]; omega, by simp [bov_length, hTl], by simp [List.take_of_length_le, bov_length, hTl]⟩⟩
        by_cases hA : R < (k : Int)
        case neg =>
          have d1 : decide (R < (k : Int)) = false := decide_eq_false hA
          go_wp2_with fail
          have hq4 := head_setCell (head_setCell hres (i := 0) (.slice (some ⟨rb, 0, none⟩) k k)) (i := 1) (.int .i64 R)
          have ht4 := (turned_one wr w.heap.size 0 (.slice (some ⟨rb, 0, none⟩) k k)).trans (turned_one _ w.heap.size 1 (.int .i64 R))
          have hv := run_loadVar_row (P := Tryd.prog) _ w.heap.size 64 64 _ (0, 0) _ hq4 Tryd.underlying64 rfl (by rw [info_plan]; rfl)
          refine bodyPost_ret (results_cell_tmp Tryd.results44 rfl hv) rfl ⟨.slice (some ⟨rb, 0, none⟩) k k, ?_, ?_, ?_⟩
          · rw [HOK.out, d1]; rfl
          · rw [← HT.out]
            exact World.ownsRow.mono (hm.keep fun j h1 h2 => ht4.block j h2 (by omega)) (by omega)
          · exact hbw.trans (ht4.below (B := w.heap.size) hbw.size fun j hj => by omega)
        have d1 : decide (R < (k : Int)) = true := decide_eq_true hA
        have HPB := Lib.hid (planB_any wr (w.heap.size + 1) _ T R hm (by omega) hr1 hr2)
        by_cases hB : R < 0
        · have d2 : decide (R < 0) = true := decide_eq_true hB
          go_wp2_with fail
          refine HPB.out.mono ?_
          rintro e w2 ⟨u, rfl, hu, hb2⟩
          have hu2 := hu.isB
          obtain ⟨ua, uc, rfl, _, _⟩ := hu2.form
          have HE := Lib.hid (equalB_any w2 _ _ _ _ hu2 ((HV.out.below hbw).below hb2) (by rw [planB_length]; omega))
          rw [hb, planB_length] at HE
          simp only [planB_length]
          have hres2 := (hb2.block _ (lt_of_heap hres)).trans hres
          have hpl2 := (hb2.block _ (lt_of_heap hpl)).trans hpl
          have hm2 := hm.below hb2
          have hbw2 := hbw.trans (hb2.mono hbw.size)
          clear hres hpl hm hbw hb2 hu hu2 g00 g01 s00 s01 f0 f1
          go_wp2_with fail
          refine HE.out.mono ?_
          rintro e w3 ⟨rfl, hb3⟩
          have hres3 := (hb3.block _ (lt_of_heap hres2)).trans hres2
          have hpl3 := (hb3.block _ (lt_of_heap hpl2)).trans hpl2
          have hm3 := hm2.below hb3
          have hbw3 := hbw2.trans (hb3.mono hbw2.size)
          obtain ⟨t00, t01⟩ := plan_cells hpl3
          obtain ⟨u00, u01⟩ := plan_cells hres3
          have t0 := frozen_p hres3 0
          have t1 := frozen_p hres3 1
          clear hres2 hpl2 hm2 hbw2 hb3
          go_wp2_with fail
          have hq4 := head_setCell (head_setCell hres3 (i := 0) (.slice (some ⟨rb, 0, none⟩) k k)) (i := 1) (.int .i64 R)
          have ht4 := (turned_one w3 w.heap.size 0 (.slice (some ⟨rb, 0, none⟩) k k)).trans (turned_one _ w.heap.size 1 (.int .i64 R))
          have hv := run_loadVar_row (P := Tryd.prog) _ w.heap.size 64 64 _ (0, 0) _ hq4 Tryd.underlying64 rfl (by rw [info_plan]; rfl)
          refine bodyPost_ret (results_cell_tmp Tryd.results44 rfl hv) rfl ⟨.slice (some ⟨rb, 0, none⟩) k k, ?_, ?_, ?_⟩
          · rw [HOK.out, d1, d2]; rfl
          · rw [← HT.out]
            exact World.ownsRow.mono (hm3.keep fun j h1 h2 => ht4.block j h2 (by omega)) (by omega)
          · exact hbw3.trans (ht4.below (B := w.heap.size) hbw3.size fun j hj => by omega)
        · have d2 : decide (R < 0) = false := decide_eq_false hB
          have hRl : R.toNat < T.length := by omega
          have hRk : R.toNat < k := by omega
          have hR0 : (0 : Int) ≤ R := by omega
          have hcr := hrow.cell R.toNat hRl
          obtain ⟨tr, htr⟩ : ∃ x, x = T[R.toNat] := ⟨_, rfl⟩
          have hTR : T.getD R.toNat false = tr := by rw [htr, List.getD_eq_getElem?_getD, List.getElem?_eq_getElem hRl]; rfl
          rw [← htr] at hcr
          have HTR := Lib.hid hTR
          clear htr hTR
          cases tr with
          | false =>
            go_wp2_with fail
            have hq4 := head_setCell (head_setCell hres (i := 0) (.slice (some ⟨rb, 0, none⟩) k k)) (i := 1) (.int .i64 R)
            have ht4 := (turned_one wr w.heap.size 0 (.slice (some ⟨rb, 0, none⟩) k k)).trans (turned_one _ w.heap.size 1 (.int .i64 R))
            have hv := run_loadVar_row (P := Tryd.prog) _ w.heap.size 64 64 _ (0, 0) _ hq4 Tryd.underlying64 rfl (by rw [info_plan]; rfl)
            refine bodyPost_ret (results_cell_tmp Tryd.results44 rfl hv) rfl ⟨.slice (some ⟨rb, 0, none⟩) k k, ?_, ?_, ?_⟩
            · rw [HOK.out, d1, d2, HTR.out]; rfl
            · rw [← HT.out]
              exact World.ownsRow.mono (hm.keep fun j h1 h2 => ht4.block j h2 (by omega)) (by omega)
            · exact hbw.trans (ht4.below (B := w.heap.size) hbw.size fun j hj => by omega)
          | true =>
            go_wp2_with fail
            refine HPB.out.mono ?_
            rintro e w2 ⟨u, rfl, hu, hb2⟩
            have hu2 := hu.isB
            obtain ⟨ua, uc, rfl, _, _⟩ := hu2.form
            have HE := Lib.hid (equalB_any w2 _ _ _ _ hu2 ((HV.out.below hbw).below hb2) (by rw [planB_length]; omega))
            rw [hb, planB_length] at HE
            simp only [planB_length]
            have hres2 := (hb2.block _ (lt_of_heap hres)).trans hres
            have hpl2 := (hb2.block _ (lt_of_heap hpl)).trans hpl
            have hm2 := hm.below hb2
            have hbw2 := hbw.trans (hb2.mono hbw.size)
            clear hres hpl hm hbw hb2 hu hu2 g00 g01 s00 s01 f0 f1
            go_wp2_with fail
            refine HE.out.mono ?_
            rintro e w3 ⟨rfl, hb3⟩
            have hres3 := (hb3.block _ (lt_of_heap hres2)).trans hres2
            have hpl3 := (hb3.block _ (lt_of_heap hpl2)).trans hpl2
            have hm3 := hm2.below hb3
            have hbw3 := hbw2.trans (hb3.mono hbw2.size)
            obtain ⟨t00, t01⟩ := plan_cells hpl3
            obtain ⟨u00, u01⟩ := plan_cells hres3
            have t0 := frozen_p hres3 0
            have t1 := frozen_p hres3 1
            clear hres2 hpl2 hm2 hbw2 hb3
            go_wp2_with fail
            have hq4 := head_setCell (head_setCell hres3 (i := 0) (.slice (some ⟨rb, 0, none⟩) k k)) (i := 1) (.int .i64 R)
            have ht4 := (turned_one w3 w.heap.size 0 (.slice (some ⟨rb, 0, none⟩) k k)).trans (turned_one _ w.heap.size 1 (.int .i64 R))
            have hv := run_loadVar_row (P := Tryd.prog) _ w.heap.size 64 64 _ (0, 0) _ hq4 Tryd.underlying64 rfl (by rw [info_plan]; rfl)
            refine bodyPost_ret (results_cell_tmp Tryd.results44 rfl hv) rfl ⟨.slice (some ⟨rb, 0, none⟩) k k, ?_, ?_, ?_⟩
            · rw [HOK.out, d1, d2, HTR.out]; rfl
            · rw [← HT.out]
              exact World.ownsRow.mono (hm3.keep fun j h1 h2 => ht4.block j h2 (by omega)) (by omega)
            · exact hbw3.trans (ht4.below (B := w.heap.size) hbw3.size fun j hj => by omega)
  refine ready_at rfl (fun K hK => ?_) ?_
  · go_simp
    go_wp2_with fail
    refine hK.out _ _ ⟨cell_alloc _ _ hH.1, cell_alloc _ _ hH.2⟩ (fun hH => ?_)
    clear hK K
    try simp only [Act.put, List.setIfInBounds_toArray, List.set_cons_zero, List.set_cons_succ]
    refine wpAnyH_ready (rs := [1]) (by kernel_rfl) (by simp) ?_
    refine ready_at rfl (fun K hK => ?_) AllReadyH.nil
    go_simp
    go_wp2_with fail
    refine hK.out _ _ ⟨cell_alloc _ _ hH.1, cell_alloc _ _ hH.2⟩ (fun hH => ?_)
    clear hK K
    try simp only [Act.put, List.setIfInBounds_toArray, List.set_cons_zero, List.set_cons_succ]
    refine take_at (i := 13) (v := ?_) rfl (by kernel_rfl) (by kernel_rfl) (by kernel_rfl) (fun _ _ _ h => h) (Or.inl ⟨by rfl, ?_⟩) hH ?_
    rotate_left
    · (intro w hSw; obtain ⟨q0, q1⟩ := hSw; go_simp; try with_reducible rfl)
    try simp only [Act.put, List.setIfInBounds_toArray, List.set_cons_zero, List.set_cons_succ]
    refine wpAnyH_ready (rs := [15]) (by kernel_rfl) (by simp) ?_
    refine ready_at rfl (fun K hK => ?_) AllReadyH.nil
    go_simp
    obtain ⟨hpl, hrow, hbn⟩ := two_blocks W1 (.cells #[.slice (some ⟨w.heap.size + 1 + 1, 0, none⟩) n n, .int .i64 R] 64) (.cells (bov (List.replicate n false)).toArray 4)
    have h64 := cell_alloc _ (.cells (bov (List.replicate n false)).toArray 4) (cell_alloc _ (.cells #[.slice (some ⟨w.heap.size + 1 + 1, 0, none⟩) n n, .int .i64 R] 64) h61)
    have h74 := cell_alloc _ (.cells (bov (List.replicate n false)).toArray 4) (cell_alloc _ (.cells #[.slice (some ⟨w.heap.size + 1 + 1, 0, none⟩) n n, .int .i64 R] 64) h71)
    rw [hs1] at hpl hrow hbn
    clear h61 h71 hH
    generalize (W1.alloc (.cells #[.slice (some ⟨w.heap.size + 1 + 1, 0, none⟩) n n, .int .i64 R] 64)).alloc (.cells (bov (List.replicate n false)).toArray 4) = W4 at *
    generalize hrb : w.heap.size + 1 + 1 = rb at *
    generalize hpb : w.heap.size + 1 = pb at *
    refine hK.out _ _ ⟨h64, h74⟩ (fun hH => ?_)
    clear h64 h74 hH
    clear hK K
    try simp only [Act.put, List.setIfInBounds_toArray, List.set_cons_zero, List.set_cons_succ]
    refine wpAnyH_done (by kernel_rfl) ?_ _
    refine NoPanic.normal ?_
    have hres := (hbn.block _ (by omega)).trans hq1
    have hbw : Below w.heap.size w W4.drew := (hb1.trans (hbn.mono (by omega))).drew
    have hrow5 : RowO W4.drew rb (takenK b n 0) := by
      rw [show takenK b n 0 = List.replicate n false from rfl]
      exact hrow
    replace hpl : W4.drew.heap[pb]? = some (planRow (.slice (some ⟨rb, 0, none⟩) n n) R) := hpl
    replace hres : W4.drew.heap[w.heap.size]? = some (planRow (.slice none 0 0) 0) := hres
    have hne1 : rb ≠ pb := by omega
    have hne2 : w.heap.size < rb := by omega
    have hne3 : w.heap.size < pb := by omega
    clear hrow hbn hq1 hb1 hs1 hpb hrb hmk
    generalize W4.drew = W5 at *
    go_wp2_with fail
    go_loopw [24] (fun x wr => ∃ k : Nat, k ≤ n ∧ x = .int .i64 (k : Int) ∧ RowO wr rb (takenK b n k) ∧ wr.heap[pb]? = some (planRow (.slice (some ⟨rb, 0, none⟩) n n) R) ∧ wr.heap[w.heap.size]? = some (planRow (.slice none 0 0) 0) ∧ Below w.heap.size w wr) (fun x _ => n - (intOf x).toNat)
    case atStart => exact ⟨0, Nat.zero_le _, rfl, hrow5, hpl, hres, hbw⟩
    case round =>
      clear hrow5 hpl hres hbw
      obtain ⟨k, hk, rfl, hrow, hpl, hres, hbw⟩ := hrel
      by_cases hlt : k < n
      · have hd : decide ((k : Int) < (n : Int)) = true := decide_eq_true (by omega)
        have hk8 : k / 8 < 216 := by omega
        obtain ⟨b', o', ha, hc⟩ := isB_at (HV.out.below hbw) (8 + k / 8) (by omega)
        obtain ⟨rfl, rfl⟩ : vb = b' ∧ vo = o' := by simpa using ha
        clear ha
        have hTl := takenK_length b n k hk
        have hfz := frozen_p hrow k
        have hcp : wr.cell? ⟨pb, 0, none⟩ = some (.slice (some ⟨rb, 0, none⟩) n n) := (plan_cells hpl).1
        obtain ⟨tk, hcr⟩ : ∃ u, wr.cell? ⟨rb, k, none⟩ = some u := ⟨_, hrow.cell k (by omega)⟩
        replace hc : wr.drew.cell? _ = _ := hc
        replace hfz : wr.drew.frozen? _ = _ := hfz
        replace hcp : wr.drew.cell? _ = _ := hcp
        replace hcr : wr.drew.cell? _ = _ := hcr
        have hw1 : IntKind.i64.wrap ((k : Int) / 8) = (k : Int) / 8 := IntWalk.i64_in _ (by omega)
        have hw2 : IntKind.i64.wrap (8 + (k : Int) / 8) = 8 + (k : Int) / 8 := IntWalk.i64_in _ (by omega)
        have hw3 : (0 : Int) ≤ 8 + (k : Int) / 8 := by omega
        have hw4 : 8 + (k : Int) / 8 < 224 := by omega
        have hw5 : (8 + (k : Int) / 8).toNat = 8 + k / 8 := by omega
        have hsh : ∀ W, Sem.run Tryd.prog (Op.shift .shl .u8 1 .i64 ((k : Int).tmod 8)) W = .ok (.int .u8 ((2 ^ (k % 8) : Nat) : Int)) W := fun W => by rw [tmod8]; exact run_shl1 _ (by omega) W
        have hand := and_bit b[8 + k / 8] (k % 8) (by omega)
        rw [show ((2 ^ (k % 8) : Nat) : Int) = (2 : Int) ^ (k % 8) by simp] at hand
        have hbit : b[8 + k / 8].toNat.testBit (k % 8) = bitAt b k := by rw [bitAt, List.getD_eq_getElem?_getD, List.getElem?_eq_getElem (by omega)]; rfl
        rw [hbit] at hand
        have hrd : RowO wr.drew rb (takenK b n k) := hrow
        have hs := hrd.set k (bitAt b k)
        rw [takenK_set b n k hlt] at hs
        have hts := turned_one wr.drew rb k (.bool (bitAt b k))
        have HF := Lib.hid (And.intro hs (And.intro ((hts.block pb (lt_of_heap hpl) (by omega)).trans hpl) (And.intro ((hts.block w.heap.size (lt_of_heap hres) (by omega)).trans hres) (hbw.drew.trans (hts.below (B := w.heap.size) (by have := hbw.size; exact this) (fun k hk => by omega))))))
        clear hrow hpl hres hbw hrd hs hts hbit hTl
        generalize bitAt b k = bk at *
        go_wp2_with fail
        refine wp_region_still_tail 15 (by kernel_rfl) (by kernel_rfl) ?_
        simp only [List.take_succ_cons, List.take_zero, List.drop_succ_cons, List.drop_zero]
        change wpStill _ _ wr.drew (fun a' => wpList _ _ _ _ a' wr.drew) _ _
        generalize wr.drew = W6 at *
        iterate 15 still_step
        refine wpStill_nil ?_
        go_wp2_with fail
        go_roundw
        case rel => exact ⟨k + 1, by omega, by go_num, HF.out.1, HF.out.2.1, HF.out.2.2.1, HF.out.2.2.2⟩
        case measure => simp [intOf]; omega
      · obtain rfl : k = n := by omega
        have hdz : decide ((k : Int) < (k : Int)) = false := by simp
        have e0 : takenK b k k = takenOf b k := by simp [takenK]
        rw [e0] at hrow
        have hTl := takenOf_length b k
        obtain ⟨T, hT⟩ : ∃ T, T = takenOf b k := ⟨_, rfl⟩
        have HOK : Hid (planOk b k = (decide (R < (k : Int)) && (decide (R < 0) || T.getD R.toNat false) && (planB T R == b))) := Lib.hid (by rw [planOk, HRb.out, hT])
        rw [← hT] at hrow hTl
        have hm : MineO w.heap.size wr (.slice (some ⟨rb, 0, none⟩) k k) T := by
          unfold MineO
          rw [hTl]
          exact ⟨by simp [bov_length, hTl], .inr ⟨rb, k, _, rfl, by omega, hrow, Nat.le_refl _, by simp [maxLen]; omega, by simp [bov_length, hTl], by simp [List.take_of_length_le, bov_length, hTl]⟩⟩
        have HT := Lib.hid hT
        obtain ⟨g00, g01⟩ := plan_cells hpl
        obtain ⟨s00, s01⟩ := plan_cells hres
        have f0 := frozen_p hres 0
        have f1 := frozen_p hres 1
        clear hT e0
        replace hm : MineO (w.heap.size + 1) wr (.slice (some ⟨rb, 0, none⟩) k k) T := by
          unfold MineO
          rw [hTl]
          exact ⟨by simp [bov_length, hTl], .inr ⟨rb, k, _, rfl, by omega, hrow, Nat.le_refl _, by simp [maxLen]; omega, by simp [bov_length, hTl], by simp [List.take_of_length_le, bov_length, hTl]⟩⟩
        by_cases hA : R < (k : Int)
        case neg =>
          have d1 : decide (R < (k : Int)) = false := decide_eq_false hA
          go_wp2_with fail
          have hq4 := head_setCell (head_setCell hres (i := 0) (.slice (some ⟨rb, 0, none⟩) k k)) (i := 1) (.int .i64 R)
          have ht4 := (turned_one wr w.heap.size 0 (.slice (some ⟨rb, 0, none⟩) k k)).trans (turned_one _ w.heap.size 1 (.int .i64 R))
          have hv := run_loadVar_row (P := Tryd.prog) _ w.heap.size 64 64 _ (0, 0) _ hq4 Tryd.underlying64 rfl (by rw [info_plan]; rfl)
          refine bodyPost_ret (results_cell_tmp Tryd.results44 rfl hv) rfl ⟨.slice (some ⟨rb, 0, none⟩) k k, ?_, ?_, ?_⟩
          · rw [HOK.out, d1]; rfl
          · rw [← HT.out]
            exact World.ownsRow.mono (hm.keep fun j h1 h2 => ht4.block j h2 (by omega)) (by omega)
          · exact hbw.trans (ht4.below (B := w.heap.size) hbw.size fun j hj => by omega)
        have d1 : decide (R < (k : Int)) = true := decide_eq_true hA
        have HPB := Lib.hid (planB_any wr (w.heap.size + 1) _ T R hm (by omega) hr1 hr2)
        by_cases hB : R < 0
        · have d2 : decide (R < 0) = true := decide_eq_true hB
          go_wp2_with fail
          refine HPB.out.mono ?_
          rintro e w2 ⟨u, rfl, hu, hb2⟩
          have hu2 := hu.isB
          obtain ⟨ua, uc, rfl, _, _⟩ := hu2.form
          have HE := Lib.hid (equalB_any w2 _ _ _ _ hu2 ((HV.out.below hbw).below hb2) (by rw [planB_length]; omega))
          rw [hb, planB_length] at HE
          simp only [planB_length]
          have hres2 := (hb2.block _ (lt_of_heap hres)).trans hres
          have hpl2 := (hb2.block _ (lt_of_heap hpl)).trans hpl
          have hm2 := hm.below hb2
          have hbw2 := hbw.trans (hb2.mono hbw.size)
          clear hres hpl hm hbw hb2 hu hu2 g00 g01 s00 s01 f0 f1
          go_wp2_with fail
          refine HE.out.mono ?_
          rintro e w3 ⟨rfl, hb3⟩
          have hres3 := (hb3.block _ (lt_of_heap hres2)).trans hres2
          have hpl3 := (hb3.block _ (lt_of_heap hpl2)).trans hpl2
          have hm3 := hm2.below hb3
          have hbw3 := hbw2.trans (hb3.mono hbw2.size)
          obtain ⟨t00, t01⟩ := plan_cells hpl3
          obtain ⟨u00, u01⟩ := plan_cells hres3
          have t0 := frozen_p hres3 0
          have t1 := frozen_p hres3 1
          clear hres2 hpl2 hm2 hbw2 hb3
          go_wp2_with fail
          have hq4 := head_setCell (head_setCell hres3 (i := 0) (.slice (some ⟨rb, 0, none⟩) k k)) (i := 1) (.int .i64 R)
          have ht4 := (turned_one w3 w.heap.size 0 (.slice (some ⟨rb, 0, none⟩) k k)).trans (turned_one _ w.heap.size 1 (.int .i64 R))
          have hv := run_loadVar_row (P := Tryd.prog) _ w.heap.size 64 64 _ (0, 0) _ hq4 Tryd.underlying64 rfl (by rw [info_plan]; rfl)
          refine bodyPost_ret (results_cell_tmp Tryd.results44 rfl hv) rfl ⟨.slice (some ⟨rb, 0, none⟩) k k, ?_, ?_, ?_⟩
          · rw [HOK.out, d1, d2]; rfl
          · rw [← HT.out]
            exact World.ownsRow.mono (hm3.keep fun j h1 h2 => ht4.block j h2 (by omega)) (by omega)
          · exact hbw3.trans (ht4.below (B := w.heap.size) hbw3.size fun j hj => by omega)
        · have d2 : decide (R < 0) = false := decide_eq_false hB
          have hRl : R.toNat < T.length := by omega
          have hRk : R.toNat < k := by omega
          have hR0 : (0 : Int) ≤ R := by omega
          have hcr := hrow.cell R.toNat hRl
          obtain ⟨tr, htr⟩ : ∃ x, x = T[R.toNat] := ⟨_, rfl⟩
          have hTR : T.getD R.toNat false = tr := by rw [htr, List.getD_eq_getElem?_getD, List.getElem?_eq_getElem hRl]; rfl
          rw [← htr] at hcr
          have HTR := Lib.hid hTR
          clear htr hTR
          cases tr with
          | false =>
            go_wp2_with fail
            have hq4 := head_setCell (head_setCell hres (i := 0) (.slice (some ⟨rb, 0, none⟩) k k)) (i := 1) (.int .i64 R)
            have ht4 := (turned_one wr w.heap.size 0 (.slice (some ⟨rb, 0, none⟩) k k)).trans (turned_one _ w.heap.size 1 (.int .i64 R))
            have hv := run_loadVar_row (P := Tryd.prog) _ w.heap.size 64 64 _ (0, 0) _ hq4 Tryd.underlying64 rfl (by rw [info_plan]; rfl)
            refine bodyPost_ret (results_cell_tmp Tryd.results44 rfl hv) rfl ⟨.slice (some ⟨rb, 0, none⟩) k k, ?_, ?_, ?_⟩
            · rw [HOK.out, d1, d2, HTR.out]; rfl
            · rw [← HT.out]
              exact World.ownsRow.mono (hm.keep fun j h1 h2 => ht4.block j h2 (by omega)) (by omega)
            · exact hbw.trans (ht4.below (B := w.heap.size) hbw.size fun j hj => by omega)
          | true =>
            go_wp2_with fail
            refine HPB.out.mono ?_
            rintro e w2 ⟨u, rfl, hu, hb2⟩
            have hu2 := hu.isB
            obtain ⟨ua, uc, rfl, _, _⟩ := hu2.form
            have HE := Lib.hid (equalB_any w2 _ _ _ _ hu2 ((HV.out.below hbw).below hb2) (by rw [planB_length]; omega))
            rw [hb, planB_length] at HE
            simp only [planB_length]
            have hres2 := (hb2.block _ (lt_of_heap hres)).trans hres
            have hpl2 := (hb2.block _ (lt_of_heap hpl)).trans hpl
            have hm2 := hm.below hb2
            have hbw2 := hbw.trans (hb2.mono hbw.size)
            clear hres hpl hm hbw hb2 hu hu2 g00 g01 s00 s01 f0 f1
            go_wp2_with fail
            refine HE.out.mono ?_
            rintro e w3 ⟨rfl, hb3⟩
            have hres3 := (hb3.block _ (lt_of_heap hres2)).trans hres2
            have hpl3 := (hb3.block _ (lt_of_heap hpl2)).trans hpl2
            have hm3 := hm2.below hb3
            have hbw3 := hbw2.trans (hb3.mono hbw2.size)
            obtain ⟨t00, t01⟩ := plan_cells hpl3
            obtain ⟨u00, u01⟩ := plan_cells hres3
            have t0 := frozen_p hres3 0
            have t1 := frozen_p hres3 1
            clear hres2 hpl2 hm2 hbw2 hb3
            go_wp2_with fail
            have hq4 := head_setCell (head_setCell hres3 (i := 0) (.slice (some ⟨rb, 0, none⟩) k k)) (i := 1) (.int .i64 R)
            have ht4 := (turned_one w3 w.heap.size 0 (.slice (some ⟨rb, 0, none⟩) k k)).trans (turned_one _ w.heap.size 1 (.int .i64 R))
            have hv := run_loadVar_row (P := Tryd.prog) _ w.heap.size 64 64 _ (0, 0) _ hq4 Tryd.underlying64 rfl (by rw [info_plan]; rfl)
            refine bodyPost_ret (results_cell_tmp Tryd.results44 rfl hv) rfl ⟨.slice (some ⟨rb, 0, none⟩) k k, ?_, ?_, ?_⟩
            · rw [HOK.out, d1, d2, HTR.out]; rfl
            · rw [← HT.out]
              exact World.ownsRow.mono (hm3.keep fun j h1 h2 => ht4.block j h2 (by omega)) (by omega)
            · exact hbw3.trans (ht4.below (B := w.heap.size) hbw3.size fun j hj => by omega)
  exact AllReadyH.nil
end Go.Proofs.YtbmmcaoifkboiaaDoor

/- pager.Format. -/
set_option linter.unusedVariables false
set_option linter.unusedSimpArgs false
set_option maxRecDepth 100000
namespace Go.Proofs.YtbmmcaoifkboiaaDoor
open Go.RowKit

theorem run_build_plan (w : World) (a : Option Addr) (n c : Nat) (r : Int) : (Instr.build 64 #[(0, .slice a n c), (1, .int .i64 r)]).run Tryd.prog w = .ok (.agg #[.slice a n c, .int .i64 r]) w := by kernel_rfl
theorem JAt.pages_le {w : World} {F : Ft} {p : Nat} {J : Jn} (h : JAt w F p J) : J.pages ≤ 1023 := by
  have := h.disk.ok.nm
  unfold Jn.pages Dk.blocks
  omega
set_option maxHeartbeats 8000000 in
theorem pformat_any (w : World) (F : Ft) (p : Nat) (J : Jn) (h : JAt w F p J) (hn : Nib w) (h6 : 6 ≤ J.D.n) (hlast : J.last + 1 < 18446744073709551616) (hsq1 : -9223372036854775808 ≤ J.seq) (hsq2 : J.seq < 9223372036854775807) :
    Calls Tryd.prog 28 #[jptr p] w fun e w' => e = .returned (.int .i64 J.pformat.1) ∧ JAt w' F p J.pformat.2 ∧ Turned (JT F p) w w' := by
  have HPO := Lib.hid (pagesOf_any w F p J h h6)
  have hpl := h.pages_le
  obtain ⟨n, hN⟩ : ∃ n, n = J.pages := ⟨_, rfl⟩
  have HE : Hid (J.pformat = J.write (placesFrom 0 2) (chunks 2 (planB (List.replicate n false) (-1)))) := Lib.hid (by rw [Jn.pformat, hN])
  rw [← hN] at HPO hpl
  have hmk := run_makeO n (by omega)
  have hbp := fun w a => run_build_plan w a n n (-1)
  obtain ⟨W1, hW1⟩ : ∃ W1, W1 = w.alloc (.cells (bov (List.replicate n false)).toArray 4) := ⟨_, rfl⟩
  have hb1 : Below w.heap.size w W1 := by rw [hW1]; exact (Below.refl _ _).alloc (Nat.le_refl _) _
  have hm1 : MineO w.heap.size W1 (.slice (some ⟨w.heap.size, 0, none⟩) n n) (List.replicate n false) := by
    have hb : BoR W1 w.heap.size n (List.replicate n false) := by
      rw [hW1]
      exact ⟨_, heap_alloc_new w _, by simp, by simp [maxLen]; omega, by simp [bov], by simp [bov]⟩
    have := hb.mine w.heap.size (Nat.le_refl _)
    rw [List.length_replicate] at this
    exact this
  have HPB := Lib.hid (planB_any W1 w.heap.size _ (List.replicate n false) (-1) hm1 (by simp; omega) (by omega) (by omega))
  obtain ⟨L1, hL1⟩ : ∃ L, L = planB (List.replicate n false) (-1) := ⟨_, rfl⟩
  have hlen : L1.length = 224 := by rw [hL1, planB_length]
  rw [← hL1] at HPB HE
  have HLN := Lib.hid hlen
  have HH := Lib.hid h
  have HNB := Lib.hid hn
  have HB1 := Lib.hid hb1
  clear h hN hn hb1 hm1 hL1 hlen
  go_enter Tryd.func28, Tryd.ntmps28
  go_wp2_with (go_at_call 45; refine HPO.out.mono ?_; rintro e w9 ⟨rfl, hw9⟩; rw [← hw9]; clear hw9 w9)
  rw [← hW1]
  refine HPB.out.mono ?_
  rintro e w2 ⟨u, rfl, hu, hb2⟩
  obtain ⟨gu, cu, rfl, hgu, hcu, hgl⟩ := hu.slice (by have := HLN.out; omega)
  rw [HLN.out] at hcu hu ⊢
  have HP1 := Lib.hid (parts_any w2 0 gu cu 2 224 rfl hcu (by omega) (by omega) (by omega))
  have hb2' := HB1.out.trans (hb2.mono HB1.out.size)
  have hs2 := hb2'.size
  have HU := Lib.hid hu
  clear hu hb2
  go_wp2_with fail
  refine HP1.out.mono ?_
  rintro e w3 ⟨ua, ul, rfl, ha3, hl3, hb3⟩
  have hbw := hb2'.trans (hb3.mono hs2)
  have h3 := HH.out.below hbw
  have hn3 := HNB.out.below hbw
  have hnj : ∀ k, JT F p k → ¬ W1.heap.size ≤ k := fun k e h => by
    have := HH.out.lt e
    have := HB1.out.size
    omega
  have hu3 := HU.out.below hb3
  have hs12 := HB1.out.size
  have HW := Lib.hid (jwrite_any w3 F p J h3 hn3 (by omega) ua (placesFrom 0 2) (fun w' ht => (ha3.keep fun k h1 h2 => ht.block k h2 fun e => hnj k e (by omega)).isI) ul (chunks 2 L1)
    (fun w' ht => (hl3.keep fun k h1 h2 => ht.block k h2 fun e => hnj k e (by omega)).elB (chunks_elB (hu3.keep fun k h1 h2 => ht.block k h2 fun e => hnj k e (by omega)).isB 2 (by rw [HLN.out]; omega)))
    (fun n hn => by
      obtain ⟨i, hi, rfl⟩ := List.mem_map.1 hn
      have := List.mem_range.1 hi
      omega) hlast hsq1 hsq2)
  obtain ⟨aa, ac, rfl, _, _⟩ := ha3.form
  obtain ⟨la, lc, rfl, _, _⟩ := hl3.form
  have HT3 := Lib.hid (Turned.of_below (T := JT F p) hbw)
  clear ha3 hl3 hb3 h3 hn3 hnj hu3 hbw hb2'
  go_wp2_with fail
  refine HW.out.mono ?_
  rintro e w4 ⟨rfl, hj4, ht4⟩
  have HX := Lib.hid (And.intro hj4 (HT3.out.trans ht4))
  clear hj4 ht4
  go_wp2_with fail
  go_ret
  rw [HE.out]
  exact ⟨rfl, HX.out⟩
end Go.Proofs.YtbmmcaoifkboiaaDoor

/- pager.Open. -/
set_option linter.unusedVariables false
set_option linter.unusedSimpArgs false
set_option maxRecDepth 100000
namespace Go.Proofs.YtbmmcaoifkboiaaDoor
open Go.RowKit

theorem run_build_pager (w : World) (p g n c M : Nat) (a2 : Option Addr) (n2 c2 : Nat) (r r2 : Int) : (Instr.build 68 #[(0, jptr p), (1, .agg #[.slice (some ⟨g, 0, none⟩) n c, .int .i64 r]), (2, .agg #[.slice a2 n2 c2, .int .i64 r2]), (3, .map (some M))]).run Tryd.prog w =
    .ok (.agg #[jptr p, .slice (some ⟨g, 0, none⟩) n c, .int .i64 r, .slice a2 n2 c2, .int .i64 r2, .map (some M), .bool false, .int .i64 0]) w := by kernel_rfl
theorem Jn.read_len2 {w : World} {F : Ft} {p : Nat} {J : Jn} (h : JAt w F p J) {a : Int} (h0 : (J.read a).2.1 = 0) : (J.read a).1.length = 112 := by
  have hf : ∀ k, k < J.D.n → (fbytes (sec J.D.now k)).length = 112 := fun k hk => by
    have := sec_length h.disk.ok.now hk
    simp [fbytes, this]
  unfold Jn.read at h0 ⊢
  split at h0
  · rename_i h1
    exact absurd h0 h1
  · rename_i h1
    rw [if_neg h1]
    split at h0
    · cases h0
    · rename_i h2
      rw [if_neg h2]
      split at h0
      · cases h0
      · rename_i h3
        rw [if_neg h3]
        split at h0
        · rename_i h4
          rw [if_pos h4]
          exact hf _ (Dk.home_lt (by omega))
        · cases h0
theorem Jn.reads_len2 {w : World} {F : Ft} {p : Nat} {J : Jn} (h : JAt w F p J) {a : Int} : ∀ {k : Nat}, (J.reads a k).2.1 = 0 → (J.reads a k).1.length = 112 * k
  | 0, _ => rfl
  | k + 1, h0 => by
    have h1 : (J.reads a k).2.1 = 0 := by
      refine Decidable.byContradiction fun e => ?_
      rw [Jn.reads_err e (k + 1) (by omega)] at h0
      exact e h0
    have h2 : (J.read (a + k)).2.1 = 0 := by
      refine Decidable.byContradiction fun e => ?_
      rw [Jn.reads_stop h1 e] at h0
      exact e h0
    have ih := Jn.reads_len2 h h1
    have h3 := Jn.read_len2 h h2
    rw [Jn.reads_next h1 h2, List.length_append, ih, h3]
    omega
/-- what Open leaves -/
def POpenEnd (w : World) (F : Ft) (p : Nat) (J : Jn) (e : Ending) (w' : World) : Prop :=
  (∀ c J', J.popen = (c, J', none) → e = .returned (.tuple #[.pointer none, .int .i64 c]) ∧ JAt w' F p J') ∧
  (∀ c J' P, J.popen = (c, J', some P) → ∃ f, e = .returned (.tuple #[qptr f.q, .int .i64 c]) ∧ PgAt w' F p f P ∧ (∀ k, PT f k → w.heap.size ≤ k)) ∧ Turned (JT F p) w w'
theorem POpenEnd.bad {w : World} {F : Ft} {p : Nat} {J J' : Jn} {c : Int} {w' : World} (h : J.popen = (c, J', none)) (hj : JAt w' F p J') (ht : Turned (JT F p) w w') : POpenEnd w F p J (.returned (.tuple #[.pointer none, .int .i64 c])) w' :=
  ⟨fun c2 J2 e => by rw [h] at e; cases e; exact ⟨rfl, hj⟩, fun c2 J2 P e => (by rw [h] at e; cases e), ht⟩
theorem POpenEnd.good {w : World} {F : Ft} {p : Nat} {J J' : Jn} {P : Pg} {f : Pf} {c : Int} {w' : World} (h : J.popen = (c, J', some P)) (hp : PgAt w' F p f P) (hf : ∀ k, PT f k → w.heap.size ≤ k) (ht : Turned (JT F p) w w') : POpenEnd w F p J (.returned (.tuple #[qptr f.q, .int .i64 c])) w' :=
  ⟨fun c2 J2 e => (by rw [h] at e; cases e), fun c2 J2 P e => (by rw [h] at e; cases e; exact ⟨f, rfl, hp, hf⟩), ht⟩
theorem PgAt.opened {w W : World} {F : Ft} {p : Nat} {f : Pf} {P : Pg} (hj : JAt w F p P.J) (hn : Nib w) (hb : Below w.heap.size w W) (hkv : f.kv = []) (hown : P.own = []) (hco : P.off = P.off) (head : W.heap[f.q]? = some (pgRow p f P)) (now : BoR W f.gn f.cn P.now) (was : BoR W f.gw f.cw P.was) (tab : OTab W f.M []) (ok : Pok P)
    (h1 : w.heap.size ≤ f.q) (h2 : w.heap.size ≤ f.gn) (h3 : w.heap.size ≤ f.gw) (h4 : w.heap.size ≤ f.M) (sep : f.gn ≠ f.gw) : PgAt W F p f P ∧ ∀ k, PT f k → w.heap.size ≤ k := by
  have hPT : ∀ k, PT f k → w.heap.size ≤ k ∧ k < W.heap.size := by
    rintro k (e | e | e | e | ⟨x, hx, _⟩)
    · rw [e]; exact ⟨h1, lt_of_heap head⟩
    · rw [e]; exact ⟨h2, now.lt⟩
    · rw [e]; exact ⟨h3, was.lt⟩
    · rw [e]; exact ⟨h4, tab.lt⟩
    · rw [hkv] at hx; cases hx
  refine ⟨⟨hj.below hb, hn.below hb, head, now, was, by rw [hkv]; exact tab, by rw [hkv, hown]; trivial, ok, fun k hk => ?_, sep⟩, fun k hk => (hPT k hk).1⟩
  have := hPT k hk
  refine ⟨fun e => ?_, fun e => ?_, this.2⟩
  · have := hj.lt e
    omega
  · have := nib_lt hn
    omega
theorem planOk_spec {b : List UInt8} {n : Nat} (h : planOk b n = true) : rootOf b < (n : Int) := by
  simp only [planOk, Bool.and_eq_true, decide_eq_true_eq] at h
  exact h.1.1
theorem rootOf_ge (b : List UInt8) : -1 ≤ rootOf b := by unfold rootOf; omega
set_option maxHeartbeats 16000000 in
theorem popen_any (w : World) (F : Ft) (p : Nat) (J : Jn) (h : JAt w F p J) (hn : Nib w) (h22 : 22 ≤ J.D.n) : Calls Tryd.prog 21 #[jptr p] w (POpenEnd w F p J) := by
  have HE := Lib.hid (show J.popen = if (J.reads 0 2).2.1 ≠ 0 then ((J.reads 0 2).2.1, (J.reads 0 2).2.2, none) else if planOk (J.reads 0 2).1 (J.reads 0 2).2.2.pages = false then (82, (J.reads 0 2).2.2, none)
    else (0, (J.reads 0 2).2.2, some ⟨(J.reads 0 2).2.2, takenOf (J.reads 0 2).1 (J.reads 0 2).2.2.pages, rootOf (J.reads 0 2).1, takenOf (J.reads 0 2).1 (J.reads 0 2).2.2.pages, rootOf (J.reads 0 2).1, [], false, 0⟩) from rfl)
  have HH := Lib.hid h
  have HN := Lib.hid hn
  clear h hn
  go_enter Tryd.func21, Tryd.ntmps21
  go_wp2_with fail
  go_loopw [4, 12] (fun b x wr => ∃ k : Nat, k ≤ 2 ∧ x = .int .i64 (k : Int) ∧ (J.reads 0 k).2.1 = 0 ∧ Mine 5 w.heap.size wr b (J.reads 0 k).1 ∧ JAt wr F p J ∧ Nib wr ∧ Turned (JT F p) w wr) (fun _ x _ => 2 - (intOf x).toNat)
  case atStart => exact ⟨0, Nat.zero_le _, rfl, rfl, Mine.nil _ _ _, HH.out, HN.out, Turned.refl _ _⟩
  case round =>
    obtain ⟨k, hk, rfl, hok, hm, hj, hnb, ht⟩ := hrel
    obtain ⟨a, c, rfl, _, _⟩ := hm.isB.form
    have hsz := ht.size
    by_cases hlt : k < 2
    · have hd : decide ((k : Int) < 2) = true := decide_eq_true (by omega)
      have HJ := Lib.hid (jread_any wr F p J hj hnb (by omega) (k : Int) (by omega) (by omega))
      have HM := Lib.hid hm
      have HT := Lib.hid ht
      have HNB := Lib.hid hnb
      have HJJ := Lib.hid hj
      have HOK := Lib.hid hok
      have hlen := Jn.reads_len J 0 k
      clear hj hnb ht hm hok
      go_wp2_with fail
      refine HJ.out.mono ?_
      rintro e w4 ⟨v, rfl, hv, hj4, ht4⟩
      have hm4 := HM.out.keep (w' := w4) fun k h1 h2 => ht4.block k h2 fun e => by
        have := HH.out.lt e
        omega
      obtain ⟨va, vc, rfl, _, _⟩ := hv.now.form
      have hlen2 := Jn.read_len J (k : Int)
      have hk0 : (0 : Int) + (k : Int) = (k : Int) := by omega
      by_cases hz : (J.read (k : Int)).2.1 = 0
      · have hd2 : ((J.read (k : Int)).2.1 != 0) = false := by simpa using hz
        have HN2 := Lib.hid (Jn.reads_next HOK.out (by rw [hk0]; exact hz))
        rw [hk0] at HN2
        have HJ4 : Hid (JAt w4 F p J) := Lib.hid (by rw [Jn.read_ok hz] at hj4; exact hj4)
        have HNB4 := Lib.hid (HNB.out.turned HJJ.out ht4)
        have HT4 := Lib.hid (HT.out.trans ht4)
        have HB := Lib.hid hv.now
        have HM4 := Lib.hid hm4
        clear hj4 ht4 hv hm4 hz hk0
        generalize (J.read (k : Int)) = R at *
        generalize (J.reads 0 k) = L at *
        have hsz4 := HT4.out.size
        go_wp2_with (at_builtin; refine wpList_bytes rfl (.tmp 24) (.tmp 25) 42 rfl w.heap.size 5 info_byte Tryd.underlying42 _ L.1 rfl HM4.out _ R.1 rfl HB.out (by omega) hsz4 ?_)
        intro v' w6 hm6 _ hb6 _ _
        obtain ⟨a6, c6, rfl, _, _⟩ := hm6.isB.form
        have HM6 := Lib.hid hm6
        clear hm6
        go_wp2_with fail
        go_roundw
        case rel => exact ⟨k + 1, by omega, by go_num, by rw [HN2.out], by rw [HN2.out]; exact HM6.out, HJ4.out.keep fun k hk => hb6.block k (HH.out.lt hk), HNB4.out.of_turned (T := fun k => ¬ k < w.heap.size) ⟨hb6.os, hb6.tape, hb6.output, hb6.size, fun k _ hn => hb6.block k (Decidable.not_not.1 hn)⟩ (fun e => e (nib_lt HN.out)), HT4.out.on hb6⟩
        case measure => simp [intOf]; omega
      · have hd2 : ((J.read (k : Int)).2.1 != 0) = true := by simpa using hz
        have HN2 := Lib.hid (Jn.reads_stop HOK.out (by rw [hk0]; exact hz))
        rw [hk0] at HN2
        have HX : Hid (J.popen = ((J.read (k : Int)).2.1, (J.read (k : Int)).2.2, none)) := Lib.hid (by
          have h8 := Jn.reads_err (J := J) (a := 0) (k := k + 1) (by rw [HN2.out]; exact hz) 2 (by omega)
          rw [HE.out, h8, HN2.out, if_pos hz])
        have HT4 := Lib.hid (HT.out.trans ht4)
        have HJ4 := Lib.hid hj4
        clear hj4 ht4 hv hm4 hz hk0
        generalize (J.read (k : Int)) = R at *
        go_wp2_with fail
        go_ret2
        exact POpenEnd.bad HX.out HJ4.out HT4.out
    · obtain rfl : k = 2 := by omega
      have hl := Jn.reads_len2 hj hok
      have hpl := hj.pages_le
      have hpn : 0 < J.pages := by unfold Jn.pages Dk.blocks; omega
      obtain ⟨n, hN⟩ : ∃ n, n = J.pages := ⟨_, rfl⟩
      obtain ⟨L, hL⟩ : ∃ L, L = (J.reads 0 2).1 := ⟨_, rfl⟩
      have HX1 : Hid (planOk L n = false → J.popen = (82, J, none)) := Lib.hid fun e => by
        rw [HE.out, if_neg (by simp [hok]), Jn.reads_ok hok, ← hL, ← hN, if_pos e]
      have HX2 : Hid (planOk L n = true → J.popen = (0, J, some ⟨J, takenOf L n, rootOf L, takenOf L n, rootOf L, [], false, 0⟩)) := Lib.hid fun e => by
        rw [HE.out, if_neg (by simp [hok]), Jn.reads_ok hok, ← hL, ← hN, if_neg (by simp [e])]
      have HPO := Lib.hid (pagesOf_any wr F p J hj (by omega))
      rw [← hL] at hm hl ⊢
      rw [← hN] at HPO hpl hpn
      have hl2 : L.length = 224 := hl
      have HPD := Lib.hid (planned_any wr _ L n hm.isB hl2 hpl)
      have HNE := Lib.hid hN
      have HJ := Lib.hid hj
      have HNB := Lib.hid hnb
      have HT := Lib.hid ht
      rw [hok] at *
      clear hj hnb ht hm hl hl2 hok hN hL
      go_wp2_with (first | (go_at_call 45; refine HPO.out.mono ?_; rintro e w9 ⟨rfl, hw9⟩; rw [← hw9]; clear hw9 w9))
      refine HPD.out.mono ?_
      rintro e w5 ⟨u, rfl, hu, hb5⟩
      have htl := takenOf_length L n
      obtain ⟨g, c2, rfl, hg, hbo⟩ := hu.boR (by rw [htl]; exact hpn)
      rw [htl] at *
      have HBO := Lib.hid hbo
      have HB5 := Lib.hid hb5
      have HTL := Lib.hid htl
      obtain ⟨R, hR⟩ : ∃ R, R = rootOf L := ⟨_, rfl⟩
      rw [← hR]
      have HR := Lib.hid hR
      clear hu hbo hb5 htl hR
      cases hpo : planOk L n with
      | false =>
        have HX := Lib.hid (HX1.out hpo)
        go_wp2_with fail
        go_ret2
        have hb6 : Below wr.heap.size wr (w5.alloc (.cells #[.slice (some ⟨g, 0, none⟩) n c2, .int .i64 R] 64)) := HB5.out.trans ((Below.refl _ _).alloc HB5.out.size _)
        exact POpenEnd.bad HX.out (HJ.out.below hb6) (HT.out.trans (Turned.of_below hb6))
      | true =>
        have HX := Lib.hid (HX2.out hpo)
        have HSP := Lib.hid (planOk_spec hpo)
        clear hpo
        have hmm := fun w => run_makeMap (P := Tryd.prog) 66 w
        have hbu := fun w g' c' M => run_build_pager w p g' n c' M (some ⟨g, 0, none⟩) n c2 R R
        obtain ⟨W5, hW5⟩ : ∃ W5, W5 = w5.alloc (.cells #[.slice (some ⟨g, 0, none⟩) n c2, .int .i64 R] 64) := ⟨_, rfl⟩
        have hpl5 : W5.heap[w5.heap.size]? = some (planRow (.slice (some ⟨g, 0, none⟩) n c2) R) := by rw [hW5]; exact heap_alloc_new w5 _
        have hb55 : Below w5.heap.size w5 W5 := by rw [hW5]; exact (Below.refl _ _).alloc (Nat.le_refl _) _
        have HCL : Hid (∀ W, Below W5.heap.size W5 W → Calls Tryd.prog 41 #[.agg #[.slice (some ⟨g, 0, none⟩) n c2, .int .i64 R]] W fun e w' => ∃ u, e = .returned (.agg #[u, .int .i64 R]) ∧ MineO W.heap.size w' u (takenOf L n) ∧ Below W.heap.size W w') := Lib.hid fun W hW => by
          have hb := (HBO.out.keep (hb55.block _ HBO.out.lt)).keep (hW.block _ (Nat.lt_of_lt_of_le HBO.out.lt hb55.size))
          have := hb.mine 0 (Nat.zero_le _)
          rw [takenOf_length] at this
          exact pclone_any W 0 _ (takenOf L n) R this (by rw [takenOf_length]; omega)
        have HB55 := Lib.hid hb55
        have HW5 := Lib.hid hW5
        clear hb55 hW5
        go_upto_region 15 with fail
        rw [← HW5.out]
        clear HW5
        have hS0 : (fun W : World => W.heap[w5.heap.size]? = some (planRow (.slice (some ⟨g, 0, none⟩) n c2) R)) W5.drew := hpl5
        have hbW := (Below.refl W5.heap.size W5).drew
        refine wp_region_noPanic ?_
        refine wp_region_held_drew (S := (fun W : World => W.heap[w5.heap.size]? = some (planRow (.slice (some ⟨g, 0, none⟩) n c2) R))) (by kernel_rfl) hS0 (fun hH => ?_)
        generalize W5.drew = W5d at *
        refine take_at (i := 0) (v := ?_) rfl (by kernel_rfl) (by kernel_rfl) (by kernel_rfl) (fun _ _ _ h => h) (Or.inl ⟨by rfl, ?_⟩) hH ?_
        rotate_left
        · (intro w hSw; have hpc := plan_cells hSw; obtain ⟨q0, q1⟩ := hpc; go_simp; try with_reducible rfl)
        try simp only [Act.put, List.setIfInBounds_toArray, List.set_cons_zero, List.set_cons_succ]
        refine take_at (i := 1) (v := ?_) rfl (by kernel_rfl) (by kernel_rfl) (by kernel_rfl) (fun _ _ _ h => h) (Or.inl ⟨by rfl, ?_⟩) hH ?_
        rotate_left
        · (intro w hSw; have hpc := plan_cells hSw; obtain ⟨q0, q1⟩ := hpc; go_simp; try with_reducible rfl)
        try simp only [Act.put, List.setIfInBounds_toArray, List.set_cons_zero, List.set_cons_succ]
        refine take_at (i := 3) (v := ?_) rfl (by kernel_rfl) (by kernel_rfl) (by kernel_rfl) (fun _ _ _ h => h) (Or.inl ⟨by rfl, ?_⟩) hH ?_
        rotate_left
        · (intro w hSw; have hpc := plan_cells hSw; obtain ⟨q0, q1⟩ := hpc; go_simp; try with_reducible rfl)
        try simp only [Act.put, List.setIfInBounds_toArray, List.set_cons_zero, List.set_cons_succ]
        refine wpAnyH_ready (rs := [2, 4]) (by kernel_rfl) (by simp) ?_
        refine ready_at rfl (fun K hK => ?_) ?_
        · go_simp
          refine (HCL.out W5d hbW).mono ?_
          rintro e W3 ⟨u3, rfl, hm3, hb3⟩
          obtain ⟨g3, c3, rfl, hg3, hbo3⟩ := hm3.boR (by rw [takenOf_length]; exact hpn)
          rw [takenOf_length]
          have hHn := (hb3.block _ (lt_of_heap hH)).trans hH
          have hs3 := hbW.size
          replace hbW := hbW.trans (hb3.mono hbW.size)
          clear hH hm3 hb3
          go_wp2_with fail
          refine hK.out _ _ hHn (fun hH => ?_)
          clear hHn
          clear hK K
          try simp only [Act.put, List.setIfInBounds_toArray, List.set_cons_zero, List.set_cons_succ]
          refine wpAnyH_ready (rs := [4]) (by kernel_rfl) (by simp) ?_
          refine ready_at rfl (fun K hK => ?_) AllReadyH.nil
          go_simp
          have hb4 : Below W3.heap.size W3 (W3.alloc (.map #[] 0)) := (Below.refl _ _).alloc (Nat.le_refl _) _
          have htab := OTab.made W3
          have hs4 : W3.heap.size < (W3.alloc (.map #[] 0)).heap.size := by simp
          have hHn := (hb4.block _ (lt_of_heap hH)).trans hH
          have hs5 := hbW.size
          replace hbW := hbW.trans (hb4.mono hbW.size)
          have hg3n : g3 < W3.heap.size := hbo3.lt
          replace hbo3 := hbo3.keep (hb4.block _ hbo3.lt)
          clear hH hb4
          go_wp2_with fail
          generalize W3.alloc (.map #[] 0) = W4 at *
          generalize hM4 : W3.heap.size = M4 at *
          refine hK.out _ _ hHn (fun hH => ?_)
          clear hHn
          clear hK K
          try simp only [Act.put, List.setIfInBounds_toArray, List.set_cons_zero, List.set_cons_succ]
          refine take_at (i := 5) (v := ?_) rfl (by kernel_rfl) (by kernel_rfl) (by kernel_rfl) (fun _ _ _ h => h) (Or.inl ⟨by rfl, ?_⟩) hH ?_
          rotate_left
          · (intro w hSw; have hpc := plan_cells hSw; obtain ⟨q0, q1⟩ := hpc; go_simp; try with_reducible rfl)
          try simp only [Act.put, List.setIfInBounds_toArray, List.set_cons_zero, List.set_cons_succ]
          refine wpAnyH_ready (rs := [6]) (by kernel_rfl) (by simp) ?_
          refine ready_at rfl (fun K hK => ?_) AllReadyH.nil
          go_simp
          have hb6 : Below W4.heap.size W4 (W4.alloc (.cells #[jptr p, .slice (some ⟨g3, 0, none⟩) n c3, .int .i64 R, .slice (some ⟨g, 0, none⟩) n c2, .int .i64 R, .map (some M4), .bool false, .int .i64 0] 68)) := (Below.refl _ _).alloc (Nat.le_refl _) _
          have hq6 := heap_alloc_new W4 (.cells #[jptr p, .slice (some ⟨g3, 0, none⟩) n c3, .int .i64 R, .slice (some ⟨g, 0, none⟩) n c2, .int .i64 R, .map (some M4), .bool false, .int .i64 0] 68)
          have hs6 : W4.heap.size < (W4.alloc (.cells #[jptr p, .slice (some ⟨g3, 0, none⟩) n c3, .int .i64 R, .slice (some ⟨g, 0, none⟩) n c2, .int .i64 R, .map (some M4), .bool false, .int .i64 0] 68)).heap.size := by simp
          have hHn := (hb6.block _ (lt_of_heap hH)).trans hH
          have hlM : M4 < W4.heap.size := htab.lt
          have hl3 : g3 < W4.heap.size := hbo3.lt
          have hs7 := hbW.size
          replace htab := htab.keep (hb6.block _ htab.lt)
          replace hbo3 := hbo3.keep (hb6.block _ hbo3.lt)
          replace hbW := hbW.trans (hb6.mono hbW.size)
          have hne3 : g3 ≠ M4 := by omega
          clear hH hb6
          go_wp2_with fail
          generalize W4.alloc (.cells #[jptr p, .slice (some ⟨g3, 0, none⟩) n c3, .int .i64 R, .slice (some ⟨g, 0, none⟩) n c2, .int .i64 R, .map (some M4), .bool false, .int .i64 0] 68) = W6 at *
          generalize hq : W4.heap.size = q at *
          refine hK.out _ _ hHn (fun hH => ?_)
          clear hHn
          clear hK K
          try simp only [Act.put, List.setIfInBounds_toArray, List.set_cons_zero, List.set_cons_succ]
          refine take_at (i := 7) (v := ?_) rfl (by kernel_rfl) (by kernel_rfl) (by kernel_rfl) (fun _ _ _ h => h) (Or.inl ⟨by rfl, ?_⟩) hH ?_
          rotate_left
          · (intro w hSw; have hpc := plan_cells hSw; obtain ⟨q0, q1⟩ := hpc; go_simp; try with_reducible rfl)
          try simp only [Act.put, List.setIfInBounds_toArray, List.set_cons_zero, List.set_cons_succ]
          refine take_at (i := 8) (v := ?_) rfl (by kernel_rfl) (by kernel_rfl) (by kernel_rfl) (fun _ _ _ h => h) (Or.inl ⟨by rfl, ?_⟩) hH ?_
          rotate_left
          · (intro w hSw; have hpc := plan_cells hSw; obtain ⟨q0, q1⟩ := hpc; go_simp; try with_reducible rfl)
          try simp only [Act.put, List.setIfInBounds_toArray, List.set_cons_zero, List.set_cons_succ]
          refine wpAnyH_done (by kernel_rfl) ?_ _
          refine NoPanic.normal ?_
          clear hH
          have hgl := HBO.out.lt
          have hw1 := HB5.out.size
          have hw2 := HB55.out.size
          have hbo5 := (HBO.out.keep (HB55.out.block _ hgl)).keep (hbW.block _ (by omega))
          have hbb := HB5.out.trans ((HB55.out.trans (hbW.mono hw2)).mono hw1)
          have HPA := Lib.hid (PgAt.opened (f := ⟨q, g3, c3, g, c2, M4, []⟩) (P := ⟨J, takenOf L n, rootOf L, takenOf L n, rootOf L, [], false, 0⟩) HJ.out HNB.out hbb rfl rfl rfl (by simp only [pgRow, takenOf_length, ← HR.out]; exact hq6) hbo3 hbo5 htab ⟨by simp only [takenOf_length]; exact hpn, by simp only [takenOf_length]; exact hpl, rfl, rootOf_ge L, by simp only [takenOf_length]; exact HSP.out, rootOf_ge L, by simp only [takenOf_length]; exact HSP.out, fun x hx => (by cases hx), by simp only [takenOf_length]; exact HNE.out⟩ (by dsimp only; omega) (by dsimp only; omega) (by dsimp only; omega) (by dsimp only; omega) (by dsimp only; omega))
          have HT6 := Lib.hid (HT.out.trans (Turned.of_below hbb))
          clear hbo3 hbo5 htab hbW hbb hq6
          go_wp2_with fail
          go_ret2
          exact POpenEnd.good HX.out HPA.out.1 (fun k hk => Nat.le_trans hsz (HPA.out.2 k hk)) HT6.out
        refine ready_at rfl (fun K hK => ?_) ?_
        · go_simp
          have hb4 : Below W5d.heap.size W5d (W5d.alloc (.map #[] 0)) := (Below.refl _ _).alloc (Nat.le_refl _) _
          have htab := OTab.made W5d
          have hs4 : W5d.heap.size < (W5d.alloc (.map #[] 0)).heap.size := by simp
          have hHn := (hb4.block _ (lt_of_heap hH)).trans hH
          have hs5 := hbW.size
          replace hbW := hbW.trans (hb4.mono hbW.size)
          clear hH hb4
          go_wp2_with fail
          generalize W5d.alloc (.map #[] 0) = W4 at *
          generalize hM4 : W5d.heap.size = M4 at *
          refine hK.out _ _ hHn (fun hH => ?_)
          clear hHn
          clear hK K
          try simp only [Act.put, List.setIfInBounds_toArray, List.set_cons_zero, List.set_cons_succ]
          refine wpAnyH_ready (rs := [2]) (by kernel_rfl) (by simp) ?_
          refine ready_at rfl (fun K hK => ?_) AllReadyH.nil
          go_simp
          refine (HCL.out W4 hbW).mono ?_
          rintro e W3 ⟨u3, rfl, hm3, hb3⟩
          obtain ⟨g3, c3, rfl, hg3, hbo3⟩ := hm3.boR (by rw [takenOf_length]; exact hpn)
          rw [takenOf_length]
          have hHn := (hb3.block _ (lt_of_heap hH)).trans hH
          have hs3 := hbW.size
          replace hbW := hbW.trans (hb3.mono hbW.size)
          replace htab := htab.keep (hb3.block _ htab.lt)
          have hg3n : g3 ≠ M4 := by omega
          have hM4n := hM4
          clear hH hm3 hb3
          go_wp2_with fail
          refine hK.out _ _ hHn (fun hH => ?_)
          clear hHn
          clear hK K
          try simp only [Act.put, List.setIfInBounds_toArray, List.set_cons_zero, List.set_cons_succ]
          refine take_at (i := 5) (v := ?_) rfl (by kernel_rfl) (by kernel_rfl) (by kernel_rfl) (fun _ _ _ h => h) (Or.inl ⟨by rfl, ?_⟩) hH ?_
          rotate_left
          · (intro w hSw; have hpc := plan_cells hSw; obtain ⟨q0, q1⟩ := hpc; go_simp; try with_reducible rfl)
          try simp only [Act.put, List.setIfInBounds_toArray, List.set_cons_zero, List.set_cons_succ]
          refine wpAnyH_ready (rs := [6]) (by kernel_rfl) (by simp) ?_
          refine ready_at rfl (fun K hK => ?_) AllReadyH.nil
          go_simp
          have hb6 : Below W3.heap.size W3 (W3.alloc (.cells #[jptr p, .slice (some ⟨g3, 0, none⟩) n c3, .int .i64 R, .slice (some ⟨g, 0, none⟩) n c2, .int .i64 R, .map (some M4), .bool false, .int .i64 0] 68)) := (Below.refl _ _).alloc (Nat.le_refl _) _
          have hq6 := heap_alloc_new W3 (.cells #[jptr p, .slice (some ⟨g3, 0, none⟩) n c3, .int .i64 R, .slice (some ⟨g, 0, none⟩) n c2, .int .i64 R, .map (some M4), .bool false, .int .i64 0] 68)
          have hs6 : W3.heap.size < (W3.alloc (.cells #[jptr p, .slice (some ⟨g3, 0, none⟩) n c3, .int .i64 R, .slice (some ⟨g, 0, none⟩) n c2, .int .i64 R, .map (some M4), .bool false, .int .i64 0] 68)).heap.size := by simp
          have hHn := (hb6.block _ (lt_of_heap hH)).trans hH
          have hlM : M4 < W3.heap.size := htab.lt
          have hl3 : g3 < W3.heap.size := hbo3.lt
          have hs7 := hbW.size
          replace htab := htab.keep (hb6.block _ htab.lt)
          replace hbo3 := hbo3.keep (hb6.block _ hbo3.lt)
          replace hbW := hbW.trans (hb6.mono hbW.size)
          have hne3 : g3 ≠ M4 := by omega
          clear hH hb6
          go_wp2_with fail
          generalize W3.alloc (.cells #[jptr p, .slice (some ⟨g3, 0, none⟩) n c3, .int .i64 R, .slice (some ⟨g, 0, none⟩) n c2, .int .i64 R, .map (some M4), .bool false, .int .i64 0] 68) = W6 at *
          generalize hq : W3.heap.size = q at *
          refine hK.out _ _ hHn (fun hH => ?_)
          clear hHn
          clear hK K
          try simp only [Act.put, List.setIfInBounds_toArray, List.set_cons_zero, List.set_cons_succ]
          refine take_at (i := 7) (v := ?_) rfl (by kernel_rfl) (by kernel_rfl) (by kernel_rfl) (fun _ _ _ h => h) (Or.inl ⟨by rfl, ?_⟩) hH ?_
          rotate_left
          · (intro w hSw; have hpc := plan_cells hSw; obtain ⟨q0, q1⟩ := hpc; go_simp; try with_reducible rfl)
          try simp only [Act.put, List.setIfInBounds_toArray, List.set_cons_zero, List.set_cons_succ]
          refine take_at (i := 8) (v := ?_) rfl (by kernel_rfl) (by kernel_rfl) (by kernel_rfl) (fun _ _ _ h => h) (Or.inl ⟨by rfl, ?_⟩) hH ?_
          rotate_left
          · (intro w hSw; have hpc := plan_cells hSw; obtain ⟨q0, q1⟩ := hpc; go_simp; try with_reducible rfl)
          try simp only [Act.put, List.setIfInBounds_toArray, List.set_cons_zero, List.set_cons_succ]
          refine wpAnyH_done (by kernel_rfl) ?_ _
          refine NoPanic.normal ?_
          clear hH
          have hgl := HBO.out.lt
          have hw1 := HB5.out.size
          have hw2 := HB55.out.size
          have hbo5 := (HBO.out.keep (HB55.out.block _ hgl)).keep (hbW.block _ (by omega))
          have hbb := HB5.out.trans ((HB55.out.trans (hbW.mono hw2)).mono hw1)
          have HPA := Lib.hid (PgAt.opened (f := ⟨q, g3, c3, g, c2, M4, []⟩) (P := ⟨J, takenOf L n, rootOf L, takenOf L n, rootOf L, [], false, 0⟩) HJ.out HNB.out hbb rfl rfl rfl (by simp only [pgRow, takenOf_length, ← HR.out]; exact hq6) hbo3 hbo5 htab ⟨by simp only [takenOf_length]; exact hpn, by simp only [takenOf_length]; exact hpl, rfl, rootOf_ge L, by simp only [takenOf_length]; exact HSP.out, rootOf_ge L, by simp only [takenOf_length]; exact HSP.out, fun x hx => (by cases hx), by simp only [takenOf_length]; exact HNE.out⟩ (by dsimp only; omega) (by dsimp only; omega) (by dsimp only; omega) (by dsimp only; omega) (by dsimp only; omega))
          have HT6 := Lib.hid (HT.out.trans (Turned.of_below hbb))
          clear hbo3 hbo5 htab hbW hbb hq6
          go_wp2_with fail
          go_ret2
          exact POpenEnd.good HX.out HPA.out.1 (fun k hk => Nat.le_trans hsz (HPA.out.2 k hk)) HT6.out
        exact AllReadyH.nil
end Go.Proofs.YtbmmcaoifkboiaaDoor

/- A nil pager. -/
set_option linter.unusedVariables false
set_option linter.unusedSimpArgs false
set_option maxRecDepth 100000
namespace Go.Proofs.YtbmmcaoifkboiaaDoor
open Go.RowKit

abbrev nilp : Value := .pointer none
theorem failsN (w : World) (page : Int) : Calls Tryd.prog 33 #[nilp, .int .i64 page] w fun e w' => e = .returned (.int .i64 1) ∧ w' = w := by
  go_enter Tryd.func33, Tryd.ntmps33
  go_wp2
  go_ret
  exact ⟨rfl, rfl⟩
theorem mustN (w : World) (page : Int) : Calls Tryd.prog 35 #[nilp, .int .i64 page] w fun e w' => e = .returned (.int .i64 1) ∧ w' = w := by
  have HF := Lib.hid (failsN w page)
  go_enter Tryd.func35, Tryd.ntmps35
  go_wp2_with (go_at_call 33; refine HF.out.mono ?_; rintro e w2 ⟨rfl, rfl⟩)
  go_ret
  exact ⟨rfl, rfl⟩
theorem allocN (w : World) : Calls Tryd.prog 12 #[nilp] w fun e w' => e = .returned (.tuple #[.int .i64 0, .int .i64 1]) ∧ w' = w := by
  have HF := Lib.hid (failsN w (-1))
  go_enter Tryd.func12, Tryd.ntmps12
  go_wp2_with (go_at_call 33; refine HF.out.mono ?_; rintro e w2 ⟨rfl, rfl⟩)
  go_ret2
  exact ⟨rfl, rfl⟩
theorem freeNilP (w : World) (page : Int) : Calls Tryd.prog 13 #[nilp, .int .i64 page] w fun e w' => e = .returned (.int .i64 1) ∧ w' = w := by
  have HF := Lib.hid (mustN w page)
  go_enter Tryd.func13, Tryd.ntmps13
  go_wp2_with (go_at_call 35; refine HF.out.mono ?_; rintro e w2 ⟨rfl, rfl⟩)
  go_ret
  exact ⟨rfl, rfl⟩
theorem readN (w : World) (page : Int) : Calls Tryd.prog 19 #[nilp, .int .i64 page] w fun e w' => e = .returned (.tuple #[.slice none 0 0, .int .i64 1]) ∧ w' = w := by
  have HF := Lib.hid (mustN w page)
  go_enter Tryd.func19, Tryd.ntmps19
  go_wp2_with (go_at_call 35; refine HF.out.mono ?_; rintro e w2 ⟨rfl, rfl⟩)
  go_ret2
  exact ⟨rfl, rfl⟩
theorem writeN (w : World) (page : Int) : Calls Tryd.prog 17 #[nilp, .int .i64 page, .slice none 0 0] w fun e w' => e = .returned (.int .i64 1) ∧ w' = w := by
  have HF := Lib.hid (mustN w page)
  go_enter Tryd.func17, Tryd.ntmps17
  go_wp2_with (go_at_call 35; refine HF.out.mono ?_; rintro e w2 ⟨rfl, rfl⟩)
  go_ret
  exact ⟨rfl, rfl⟩
theorem setrootN (w : World) (page : Int) : Calls Tryd.prog 32 #[nilp, .int .i64 page] w fun e w' => e = .returned (.int .i64 1) ∧ w' = w := by
  have HF := Lib.hid (failsN w page)
  go_enter Tryd.func32, Tryd.ntmps32
  go_wp2_with (go_at_call 33; refine HF.out.mono ?_; rintro e w2 ⟨rfl, rfl⟩)
  go_ret
  exact ⟨rfl, rfl⟩
theorem commitN (w : World) : Calls Tryd.prog 14 #[nilp] w fun e w' => e = .returned (.int .i64 1) ∧ w' = w := by
  have HF := Lib.hid (failsN w (-1))
  go_enter Tryd.func14, Tryd.ntmps14
  go_wp2_with (go_at_call 33; refine HF.out.mono ?_; rintro e w2 ⟨rfl, rfl⟩)
  go_ret
  exact ⟨rfl, rfl⟩
theorem abortN (w : World) : Calls Tryd.prog 15 #[nilp] w fun e w' => e = .returned (.tuple #[]) ∧ w' = w := by
  have HF := Lib.hid (failsN w (-1))
  go_enter Tryd.func15, Tryd.ntmps15
  go_wp2_with (go_at_call 33; refine HF.out.mono ?_; rintro e w2 ⟨rfl, rfl⟩)
  go_end0
  exact ⟨rfl, rfl⟩
theorem pagesN (w : World) : Calls Tryd.prog 16 #[nilp] w fun e w' => e = .returned (.int .i64 0) ∧ w' = w := by
  go_enter Tryd.func16, Tryd.ntmps16
  go_wp2
  go_ret
  exact ⟨rfl, rfl⟩
theorem rootN (w : World) : Calls Tryd.prog 31 #[nilp] w fun e w' => e = .returned (.int .i64 (-1)) ∧ w' = w := by
  go_enter Tryd.func31, Tryd.ntmps31
  go_wp2
  go_ret
  exact ⟨rfl, rfl⟩
theorem leftN (w : World) : Calls Tryd.prog 11 #[nilp] w fun e w' => e = .returned (.int .i64 0) ∧ w' = w := by
  have HF := Lib.hid (pagesN w)
  go_enter Tryd.func11, Tryd.ntmps11
  go_wp2_with (go_at_call 16; refine HF.out.mono ?_; rintro e w9 ⟨rfl, hw9⟩; rw [hw9]; clear hw9 w9)
  refine wp_loop_rounds 1 ?_
  rw [rounds_succ]
  go_wp2
  go_ret
  exact ⟨rfl, rfl⟩
theorem formatN (w : World) : Calls Tryd.prog 28 #[nilp] w fun e w' => e = .returned (.int .i64 1) ∧ w' = w := by
  go_enter Tryd.func28, Tryd.ntmps28
  go_wp2
  go_ret
  exact ⟨rfl, rfl⟩
theorem openN (w : World) : Calls Tryd.prog 21 #[nilp] w fun e w' => e = .returned (.tuple #[nilp, .int .i64 1]) ∧ w' = w := by
  go_enter Tryd.func21, Tryd.ntmps21
  go_wp2
  go_ret2
  exact ⟨rfl, rfl⟩
theorem none8_any (w : World) : Calls Tryd.prog 20 #[] w fun e w' => e = .returned (.bool true) ∧ w' = w := by
  go_enter Tryd.func20, Tryd.ntmps20
  go_wp2_with (first
    | (go_at_call 12; refine (allocN _).mono ?_; rintro e w9 ⟨rfl, hw9⟩; rw [hw9]; clear hw9 w9)
    | (go_at_call 13; refine (freeNilP _ _).mono ?_; rintro e w9 ⟨rfl, hw9⟩; rw [hw9]; clear hw9 w9)
    | (go_at_call 19; refine (readN _ _).mono ?_; rintro e w9 ⟨rfl, hw9⟩; rw [hw9]; clear hw9 w9)
    | (go_at_call 17; refine (writeN _ _).mono ?_; rintro e w9 ⟨rfl, hw9⟩; rw [hw9]; clear hw9 w9)
    | (go_at_call 32; refine (setrootN _ _).mono ?_; rintro e w9 ⟨rfl, hw9⟩; rw [hw9]; clear hw9 w9)
    | (go_at_call 14; refine (commitN _).mono ?_; rintro e w9 ⟨rfl, hw9⟩; rw [hw9]; clear hw9 w9)
    | (go_at_call 15; refine (abortN _).mono ?_; rintro e w9 ⟨rfl, hw9⟩; rw [hw9]; clear hw9 w9)
    | (go_at_call 28; refine (formatN _).mono ?_; rintro e w9 ⟨rfl, hw9⟩; rw [hw9]; clear hw9 w9)
    | (go_at_call 21; refine (openN _).mono ?_; rintro e w9 ⟨rfl, hw9⟩; rw [hw9]; clear hw9 w9)
    | (go_at_call 16; refine (pagesN _).mono ?_; rintro e w9 ⟨rfl, hw9⟩; rw [hw9]; clear hw9 w9)
    | (go_at_call 11; refine (leftN _).mono ?_; rintro e w9 ⟨rfl, hw9⟩; rw [hw9]; clear hw9 w9)
    | (go_at_call 31; refine (rootN _).mono ?_; rintro e w9 ⟨rfl, hw9⟩; rw [hw9]; clear hw9 w9))
  go_ret
  exact ⟨rfl, rfl⟩
end Go.Proofs.YtbmmcaoifkboiaaDoor

/- Writes that go through, in plain lists; the document's examples. -/
set_option linter.unusedVariables false
set_option linter.unusedSimpArgs false
set_option maxRecDepth 100000
namespace Go.Proofs.YtbmmcaoifkboiaaDoor
open Go.RowKit

theorem Live.blocks {n : Nat} {J : Jn} {seq : Int} {B : List (List UInt8)} {ok : Nat → Prop} (h : Live n J seq B ok) : J.D.blocks = (n - 2) / 2 := by rw [Dk.blocks, h.hn]
theorem updB_nil (B : List (List UInt8)) (ls : List (List UInt8)) : updB B [] ls = B := by rw [updB]
/-- what a write answers: refused, or done, or the power went -/
theorem write_no {n : Nat} {J : Jn} {seq : Int} {B : List (List UInt8)} {ok : Nat → Prop} (h : Live n J seq B ok) {zs : List Int} {ls : List (List UInt8)} (hr : rightW ((n - 2) / 2) zs ls = false) : J.write zs ls = (2, J) := by
  rw [Jn.write, if_neg (by simp [h.off]), h.blocks, if_pos hr]
theorem write_nil {n : Nat} {J : Jn} {seq : Int} {B : List (List UInt8)} {ok : Nat → Prop} (h : Live n J seq B ok) {ls : List (List UInt8)} (hr : rightW ((n - 2) / 2) [] ls = true) : J.write [] ls = (0, J) := by
  rw [Jn.write, if_neg (by simp [h.off]), h.blocks, if_neg (by simp [hr]), if_pos List.length_nil]
theorem write_yes {n : Nat} {J : Jn} {seq : Int} {B : List (List UInt8)} {ok : Nat → Prop} (h : Live n J seq B ok) {zs : List Int} {ls : List (List UInt8)} (hr : rightW ((n - 2) / 2) zs ls = true) (h0 : zs.length ≠ 0) : J.write zs ls = ((J.writes zs ls).off, J.writes zs ls) := by
  rw [Jn.write, if_neg (by simp [h.off]), h.blocks, if_neg (by simp [hr]), if_neg h0]
structure WroteOk (n : Nat) (J : Jn) (seq : Int) (B : List (List UInt8)) (zs : List Int) (ls : List (List UInt8)) : Prop where
  err : (J.write zs ls).1 = 0
  live : Live n (J.write zs ls).2 (if zs.length = 0 then seq else seq + 1) (updB B zs ls) AllOk
  last : (J.write zs ls).2.last ≤ J.last + 1
  cut : (J.write zs ls).2.D.cut = J.D.cut
  ops : (J.write zs ls).2.D.ops ≤ J.D.ops + (2 * zs.length + 4)
  same : zs.length = 0 → (J.write zs ls).2 = J
theorem write_ok {n : Nat} {J : Jn} {seq : Int} {B : List (List UInt8)} {zs : List Int} {ls : List (List UInt8)} (h : Live n J seq B AllOk) (hcut : J.D.cut < 0) (hr : rightW ((n - 2) / 2) zs ls = true) (ht : J.last + 1 < 4611686018427387904) (hb : J.D.ops + (2 * zs.length + 4) ≤ 1048576) : WroteOk n J seq B zs ls := by
  by_cases h0 : zs.length = 0
  · obtain rfl : zs = [] := List.eq_nil_of_length_eq_zero h0
    have e := write_nil h hr
    refine ⟨by rw [e], ?_, by rw [e]; show J.last ≤ _; omega, by rw [e], by rw [e]; show J.D.ops ≤ _; omega, fun _ => by rw [e]⟩
    rw [e, if_pos List.length_nil, updB_nil]
    exact h
  · have e := write_yes h hr h0
    have w := writes_live h hr ht hb
    rcases w.ends with ⟨a1, a2⟩ | ⟨_, a2, _⟩
    · refine ⟨by rw [e]; exact a1, ?_, by rw [e]; exact Nat.le_of_eq w.last, by rw [e]; exact w.cut, by rw [e]; exact w.ops, fun h => absurd h h0⟩
      rw [e, if_neg h0]
      exact a2
    · omega
/-- the bytes of the document's example -/
def exX : List UInt8 := (List.replicate 112 0).set 5 7
theorem exX_length : exX.length = 112 := by simp [exX]
theorem shown06_plain : ∃ D1 J, (Dk.new 40).openJ = (60, ⟨Dk.new 40, 0, 0, 0⟩) ∧ (Dk.new 40).format = (0, D1) ∧ D1.openJ = (0, J) ∧ J.D.n = 40 ∧ J.D.blocks = 19 ∧ J.last ≤ 1 ∧ J.seq = 0 ∧ (J.write [3] [exX]).1 = 0 ∧ (J.write [3] [exX]).2.D.n = 40 ∧ (J.write [3] [exX]).2.seq = 1 ∧
    (J.write [3] [exX]).2.read 3 = (exX, 0, (J.write [3] [exX]).2) := by
  obtain ⟨D1, J, e1, e2, hl, h3, h4, h5⟩ := begun_plain (n := 40) (by omega) (by omega)
  have hr : rightW ((40 - 2) / 2) [3] [exX] = true := by simp [rightW, rightGo, exX_length]
  have w := write_ok hl h4 hr (by omega) (by show J.D.ops + (2 * 1 + 4) ≤ _; omega)
  have hlv := w.live
  refine ⟨D1, J, open_zero (n := 40) rfl rfl (by omega) rfl, e1, e2, hl.hn, hl.blocks, h3, hl.hseq, w.err, hlv.hn, hlv.hseq, ?_⟩
  exact read_live hlv (i := 3) (by omega) trivial (by
    show (updB (zeroB 40) [3] [exX])[3]? = some exX
    rw [updB, updB_nil]
    rw [show (3 : Int).toNat = 3 from rfl, List.getElem?_set_self (by simp [zeroB])])
end Go.Proofs.YtbmmcaoifkboiaaDoor

/- Blocks behind a Commit. Plain lists. -/
set_option linter.unusedVariables false
set_option linter.unusedSimpArgs false
set_option maxRecDepth 100000
namespace Go.Proofs.YtbmmcaoifkboiaaDoor
open Go.RowKit

/-- m blocks from one on, one behind the other -/
def blocksAt (B : List (List UInt8)) (from_ m : Nat) : List UInt8 := (List.range m).flatMap fun i => B.getD (from_ + i) []
theorem placesFrom_cons (f m : Nat) : placesFrom (f : Int) (m + 1) = (f : Int) :: placesFrom ((f + 1 : Nat) : Int) m := by
  rw [placesFrom, List.range_succ_eq_map, List.map_cons, List.map_map, placesFrom]
  have e : ((fun (i : Nat) => (f : Int) + (i : Int)) ∘ Nat.succ) = fun (i : Nat) => ((f + 1 : Nat) : Int) + (i : Int) := by
    funext i
    simp only [Function.comp]
    omega
  rw [e]
  simp
theorem updB_run : ∀ (m f : Nat) (b : List UInt8) (B : List (List UInt8)) (i : Nat), f + m ≤ B.length → (updB B (placesFrom (f : Int) m) (chunks m b))[i]? = if f ≤ i ∧ i < f + m then some ((b.drop (112 * (i - f))).take 112) else B[i]?
  | 0, f, b, B, i, _ => by
    rw [if_neg (by omega)]
    simp [placesFrom, chunks, updB]
  | m + 1, f, b, B, i, h => by
    rw [placesFrom_cons, chunks, updB, updB_run m (f + 1) (b.drop 112) _ i (by simp; omega), Int.toNat_natCast, List.drop_drop, List.getElem?_set]
    by_cases h1 : f + 1 ≤ i ∧ i < f + 1 + m
    · rw [if_pos h1, if_pos (by omega)]
      congr 3
      omega
    · rw [if_neg h1]
      by_cases h2 : f = i
      · subst h2
        rw [if_pos rfl, if_pos (by omega), if_pos (by omega), Nat.sub_self]
        rfl
      · rw [if_neg h2, if_neg (by omega)]
theorem updB_app : ∀ (zs zs' : List Int) (ls ls' B : List (List UInt8)), zs.length = ls.length → updB B (zs ++ zs') (ls ++ ls') = updB (updB B zs ls) zs' ls'
  | [], _, [], _, _, _ => by simp [updB]
  | [], _, _ :: _, _, _, h => by simp at h
  | _ :: _, _, [], _, _, h => by simp at h
  | z :: zs, zs', l :: ls, ls', B, h => by
    simp only [List.cons_append, updB]
    exact updB_app zs zs' ls ls' _ (by simpa using h)
theorem chunks_flat : ∀ (m : Nat) (b : List UInt8), b.length = 112 * m → ((List.range m).flatMap fun i => (b.drop (112 * i)).take 112) = b
  | 0, b, h => by
    have : b = [] := List.eq_nil_of_length_eq_zero (by omega)
    simp [this]
  | m + 1, b, h => by
    have ih := chunks_flat m (b.drop 112) (by rw [List.length_drop]; omega)
    rw [List.range_succ_eq_map, List.flatMap_cons, List.flatMap_map]
    simp only [Nat.mul_zero, List.drop_zero]
    have e : ((List.range m).flatMap fun i => (b.drop (112 * (i + 1))).take 112) = b.drop 112 := by
      rw [← ih]
      simp only [List.drop_drop]
      congr 1
      funext i
      congr 2
      omega
    show b.take 112 ++ ((List.range m).flatMap fun i => (b.drop (112 * (i + 1))).take 112) = b
    rw [e, List.take_append_drop]
theorem flatMap_congr' {α β : Type} {l : List α} {f g : α → List β} (h : ∀ x ∈ l, f x = g x) : l.flatMap f = l.flatMap g := by
  induction l with
  | nil => rfl
  | cons x r ih => rw [List.flatMap_cons, List.flatMap_cons, h x (by simp), ih fun y hy => h y (by simp [hy])]
theorem blocksAt_run {m f : Nat} {b : List UInt8} {B : List (List UInt8)} (h : f + m ≤ B.length) (hb : b.length = 112 * m) : blocksAt (updB B (placesFrom (f : Int) m) (chunks m b)) f m = b := by
  rw [blocksAt]
  conv => rhs; rw [← chunks_flat m b hb]
  refine flatMap_congr' fun i hi => ?_
  have := List.mem_range.1 hi
  rw [List.getD_eq_getElem?_getD, updB_run m f b B (f + i) h, if_pos (by omega), Option.getD_some, Nat.add_sub_cancel_left]
theorem blocksAt_other {m f m' f' : Nat} {b : List UInt8} {B : List (List UInt8)} (h : f + m ≤ B.length) (hd : f' + m' ≤ f ∨ f + m ≤ f') : blocksAt (updB B (placesFrom (f : Int) m) (chunks m b)) f' m' = blocksAt B f' m' := by
  rw [blocksAt, blocksAt]
  refine flatMap_congr' fun i hi => ?_
  have := List.mem_range.1 hi
  rw [List.getD_eq_getElem?_getD, updB_run m f b B (f' + i) h, if_neg (by omega), ← List.getD_eq_getElem?_getD]
/-- the blocks of page k -/
abbrev pageAt (B : List (List UInt8)) (k : Nat) : List UInt8 := blocksAt B (2 + 8 * k) 8
theorem page_place (k : Nat) : (2 + (k : Int) * 8) = ((2 + 8 * k : Nat) : Int) := by omega
theorem pages_upd (o : List (Int × List UInt8)) (ho : ∀ k b, oLook o k = some b → b.length = 896) : ∀ (ks : List Int) (B : List (List UInt8)), ks.Nodup → (∀ k ∈ ks, 0 ≤ k ∧ 2 + 8 * k.toNat + 8 ≤ B.length) → (∀ k ∈ ks, ∃ b, oLook o k = some b) →
    (updB B (ks.flatMap fun k => placesFrom (2 + k * 8) 8) (ks.flatMap fun k => chunks 8 ((oLook o k).getD []))).length = B.length ∧
    blocksAt (updB B (ks.flatMap fun k => placesFrom (2 + k * 8) 8) (ks.flatMap fun k => chunks 8 ((oLook o k).getD []))) 0 2 = blocksAt B 0 2 ∧
    ∀ k : Nat, pageAt (updB B (ks.flatMap fun k => placesFrom (2 + k * 8) 8) (ks.flatMap fun k => chunks 8 ((oLook o k).getD []))) k = if (k : Int) ∈ ks then (oLook o k).getD [] else pageAt B k
  | [], B, _, _, _ => by simp [updB]
  | x :: ks, B, hn, hb, hl => by
    obtain ⟨x0, x1⟩ := hb x (by simp)
    obtain ⟨bx, hx⟩ := hl x (by simp)
    have hxl := ho x bx hx
    have ex : x = ((x.toNat : Nat) : Int) := by omega
    obtain ⟨y, hy⟩ : ∃ y, y = x.toNat := ⟨_, rfl⟩
    rw [← hy] at ex x1
    rw [List.nodup_cons] at hn
    rw [List.flatMap_cons, List.flatMap_cons, updB_app _ _ _ _ _ (by rw [placesFrom_length, chunks_length]), hx, Option.getD_some]
    have e1 : placesFrom (2 + x * 8) 8 = placesFrom ((2 + 8 * y : Nat) : Int) 8 := by rw [ex, page_place]
    rw [e1]
    obtain ⟨i1, i2, i3⟩ := pages_upd o ho ks (updB B (placesFrom ((2 + 8 * y : Nat) : Int) 8) (chunks 8 bx)) hn.2 (fun k hk => by rw [updB_length]; exact hb k (by simp [hk])) (fun k hk => hl k (by simp [hk]))
    refine ⟨i1.trans (updB_length _ _ _), by rw [i2, blocksAt_other (by omega) (by omega)], fun k => ?_⟩
    rw [i3 k]
    by_cases hk : (k : Int) ∈ ks
    · rw [if_pos hk, if_pos (by simp [hk])]
    · rw [if_neg hk]
      by_cases he : (k : Int) = x
      · have : k = y := by omega
        subst this
        rw [if_pos (by simp [he]), he, hx, Option.getD_some]
        exact blocksAt_run (by omega) (by omega)
      · rw [if_neg (by simp [hk, he])]
        exact blocksAt_other (by omega) (by omega)
/-- all blocks behind a Commit -/
theorem commit_upd {P : Pg} {B : List (List UInt8)} (ho : ∀ k b, oLook P.own k = some b → b.length = 896) (ks : List Int) (h2 : 2 ≤ B.length) (hn : ks.Nodup) (hb : ∀ k ∈ ks, 0 ≤ k ∧ 2 + 8 * k.toNat + 8 ≤ B.length) (hl : ∀ k ∈ ks, ∃ b, oLook P.own k = some b) :
    (updB B (commitPlaces ks) (commitBlocks P ks)).length = B.length ∧ blocksAt (updB B (commitPlaces ks) (commitBlocks P ks)) 0 2 = planB P.now P.root ∧
    ∀ k : Nat, pageAt (updB B (commitPlaces ks) (commitBlocks P ks)) k = if (k : Int) ∈ ks then (oLook P.own k).getD [] else pageAt B k := by
  rw [commitPlaces, commitBlocks, updB_app _ _ _ _ _ (by rw [placesFrom_length, chunks_length])]
  have hl0 : (updB B (placesFrom 0 2) (chunks 2 (planB P.now P.root))).length = B.length := updB_length _ _ _
  obtain ⟨i1, i2, i3⟩ := pages_upd P.own ho ks (updB B (placesFrom 0 2) (chunks 2 (planB P.now P.root))) hn (fun k hk => by rw [hl0]; exact hb k hk) hl
  have e0 : (0 : Int) = ((0 : Nat) : Int) := rfl
  refine ⟨i1.trans hl0, ?_, fun k => ?_⟩
  · rw [i2, e0]
    exact blocksAt_run (by omega) (by rw [planB_length])
  · rw [i3 k]
    split
    · rfl
    · rw [e0]
      exact blocksAt_other (by omega) (by omega)
end Go.Proofs.YtbmmcaoifkboiaaDoor

/- The document's pager in memory; taken, lay. -/
set_option linter.unusedVariables false
set_option linter.unusedSimpArgs false
set_option maxRecDepth 100000
namespace Go.Proofs.YtbmmcaoifkboiaaDoor
open Go.RowKit

/-- the document's pager: pages (none: free) and the root, as they are, as they were; is there a change -/
structure Rp where
  pages : List (Option (List UInt8))
  root : Int
  was : List (Option (List UInt8))
  wroot : Int
  change : Bool
def Rp.taken (R : Rp) (page : Int) : Bool := decide (0 ≤ page) && (decide (page < (R.pages.length : Int)) && (R.pages.getD page.toNat none).isSome)
def Rp.lay (R : Rp) (k : Nat) (b : List UInt8) : Rp := { R with pages := R.pages.set k (some b), change := true }
def freeR (l : List (Option (List UInt8))) : Option Nat := l.findIdx? fun x => x.isNone
def Rp.alloc (R : Rp) : (Int × Int) × Rp := match freeR R.pages with | some k => (((k : Int), 0), R.lay k z896) | none => ((0, 80), R)
def Rp.free (R : Rp) (page : Int) : Int × Rp := if R.taken page = false then (81, R) else if R.root = page then (2, R) else (0, { R with pages := R.pages.set page.toNat none, change := true })
def Rp.read (R : Rp) (page : Int) : List UInt8 × Int := if R.taken page = false then ([], 81) else ((R.pages.getD page.toNat none).getD [], 0)
def Rp.write (R : Rp) (page : Int) (b : List UInt8) : Int × Rp := if R.taken page = false then (81, R) else if b.length ≠ 896 then (2, R) else (0, R.lay page.toNat b)
def Rp.setRoot (R : Rp) (page : Int) : Int × Rp := if R.taken page = false ∧ page ≠ -1 then (81, R) else (0, { R with root := page, change := true })
def Rp.commit (R : Rp) : Rp := { R with was := R.pages, wroot := R.root, change := false }
def Rp.abort (R : Rp) : Rp := { R with pages := R.was, root := R.wroot, change := false }
def Rp.left (R : Rp) : Nat := R.pages.countP fun x => x.isNone
def Rp.begun (blocks : Nat) : Rp := ⟨List.replicate ((blocks - 2) / 8) none, -1, List.replicate ((blocks - 2) / 8) none, -1, false⟩

/-- block g holds these values, one cell each -/
def VRow (w : World) (T : TypeId) (g c : Nat) (vs : List Value) : Prop := ∃ cur : Array Value, w.heap[g]? = some (.cells cur T (0, 0)) ∧ vs.length ≤ c ∧ c ≤ maxLen ∧ cur.size = c ∧ cur.toList.take vs.length = vs
section
variable {w w' : World} {T : TypeId} {g c : Nat} {vs : List Value}
theorem VRow.lt (h : VRow w T g c vs) : g < w.heap.size := by obtain ⟨cur, h1, _⟩ := h; exact lt_of_heap h1
theorem VRow.keep (h : VRow w T g c vs) (hw : w'.heap[g]? = w.heap[g]?) : VRow w' T g c vs := by
  obtain ⟨cur, h1, h2⟩ := h
  exact ⟨cur, hw.trans h1, h2⟩
theorem VRow.cell (h : VRow w T g c vs) (i : Nat) (hi : i < vs.length) : w.cell? ⟨g, i, none⟩ = some vs[i] := by
  obtain ⟨cur, h1, h2, h3, h4, h5⟩ := h
  rw [cell_of_row _ _ _ _ _ _ h1]
  have e : vs[i]? = some vs[i] := List.getElem?_eq_getElem hi
  conv at e => lhs; rw [← h5]
  rw [List.getElem?_take, if_pos (by omega)] at e
  simpa using e
theorem VRow.frozen (h : VRow w T g c vs) (i : Nat) : w.frozen? ⟨g, i, none⟩ = false := by
  obtain ⟨cur, h1, _⟩ := h
  exact frozen_p h1 i
theorem VRow.set (h : VRow w T g c vs) (i : Nat) (v : Value) : VRow (w.setCell ⟨g, i, none⟩ v) T g c (vs.set i v) := by
  obtain ⟨cur, h1, h2, h3, h4, h5⟩ := h
  refine ⟨_, head_setCell h1 (i := i) v, by simpa using h2, h3, by simpa using h4, ?_⟩
  rw [Array.toList_setIfInBounds, List.length_set]
  conv => rhs; rw [← h5]
  apply List.ext_getElem?
  intro j
  by_cases hj : j < vs.length
  · rw [List.getElem?_take_of_lt hj, List.getElem?_set, List.getElem?_set, List.getElem?_take_of_lt hj]
    simp only [List.length_take]
    by_cases hij : i = j
    · subst hij
      have hc : i < cur.toList.length := by simp; omega
      rw [if_pos rfl, if_pos rfl, if_pos hc, if_pos (by omega)]
    · rw [if_neg hij, if_neg hij]
  · rw [List.getElem?_take_eq_none (by omega), List.getElem?_eq_none (by simp; omega)]
theorem VRow.own (h : VRow w T g c vs) (B : Nat) (hB : B ≤ g) : w.ownsRow B T 1 (.slice (some ⟨g, 0, none⟩) vs.length c) vs.length vs := by
  obtain ⟨cur, h1, h2, h3, h4, h5⟩ := h
  exact ⟨by simp, .inr ⟨g, c, cur, rfl, hB, h1, h2, h3, by simp [h4], by simpa using h5⟩⟩
end
theorem own_vrow {B : Nat} {w : World} {T : TypeId} {v : Value} {vs : List Value} (h : w.ownsRow B T 1 v vs.length vs) (h0 : 0 < vs.length) : ∃ g c, v = .slice (some ⟨g, 0, none⟩) vs.length c ∧ B ≤ g ∧ VRow w T g c vs := by
  rcases h.2 with ⟨rfl, hn⟩ | ⟨g, cap, cur, rfl, hb, hg, hnc, hcm, hcs, htake⟩
  · omega
  · exact ⟨g, cap, rfl, hb, cur, hg, hnc, hcm, by simpa using hcs, by simpa using htake⟩
abbrev strO (b : List UInt8) : Obj := .cells #[.string ⟨b.toArray⟩] 9 (0, 0)
/-- a pointer to a page's string, or none -/
def PtrIs (w : World) (v : Value) (x : Option (List UInt8)) : Prop := match x with
  | none => v = .pointer none
  | some b => ∃ k, v = .pointer (some ⟨k, 0, none⟩) ∧ w.heap[k]? = some (strO b)
def pBlk : Value → Option Nat | .pointer (some a) => some a.block | _ => none
theorem PtrIs.keep {w w' : World} {v : Value} {x : Option (List UInt8)} (h : PtrIs w v x) (hw : ∀ k, pBlk v = some k → w'.heap[k]? = w.heap[k]?) : PtrIs w' v x := by
  cases x with
  | none => exact h
  | some b =>
    obtain ⟨k, rfl, h2⟩ := h
    exact ⟨k, rfl, (hw k rfl).trans h2⟩
def Ptrs (w : World) (vs : List Value) (l : List (Option (List UInt8))) : Prop := vs.length = l.length ∧ ∀ i (h1 : i < vs.length) (h2 : i < l.length), PtrIs w vs[i] l[i]
theorem Ptrs.keep {w w' : World} {vs : List Value} {l : List (Option (List UInt8))} (h : Ptrs w vs l) (hw : ∀ v ∈ vs, ∀ k, pBlk v = some k → w'.heap[k]? = w.heap[k]?) : Ptrs w' vs l :=
  ⟨h.1, fun i h1 h2 => (h.2 i h1 h2).keep (hw _ (List.getElem_mem h1))⟩
theorem Ptrs.set {w : World} {vs : List Value} {l : List (Option (List UInt8))} (h : Ptrs w vs l) (k : Nat) (v : Value) (x : Option (List UInt8)) (hx : PtrIs w v x) : Ptrs w (vs.set k v) (l.set k x) := by
  refine ⟨by simpa using h.1, fun i h1 h2 => ?_⟩
  rw [List.getElem_set, List.getElem_set]
  split
  · exact hx
  · exact h.2 i (by simpa using h1) (by simpa using h2)
structure Rf where
  q : Nat
  gs : Nat
  cs : Nat
  gw : Nat
  cw : Nat
  vs : List Value
  ws : List Value
def RT8 (f : Rf) (k : Nat) : Prop := k = f.q ∨ k = f.gs ∨ k = f.gw ∨ (∃ v ∈ f.vs, pBlk v = some k) ∨ ∃ v ∈ f.ws, pBlk v = some k
abbrev rfRow (f : Rf) (R : Rp) : Obj := .cells #[.slice (some ⟨f.gs, 0, none⟩) R.pages.length f.cs, .int .i64 R.root, .slice (some ⟨f.gw, 0, none⟩) R.was.length f.cw, .int .i64 R.wroot, .bool R.change] 87 (0, 0)
structure RfAt (w : World) (f : Rf) (R : Rp) : Prop where
  head : w.heap[f.q]? = some (rfRow f R)
  now : VRow w 120 f.gs f.cs f.vs
  was : VRow w 120 f.gw f.cw f.ws
  ptr : Ptrs w f.vs R.pages
  wptr : Ptrs w f.ws R.was
  n0 : 0 < R.pages.length
  n1 : R.pages.length ≤ 1023
  nw : R.was.length = R.pages.length
  lt : ∀ k, RT8 f k → k < w.heap.size
  sep : f.gs ≠ f.gw
section
variable {w w' : World} {f : Rf} {R : Rp}
theorem RfAt.keep (h : RfAt w f R) (hw : ∀ k, RT8 f k → w'.heap[k]? = w.heap[k]?) (hs : w.heap.size ≤ w'.heap.size) : RfAt w' f R :=
  ⟨(hw _ (.inl rfl)).trans h.head, h.now.keep (hw _ (.inr (.inl rfl))), h.was.keep (hw _ (.inr (.inr (.inl rfl)))), h.ptr.keep fun v hv k hk => hw k (.inr (.inr (.inr (.inl ⟨v, hv, hk⟩)))), h.wptr.keep fun v hv k hk => hw k (.inr (.inr (.inr (.inr ⟨v, hv, hk⟩)))),
   h.n0, h.n1, h.nw, fun k hk => Nat.lt_of_lt_of_le (h.lt k hk) hs, h.sep⟩
theorem RfAt.turned {T : Nat → Prop} (h : RfAt w f R) (ht : Turned T w w') (hT : ∀ k, RT8 f k → ¬ T k) : RfAt w' f R := h.keep (fun k hk => ht.block k (h.lt k hk) (hT k hk)) ht.size
theorem RfAt.below (h : RfAt w f R) (hb : Below w.heap.size w w') : RfAt w' f R := h.keep (fun k hk => hb.block k (h.lt k hk)) hb.size
theorem RfAt.cells (h : RfAt w f R) : w.cell? ⟨f.q, 0, none⟩ = some (.slice (some ⟨f.gs, 0, none⟩) R.pages.length f.cs) ∧ w.cell? ⟨f.q, 1, none⟩ = some (.int .i64 R.root) ∧ w.cell? ⟨f.q, 2, none⟩ = some (.slice (some ⟨f.gw, 0, none⟩) R.was.length f.cw) ∧ w.cell? ⟨f.q, 3, none⟩ = some (.int .i64 R.wroot) ∧ w.cell? ⟨f.q, 4, none⟩ = some (.bool R.change) := by
  refine ⟨?_, ?_, ?_, ?_, ?_⟩ <;> · rw [cell_of_row _ _ _ _ _ _ h.head]; rfl
theorem RfAt.frozen (h : RfAt w f R) (i : Nat) : w.frozen? ⟨f.q, i, none⟩ = false := frozen_p h.head i
theorem Ptrs.str {vs : List Value} {l : List (Option (List UInt8))} (h : Ptrs w vs l) : ∀ v ∈ vs, ∀ k, pBlk v = some k → ∃ b, w.heap[k]? = some (strO b) := by
  intro v hv k hk
  obtain ⟨i, hi, rfl⟩ := List.getElem_of_mem hv
  have := h.2 i hi (by rw [← h.1]; exact hi)
  generalize l[i]'(by rw [← h.1]; exact hi) = x at this
  cases x with
  | none => rw [this] at hk; cases hk
  | some b =>
    obtain ⟨j, e, h2⟩ := this
    rw [e] at hk
    cases hk
    exact ⟨b, h2⟩
theorem RfAt.qn (h : RfAt w f R) : f.q ≠ f.gs ∧ f.q ≠ f.gw ∧ (∀ v ∈ f.vs, pBlk v ≠ some f.q) ∧ (∀ v ∈ f.ws, pBlk v ≠ some f.q) ∧ (∀ v ∈ f.vs, pBlk v ≠ some f.gs) ∧ (∀ v ∈ f.ws, pBlk v ≠ some f.gs) ∧ (∀ v ∈ f.vs, pBlk v ≠ some f.gw) ∧ (∀ v ∈ f.ws, pBlk v ≠ some f.gw) := by
  obtain ⟨c1, n1, _⟩ := h.now
  obtain ⟨c2, n2, _⟩ := h.was
  have hq := h.head
  refine ⟨fun e => ?_, fun e => ?_, fun v hv e => ?_, fun v hv e => ?_, fun v hv e => ?_, fun v hv e => ?_, fun v hv e => ?_, fun v hv e => ?_⟩
  · rw [e, n1] at hq; simp at hq
  · rw [e, n2] at hq; simp at hq
  · obtain ⟨b, hb⟩ := h.ptr.str v hv _ e; rw [hb] at hq; simp at hq
  · obtain ⟨b, hb⟩ := h.wptr.str v hv _ e; rw [hb] at hq; simp at hq
  · obtain ⟨b, hb⟩ := h.ptr.str v hv _ e; rw [hb] at n1; simp at n1
  · obtain ⟨b, hb⟩ := h.wptr.str v hv _ e; rw [hb] at n1; simp at n1
  · obtain ⟨b, hb⟩ := h.ptr.str v hv _ e; rw [hb] at n2; simp at n2
  · obtain ⟨b, hb⟩ := h.wptr.str v hv _ e; rw [hb] at n2; simp at n2
end
def RfTo (w : World) (f : Rf) (w' : World) (R' : Rp) : Prop := ∃ f', RfAt w' f' R' ∧ f'.q = f.q ∧ (∀ k, RT8 f' k → RT8 f k ∨ w.heap.size ≤ k) ∧ Turned (RT8 f) w w'
theorem RfTo.same {w : World} {f : Rf} {R : Rp} (h : RfAt w f R) : RfTo w f w R := ⟨f, h, rfl, fun _ hk => .inl hk, Turned.refl _ _⟩
theorem RfTo.then {w w1 w2 : World} {f f1 : Rf} {R2 : Rp} (hq : f1.q = f.q) (hk : ∀ k, RT8 f1 k → RT8 f k ∨ w.heap.size ≤ k) (ht : Turned (RT8 f) w w1) (h2 : RfTo w1 f1 w2 R2) : RfTo w f w2 R2 := by
  obtain ⟨f2, a, b, c, d⟩ := h2
  refine ⟨f2, a, b.trans hq, fun k hk2 => ?_, ht.then d fun i hi hp => ?_⟩
  · rcases c k hk2 with h | h
    · exact hk k h
    · exact .inr (Nat.le_trans ht.size h)
  · rcases hk i hp with h | h
    · exact h
    · omega
section
variable {w : World} {f : Rf} {R : Rp}
set_option maxHeartbeats 4000000 in
theorem taken_any (h : RfAt w f R) (page : Int) : Calls Tryd.prog 73 #[qptr f.q, .int .i64 page] w fun e w' => e = .returned (.bool (R.taken page)) ∧ w' = w := by
  obtain ⟨c0, c1, c2, c3, c4⟩ := h.cells
  obtain ⟨n, hN⟩ : ∃ n, n = R.pages.length := ⟨_, rfl⟩
  have HN := Lib.hid hN
  by_cases h1 : 0 ≤ page
  case neg =>
    have e : R.taken page = false := by simp [Rp.taken, h1]
    have d1 : decide (0 ≤ page) = false := decide_eq_false h1
    rw [e]
    clear h e h1
    go_enter Tryd.func73, Tryd.ntmps73
    go_wp2
    go_ret
    exact ⟨rfl, rfl⟩
  have d1 : decide (0 ≤ page) = true := decide_eq_true h1
  by_cases h2 : page < (n : Int)
  case neg =>
    have e : R.taken page = false := by simp [Rp.taken, h1, ← hN, h2]
    have d2 : decide (page < (n : Int)) = false := decide_eq_false h2
    rw [e]
    rw [← hN] at c0
    clear h e hN
    go_enter Tryd.func73, Tryd.ntmps73
    go_wp2
    go_ret
    exact ⟨rfl, rfl⟩
  have d2 : decide (page < (n : Int)) = true := decide_eq_true h2
  have hlt : page.toNat < f.vs.length := by have := h.ptr.1; omega
  have hlt2 : page.toNat < R.pages.length := by omega
  have hlt3 : page.toNat < n := by omega
  have hc := h.now.cell page.toNat hlt
  have hp := h.ptr.2 page.toNat hlt hlt2
  have e : R.taken page = (R.pages[page.toNat]).isSome := by
    rw [Rp.taken, d1, ← hN, d2, List.getD_eq_getElem?_getD, List.getElem?_eq_getElem hlt2]
    rfl
  rw [e]
  rw [← hN] at c0
  clear h e hN
  generalize R.pages[page.toNat] = x at *
  cases x with
  | none =>
    rw [show f.vs[page.toNat] = .pointer none from hp] at hc
    go_enter Tryd.func73, Tryd.ntmps73
    go_wp2
    go_ret
    exact ⟨rfl, rfl⟩
  | some b =>
    obtain ⟨k, hk, _⟩ := hp
    rw [hk] at hc
    go_enter Tryd.func73, Tryd.ntmps73
    go_wp2
    go_ret
    exact ⟨rfl, rfl⟩
end
end Go.Proofs.YtbmmcaoifkboiaaDoor
