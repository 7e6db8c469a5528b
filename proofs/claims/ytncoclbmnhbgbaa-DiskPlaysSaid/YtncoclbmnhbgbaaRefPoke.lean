/- The document's disk: Poke. -/
import Derived.Test.YtncoclbmnhbgbaaRefCrash
set_option linter.unusedVariables false
set_option linter.unusedSimpArgs false
namespace Go.Proofs.Ytncoclbmnhbgbaa
open Go.RowKit

theorem Mine.setByte {B : Nat} {w : World} {g cap : Nat} {l : List UInt8} (h : Mine 5 B w (.slice (some ⟨g, 0, none⟩) l.length cap) l) (j : Nat) (hj : j < l.length) (b : UInt8) :
    Mine 5 B (w.setCell ⟨g, j, none⟩ (.int .u8 (b.toNat : Int))) (.slice (some ⟨g, 0, none⟩) l.length cap) (l.set j b) ∧ (∃ c, w.cell? ⟨g, j, none⟩ = some c) ∧ w.frozen? ⟨g, j, none⟩ = false := by
  refine ⟨?_, ⟨_, (World.ownsRow.cellAt h j (by omega)).trans (bv_get l j hj)⟩, World.ownsRow.frozenAt h j⟩
  have := (World.ownsRow.stored h j (.int .u8 (b.toNat : Int))).1
  unfold Mine
  rw [List.length_set, show bv (l.set j b) = (bv l).set j (.int .u8 (b.toNat : Int)) by simp [bv, List.map_set]]
  exact this
/-- a loose write's slice stored -/
theorem RefAt.setLoose {B : Nat} {w : World} {p : Nat} {D : Dk} {aS : Option Addr} {cS : Nat} {gL : Nat} {cL : Nat}
    (low : B ≤ p) (hp : w.heap[p]? = some (.cells #[.slice aS D.n cS, .slice (some ⟨gL, 0, none⟩) D.hung.length cL, .int .i64 (D.ops : Int), .int .i64 D.cut, .bool D.off] 71 (0, 0)))
    (hS : SafeAt B w (.slice aS D.n cS) D.n (sec D.safe)) (hL : LAt B w (.slice (some ⟨gL, 0, none⟩) D.hung.length cL) D.hung) (m : Nat) (hm : m < D.hung.length) (l : List UInt8)
    (D' : Dk) (e1 : D'.n = D.n) (e2 : D'.safe = D.safe) (e3 : D'.hung = D.hung.set m (D.hung[m].1, l)) (e4 : D'.ops = D.ops) (e5 : D'.cut = D.cut) (e6 : D'.off = D.off)
    (u : Value) (hu : Mine 5 B w u l) :
    (∃ c, w.cell? ⟨gL, m * 2 + 1, none⟩ = some c) ∧ w.frozen? ⟨gL, m * 2 + 1, none⟩ = false ∧ RefAt B (w.setCell ⟨gL, m * 2 + 1, none⟩ u) p D' ∧ Turned (RT B w) w (w.setCell ⟨gL, m * 2 + 1, none⟩ u) := by
  obtain ⟨us, h1, h2, h3⟩ := hL
  have hgB := (World.ownsRow.lt h2 gL rfl).1
  obtain ⟨_, cur, hg⟩ := ownsRow_kind h2 (k := gL) rfl
  have ho := others_set hg (m * 2 + 1) u
  have hlen := twoCells_length D.hung us h1
  refine ⟨⟨_, (World.ownsRow.cellAt h2 (m * 2 + 1) (by omega)).trans (List.getElem?_eq_getElem (by omega))⟩, frozen_p hg _, ⟨low, .slice aS D.n cS, .slice (some ⟨gL, 0, none⟩) D.hung.length cL, ?_, ?_, ?_⟩, rfl, rfl, rfl, by simp [World.setCell], fun k hk hn => Below.heap_setCell _ _ _ _ (fun e => hn ?_)⟩
  · rw [e4, e5, e6]
    exact (ho p _ _ _ hp (by decide)).trans hp
  · rw [e1, e2]
    exact hS.others ho (by decide) (by decide)
  · rw [e3]
    refine ⟨us.set m u, by simpa using h1, ?_, fun i hi hi' => ?_⟩
    · rw [← twoCells_set D.hung us h1 m hm l u, List.length_set]
      exact (World.ownsRow.stored h2 (m * 2 + 1) u).1
    · rw [List.length_set] at hi hi'
      rw [List.getElem_set, List.getElem_set]
      by_cases hia : m = i
      · subst hia
        rw [if_pos rfl, if_pos rfl]
        exact ownsRow_block hu (fun k c fr _ hk => ho k c _ fr hk (by decide))
      · rw [if_neg hia, if_neg hia]
        exact ownsRow_block (h3 i hi hi') (fun k c fr _ hk => ho k c _ fr hk (by decide))
  · have e' : k = gL := e
    subst e'
    exact ⟨hgB, _, _, _, hg, .inr (.inr rfl)⟩
theorem cell_set_same {w : World} {g i : Nat} {c : Array Value} {t : TypeId} {fr : Nat × Nat} (h : w.heap[g]? = some (.cells c t fr)) (hi : ∃ x, w.cell? ⟨g, i, none⟩ = some x) (v : Value) : (w.setCell ⟨g, i, none⟩ v).cell? ⟨g, i, none⟩ = some v := by
  obtain ⟨x, hx⟩ := hi
  rw [cell_of_row _ _ _ _ _ _ h] at hx
  rw [cell_of_row _ _ _ _ _ _ (head_setCell h v)]
  have := (Array.getElem?_eq_some_iff.1 hx).1
  simp [this]
/-- a byte of a sector laid anew: the copy, the store, the byte -/
theorem RefAt.pokeSafe {B : Nat} {w : World} {p : Nat} {D : Dk} (h : RefAt B w p D) (hok : D.Ok) (k : Nat) (hk : k < D.n) (j : Nat) (hj : j < 128) (b : UInt8) (D' : Dk)
    (f1 : D'.n = D.n) (f2 : ∀ i, i < D.n → i ≠ k → sec D'.safe i = sec D.safe i) (f2' : sec D'.safe k = (sec D.safe k).set j b) (f3 : D'.hung = D.hung) (f4 : D'.ops = D.ops) (f5 : D'.cut = D.cut) (f6 : D'.off = D.off) :
    ∃ g cS ua uc x xc w2, w.cell? ⟨p, 0, none⟩ = some (.slice (some ⟨g, 0, none⟩) D.n cS) ∧ w.cell? ⟨g, k, none⟩ = some (.slice ua 128 uc) ∧
      (Builtin.append_ #[30, 30] 30 #[.slice none 0 0, .slice ua 128 uc]).run Try.prog w = .ok (.slice (some ⟨x, 0, none⟩) 128 xc) w2 ∧
      w2.cell? ⟨p, 0, none⟩ = some (.slice (some ⟨g, 0, none⟩) D.n cS) ∧ w2.cell? ⟨g, k, none⟩ = some (.slice ua 128 uc) ∧ w2.frozen? ⟨g, k, none⟩ = false ∧
      (w2.setCell ⟨g, k, none⟩ (.slice (some ⟨x, 0, none⟩) 128 xc)).cell? ⟨p, 0, none⟩ = some (.slice (some ⟨g, 0, none⟩) D.n cS) ∧
      (w2.setCell ⟨g, k, none⟩ (.slice (some ⟨x, 0, none⟩) 128 xc)).cell? ⟨g, k, none⟩ = some (.slice (some ⟨x, 0, none⟩) 128 xc) ∧
      (∃ c, (w2.setCell ⟨g, k, none⟩ (.slice (some ⟨x, 0, none⟩) 128 xc)).cell? ⟨x, j, none⟩ = some c) ∧ (w2.setCell ⟨g, k, none⟩ (.slice (some ⟨x, 0, none⟩) 128 xc)).frozen? ⟨x, j, none⟩ = false ∧
      RefAt B ((w2.setCell ⟨g, k, none⟩ (.slice (some ⟨x, 0, none⟩) 128 xc)).setCell ⟨x, j, none⟩ (.int .u8 (b.toNat : Int))) p D' ∧
      Turned (RT B w) w ((w2.setCell ⟨g, k, none⟩ (.slice (some ⟨x, 0, none⟩) 128 xc)).setCell ⟨x, j, none⟩ (.int .u8 (b.toNat : Int))) ∧ D.n ≤ cS := by
  have hsz := h.size
  have low := h.low
  obtain ⟨aS, cS, aL, cL, hp, hS, hL⟩ := h.cells
  obtain ⟨_, _, e1, hnS, hmS, hS2⟩ := hS.shape
  simp only [Value.slice.injEq, true_and] at e1
  obtain ⟨rfl, rfl⟩ := e1
  obtain ⟨g, rfl, hgB, hcell⟩ := hS2 (by omega)
  obtain ⟨u, hu, hmu⟩ := hcell k hk
  have hul : (sec D.safe k).length = 128 := sec_length hok.safe hk
  obtain ⟨ua, uc, hue, _⟩ := id hmu.isB
  rw [hul] at hue
  subst hue
  obtain ⟨xa, xc, w2, hrc, hm2, hb2⟩ := run_copy w _ _ hmu.isB (by omega)
  obtain ⟨x, rfl, hxB, hxr⟩ : ∃ x, xa = some ⟨x, 0, none⟩ ∧ w.heap.size ≤ x ∧ ∃ c, w2.heap[x]? = some (.cells c 5 (0, 0)) := by
    rcases hm2.2 with ⟨e, h0⟩ | ⟨g', cap, cur, e, hb, hh, _⟩
    · omega
    · simp only [Value.slice.injEq, true_and] at e
      exact ⟨g', e.1, hb, cur, hh⟩
  obtain ⟨cx, hxr⟩ := hxr
  obtain ⟨hm3, hxc, hxf⟩ := hm2.setByte j (by omega) b
  rw [hul] at hrc hm3
  obtain ⟨usS, _, hoS, _⟩ := id hS
  obtain ⟨_, curS, hgS⟩ := ownsRow_kind hoS (k := g) rfl
  have hpx : p < w.heap.size := lt_of_heap hp
  have hgx : g < w.heap.size := lt_of_heap hgS
  have hne : g ≠ x := by omega
  have hg2 := (hb2.block g hgx).trans hgS
  have hp2 := (hb2.block p hpx).trans hp
  have hb3 : Below w.heap.size w (w2.setCell ⟨x, j, none⟩ (.int .u8 (b.toNat : Int))) := hb2.trans ⟨rfl, rfl, rfl, by simp [World.setCell], fun k hk => Below.heap_setCell _ _ _ _ (by
    rw [show (⟨x, j, none⟩ : Addr).block = x from rfl]; omega)⟩
  have r3 := h.below hb3
  have hp3 := (hb3.block p hpx).trans hp
  obtain ⟨a5, c5, b5, d5, hq5, hS5, hL5⟩ := r3.cells
  rw [hp3] at hq5
  simp only [Option.some.injEq, Obj.cells.injEq, Array.mk.injEq, List.cons.injEq, Value.slice.injEq, and_true, true_and] at hq5
  obtain ⟨⟨rfl, rfl⟩, rfl, rfl⟩ := hq5
  obtain ⟨hcc, hf0, rr, tt⟩ := RefAt.setSafe low hp3 hS5 hL5 k hk D' f1 f2 f3 f4 f5 f6 (.slice (some ⟨x, 0, none⟩) 128 xc) (by rw [f2']; exact hm3.base_le hsz)
  rw [setCell_swap w2 x g j k _ _ hne.symm] at rr tt
  have ho2 := others_set hg2 k (.slice (some ⟨x, 0, none⟩) 128 xc)
  have c2 : w2.cell? ⟨g, k, none⟩ = some (.slice ua 128 uc) := (cell_keep (hb2.block g hgx) k).trans hu
  have hx3 := (ho2 x _ _ _ hxr (by decide))
  refine ⟨g, cS, ua, uc, x, xc, w2, ?_, hu, hrc, ?_, c2, frozen_p hg2 k, ?_, cell_set_same hg2 ⟨_, c2⟩ _, ?_, ?_, rr, (Turned.of_below hb3).rt (setCell_swap w2 x g j k _ _ hne.symm ▸ tt), hnS⟩
  · rw [cell_of_row _ _ _ _ _ _ hp]; rfl
  · rw [cell_of_row _ _ _ _ _ _ hp2]; rfl
  · rw [cell_of_row _ _ _ _ _ _ ((ho2 p _ _ _ hp2 (by decide)).trans hp2)]; rfl
  · rw [cell_keep hx3]; exact hxc
  · exact frozen_p (hx3.trans hxr) j
/-- a byte of a loose write laid anew: the copy, the store, the byte -/
theorem RefAt.pokeLoose {B : Nat} {w : World} {p : Nat} {D : Dk} (h : RefAt B w p D) (hok : D.Ok) (m : Nat) (hm : m < D.hung.length) (j : Nat) (hj : j < 128) (b : UInt8) (D' : Dk)
    (f1 : D'.n = D.n) (f2 : D'.safe = D.safe) (f3 : D'.hung = D.hung.set m (D.hung[m].1, D.hung[m].2.set j b)) (f4 : D'.ops = D.ops) (f5 : D'.cut = D.cut) (f6 : D'.off = D.off) :
    ∃ g cL ua uc x xc w2, w.cell? ⟨p, 1, none⟩ = some (.slice (some ⟨g, 0, none⟩) D.hung.length cL) ∧ w.cell? ⟨g, m * 2, none⟩ = some (.int .i64 (D.hung[m].1 : Int)) ∧ w.cell? ⟨g, m * 2 + 1, none⟩ = some (.slice ua 128 uc) ∧
      (Builtin.append_ #[30, 30] 30 #[.slice none 0 0, .slice ua 128 uc]).run Try.prog w = .ok (.slice (some ⟨x, 0, none⟩) 128 xc) w2 ∧
      w2.cell? ⟨p, 1, none⟩ = some (.slice (some ⟨g, 0, none⟩) D.hung.length cL) ∧ w2.cell? ⟨g, m * 2 + 1, none⟩ = some (.slice ua 128 uc) ∧ w2.frozen? ⟨g, m * 2 + 1, none⟩ = false ∧
      (w2.setCell ⟨g, m * 2 + 1, none⟩ (.slice (some ⟨x, 0, none⟩) 128 xc)).cell? ⟨p, 1, none⟩ = some (.slice (some ⟨g, 0, none⟩) D.hung.length cL) ∧
      (w2.setCell ⟨g, m * 2 + 1, none⟩ (.slice (some ⟨x, 0, none⟩) 128 xc)).cell? ⟨g, m * 2 + 1, none⟩ = some (.slice (some ⟨x, 0, none⟩) 128 xc) ∧
      (∃ c, (w2.setCell ⟨g, m * 2 + 1, none⟩ (.slice (some ⟨x, 0, none⟩) 128 xc)).cell? ⟨x, j, none⟩ = some c) ∧ (w2.setCell ⟨g, m * 2 + 1, none⟩ (.slice (some ⟨x, 0, none⟩) 128 xc)).frozen? ⟨x, j, none⟩ = false ∧
      RefAt B ((w2.setCell ⟨g, m * 2 + 1, none⟩ (.slice (some ⟨x, 0, none⟩) 128 xc)).setCell ⟨x, j, none⟩ (.int .u8 (b.toNat : Int))) p D' ∧
      Turned (RT B w) w ((w2.setCell ⟨g, m * 2 + 1, none⟩ (.slice (some ⟨x, 0, none⟩) 128 xc)).setCell ⟨x, j, none⟩ (.int .u8 (b.toNat : Int))) ∧ D.hung.length ≤ cL := by
  have hsz := h.size
  have low := h.low
  obtain ⟨aS, cS, aL, cL, hp, hS, hL⟩ := h.cells
  obtain ⟨_, _, e1, hnS, hmS, hS2⟩ := hL.shape
  simp only [Value.slice.injEq, true_and] at e1
  obtain ⟨rfl, rfl⟩ := e1
  obtain ⟨g, rfl, hgB, hcell⟩ := hS2 (by omega)
  obtain ⟨u, hu0, hu, hmu⟩ := hcell m hm
  have hul : D.hung[m].2.length = 128 := (hok.hung _ (List.getElem_mem hm)).2
  obtain ⟨ua, uc, hue, _⟩ := id hmu.isB
  rw [hul] at hue
  subst hue
  obtain ⟨xa, xc, w2, hrc, hm2, hb2⟩ := run_copy w _ _ hmu.isB (by omega)
  obtain ⟨x, rfl, hxB, hxr⟩ : ∃ x, xa = some ⟨x, 0, none⟩ ∧ w.heap.size ≤ x ∧ ∃ c, w2.heap[x]? = some (.cells c 5 (0, 0)) := by
    rcases hm2.2 with ⟨e, h0⟩ | ⟨g', cap, cur, e, hb, hh, _⟩
    · omega
    · simp only [Value.slice.injEq, true_and] at e
      exact ⟨g', e.1, hb, cur, hh⟩
  obtain ⟨cx, hxr⟩ := hxr
  obtain ⟨hm3, hxc, hxf⟩ := hm2.setByte j (by omega) b
  rw [hul] at hrc hm3
  obtain ⟨usS, _, hoS, _⟩ := id hL
  obtain ⟨_, curS, hgS⟩ := ownsRow_kind hoS (k := g) rfl
  have hpx : p < w.heap.size := lt_of_heap hp
  have hgx : g < w.heap.size := lt_of_heap hgS
  have hne : g ≠ x := by omega
  have hg2 := (hb2.block g hgx).trans hgS
  have hp2 := (hb2.block p hpx).trans hp
  have hb3 : Below w.heap.size w (w2.setCell ⟨x, j, none⟩ (.int .u8 (b.toNat : Int))) := hb2.trans ⟨rfl, rfl, rfl, by simp [World.setCell], fun k hk => Below.heap_setCell _ _ _ _ (by
    rw [show (⟨x, j, none⟩ : Addr).block = x from rfl]; omega)⟩
  have r3 := h.below hb3
  have hp3 := (hb3.block p hpx).trans hp
  obtain ⟨a5, c5, b5, d5, hq5, hS5, hL5⟩ := r3.cells
  rw [hp3] at hq5
  simp only [Option.some.injEq, Obj.cells.injEq, Array.mk.injEq, List.cons.injEq, Value.slice.injEq, and_true, true_and] at hq5
  obtain ⟨⟨rfl, rfl⟩, rfl, rfl⟩ := hq5
  obtain ⟨hcc, hf0, rr, tt⟩ := RefAt.setLoose low hp3 hS5 hL5 m hm (D.hung[m].2.set j b) D' f1 f2 f3 f4 f5 f6 (.slice (some ⟨x, 0, none⟩) 128 xc) (hm3.base_le hsz)
  rw [setCell_swap w2 x g j (m * 2 + 1) _ _ hne.symm] at rr tt
  have ho2 := others_set hg2 (m * 2 + 1) (.slice (some ⟨x, 0, none⟩) 128 xc)
  have c2 : w2.cell? ⟨g, m * 2 + 1, none⟩ = some (.slice ua 128 uc) := (cell_keep (hb2.block g hgx) _).trans hu
  have hx3 := (ho2 x _ _ _ hxr (by decide))
  refine ⟨g, cL, ua, uc, x, xc, w2, ?_, hu0, hu, hrc, ?_, c2, frozen_p hg2 _, ?_, cell_set_same hg2 ⟨_, c2⟩ _, ?_, ?_, rr, (Turned.of_below hb3).rt (setCell_swap w2 x g j (m * 2 + 1) _ _ hne.symm ▸ tt), hnS⟩
  · rw [cell_of_row _ _ _ _ _ _ hp]; rfl
  · rw [cell_of_row _ _ _ _ _ _ hp2]; rfl
  · rw [cell_of_row _ _ _ _ _ _ ((ho2 p _ _ _ hp2 (by decide)).trans hp2)]; rfl
  · rw [cell_keep hx3]; exact hxc
  · exact frozen_p (hx3.trans hxr) j
theorem sec_set_same (l : List UInt8) (k j : Nat) (hj : j < 128) (b : UInt8) : sec (l.set (k * 128 + j) b) k = (sec l k).set j b := by
  apply List.ext_getElem?
  intro i
  simp only [sec, List.getElem?_take, List.getElem?_drop, List.getElem?_set, List.length_take, List.length_drop]
  by_cases h1 : i < 128
  · rw [if_pos h1, if_pos h1]
    by_cases h2 : j = i
    · subst h2
      rw [if_pos rfl, if_pos rfl]
      congr 1
      rw [eq_iff_iff]
      omega
    · rw [if_neg (by omega), if_neg h2]
  · rw [if_neg h1, if_neg (by omega), if_neg h1]
theorem sec_set_other (l : List UInt8) (k j i : Nat) (hj : j < 128) (hne : i ≠ k) (b : UInt8) : sec (l.set (k * 128 + j) b) i = sec l i := by
  apply List.ext_getElem?
  intro m
  simp only [sec, List.getElem?_take, List.getElem?_drop, List.getElem?_set]
  by_cases h1 : m < 128
  · rw [if_pos h1, if_pos h1, if_neg]
    intro e
    rcases Nat.lt_or_gt_of_ne hne with h | h
    · omega
    · omega
  · rw [if_neg h1, if_neg h1]
/-- what the store of a sector's copy reads -/
def PkHeld (p g n c : Nat) (W : World) : Prop := W.cell? ⟨p, 0, none⟩ = some (.slice (some ⟨g, 0, none⟩) n c)
/-- what the store of a loose write's copy reads -/
def PkLoose (p g n c : Nat) (W : World) : Prop := W.cell? ⟨p, 1, none⟩ = some (.slice (some ⟨g, 0, none⟩) n c)
set_option maxHeartbeats 8000000 in
theorem refPoke_any (B : Nat) (w : World) (p : Nat) (D : Dk) (h : RefAt B w p D) (hok : D.Ok) (at_ place : Int) (b : UInt8) (h1 : -9223372036854775808 ≤ at_) (h2 : at_ ≤ 9223372036854775807) (h3 : -9223372036854775808 ≤ place) (h4 : place ≤ 9223372036854775807) :
    Calls Try.prog 35 #[rptr p, .int .i64 at_, .int .i64 place, .int .u8 (b.toNat : Int)] w fun e w' => e = .returned (.int .i64 (D.poke at_ place b).1) ∧ RefAt B w' p (D.poke at_ place b).2 ∧ Turned (RT B w) w w' := by
  have hB := h.size
  obtain ⟨aS, cS, aL, cL, hp, hS, hL⟩ := h.cells
  have p0 : w.cell? ⟨p, 0, none⟩ = some (.slice aS D.n cS) := by rw [cell_of_row _ _ _ _ _ _ hp]; rfl
  by_cases h0 : at_ < 0
  · have d0 : decide (at_ < 0) = true := by simpa using h0
    have e1 : D.poke at_ place b = (41, D) := by
      have : ¬ (0 ≤ at_ ∧ at_ < (D.n : Int)) := by omega
      simp only [Dk.poke]; rw [if_pos this]
    rw [e1]
    clear hp hS hL
    go_enter Try.func35, Try.ntmps35
    go_wp2_with fail
    go_ret
    exact ⟨rfl, h, Turned.refl _ _⟩
  have d0 : decide (at_ < 0) = false := by simpa using h0
  by_cases hn : (D.n : Int) ≤ at_
  · have dn : decide ((D.n : Int) ≤ at_) = true := by simpa using hn
    have e1 : D.poke at_ place b = (41, D) := by
      have : ¬ (0 ≤ at_ ∧ at_ < (D.n : Int)) := by omega
      simp only [Dk.poke]; rw [if_pos this]
    rw [e1]
    clear hp hS hL
    go_enter Try.func35, Try.ntmps35
    go_wp2_with fail
    go_ret
    exact ⟨rfl, h, Turned.refl _ _⟩
  have dn : decide ((D.n : Int) ≤ at_) = false := by simpa using hn
  obtain ⟨k, rfl⟩ := Int.eq_ofNat_of_zero_le (show 0 ≤ at_ by omega)
  have hk : k < D.n := by omega
  by_cases g0 : place < 0
  · have e0 : decide (place < 0) = true := by simpa using g0
    have e1 : D.poke k place b = (2, D) := by
      have hin : ¬ ¬ ((0 : Int) ≤ (k : Int) ∧ (k : Int) < (D.n : Int)) := by omega
      simp only [Dk.poke]; rw [if_neg hin, if_pos (by omega)]
    rw [e1]
    clear hp hS hL
    go_enter Try.func35, Try.ntmps35
    go_wp2_with fail
    go_ret
    exact ⟨rfl, h, Turned.refl _ _⟩
  have e0 : decide (place < 0) = false := by simpa using g0
  by_cases gn : 128 ≤ place
  · have en : decide (128 ≤ place) = true := by simpa using gn
    have e1 : D.poke k place b = (2, D) := by
      have hin : ¬ ¬ ((0 : Int) ≤ (k : Int) ∧ (k : Int) < (D.n : Int)) := by omega
      simp only [Dk.poke]; rw [if_neg hin, if_pos (by omega)]
    rw [e1]
    clear hp hS hL
    go_enter Try.func35, Try.ntmps35
    go_wp2_with fail
    go_ret
    exact ⟨rfl, h, Turned.refl _ _⟩
  have en : decide (128 ≤ place) = false := by simpa using gn
  obtain ⟨j, rfl⟩ := Int.eq_ofNat_of_zero_le (show 0 ≤ place by omega)
  have hj : j < 128 := by omega
  clear hp hS hL p0
  obtain ⟨D1, hD1⟩ : ∃ D1 : Dk, D1 = { D with safe := D.safe.set (k * 128 + j) b, now := D.now.set (k * 128 + j) b } := ⟨_, rfl⟩
  have e1 : D.poke k j b = (0, { D1 with hung := D.hung.map (pokeL k j b) }) := by
    have hin : ¬ ¬ ((0 : Int) ≤ (k : Int) ∧ (k : Int) < (D.n : Int)) := by omega
    simp only [Dk.poke]; rw [if_neg hin, if_neg (by omega), hD1]; simp
  rw [e1]
  clear e1
  have rd := h.below ((Below.refl w.heap.size w).drew)
  obtain ⟨g, cS1, ua, uc, x, xc, w2, p0, pk, hrc, q0, qk, qf, s0, sk, ⟨c3, hc3⟩, hf3, rr, tt, hnS⟩ := RefAt.pokeSafe rd hok k hk j hj b D1 (by rw [hD1]) (fun i hi hne => by rw [hD1]; exact sec_set_other _ _ _ _ hj hne b) (by rw [hD1]; exact sec_set_same _ _ _ hj b) (by rw [hD1]) (by rw [hD1]) (by rw [hD1]) (by rw [hD1])
  have HR := Lib.hid (And.intro rr tt)
  have Hrc := Lib.hid hrc
  have p0w : w.cell? ⟨p, 0, none⟩ = some (.slice (some ⟨g, 0, none⟩) D.n cS1) := p0
  have hS0 : PkHeld p g D.n cS1 w.drew := p0
  have hS2 : PkHeld p g D.n cS1 w2 := q0
  have hS3 : PkHeld p g D.n cS1 (w2.setCell ⟨g, k, none⟩ (.slice (some ⟨x, 0, none⟩) 128 xc)) := s0
  have HD1 := Lib.hid hD1
  clear rr tt rd hrc hD1 p0 q0
  go_enter Try.func35, Try.ntmps35
  go_wp2_with fail
  refine wp_region_noPanic ?_
  refine wp_region_held_drew (S := (PkHeld p g D.n cS1)) (by kernel_rfl) hS0 (fun hH => ?_)
  refine wpAnyH_take (i := 0) (oi := { dst := some 27, op := Op.move (Operand.tmp 0), type := 49, pos := "ref.go:133", after := #[], guard := none }) (v := ?_) rfl (by kernel_rfl) (by kernel_rfl) (by kernel_rfl) (fun _ _ _ h => h) (Or.inl ⟨by rfl, ?_⟩) hH ?_
  rotate_left
  · (intro w hSw; have q1 := hSw; unfold PkHeld at q1; go_simp; try with_reducible rfl)
  try simp only [Act.put, List.setIfInBounds_toArray, List.set_cons_zero, List.set_cons_succ]
  refine wpAnyH_take (i := 1) (oi := { dst := some 28, op := Op.nilCheck (Operand.tmp 27), type := 0, pos := "ref.go:133", after := #[{ on := 0, ground := Ground.data }], guard := none }) (v := ?_) rfl (by kernel_rfl) (by kernel_rfl) (by kernel_rfl) (fun _ _ _ h => h) (Or.inl ⟨by rfl, ?_⟩) hH ?_
  rotate_left
  · (intro w hSw; have q1 := hSw; unfold PkHeld at q1; go_simp; try with_reducible rfl)
  try simp only [Act.put, List.setIfInBounds_toArray, List.set_cons_zero, List.set_cons_succ]
  refine wpAnyH_take (i := 2) (oi := { dst := some 29, op := Op.fieldAddr 71 (Operand.tmp 28) 0, type := 0, pos := "ref.go:133", after := #[{ on := 1, ground := Ground.data }], guard := none }) (v := ?_) rfl (by kernel_rfl) (by kernel_rfl) (by kernel_rfl) (fun _ _ _ h => h) (Or.inl ⟨by rfl, ?_⟩) hH ?_
  rotate_left
  · (intro w hSw; have q1 := hSw; unfold PkHeld at q1; go_simp; try with_reducible rfl)
  try simp only [Act.put, List.setIfInBounds_toArray, List.set_cons_zero, List.set_cons_succ]
  refine wpAnyH_take (i := 3) (oi := { dst := some 30, op := Op.load 68 (Operand.tmp 29), type := 68, pos := "ref.go:133", after := #[{ on := 2, ground := Ground.data }], guard := none }) (v := ?_) rfl (by kernel_rfl) (by kernel_rfl) (by kernel_rfl) (fun _ _ _ h => h) (Or.inl ⟨by rfl, ?_⟩) hH ?_
  rotate_left
  · (intro w hSw; have q1 := hSw; unfold PkHeld at q1; go_simp; try with_reducible rfl)
  try simp only [Act.put, List.setIfInBounds_toArray, List.set_cons_zero, List.set_cons_succ]
  refine wpAnyH_take (i := 4) (oi := { dst := some 31, op := Op.move (Operand.tmp 1), type := 3, pos := "ref.go:133", after := #[], guard := none }) (v := ?_) rfl (by kernel_rfl) (by kernel_rfl) (by kernel_rfl) (fun _ _ _ h => h) (Or.inl ⟨by rfl, ?_⟩) hH ?_
  rotate_left
  · (intro w hSw; have q1 := hSw; unfold PkHeld at q1; go_simp; try with_reducible rfl)
  try simp only [Act.put, List.setIfInBounds_toArray, List.set_cons_zero, List.set_cons_succ]
  refine wpAnyH_take (i := 5) (oi := { dst := some 32, op := Op.move (Operand.tmp 0), type := 49, pos := "ref.go:133", after := #[], guard := none }) (v := ?_) rfl (by kernel_rfl) (by kernel_rfl) (by kernel_rfl) (fun _ _ _ h => h) (Or.inl ⟨by rfl, ?_⟩) hH ?_
  rotate_left
  · (intro w hSw; have q1 := hSw; unfold PkHeld at q1; go_simp; try with_reducible rfl)
  try simp only [Act.put, List.setIfInBounds_toArray, List.set_cons_zero, List.set_cons_succ]
  refine wpAnyH_take (i := 6) (oi := { dst := some 33, op := Op.nilCheck (Operand.tmp 32), type := 0, pos := "ref.go:133", after := #[{ on := 5, ground := Ground.data }], guard := none }) (v := ?_) rfl (by kernel_rfl) (by kernel_rfl) (by kernel_rfl) (fun _ _ _ h => h) (Or.inl ⟨by rfl, ?_⟩) hH ?_
  rotate_left
  · (intro w hSw; have q1 := hSw; unfold PkHeld at q1; go_simp; try with_reducible rfl)
  try simp only [Act.put, List.setIfInBounds_toArray, List.set_cons_zero, List.set_cons_succ]
  refine wpAnyH_take (i := 7) (oi := { dst := some 34, op := Op.fieldAddr 71 (Operand.tmp 33) 0, type := 0, pos := "ref.go:133", after := #[{ on := 6, ground := Ground.data }], guard := none }) (v := ?_) rfl (by kernel_rfl) (by kernel_rfl) (by kernel_rfl) (fun _ _ _ h => h) (Or.inl ⟨by rfl, ?_⟩) hH ?_
  rotate_left
  · (intro w hSw; have q1 := hSw; unfold PkHeld at q1; go_simp; try with_reducible rfl)
  try simp only [Act.put, List.setIfInBounds_toArray, List.set_cons_zero, List.set_cons_succ]
  refine wpAnyH_take (i := 8) (oi := { dst := some 35, op := Op.load 68 (Operand.tmp 34), type := 68, pos := "ref.go:133", after := #[{ on := 7, ground := Ground.data }], guard := none }) (v := ?_) rfl (by kernel_rfl) (by kernel_rfl) (by kernel_rfl) (fun _ _ _ h => h) (Or.inl ⟨by rfl, ?_⟩) hH ?_
  rotate_left
  · (intro w hSw; have q1 := hSw; unfold PkHeld at q1; go_simp; try with_reducible rfl)
  try simp only [Act.put, List.setIfInBounds_toArray, List.set_cons_zero, List.set_cons_succ]
  refine wpAnyH_take (i := 9) (oi := { dst := some 36, op := Op.move (Operand.tmp 1), type := 3, pos := "ref.go:133", after := #[], guard := none }) (v := ?_) rfl (by kernel_rfl) (by kernel_rfl) (by kernel_rfl) (fun _ _ _ h => h) (Or.inl ⟨by rfl, ?_⟩) hH ?_
  rotate_left
  · (intro w hSw; have q1 := hSw; unfold PkHeld at q1; go_simp; try with_reducible rfl)
  try simp only [Act.put, List.setIfInBounds_toArray, List.set_cons_zero, List.set_cons_succ]
  refine wpAnyH_take (i := 10) (oi := { dst := some 37, op := Op.indexAddr 68 (Operand.tmp 35) (Operand.tmp 36), type := 0, pos := "ref.go:133", after := #[{ on := 8, ground := Ground.data }, { on := 9, ground := Ground.data }], guard := none }) (v := ?_) rfl (by kernel_rfl) (by kernel_rfl) (by kernel_rfl) (fun _ _ _ h => h) (Or.inl ⟨by rfl, ?_⟩) hH ?_
  rotate_left
  · (intro w hSw; have q1 := hSw; unfold PkHeld at q1; go_simp; try with_reducible rfl)
  try simp only [Act.put, List.setIfInBounds_toArray, List.set_cons_zero, List.set_cons_succ]
  refine wpAnyH_ready (rs := [11]) (by kernel_rfl) (by simp) ?_
  refine AllReadyH.cons (o := { dst := some 38, op := Op.load 30 (Operand.tmp 37), type := 30, pos := "ref.go:133", after := #[{ on := 10, ground := Ground.data }], guard := none }) rfl (fun K hK => ?_) AllReadyH.nil
  go_simp
  refine hK.out _ _ hH (fun _ => ?_)
  clear hK K
  try simp only [Act.put, List.setIfInBounds_toArray, List.set_cons_zero, List.set_cons_succ]
  refine wpAnyH_ready (rs := [12]) (by kernel_rfl) (by simp) ?_
  refine AllReadyH.cons (o := { dst := some 39, op := Op.call { callee := Callee.builtin Builtin.append, args := #[Operand.const (Value.slice none 0 0), Operand.tmp 38], argTypes := #[30, 30] }, type := 30, pos := "ref.go:133", after := #[{ on := 11, ground := Ground.data }], guard := none }) rfl (fun K hK => ?_) AllReadyH.nil
  refine step_append_run rfl (.const (.slice none 0 0)) (.tmp 38) 30 30 (by rfl) _ _ _ (by rfl) (by rfl) Hrc.out ?_
  refine hK.out _ _ hS2 (fun hH => ?_)
  clear hK K
  try simp only [Act.put, List.setIfInBounds_toArray, List.set_cons_zero, List.set_cons_succ]
  refine wpAnyH_take (i := 13) (oi := { dst := some 40, op := Op.indexAddr 68 (Operand.tmp 30) (Operand.tmp 31), type := 0, pos := "ref.go:133", after := #[{ on := 3, ground := Ground.data }, { on := 4, ground := Ground.data }, { on := 0, ground := Ground.phase }, { on := 1, ground := Ground.phase }, { on := 2, ground := Ground.phase }, { on := 3, ground := Ground.phase }, { on := 4, ground := Ground.phase }, { on := 5, ground := Ground.phase }, { on := 6, ground := Ground.phase }, { on := 7, ground := Ground.phase }, { on := 8, ground := Ground.phase }, { on := 9, ground := Ground.phase }, { on := 10, ground := Ground.phase }, { on := 11, ground := Ground.phase }, { on := 12, ground := Ground.phase }], guard := none }) (v := ?_) rfl (by kernel_rfl) (by kernel_rfl) (by kernel_rfl) (fun _ _ _ h => h) (Or.inl ⟨by rfl, ?_⟩) hH ?_
  rotate_left
  · (intro w hSw; have q1 := hSw; unfold PkHeld at q1; go_simp; try with_reducible rfl)
  try simp only [Act.put, List.setIfInBounds_toArray, List.set_cons_zero, List.set_cons_succ]
  refine wpAnyH_ready (rs := [14]) (by kernel_rfl) (by simp) ?_
  refine AllReadyH.cons (o := { dst := none, op := Op.store 30 (Operand.tmp 40) (Operand.tmp 39), type := 0, pos := "ref.go:133", after := #[{ on := 13, ground := Ground.data }, { on := 12, ground := Ground.data }, { on := 12, ground := Ground.chain }, { on := 0, ground := Ground.phase }, { on := 1, ground := Ground.phase }, { on := 2, ground := Ground.phase }, { on := 3, ground := Ground.phase }, { on := 4, ground := Ground.phase }, { on := 5, ground := Ground.phase }, { on := 6, ground := Ground.phase }, { on := 7, ground := Ground.phase }, { on := 8, ground := Ground.phase }, { on := 9, ground := Ground.phase }, { on := 10, ground := Ground.phase }, { on := 11, ground := Ground.phase }, { on := 12, ground := Ground.phase }], guard := none }) rfl (fun K hK => ?_) AllReadyH.nil
  go_simp
  refine hK.out _ _ hS3 (fun hH => ?_)
  clear hK K
  try simp only [Act.put, List.setIfInBounds_toArray, List.set_cons_zero, List.set_cons_succ]
  refine wpAnyH_done (by kernel_rfl) ?_ _
  refine NoPanic.normal ?_
  clear pk qk qf hS0 hS2 hS3 Hrc
  have hok1 : D1.Ok := by
    rw [HD1.out]
    exact ⟨hok.n1, hok.nm, by simpa using hok.safe, by simpa using hok.now, hok.hung, hok.loose, hok.ops, hok.c1, hok.c2⟩
  have hn1 : D1.n = D.n := by rw [HD1.out]
  have hh1 : D1.hung = D.hung := by rw [HD1.out]
  have HH1 := Lib.hid hh1
  have HN1 := Lib.hid hn1
  have ho1 : D1.hung.length ≤ D1.ops := hok1.loose
  have hloose := hok.loose
  have hopsb := hok.ops
  have hokm : ∀ m, ({ D1 with hung := hungTo D k j b m } : Dk).Ok := fun m => ⟨hok1.n1, hok1.nm, hok1.safe, hok1.now, fun y hy => by rw [HN1.out]; exact hungTo_ok hok k j b m y hy, by simp only [hungTo_length]; rw [← HH1.out]; exact ho1, hok1.ops, hok1.c1, hok1.c2⟩
  clear hn1 hh1 ho1
  go_wp2_with fail
  go_loopw [9, 51, 52, 53, 54, 55, 56, 57, 58, 59, 60, 61, 62, 63, 64, 65, 66, 67, 68, 69, 70, 71, 72, 73, 74, 75, 76, 77, 78, 79, 80, 81, 82, 83, 84, 85, 86, 87, 88, 89, 90, 91, 92, 93, 94, 95, 96] (fun i _ _ _ _ _ _ _ _ _ _ _ _ _ _ _ _ _ _ _ _ _ _ _ _ _ _ _ _ _ _ _ _ _ _ _ _ _ _ _ _ _ _ _ _ _ _ wr => ∃ m : Nat, m ≤ D.hung.length ∧ i = .int .i64 (m : Int) ∧ RefAt B wr p { D1 with hung := hungTo D k j b m } ∧ Turned (RT B w) w wr) (fun i _ _ _ _ _ _ _ _ _ _ _ _ _ _ _ _ _ _ _ _ _ _ _ _ _ _ _ _ _ _ _ _ _ _ _ _ _ _ _ _ _ _ _ _ _ _ _ => D.hung.length - (intOf i).toNat)
  case atStart =>
    obtain ⟨rr, tt⟩ := HR.out
    refine ⟨0, Nat.zero_le _, rfl, ?_, ((Turned.refl (RT B w) w).drew).rt tt⟩
    rw [hungTo_zero, ← HH1.out]
    exact rr
  case round =>
    obtain ⟨m, hm, rfl, rm, tm⟩ := hrel
    clear hc3 hf3 s0 sk p0w HR
    have hlow := rm.low
    obtain ⟨aS, cS, aL, cL, hp, hS, hL⟩ := rm.cells
    simp only [hungTo_length] at hp hL
    have p1 : wr.cell? ⟨p, 1, none⟩ = some (.slice aL D.hung.length cL) := by rw [cell_of_row _ _ _ _ _ _ hp]; rfl
    by_cases hlt : m < D.hung.length
    · have hd : decide ((m : Int) < (D.hung.length : Int)) = true := by simpa using hlt
      have m0 : (0 : Int) ≤ (m : Int) := by omega
      have m1 : (m : Int) < (D.hung.length : Int) := by omega
      have hget := hungTo_get D k j b m hlt
      have hset := hungTo_set D k j b m hlt
      have hlm : m < (hungTo D k j b m).length := by rw [hungTo_length]; exact hlt
      by_cases hy : D.hung[m].1 = k
      · have rd := rm.below ((Below.refl wr.heap.size wr).drew)
        obtain ⟨gL, cL1, va, vc, z, zc, w4, l1, ly, lv, hrl, r1, rv, rf, t1, tv, ⟨c4, hc4⟩, hf4, rr2, tt2, hnL⟩ := RefAt.pokeLoose rd (hokm m) m hlm j hj b { D1 with hung := hungTo D k j b (m + 1) } rfl rfl (by
          simp only
          rw [← hset, hget]
          congr 1
          unfold pokeL
          rw [if_pos hy]) rfl rfl rfl
        simp only [hungTo_length] at l1 r1 t1 hnL
        simp only [hget, hy] at ly
        have lb : (((k : Nat) : Int) == (k : Int)) = true := by simp
        have l1w : wr.cell? ⟨p, 1, none⟩ = some (.slice (some ⟨gL, 0, none⟩) D.hung.length cL1) := l1
        have lyw : wr.cell? ⟨gL, m * 2, none⟩ = some (.int .i64 (k : Int)) := ly
        have hL0 : PkLoose p gL D.hung.length cL1 wr.drew := l1
        have hL2 : PkLoose p gL D.hung.length cL1 w4 := r1
        have hL3 : PkLoose p gL D.hung.length cL1 (w4.setCell ⟨gL, m * 2 + 1, none⟩ (.slice (some ⟨z, 0, none⟩) 128 zc)) := t1
        have HR2 := Lib.hid (And.intro rr2 (tm.drew.rt tt2))
        have Hrl := Lib.hid hrl
        clear rr2 tt2 hrl hget hset rd rm tm hp hS hL p1 l1 ly r1 hokm hlm hy
        go_wp2_with fail
        refine wp_region_noPanic ?_
        refine wp_region_held_drew (S := (PkLoose p gL D.hung.length cL1)) (by kernel_rfl) hL0 (fun hH => ?_)
        refine wpAnyH_take (i := 0) (oi := { dst := some 70, op := Op.move (Operand.tmp 0), type := 49, pos := "ref.go:137", after := #[], guard := none }) (v := ?_) rfl (by kernel_rfl) (by kernel_rfl) (by kernel_rfl) (fun _ _ _ h => h) (Or.inl ⟨by rfl, ?_⟩) hH ?_
        rotate_left
        · (intro w hSw; have q1 := hSw; unfold PkLoose at q1; go_simp; try with_reducible rfl)
        try simp only [Act.put, List.setIfInBounds_toArray, List.set_cons_zero, List.set_cons_succ]
        refine wpAnyH_take (i := 1) (oi := { dst := some 71, op := Op.nilCheck (Operand.tmp 70), type := 0, pos := "ref.go:137", after := #[{ on := 0, ground := Ground.data }], guard := none }) (v := ?_) rfl (by kernel_rfl) (by kernel_rfl) (by kernel_rfl) (fun _ _ _ h => h) (Or.inl ⟨by rfl, ?_⟩) hH ?_
        rotate_left
        · (intro w hSw; have q1 := hSw; unfold PkLoose at q1; go_simp; try with_reducible rfl)
        try simp only [Act.put, List.setIfInBounds_toArray, List.set_cons_zero, List.set_cons_succ]
        refine wpAnyH_take (i := 2) (oi := { dst := some 72, op := Op.fieldAddr 71 (Operand.tmp 71) 1, type := 0, pos := "ref.go:137", after := #[{ on := 1, ground := Ground.data }], guard := none }) (v := ?_) rfl (by kernel_rfl) (by kernel_rfl) (by kernel_rfl) (fun _ _ _ h => h) (Or.inl ⟨by rfl, ?_⟩) hH ?_
        rotate_left
        · (intro w hSw; have q1 := hSw; unfold PkLoose at q1; go_simp; try with_reducible rfl)
        try simp only [Act.put, List.setIfInBounds_toArray, List.set_cons_zero, List.set_cons_succ]
        refine wpAnyH_take (i := 3) (oi := { dst := some 73, op := Op.load 69 (Operand.tmp 72), type := 69, pos := "ref.go:137", after := #[{ on := 2, ground := Ground.data }], guard := none }) (v := ?_) rfl (by kernel_rfl) (by kernel_rfl) (by kernel_rfl) (fun _ _ _ h => h) (Or.inl ⟨by rfl, ?_⟩) hH ?_
        rotate_left
        · (intro w hSw; have q1 := hSw; unfold PkLoose at q1; go_simp; try with_reducible rfl)
        try simp only [Act.put, List.setIfInBounds_toArray, List.set_cons_zero, List.set_cons_succ]
        refine wpAnyH_take (i := 4) (oi := { dst := some 74, op := Op.move (Operand.tmp 9), type := 3, pos := "ref.go:137", after := #[], guard := none }) (v := ?_) rfl (by kernel_rfl) (by kernel_rfl) (by kernel_rfl) (fun _ _ _ h => h) (Or.inl ⟨by rfl, ?_⟩) hH ?_
        rotate_left
        · (intro w hSw; have q1 := hSw; unfold PkLoose at q1; go_simp; try with_reducible rfl)
        try simp only [Act.put, List.setIfInBounds_toArray, List.set_cons_zero, List.set_cons_succ]
        refine wpAnyH_take (i := 5) (oi := { dst := some 75, op := Op.move (Operand.tmp 0), type := 49, pos := "ref.go:137", after := #[], guard := none }) (v := ?_) rfl (by kernel_rfl) (by kernel_rfl) (by kernel_rfl) (fun _ _ _ h => h) (Or.inl ⟨by rfl, ?_⟩) hH ?_
        rotate_left
        · (intro w hSw; have q1 := hSw; unfold PkLoose at q1; go_simp; try with_reducible rfl)
        try simp only [Act.put, List.setIfInBounds_toArray, List.set_cons_zero, List.set_cons_succ]
        refine wpAnyH_take (i := 6) (oi := { dst := some 76, op := Op.nilCheck (Operand.tmp 75), type := 0, pos := "ref.go:137", after := #[{ on := 5, ground := Ground.data }], guard := none }) (v := ?_) rfl (by kernel_rfl) (by kernel_rfl) (by kernel_rfl) (fun _ _ _ h => h) (Or.inl ⟨by rfl, ?_⟩) hH ?_
        rotate_left
        · (intro w hSw; have q1 := hSw; unfold PkLoose at q1; go_simp; try with_reducible rfl)
        try simp only [Act.put, List.setIfInBounds_toArray, List.set_cons_zero, List.set_cons_succ]
        refine wpAnyH_take (i := 7) (oi := { dst := some 77, op := Op.fieldAddr 71 (Operand.tmp 76) 1, type := 0, pos := "ref.go:137", after := #[{ on := 6, ground := Ground.data }], guard := none }) (v := ?_) rfl (by kernel_rfl) (by kernel_rfl) (by kernel_rfl) (fun _ _ _ h => h) (Or.inl ⟨by rfl, ?_⟩) hH ?_
        rotate_left
        · (intro w hSw; have q1 := hSw; unfold PkLoose at q1; go_simp; try with_reducible rfl)
        try simp only [Act.put, List.setIfInBounds_toArray, List.set_cons_zero, List.set_cons_succ]
        refine wpAnyH_take (i := 8) (oi := { dst := some 78, op := Op.load 69 (Operand.tmp 77), type := 69, pos := "ref.go:137", after := #[{ on := 7, ground := Ground.data }], guard := none }) (v := ?_) rfl (by kernel_rfl) (by kernel_rfl) (by kernel_rfl) (fun _ _ _ h => h) (Or.inl ⟨by rfl, ?_⟩) hH ?_
        rotate_left
        · (intro w hSw; have q1 := hSw; unfold PkLoose at q1; go_simp; try with_reducible rfl)
        try simp only [Act.put, List.setIfInBounds_toArray, List.set_cons_zero, List.set_cons_succ]
        refine wpAnyH_take (i := 9) (oi := { dst := some 79, op := Op.move (Operand.tmp 9), type := 3, pos := "ref.go:137", after := #[], guard := none }) (v := ?_) rfl (by kernel_rfl) (by kernel_rfl) (by kernel_rfl) (fun _ _ _ h => h) (Or.inl ⟨by rfl, ?_⟩) hH ?_
        rotate_left
        · (intro w hSw; have q1 := hSw; unfold PkLoose at q1; go_simp; try with_reducible rfl)
        try simp only [Act.put, List.setIfInBounds_toArray, List.set_cons_zero, List.set_cons_succ]
        refine wpAnyH_take (i := 10) (oi := { dst := some 80, op := Op.indexAddr 69 (Operand.tmp 78) (Operand.tmp 79), type := 0, pos := "ref.go:137", after := #[{ on := 8, ground := Ground.data }, { on := 9, ground := Ground.data }], guard := none }) (v := ?_) rfl (by kernel_rfl) (by kernel_rfl) (by kernel_rfl) (fun _ _ _ h => h) (Or.inl ⟨by rfl, ?_⟩) hH ?_
        rotate_left
        · (intro w hSw; have q1 := hSw; unfold PkLoose at q1; go_simp; try with_reducible rfl)
        try simp only [Act.put, List.setIfInBounds_toArray, List.set_cons_zero, List.set_cons_succ]
        refine wpAnyH_take (i := 11) (oi := { dst := some 81, op := Op.fieldAddr 76 (Operand.tmp 80) 1, type := 0, pos := "ref.go:137", after := #[{ on := 10, ground := Ground.data }], guard := none }) (v := ?_) rfl (by kernel_rfl) (by kernel_rfl) (by kernel_rfl) (fun _ _ _ h => h) (Or.inl ⟨by rfl, ?_⟩) hH ?_
        rotate_left
        · (intro w hSw; have q1 := hSw; unfold PkLoose at q1; go_simp; try with_reducible rfl)
        try simp only [Act.put, List.setIfInBounds_toArray, List.set_cons_zero, List.set_cons_succ]
        refine wpAnyH_ready (rs := [12]) (by kernel_rfl) (by simp) ?_
        refine AllReadyH.cons (o := { dst := some 82, op := Op.load 30 (Operand.tmp 81), type := 30, pos := "ref.go:137", after := #[{ on := 11, ground := Ground.data }], guard := none }) rfl (fun K hK => ?_) AllReadyH.nil
        go_simp
        refine hK.out _ _ hH (fun _ => ?_)
        clear hK K
        try simp only [Act.put, List.setIfInBounds_toArray, List.set_cons_zero, List.set_cons_succ]
        refine wpAnyH_ready (rs := [13]) (by kernel_rfl) (by simp) ?_
        refine AllReadyH.cons (o := { dst := some 83, op := Op.call { callee := Callee.builtin Builtin.append, args := #[Operand.const (Value.slice none 0 0), Operand.tmp 82], argTypes := #[30, 30] }, type := 30, pos := "ref.go:137", after := #[{ on := 12, ground := Ground.data }], guard := none }) rfl (fun K hK => ?_) AllReadyH.nil
        refine step_append_run rfl (.const (.slice none 0 0)) (.tmp 82) 30 30 (by rfl) _ _ _ (by rfl) (by rfl) Hrl.out ?_
        refine hK.out _ _ hL2 (fun hH => ?_)
        clear hK K
        try simp only [Act.put, List.setIfInBounds_toArray, List.set_cons_zero, List.set_cons_succ]
        refine wpAnyH_take (i := 14) (oi := { dst := some 84, op := Op.indexAddr 69 (Operand.tmp 73) (Operand.tmp 74), type := 0, pos := "ref.go:137", after := #[{ on := 3, ground := Ground.data }, { on := 4, ground := Ground.data }, { on := 0, ground := Ground.phase }, { on := 1, ground := Ground.phase }, { on := 2, ground := Ground.phase }, { on := 3, ground := Ground.phase }, { on := 4, ground := Ground.phase }, { on := 5, ground := Ground.phase }, { on := 6, ground := Ground.phase }, { on := 7, ground := Ground.phase }, { on := 8, ground := Ground.phase }, { on := 9, ground := Ground.phase }, { on := 10, ground := Ground.phase }, { on := 11, ground := Ground.phase }, { on := 12, ground := Ground.phase }, { on := 13, ground := Ground.phase }], guard := none }) (v := ?_) rfl (by kernel_rfl) (by kernel_rfl) (by kernel_rfl) (fun _ _ _ h => h) (Or.inl ⟨by rfl, ?_⟩) hH ?_
        rotate_left
        · (intro w hSw; have q1 := hSw; unfold PkLoose at q1; go_simp; try with_reducible rfl)
        try simp only [Act.put, List.setIfInBounds_toArray, List.set_cons_zero, List.set_cons_succ]
        refine wpAnyH_take (i := 15) (oi := { dst := some 85, op := Op.fieldAddr 76 (Operand.tmp 84) 1, type := 0, pos := "ref.go:137", after := #[{ on := 14, ground := Ground.data }, { on := 0, ground := Ground.phase }, { on := 1, ground := Ground.phase }, { on := 2, ground := Ground.phase }, { on := 3, ground := Ground.phase }, { on := 4, ground := Ground.phase }, { on := 5, ground := Ground.phase }, { on := 6, ground := Ground.phase }, { on := 7, ground := Ground.phase }, { on := 8, ground := Ground.phase }, { on := 9, ground := Ground.phase }, { on := 10, ground := Ground.phase }, { on := 11, ground := Ground.phase }, { on := 12, ground := Ground.phase }, { on := 13, ground := Ground.phase }], guard := none }) (v := ?_) rfl (by kernel_rfl) (by kernel_rfl) (by kernel_rfl) (fun _ _ _ h => h) (Or.inl ⟨by rfl, ?_⟩) hH ?_
        rotate_left
        · (intro w hSw; have q1 := hSw; unfold PkLoose at q1; go_simp; try with_reducible rfl)
        try simp only [Act.put, List.setIfInBounds_toArray, List.set_cons_zero, List.set_cons_succ]
        refine wpAnyH_ready (rs := [16]) (by kernel_rfl) (by simp) ?_
        refine AllReadyH.cons (o := { dst := none, op := Op.store 30 (Operand.tmp 85) (Operand.tmp 83), type := 0, pos := "ref.go:137", after := #[{ on := 15, ground := Ground.data }, { on := 13, ground := Ground.data }, { on := 13, ground := Ground.chain }, { on := 0, ground := Ground.phase }, { on := 1, ground := Ground.phase }, { on := 2, ground := Ground.phase }, { on := 3, ground := Ground.phase }, { on := 4, ground := Ground.phase }, { on := 5, ground := Ground.phase }, { on := 6, ground := Ground.phase }, { on := 7, ground := Ground.phase }, { on := 8, ground := Ground.phase }, { on := 9, ground := Ground.phase }, { on := 10, ground := Ground.phase }, { on := 11, ground := Ground.phase }, { on := 12, ground := Ground.phase }, { on := 13, ground := Ground.phase }], guard := none }) rfl (fun K hK => ?_) AllReadyH.nil
        go_simp
        refine hK.out _ _ hL3 (fun hH => ?_)
        clear hK K
        try simp only [Act.put, List.setIfInBounds_toArray, List.set_cons_zero, List.set_cons_succ]
        refine wpAnyH_done (by kernel_rfl) ?_ _
        refine NoPanic.normal ?_
        clear lv rv rf hL0 hL2 hL3 Hrl l1w lyw
        go_wp2_with fail
        obtain ⟨rr2, tt2⟩ := HR2.out
        go_roundw
        case rel => exact ⟨m + 1, by omega, by simp, rr2, tt2⟩
        case measure => simp [intOf]; omega
      · obtain ⟨_, _, e9, hnL, hmL, hL2⟩ := hL.shape
        simp only [Value.slice.injEq, hungTo_length, true_and] at e9 hnL
        obtain ⟨rfl, rfl⟩ := e9
        obtain ⟨gL, rfl, hgL, hcL⟩ := hL2 (by omega)
        obtain ⟨uj, q0, x1, x2⟩ := hcL m hlm
        simp only [hget] at q0
        have hsame : hungTo D k j b (m + 1) = hungTo D k j b m := by
          rw [← hset]
          unfold pokeL
          rw [if_neg hy, ← hget, List.set_getElem_self]
        have HS := Lib.hid hsame
        have lb : ((D.hung[m].1 : Int) == (k : Int)) = false := by simp; omega
        clear hsame hcL hL2 hL hS hp hset hget hokm x1 x2 hlm hy
        generalize D.hung[m].1 = yy at *
        go_wp2_with fail
        go_roundw
        case rel => exact ⟨m + 1, by omega, by simp, by rw [HS.out]; exact rm, tm⟩
        case measure => simp [intOf]; omega
    · obtain rfl : m = D.hung.length := by omega
      have hd : decide ((D.hung.length : Int) < (D.hung.length : Int)) = false := by simp
      rw [hungTo_all] at rm
      clear hp hS hL
      go_wp2_with fail
      go_ret
      exact ⟨rfl, rm, tm⟩
end Go.Proofs.Ytncoclbmnhbgbaa
