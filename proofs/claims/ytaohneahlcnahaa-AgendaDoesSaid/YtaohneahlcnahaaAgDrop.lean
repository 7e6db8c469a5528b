/- agenda: Drop. -/
import Derived.Test.YtaohneahlcnahaaAgDelete
set_option linter.unusedVariables false
set_option linter.unusedSimpArgs false
namespace Go.Proofs.Ytaohneahlcnahaa
open Go.RowKit

def DropPost (B : Nat) (w : World) (a : Nat) (L : List Du) (nm : Int) (e : Ending) (w' : World) : Prop :=
  ∃ v', e = .returned (.int .i64 ((L.length : Int) - ((keepL L nm).length : Int))) ∧ AgAt B w' a v' (keepL L nm) ∧ Turned (· = a) w w'
theorem keep_len (L : List Du) (nm : Int) : (keepL L nm).length ≤ L.length := List.length_filter_le _ _
set_option maxHeartbeats 4000000 in
theorem sdrop_any (B : Nat) (w : World) (a : Nat) (v : Value) (L : List Du) (h : AgAt B w a v L) (hl : L.length ≤ 1000000) (b : Nat) (nm : Int) (hb : w.cell? ⟨b, 0, none⟩ = some (.int .i64 nm)) :
    Calls Try.prog 26 #[agptr a, isF b] w (DropPost B w a L nm) := by
  have hblt := World.block_lt_of_cell? w _ hb
  dsimp only at hblt
  obtain ⟨av, cv, rfl, hlc, hmx, hnil, _⟩ := h.row.isD
  have H := Lib.hid h
  have HB := Lib.hid hb
  have c1 : w.cell? ⟨a, 1, none⟩ = some (.slice av L.length cv) := (cell_of_row _ _ _ _ _ _ h.head).trans rfl
  have hkl := keep_len L nm
  clear h hb
  go_enter Try.func26, Try.ntmps26
  go_wp2_with fail
  refine (dclone_any w _ L H.out.row.isD hl).mono ?_
  rintro e w1 ⟨v1, rfl, m1, b1⟩
  have hb1 := cells_below b1 _ _ HB.out
  have hh1 := H.out.below b1
  obtain ⟨a1, n1, k1, rfl⟩ : ∃ a n k, v1 = .slice a n k := by obtain ⟨a, k, h, _⟩ := m1.isD; exact ⟨a, _, k, h⟩
  clear c1
  go_wp2_with fail
  refine (delete_any w.heap.size w1 _ L m1 hl b nm hb1 (fun e => by have := (World.ownsRow.lt m1 b e).1; omega) b1.size).mono ?_
  rintro e w2 ⟨v2, rfl, m2, t2⟩
  have hown : ∀ k, some k = (Value.slice a1 n1 k1).ownBlock → w.heap.size ≤ k := fun k hk => (World.ownsRow.lt m1 k hk.symm).1
  have hb2 : Below w.heap.size w1 w2 := t2.below b1.size hown
  have hd2 := (hb2.block a (lt_of_heap H.out.head)).trans hh1.head
  have c2 : w2.cell? ⟨a, 1, none⟩ = some (.slice av L.length cv) := (cell_of_row _ _ _ _ _ _ hd2).trans rfl
  have f2 := frozen_p hd2 1
  obtain ⟨a2, N, k2, hv2, hN⟩ : ∃ a n k, v2 = .slice a n k ∧ (keepL L nm).length = n := by obtain ⟨a, k, h, _⟩ := m2.isD; exact ⟨a, _, k, h, rfl⟩
  subst hv2
  rw [hN] at hkl
  have hd3 := head_setCell (i := 1) hd2 (.slice a2 N k2)
  have c3 : (w2.setCell ⟨a, 1, none⟩ (.slice a2 N k2)).cell? ⟨a, 1, none⟩ = some (.slice a2 N k2) := (cell_of_row _ _ _ _ _ _ hd3).trans rfl
  have m3 : MineD B (w2.setCell ⟨a, 1, none⟩ (.slice a2 N k2)) (.slice a2 N k2) (keepL L nm) := (m2.down H.out.size).keepOwn (fun k hk e => Below.heap_setCell _ _ _ _ (fun (e2 : k = a) => m2.notIn hd2 (by decide) (by rw [← e, e2])))
  have A3 : AgAt B (w2.setCell ⟨a, 1, none⟩ (.slice a2 N k2)) a (.slice a2 N k2) (keepL L nm) := ⟨H.out.low, hd3, m3, H.out.srt.filter _⟩
  have T3 : Turned (· = a) w (w2.setCell ⟨a, 1, none⟩ (.slice a2 N k2)) := (Turned.of_below (b1.trans hb2)).trans (turned_at w2 a 1 _ rfl)
  have HA := Lib.hid A3
  have HT := Lib.hid T3
  have HN := Lib.hid hN
  clear A3 T3 m3 hd3 m2 m1 hh1 hb1 hb2 b1 t2 hown hN
  go_wp2_with fail
  go_ret
  exact ⟨_, by rw [HN.out]; rfl, HA.out, HT.out⟩
theorem agDrop_nil (w : World) (nm : Int) : Calls Try.prog 15 #[.pointer none, .int .i64 nm] w fun e w' => e = .returned (.int .i64 0) ∧ Below w.heap.size w w' := by
  have hb : Below w.heap.size w (w.alloc (.cells #[.int .i64 nm] 3)) := (Below.refl _ _).alloc (Nat.le_refl _) _
  go_enter Try.func15, Try.ntmps15
  go_wp2
  go_ret
  exact ⟨rfl, hb⟩
set_option maxHeartbeats 4000000 in
theorem agDrop_any (B : Nat) (w : World) (a : Nat) (v : Value) (L : List Du) (h : AgAt B w a v L) (hl : L.length ≤ 1000000) (nm : Int) :
    Calls Try.prog 15 #[agptr a, .int .i64 nm] w (DropPost B w a L nm) := by
  have hb : Below w.heap.size w (w.alloc (.cells #[.int .i64 nm] 3)) := (Below.refl _ _).alloc (Nat.le_refl _) _
  have h1 := h.below hb
  have hc : (w.alloc (.cells #[.int .i64 nm] 3)).cell? ⟨w.heap.size, 0, none⟩ = some (.int .i64 nm) := (cell_of_row _ _ _ _ _ _ (heap_alloc_new w _)).trans rfl
  have hd := sdrop_any B _ a v L h1 hl w.heap.size nm hc
  clear h h1 hc
  go_enter Try.func15, Try.ntmps15
  go_wp2_with fail
  refine hd.mono ?_
  rintro e w1 ⟨v1, rfl, ha, ht⟩
  have HA := Lib.hid ha
  have HT := Lib.hid ((Turned.of_below (T := (· = a)) hb).trans ht)
  clear ha ht
  go_wp2_with fail
  go_ret
  exact ⟨_, rfl, HA.out, HT.out⟩
end Go.Proofs.Ytaohneahlcnahaa
