/- plays: what writes and flushes leave on a new disk of eight sectors. -/
import Derived.Test.YtncoclbmnhbgbaaDkShown
import Derived.Test.YtncoclbmnhbgbaaOps
import Derived.Deep.Cut
set_option linter.unusedVariables false
set_option linter.unusedSimpArgs false
namespace Go.Proofs.Ytncoclbmnhbgbaa
open Go.RowKit

/-- the writes of L laid, in order -/
def layAll (s : List UInt8) (L : List (Nat × List UInt8)) : List UInt8 := L.foldl (fun s x => putS s x.1 x.2) s
theorem layAll_snoc (s : List UInt8) (L : List (Nat × List UInt8)) (x : Nat × List UInt8) : layAll s (L ++ [x]) = putS (layAll s L) x.1 x.2 := by simp [layAll]
/-- a disk as plays leaves it -/
structure Good (D : Dk) (k : Nat) : Prop where
  n : D.n = 8
  off : D.off = false
  cut : D.cut = -1
  ops : D.ops ≤ k
  now : D.now = layAll D.safe D.hung
theorem Good.gone {D : Dk} {k : Nat} (h : Good D k) : D.gone = false := Dk.gone_no h.off (by rw [h.cut]; omega)
theorem good_new : Good (Dk.new 8) 0 := ⟨rfl, rfl, rfl, Nat.le_refl _, rfl⟩
theorem Good.write {D : Dk} {k a : Nat} {l : List UInt8} (h : Good D k) (ha : a < 8) (hl : l.length = 128) (hk : k < 1048576) : ∃ D', D.write a l = (0, D') ∧ Good D' (k + 1) ∧ D'.hung = D.hung ++ [(a, l)] := by
  refine ⟨_, Dk.write_ok h.gone (by rw [h.n]; exact ha) hl (by have := h.ops; omega), ⟨h.n, rfl, h.cut, ?_, ?_⟩, rfl⟩
  · have := h.ops
    show D.ops + 1 ≤ k + 1
    omega
  · show putS D.now a l = _
    rw [layAll_snoc, ← h.now]
theorem Good.flush {D : Dk} {k : Nat} (h : Good D k) (hk : k < 1048576) : ∃ D', D.flush = (0, D') ∧ Good D' (k + 1) ∧ D'.hung = [] := by
  refine ⟨_, Dk.flush_ok h.gone (by have := h.ops; omega), ⟨h.n, rfl, h.cut, ?_, rfl⟩, rfl⟩
  have := h.ops
  show D.ops + 1 ≤ k + 1
  omega

set_option maxRecDepth 100000 in
set_option maxHeartbeats 8000000 in
theorem plays_any (w : World) (v : Value) (L : List OpV) (hv : IsO w v L) :
    Calls Try.prog 9 #[.int .i64 8, v] w fun e w' => ∃ (F : Ft) (D : Dk) (u : Value) (B : Nat), e = .returned (.tuple #[F.ptr, u, .bool true]) ∧ DkAt w' F D ∧ Good D 100 ∧ LooseAt B w' u D.hung ∧
      (∀ k, F.has k → w.heap.size ≤ k ∧ k < B) ∧ w.heap.size ≤ B ∧ Below w.heap.size w w' := by
  obtain ⟨a, cap, rfl, hlc, hmx, hnil, hc⟩ := id hv
  unfold maxLen at hmx
  clear hc
  go_enter Try.func9, Try.ntmps9
  go_wp2_with fail
  refine (new_some w 8 ⟨by omega, by omega⟩).mono ?_
  rintro e w1 ⟨F, rfl, d1, hF, hb1⟩
  have hs1 := hb1.size
  have hFB : ∀ k, F.has k → w.heap.size ≤ k ∧ k < w1.heap.size := fun k hk => ⟨hF k hk, d1.lt hk⟩
  generalize hB : w1.heap.size = B at *
  have hsz1 : B ≤ w1.heap.size := by omega
  have hBw : w.heap.size ≤ B := by omega
  clear hB
  go_wp2_with fail
  go_loopw [9, 10, 11, 12, 13, 14, 26, 27, 28, 29, 30, 31, 32, 33, 34, 35, 36, 37, 38, 39, 40, 41, 42, 43, 44, 45, 46, 47, 48, 49, 50, 51, 52, 53, 54, 55, 56, 57, 58, 59, 60, 61, 62, 63, 64, 65, 66, 67, 68] (fun u i _ _ _ _ _ _ _ _ _ _ _ _ _ _ _ _ _ _ _ _ _ _ _ _ _ _ _ _ _ _ _ _ _ _ _ _ _ _ _ _ _ _ _ _ _ _ _ wr => ∃ (k : Nat) (D : Dk), k ≤ L.length ∧ k ≤ 100 ∧ i = .int .i64 (k : Int) ∧ DkAt wr F D ∧ Good D k ∧ LooseAt B wr u D.hung ∧ Below w.heap.size w wr ∧ B ≤ wr.heap.size) (fun _ i _ _ _ _ _ _ _ _ _ _ _ _ _ _ _ _ _ _ _ _ _ _ _ _ _ _ _ _ _ _ _ _ _ _ _ _ _ _ _ _ _ _ _ _ _ _ _ _ => 100 - (intOf i).toNat)
  case atStart => exact ⟨0, Dk.new 8, Nat.zero_le _, Nat.zero_le _, rfl, d1, good_new, LooseAt.nil _ _, hb1, hsz1⟩
  case round =>
    obtain ⟨k, D, hk, hk2, rfl, dr, hg, hl, hbr, hBr⟩ := hrel
    clear d1 hb1 hs1 hsz1
    have hLl : D.hung.length ≤ 1000000 := by have := dr.ok.loose; have := hg.ops; omega
    by_cases hlt : k < L.length
    · by_cases hlt2 : k < 100
      · have hd : decide ((k : Int) < (L.length : Int)) = true := by simpa using hlt
        have hd2 : decide ((k : Int) < 100) = true := by simp; omega
        obtain ⟨a', cap', hv', _, _, _, hc⟩ := hv.below hbr
        simp only [Value.slice.injEq] at hv'
        obtain ⟨rfl, _, rfl⟩ := hv'
        obtain ⟨x, rfl⟩ : ∃ x, a = some x := by
          cases a with
          | none => have := hnil rfl; omega
          | some x => exact ⟨x, rfl⟩
        obtain ⟨hsp, hcl⟩ := hc x rfl
        obtain ⟨Bx, o, sp⟩ := x
        obtain rfl : sp = none := hsp (by omega)
        obtain ⟨hcell, hxk⟩ := hcl k hlt
        have c0 := hcell 0 (by omega)
        have c1 := hcell 1 (by omega)
        have c2 := hcell 2 (by omega)
        have c3 := hcell 3 (by omega)
        have c4 := hcell 4 (by omega)
        dsimp only [OpV.cell, Nat.add_zero] at c0 c1 c2 c3 c4
        clear hc hcl hcell hsp
        generalize L[k] = y at *
        obtain ⟨yk, ya, yn, yb, ybl, ys, yst⟩ := y
        obtain ⟨k1, k2, a1, a2, _, _, ⟨ab, cb, e1, _⟩, ⟨sa, sc, e2, _⟩⟩ := hxk
        dsimp only at c0 c1 c2 c3 c4 k1 k2 a1 a2 e1 e2
        subst e1 e2
        have i0 : (0 : Int) ≤ (k : Int) := by omega
        have i1 : (k : Int) < (L.length : Int) := by omega
        go_wp2_with fail
        have o1 : (wr.alloc (.cells #[.int .i64 yk, .int .i64 ya, .int .i64 yn, .slice ab ybl.length cb, .slice sa yst.length sc] 35)).cell? ⟨wr.heap.size, 1, none⟩ = some (.int .i64 ya) := by
          rw [cell_of_row _ _ _ _ _ _ (heap_alloc_new wr _)]; rfl
        have hbo : Below wr.heap.size wr (wr.alloc (.cells #[.int .i64 yk, .int .i64 ya, .int .i64 yn, .slice ab ybl.length cb, .slice sa yst.length sc] 35)) := (Below.refl _ _).alloc (Nat.le_refl _) _
        generalize wr.alloc (.cells #[.int .i64 yk, .int .i64 ya, .int .i64 yn, .slice ab ybl.length cb, .slice sa yst.length sc] 35) = W2 at *
        have d2 := dr.below hbo
        have l2 := hl.below hbo
        have b2 := hbr.trans (hbo.mono hbr.size)
        have s2 : B ≤ W2.heap.size := Nat.le_trans hBr hbo.size
        clear dr hl hbr hbo c0 c1 c2 c3 c4
        generalize wr.heap.size = ox at *
        refine (pick_any W2 yk 4 k1 k2 (by omega) (by omega)).mono ?_
        rintro e w3 ⟨rfl, rfl⟩
        by_cases hq : pickN yk 4 = 0
        · rw [hq]
          obtain ⟨D', e', g', hh'⟩ := hg.flush (by omega)
          have E' := Lib.hid e'
          clear e'
          go_wp2_with fail
          refine (flush_any W2 F D d2).mono ?_
          rintro e w4 ⟨rfl, d4, t4⟩
          rw [E'.out] at d4 ⊢
          have b4 : Below w.heap.size w w4 := t4.own b2 (fun k hk => (hFB k hk).1) b2.size
          have s4 : B ≤ w4.heap.size := Nat.le_trans s2 t4.size
          have l4 : LooseAt B w4 (.slice none 0 0) D'.hung := by rw [hh']; exact LooseAt.nil _ _
          clear d2 l2 b2 s2 t4 hh'
          go_wp2_with fail
          go_roundw
          case rel => exact ⟨k + 1, D', by omega, by omega, by go_num, d4, g', l4, b4, s4⟩
          case measure => simp [intOf]; omega
        · have hq0 : (((pickN yk 4 : Nat) : Int) == 0) = false := by simpa using hq
          generalize pickN yk 4 = q at *
          have e8 : ((UInt8.ofNat (k + 1)).toNat : Int) = (k : Int) + 1 := by
            rw [UInt8.toNat_ofNat']
            omega
          have hof : ∀ w : World, Calls Try.prog 18 #[.int .u8 ((k : Int) + 1)] w fun e w' => ∃ v, e = .returned v ∧ Mine 5 w.heap.size w' v (List.replicate 128 (UInt8.ofNat (k + 1))) ∧ Below w.heap.size w w' := fun w => by rw [← e8]; exact of_any w _
          have hlen : (List.replicate 128 (UInt8.ofNat (k + 1))).length = 128 := List.length_replicate
          generalize List.replicate 128 (UInt8.ofNat (k + 1)) = Z at *
          have Hof := Lib.hid hof
          clear hof e8
          have hpa := pickN_lt ya (show 0 < 8 by omega)
          go_wp2_with fail
          refine (pick_any W2 ya 8 a1 a2 (by omega) (by omega)).mono ?_
          rintro e w3 ⟨rfl, rfl⟩
          generalize pickN ya 8 = p at *
          obtain ⟨D', e', g', hh'⟩ := hg.write hpa hlen (by omega)
          have E' := Lib.hid e'
          clear e'
          go_wp2_with fail
          refine (Hof.out W2).mono ?_
          rintro e w4 ⟨u, rfl, hm4, hb4⟩
          have d4 := d2.below hb4
          have l4 := l2.below hb4
          have b4 := b2.trans (hb4.mono b2.size)
          have s4 : B ≤ w4.heap.size := Nat.le_trans s2 hb4.size
          have hmB : Mine 5 B w4 u Z := hm4.base_le s2
          obtain ⟨ua, uc, hue, _⟩ := id hmB.isB
          have o5 := heap_alloc_new w4 (.cells (five (p, Z) u).toArray 35)
          have hbo5 : Below w4.heap.size w4 (w4.alloc (.cells (five (p, Z) u).toArray 35)) := (Below.refl _ _).alloc (Nat.le_refl _) _
          clear hm4 hb4 o1 d2 l2 b2
          unfold five at o5 hbo5
          rw [hlen] at hue
          rw [hue] at o5 hbo5
          subst hue
          have hx5 : B ≤ w4.heap.size := s4
          go_upto_region 15 with fail
          generalize w4.alloc (.cells [Value.int .i64 0, .int .i64 (p : Int), .int .i64 0, (.slice ua 128 uc), .slice none 0 0].toArray 35) = W5 at *
          have d5 := d4.below hbo5
          have l5 := l4.below hbo5
          have b5 := b4.trans (hbo5.mono b4.size)
          have m5 := hmB.below hbo5
          have s5 : B ≤ W5.heap.size := Nat.le_trans s4 hbo5.size
          clear d4 l4 b4 hmB hbo5
          generalize w4.heap.size = x5 at *
          have c51 : W5.cell? ⟨x5, 1, none⟩ = some (.int .i64 (p : Int)) := by rw [cell_of_row _ _ _ _ _ _ o5]; rfl
          have c53 : W5.cell? ⟨x5, 3, none⟩ = some (.slice ua 128 uc) := by rw [cell_of_row _ _ _ _ _ _ o5]; rfl
          go_wp2_with fail
          refine (write_any W5 F D d5 p _ Z m5.isB (by omega) (by omega)).mono ?_
          rintro e w6 ⟨rfl, d6, t6⟩
          rw [E'.out] at d6 ⊢
          have hlt6 : x5 < W5.heap.size := lt_of_heap o5
          have b6 : Below w.heap.size w w6 := t6.own b5 (fun k hk => (hFB k hk).1) b5.size
          have s6 : B ≤ w6.heap.size := Nat.le_trans s5 t6.size
          have l6 := l5.turned t6 (fun k hk => (hFB k hk).2)
          have m6 : Mine 5 B w6 (.slice ua 128 uc) Z := ownsRow_keep m5 (fun j hj hB => t6.block j hj fun e => by have := (hFB j e).2; omega)
          have o6 := (t6.block x5 hlt6 (fun e => by have := (hFB x5 e).2; omega)).trans o5
          clear d5 l5 b5 m5 t6 o5 c51 c53 hlt6 s5
          have e0 : w6.cell? ⟨x5, 0, none⟩ = some (.int .i64 0) := by rw [cell_of_row _ _ _ _ _ _ o6]; rfl
          have e1 : w6.cell? ⟨x5, 1, none⟩ = some (.int .i64 (p : Int)) := by rw [cell_of_row _ _ _ _ _ _ o6]; rfl
          have e2 : w6.cell? ⟨x5, 2, none⟩ = some (.int .i64 0) := by rw [cell_of_row _ _ _ _ _ _ o6]; rfl
          have e3 : w6.cell? ⟨x5, 3, none⟩ = some (.slice ua 128 uc) := by rw [cell_of_row _ _ _ _ _ _ o6]; rfl
          have e4 : w6.cell? ⟨x5, 4, none⟩ = some (.slice none 0 0) := by rw [cell_of_row _ _ _ _ _ _ o6]; rfl
          have hb7 : Below w6.heap.size w6 (w6.alloc (.cells (five (p, Z) (.slice ua 128 uc)).toArray 35)) := (Below.refl _ _).alloc (Nat.le_refl _) _
          obtain ⟨v', w8, hr, l8, t8⟩ := (l6.below hb7).snoc (Nat.le_trans s6 hb7.size) hLl (p, Z) _ (m6.below hb7) w6.heap.size (heap_alloc_new w6 _)
          rw [← hh'] at l8
          have d8 : DkAt w8 F D' := (d6.below hb7).keep fun j hj => t8.block j ((d6.below hb7).lt hj) (fun e => by have := (hFB j hj).2; omega)
          have b8 : Below w.heap.size w w8 := (b6.trans (hb7.mono b6.size)).trans (t8.below (Nat.le_trans b6.size hb7.size) (fun j hj => by have := b6.size; omega))
          have s8 : B ≤ w8.heap.size := Nat.le_trans (Nat.le_trans s6 hb7.size) t8.size
          unfold five at hr
          dsimp only at hr
          clear l6 m6 d6 b6 t8 hb7 o6 hh'
          go_wp2_with (at_builtin; refine wpList_append_run rfl (.tmp 65) (.tmp 67) 22 22 rfl _ _ _ rfl rfl hr ?_; clear hr)
          go_roundw
          case rel => exact ⟨k + 1, D', by omega, by omega, by go_num, d8, g', l8, b8, s8⟩
          case measure => simp [intOf]; omega
      · have hd : decide ((k : Int) < (L.length : Int)) = true := by simpa using hlt
        have hd2 : decide ((k : Int) < 100) = false := by simp; omega
        obtain rfl : k = 100 := by omega
        go_wp2_with fail
        go_ret3
        exact ⟨F, D, u9, B, rfl, dr, hg, hl, hFB, hBw, hbr⟩
    · have hd : decide ((k : Int) < (L.length : Int)) = false := by simpa using hlt
      have hg' : Good D 100 := ⟨hg.n, hg.off, hg.cut, Nat.le_trans hg.ops hk2, hg.now⟩
      go_wp2_with fail
      go_ret3
      exact ⟨F, D, u9, B, rfl, dr, hg', hl, hFB, hBw, hbr⟩
end Go.Proofs.Ytncoclbmnhbgbaa
