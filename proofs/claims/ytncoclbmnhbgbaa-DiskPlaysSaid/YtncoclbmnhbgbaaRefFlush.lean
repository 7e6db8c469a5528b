/- The document's disk: Flush. -/
import Derived.Test.YtncoclbmnhbgbaaRefWrite
import Derived.Test.YtncoclbmnhbgbaaDkFlush
set_option linter.unusedVariables false
set_option linter.unusedSimpArgs false
namespace Go.Proofs.Ytncoclbmnhbgbaa
open Go.RowKit

/-- the loose writes let go -/
theorem RefAt.dropL {B : Nat} {w : World} {p : Nat} {D : Dk} (h : RefAt B w p D) : RefAt B (w.setCell ⟨p, 1, none⟩ (.slice none 0 0)) p { D with hung := [] } := by
  obtain ⟨low, vS, vL, hp, hS, hL⟩ := h
  have ho := others_set hp 1 (.slice none 0 0)
  exact ⟨low, vS, .slice none 0 0, head_setCell hp _, hS.others ho (by decide) (by decide), ⟨[], rfl, World.ownsRow_nil _ _ _ _, fun i hi => by simp at hi⟩⟩
/-- a sector's slice stored -/
theorem RefAt.setSafe {B : Nat} {w : World} {p : Nat} {D : Dk} {g : Nat} {cS : Nat} {aL : Option Addr} {cL : Nat}
    (low : B ≤ p) (hp : w.heap[p]? = some (.cells #[.slice (some ⟨g, 0, none⟩) D.n cS, .slice aL D.hung.length cL, .int .i64 (D.ops : Int), .int .i64 D.cut, .bool D.off] 71 (0, 0)))
    (hS : SafeAt B w (.slice (some ⟨g, 0, none⟩) D.n cS) D.n (sec D.safe)) (hL : LAt B w (.slice aL D.hung.length cL) D.hung) (a : Nat) (ha : a < D.n)
    (D' : Dk) (e1 : D'.n = D.n) (e2 : ∀ i, i < D.n → i ≠ a → sec D'.safe i = sec D.safe i) (e3 : D'.hung = D.hung) (e4 : D'.ops = D.ops) (e5 : D'.cut = D.cut) (e6 : D'.off = D.off)
    (u : Value) (hu : Mine 5 B w u (sec D'.safe a)) :
    (∃ c, w.cell? ⟨g, a, none⟩ = some c) ∧ w.frozen? ⟨g, a, none⟩ = false ∧ RefAt B (w.setCell ⟨g, a, none⟩ u) p D' ∧ Turned (RT B w) w (w.setCell ⟨g, a, none⟩ u) := by
  obtain ⟨us, h1, h2, h3⟩ := hS
  have hgB := (World.ownsRow.lt h2 g rfl).1
  have hsh := ownsRow_kind h2 (k := g) rfl
  obtain ⟨_, cur, hg⟩ := hsh
  have ho := others_set hg a u
  refine ⟨⟨us[a]'(by omega), ?_⟩, frozen_p hg a, ⟨low, .slice (some ⟨g, 0, none⟩) D.n cS, .slice aL D.hung.length cL, ?_, ?_, ?_⟩, rfl, rfl, rfl, by simp [World.setCell], fun k hk hn => Below.heap_setCell _ _ _ _ (fun e => hn ?_)⟩
  · rw [World.ownsRow.cellAt h2 a (by omega)]
    exact List.getElem?_eq_getElem (by omega)
  · rw [e4, e5, e6]
    exact (ho p _ _ _ hp (by decide)).trans hp
  · rw [e1]
    refine ⟨us.set a u, by simpa using h1, (World.ownsRow.stored h2 a u).1, fun i hi => ?_⟩
    rw [List.length_set] at hi
    rw [List.getElem_set]
    split
    · rename_i hia
      subst hia
      exact ownsRow_block hu (fun k c fr _ hk => ho k c _ fr hk (by decide))
    · rename_i hia
      rw [e2 i (by omega) (fun e => hia e.symm)]
      exact ownsRow_block (h3 i hi) (fun k c fr _ hk => ho k c _ fr hk (by decide))
  · rw [e3]
    exact hL.others ho (by decide) (by decide)
  · have e' : k = g := e
    subst e'
    exact ⟨hgB, _, _, _, hg, .inr (.inl rfl)⟩
set_option maxHeartbeats 4000000 in
theorem refFlush_any (B : Nat) (w : World) (p : Nat) (D : Dk) (h : RefAt B w p D) (hok : D.Ok) (hnow : D.now = layAll D.safe D.hung) :
    Calls Try.prog 31 #[rptr p] w fun e w' => e = .returned (.int .i64 D.flush.1) ∧ RefAt B w' p D.flush.2 ∧ Turned (RT B w) w w' := by
  have hbe := begins_any B w p D h hok
  have hB := h.size
  by_cases hg : D.gone = true
  · rw [hg] at hbe
    have e1 : D.flush = (43, { D with off := true }) := by simp [Dk.flush, hg]
    rw [e1]
    go_enter Try.func31, Try.ntmps31
    go_wp2_with fail
    refine hbe.mono ?_
    rintro e w1 ⟨rfl, r1, t1⟩
    go_wp2_with fail
    go_ret
    exact ⟨rfl, r1, t1⟩
  replace hg : D.gone = false := by simpa using hg
  rw [hg] at hbe
  have hok' : ({ D with off := false } : Dk).Ok := ⟨hok.n1, hok.nm, hok.safe, hok.now, hok.hung, hok.loose, hok.ops, hok.c1, hok.c2⟩
  by_cases hfull : 1048576 ≤ D.ops
  · have d8 : decide ((1048576 : Int) ≤ (D.ops : Int)) = true := by simp; omega
    have e1 : D.flush = (44, { D with off := false }) := by simp [Dk.flush, hg, hfull]
    rw [e1]
    go_enter Try.func31, Try.ntmps31
    go_wp2_with fail
    refine hbe.mono ?_
    rintro e w1 ⟨rfl, r1, t1⟩
    obtain ⟨aS, cS, aL, cL, hp, hS, hL⟩ := r1.cells
    have p2 : w1.cell? ⟨p, 2, none⟩ = some (.int .i64 (D.ops : Int)) := by rw [cell_of_row _ _ _ _ _ _ hp]; rfl
    clear hp hS hL
    go_wp2_with fail
    go_ret
    exact ⟨rfl, r1, t1⟩
  · have d8 : decide ((1048576 : Int) ≤ (D.ops : Int)) = false := by simp; omega
    have e1 : D.flush = (0, { D with off := false, safe := D.now, hung := [], ops := D.ops + 1 }) := by simp [Dk.flush, hg, hfull]
    rw [e1]
    go_enter Try.func31, Try.ntmps31
    go_wp2_with fail
    refine hbe.mono ?_
    rintro e w1 ⟨rfl, r1, t1⟩
    obtain ⟨aS, cS, aL, cL, hp, hS, hL⟩ := r1.cells
    have p2 : w1.cell? ⟨p, 2, none⟩ = some (.int .i64 (D.ops : Int)) := by rw [cell_of_row _ _ _ _ _ _ hp]; rfl
    have hloose := hok.loose
    have hopsb := hok.ops
    clear hp hS hL hbe
    go_wp2_with fail
    go_loopw [4, 15, 16, 17, 18, 19, 20, 21, 22, 23, 24, 25, 26, 27, 28, 29, 30, 31, 32, 33, 34, 35, 36, 37, 38, 39, 40, 41, 42, 43, 44] (fun i _ _ _ _ _ _ _ _ _ _ _ _ _ _ _ _ _ _ _ _ _ _ _ _ _ _ _ _ _ _ wr => ∃ j : Nat, j ≤ D.hung.length ∧ i = .int .i64 (j : Int) ∧ RefAt B wr p { D with off := false, safe := layAll D.safe (D.hung.take j) } ∧ Turned (RT B w) w wr) (fun i _ _ _ _ _ _ _ _ _ _ _ _ _ _ _ _ _ _ _ _ _ _ _ _ _ _ _ _ _ _ _ => D.hung.length - (intOf i).toNat)
    case atStart => exact ⟨0, Nat.zero_le _, rfl, r1, t1⟩
    case round =>
      obtain ⟨j, hj, rfl, rj, tj⟩ := hrel
      clear r1 t1 p2
      have rd := rj.below ((Below.refl wr.heap.size wr).drew)
      have td := tj.drew
      have hlow := rj.low
      obtain ⟨aS, cS, aL, cL, hp, hS, hL⟩ := rd.cells
      have p1 : wr.cell? ⟨p, 1, none⟩ = some (.slice aL D.hung.length cL) := by rw [cell_of_row wr _ _ _ _ _ hp]; rfl
      by_cases hjl : j < D.hung.length
      · have hdj : decide ((j : Int) < (D.hung.length : Int)) = true := by simpa using hjl
        obtain ⟨_, _, e1, hnS, hmS, hS2⟩ := hS.shape
        simp only [Value.slice.injEq, true_and] at e1
        obtain ⟨rfl, rfl⟩ := e1
        have hn1 := hok.n1
        obtain ⟨g, rfl, hgB, _⟩ := hS2 (by simp only; omega)
        obtain ⟨_, _, e2, hnL, hmL, hL2⟩ := hL.shape
        simp only [Value.slice.injEq, true_and] at e2
        obtain ⟨rfl, rfl⟩ := e2
        obtain ⟨gL, rfl, hgL, hcL⟩ := hL2 (by simp only; omega)
        obtain ⟨uj, q0, q1, hmj⟩ := hcL j hjl
        simp only at q0 hmj hnS hnL
        obtain ⟨ua, uc, hue, _⟩ := id hmj.isB
        obtain ⟨hyn, hyl⟩ := hok.hung _ (List.getElem_mem hjl)
        rw [hyl] at hue
        have hlj := layAll_length (D.hung.take j) hok.safe fun x hx => hok.hung x (List.mem_of_mem_take hx)
        have hset := RefAt.setSafe hlow hp hS hL D.hung[j].1 hyn { D with off := false, safe := layAll D.safe (D.hung.take (j + 1)) } rfl (fun i hi hne => by rw [lay_step hok j i hjl hi, if_neg (fun e => hne e.symm)]) rfl rfl rfl rfl uj (by
          simp only
          rw [lay_step hok j _ hjl hyn, if_pos rfl]; exact hmj)
        obtain ⟨⟨c0, hc0⟩, hf0, rr, tt⟩ := hset
        have HR := Lib.hid (And.intro rr (td.rt tt))
        have p0d : wr.drew.cell? ⟨p, 0, none⟩ = some (.slice (some ⟨g, 0, none⟩) D.n cS) := by rw [cell_of_row _ _ _ _ _ _ hp]; rfl
        have p1d : wr.drew.cell? ⟨p, 1, none⟩ = some (.slice (some ⟨gL, 0, none⟩) D.hung.length cL) := by rw [cell_of_row _ _ _ _ _ _ hp]; rfl
        have j0 : (0 : Int) ≤ (j : Int) := by omega
        have j1 : (j : Int) < (D.hung.length : Int) := by omega
        have y0 : (0 : Int) ≤ (D.hung[j].1 : Int) := by omega
        have y1 : (D.hung[j].1 : Int) < (D.n : Int) := by omega
        subst hue
        clear hcL hS2 hL2 hS hL hmj rr tt rd rj hp tj td hlj
        generalize D.hung[j].1 = yy at *
        go_wp2_with fail
        refine wp_region_still_tail 21 (by kernel_rfl) (by kernel_rfl) ?_
        simp only [List.take_succ_cons, List.take_zero, List.drop_succ_cons, List.drop_zero]
        change wpStill _ _ wr.drew (fun a' => wpList _ _ _ _ a' wr.drew) _ _
        generalize wr.drew = W at *
        iterate 21 still_step
        refine wpStill_nil ?_
        go_wp2_with fail
        obtain ⟨rr, tt⟩ := HR.out
        go_roundw
        case rel => exact ⟨j + 1, by omega, by simp, rr, tt⟩
        case measure => simp [intOf]; omega
      · obtain rfl : j = D.hung.length := by omega
        have hdj : decide ((D.hung.length : Int) < (D.hung.length : Int)) = false := by simp
        rw [List.take_length, ← hnow] at rj
        clear hnow
        have rf1 := rj.dropL
        have tf1 := tj.rt (rj.turn 1 (.slice none 0 0))
        obtain ⟨a5, c5, b5, d5, hp5, _, _⟩ := rf1.cells
        have p2 : (wr.setCell ⟨p, 1, none⟩ (.slice none 0 0)).cell? ⟨p, 2, none⟩ = some (.int .i64 (D.ops : Int)) := by rw [cell_of_row _ _ _ _ _ _ hp5]; rfl
        have f2 := frozen_p hp5 2
        have f1 : wr.frozen? ⟨p, 1, none⟩ = false := frozen_p (w := wr) hp 1
        have rf := rf1.put { D with off := false, safe := D.now, hung := [], ops := D.ops + 1 } rfl rfl rfl 2 (.int .i64 (D.ops + 1 : Nat)) (fun vS vL => rfl)
        have tf := tf1.rt (rf1.turn 2 (.int .i64 (D.ops + 1 : Nat)))
        have HR := Lib.hid (And.intro rf tf)
        clear rf tf tf1 rf1 hp5 hS hL hp rj rd td tj
        go_wp2_with fail
        go_ret
        exact ⟨rfl, HR.out⟩
end Go.Proofs.Ytncoclbmnhbgbaa
