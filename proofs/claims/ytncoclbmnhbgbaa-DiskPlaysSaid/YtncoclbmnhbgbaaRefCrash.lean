/- The document's disk: Crash. -/
import Derived.Test.YtncoclbmnhbgbaaRefFlush
import Derived.Test.YtncoclbmnhbgbaaDkCrash
set_option linter.unusedVariables false
set_option linter.unusedSimpArgs false
namespace Go.Proofs.Ytncoclbmnhbgbaa
open Go.RowKit

/-- a disk that a crash makes: so many sectors, as they are laid -/
def made (n : Nat) (s : List UInt8) : Dk := ⟨n, s, s, [], 0, -1, false⟩
theorem cell_keep {w w' : World} {b : Nat} (h : w'.heap[b]? = w.heap[b]?) (j : Nat) : w'.cell? ⟨b, j, none⟩ = w.cell? ⟨b, j, none⟩ := World.cell?_of_block (w := w) h
/-- what the store of a loose write in the crash's copy reads -/
def CrHeld (q p g gL k n l : Nat) (cR cL y : Nat) (u : Value) (W : World) : Prop :=
  W.cell? ⟨q, 0, none⟩ = some (.slice (some ⟨g, 0, none⟩) n cR) ∧ W.cell? ⟨p, 1, none⟩ = some (.slice (some ⟨gL, 0, none⟩) l cL) ∧ W.cell? ⟨gL, k * 2, none⟩ = some (.int .i64 (y : Int)) ∧ W.cell? ⟨gL, k * 2 + 1, none⟩ = some u
theorem CrHeld.keep {q p g gL k n l cR cL y : Nat} {u : Value} {W W' : World} (h : CrHeld q p g gL k n l cR cL y u W) (h1 : W'.heap[q]? = W.heap[q]?) (h2 : W'.heap[p]? = W.heap[p]?) (h3 : W'.heap[gL]? = W.heap[gL]?) : CrHeld q p g gL k n l cR cL y u W' :=
  ⟨(cell_keep h1 _).trans h.1, (cell_keep h2 _).trans h.2.1, (cell_keep h3 _).trans h.2.2.1, (cell_keep h3 _).trans h.2.2.2⟩
set_option maxHeartbeats 8000000 in
theorem refCrash_any (B : Nat) (w : World) (p : Nat) (D : Dk) (h : RefAt B w p D) (hok : D.Ok) (v : Value) (stay : List Int) (hv : IsI w v stay) :
    Calls Try.prog 36 #[rptr p, v] w fun e w' => ∃ q, e = .returned (rptr q) ∧ RefAt w.heap.size w' q (D.crash stay) ∧ Below w.heap.size w w' := by
  obtain ⟨B', hBe⟩ : ∃ B', B' = w.heap.size := ⟨_, rfl⟩
  rw [← hBe]
  obtain ⟨W1, hW1⟩ : ∃ W1, W1 = w.alloc (.cells #[.slice none 0 0, .slice none 0 0, .int .i64 0, .int .i64 (-1), .bool false] 71) := ⟨_, rfl⟩
  have hb1 : Below B' w W1 := by rw [hW1, hBe]; exact (Below.refl _ _).alloc (Nat.le_refl _) _
  have hr1 : RefAt B' W1 w.heap.size (made 0 D.safe) := by
    rw [hW1]
    exact ⟨by omega, _, _, heap_alloc_new w _, ⟨[], rfl, World.ownsRow_nil _ _ _ _, fun i hi => by simp at hi⟩, ⟨[], rfl, World.ownsRow_nil _ _ _ _, fun i hi => by simp [made] at hi⟩⟩
  have HW := Lib.hid hW1
  clear hW1
  have hn1 := hok.n1
  have hnm := hok.nm
  go_enter Try.func36, Try.ntmps36
  go_wp2_with fail
  rw [← HW.out]
  obtain ⟨q, hq⟩ : ∃ q, q = w.heap.size := ⟨_, rfl⟩
  rw [← hq] at hr1 ⊢
  have HB' := Lib.hid hBe
  clear HW hq hBe
  go_loopw [6, 12, 13, 14, 15, 16, 17, 18, 19, 20, 21, 22, 23, 24, 25, 26, 27, 28, 29, 30, 31, 32, 33, 34, 35, 36, 37] (fun i _ _ _ _ _ _ _ _ _ _ _ _ _ _ _ _ _ _ _ _ _ _ _ _ _ _ wr => ∃ k : Nat, k ≤ D.n ∧ i = .int .i64 (k : Int) ∧ RefAt B' wr q (made k D.safe) ∧ Below B' w wr) (fun i _ _ _ _ _ _ _ _ _ _ _ _ _ _ _ _ _ _ _ _ _ _ _ _ _ _ _ => D.n - (intOf i).toNat)
  case atStart => exact ⟨0, Nat.zero_le _, rfl, hr1, hb1⟩
  case round =>
    obtain ⟨k, hk, rfl, rr, hbr⟩ := hrel
    clear hr1 hb1
    have hD := h.below (HB'.out ▸ hbr)
    have hsz := rr.size
    obtain ⟨aS, cS, aL, cL, hp, hS, hL⟩ := hD.cells
    obtain ⟨_, _, e1, hnS, hmS, hS2⟩ := hS.shape
    simp only [Value.slice.injEq, true_and] at e1
    obtain ⟨rfl, rfl⟩ := e1
    have p0 : wr.cell? ⟨p, 0, none⟩ = some (.slice aS D.n cS) := by rw [cell_of_row _ _ _ _ _ _ hp]; rfl
    by_cases hlt : k < D.n
    · have hd : decide ((k : Int) < (D.n : Int)) = true := by simpa using hlt
      obtain ⟨g, rfl, hgB, hcell⟩ := hS2 (by omega)
      obtain ⟨u, hu, hmu⟩ := hcell k hlt
      have hul : (sec D.safe k).length = 128 := sec_length hok.safe hlt
      obtain ⟨ua, uc, hue, _⟩ := id hmu.isB
      rw [hul] at hue
      subst hue
      have k0 : (0 : Int) ≤ (k : Int) := by omega
      have k1 : (k : Int) < (D.n : Int) := by omega
      obtain ⟨xa, xc, w2, hrc, hm2, hb2⟩ := run_copy wr.drew _ _ hmu.isB.drew (by omega)
      rw [hul] at hrc hm2
      obtain ⟨aR, cR, aM, cM, hq0, hSR, hLR⟩ := rr.cells
      have hb2' : Below wr.heap.size wr w2 := ((Below.refl wr.heap.size wr).drew).trans hb2
      have hb3' : Below wr.heap.size wr (w2.alloc (.cells #[.slice xa 128 xc] 30)) := hb2'.alloc hb2'.size _
      have q0 : wr.cell? ⟨q, 0, none⟩ = some (.slice aR k cR) := by rw [cell_of_row _ _ _ _ _ _ hq0]; rfl
      have q2 : w2.cell? ⟨q, 0, none⟩ = some (.slice aR k cR) := by rw [cell_of_row _ _ _ _ _ _ ((hb2'.block q (lt_of_heap hq0)).trans hq0)]; rfl
      have hq3 := (hb3'.block q (lt_of_heap hq0)).trans hq0
      have q3 : (w2.alloc (.cells #[.slice xa 128 xc] 30)).cell? ⟨q, 0, none⟩ = some (.slice aR k cR) := by rw [cell_of_row _ _ _ _ _ _ hq3]; rfl
      have p2 : w2.cell? ⟨p, 0, none⟩ = some (.slice (some ⟨g, 0, none⟩) D.n cS) := by rw [cell_of_row _ _ _ _ _ _ ((hb2'.block p (lt_of_heap hp)).trans hp)]; rfl
      have r3 := rr.below hb3'
      obtain ⟨a5, c5, b5, d5, hq5, hS5, hL5⟩ := r3.cells
      rw [hq3] at hq5
      simp only [Option.some.injEq, Obj.cells.injEq, Array.mk.injEq, List.cons.injEq, Value.slice.injEq, and_true, true_and] at hq5
      obtain ⟨⟨rfl, rfl⟩, rfl, rfl⟩ := hq5
      have hm3 := (hm2.alloc (.cells #[.slice xa 128 xc] 30)).base_le hsz
      have hg3 : (w2.alloc (.cells #[.slice xa 128 xc] 30)).heap[w2.heap.size]? = some (.cells #[.slice xa 128 xc] 30 (0, 0)) := heap_alloc_new _ _
      obtain ⟨a', c', w', hr, ⟨c0, hc0⟩, hf0, rr', ht'⟩ := RefAt.snocSafe r3.low hq3 hS5 hL5 (by simp [made]; omega) (made (k + 1) D.safe) rfl (fun i hi => rfl) rfl rfl rfl rfl _ hm3 _ hg3
      have hbf := ((hbr.trans (hb3'.mono hsz)).trans (ht'.below r3.size fun _ hk => hk.1))
      have HR := Lib.hid (And.intro rr' hbf)
      simp only [show (made k D.safe).n = k from rfl] at hr HR
      clear rr' hbf ht' hg3 hm3 hS5 hL5 r3 hq3 hb3' hb2' hb2 hm2 hmu hcell hS2 hp hL hS hD hSR hLR hq0 rr
      go_wp2_with fail
      go_region_law (first | refine step_append_run rfl (.const (.slice none 0 0)) (.tmp 32) 30 30 (by rfl) _ _ _ (by rfl) (by rfl) hrc ?_ | refine step_append_run rfl (.tmp 25) (.tmp 34) 68 68 (by rfl) _ _ _ (by rfl) (by rfl) hr ?_)
      all_goals (
        obtain ⟨rr', hbf⟩ := HR.out
        go_wp2_with fail
        go_roundw
        case rel => exact ⟨k + 1, by omega, by simp, rr', hbf⟩
        case measure => simp [intOf]; omega)
    · obtain rfl : k = D.n := by omega
      have hd : decide ((D.n : Int) < (D.n : Int)) = false := by simp
      clear hp hS hS2 hL
      have hloose := hok.loose
      have hopsb := hok.ops
      go_wp2_with fail
      go_loopw [7, 8, 9, 38, 39, 40, 41, 42, 43, 44, 45, 46, 47, 48, 49, 50, 51, 52, 53, 54, 55, 56, 57, 58, 59, 60, 61, 62, 63, 64, 65, 66, 67, 68, 69, 70, 71, 72, 73, 74, 75, 76, 77, 78, 79, 80, 81, 82, 83, 84] (fun i _ _ _ _ _ _ _ _ _ _ _ _ _ _ _ _ _ _ _ _ _ _ _ _ _ _ _ _ _ _ _ _ _ _ _ _ _ _ _ _ _ _ _ _ _ _ _ _ _ wr => ∃ k : Nat, k ≤ D.hung.length ∧ i = .int .i64 (k : Int) ∧ RefAt B' wr q (made D.n (crashTo D stay k)) ∧ Below B' w wr) (fun i _ _ _ _ _ _ _ _ _ _ _ _ _ _ _ _ _ _ _ _ _ _ _ _ _ _ _ _ _ _ _ _ _ _ _ _ _ _ _ _ _ _ _ _ _ _ _ _ _ _ => D.hung.length - (intOf i).toNat)
      case atStart => exact ⟨0, Nat.zero_le _, rfl, rr, hbr⟩
      case round =>
        clear rr hbr hD hsz p0
        rename_i wr0
        obtain ⟨k, hk, rfl, rr, hbr⟩ := hrel
        have hD := h.below (HB'.out ▸ hbr)
        have hsz := rr.size
        obtain ⟨aS2, cS2, aL2, cL2, hp, hS, hL⟩ := hD.cells
        obtain ⟨_, _, e2, hnL, hmL, hL2⟩ := hL.shape
        simp only [Value.slice.injEq, true_and] at e2
        obtain ⟨rfl, rfl⟩ := e2
        have p1 : wr.cell? ⟨p, 1, none⟩ = some (.slice aL2 D.hung.length cL2) := by rw [cell_of_row _ _ _ _ _ _ hp]; rfl
        by_cases hlt2 : k < D.hung.length
        · have hd2 : decide ((k : Int) < (D.hung.length : Int)) = true := by simpa using hlt2
          have hv1 := hv.below (HB'.out ▸ hbr)
          obtain ⟨a, cap, rfl, hlc, hmx, hnil, hc⟩ := hv1
          unfold maxLen at hmx
          clear hS
          go_wp2_with fail
          go_loop [8, 9, 47, 48, 49, 50, 51, 52, 53, 54, 55, 56, 57, 58, 59, 60, 61] (fun is j _ _ _ _ _ _ _ _ _ _ _ _ _ _ _ => ∃ m : Nat, m ≤ stay.length ∧ j = .int .i64 (m : Int) ∧ is = .bool (decide ((k : Int) ∈ stay.take m))) (fun _ j _ _ _ _ _ _ _ _ _ _ _ _ _ _ _ => stay.length - (intOf j).toNat)
          case atStart => exact ⟨0, Nat.zero_le _, rfl, by simp⟩
          case round =>
            obtain ⟨m, hm, rfl, rfl⟩ := hrel
            by_cases hlm : m < stay.length
            · have hdm : decide ((m : Int) < (stay.length : Int)) = true := by simpa using hlm
              obtain ⟨x, rfl⟩ : ∃ x, a = some x := by
                cases a with
                | none => have := hnil rfl; omega
                | some x => exact ⟨x, rfl⟩
              obtain ⟨hsp, hcl⟩ := hc x rfl
              obtain ⟨xb, xo, xs⟩ := x
              obtain rfl : xs = none := hsp (by omega)
              have q1 := hcl m hlm
              dsimp only at q1
              have m0 : (0 : Int) ≤ (m : Int) := by omega
              have m1 : (m : Int) < (stay.length : Int) := by omega
              have hstep : decide ((k : Int) ∈ stay.take (m + 1)) = (decide ((k : Int) ∈ stay.take m) || (stay[m] == (k : Int))) := by
                rw [List.take_add_one, List.getElem?_eq_getElem hlm]
                simp only [Option.toList_some, List.mem_append, List.mem_singleton, Bool.decide_or]
                congr 1
                rw [Bool.eq_iff_iff, decide_eq_true_iff, beq_iff_eq]
                exact eq_comm
              cases hin : decide ((k : Int) ∈ stay.take m) with
              | true =>
                rw [hin, Bool.true_or] at hstep
                have HS := Lib.hid hstep
                clear hstep hc hnil hsp hcl hin hL2
                go_wp2_with fail
                go_round
                case rel => exact ⟨m + 1, by omega, by simp, by rw [HS.out]⟩
                case measure => simp [intOf]; omega
              | false =>
                rw [hin, Bool.false_or] at hstep
                have HS := Lib.hid hstep
                clear hstep hc hnil hsp hcl hin hL2
                cases hbe : (stay[m] == (k : Int)) <;>
                · go_wp2_with fail
                  go_round
                  case rel => exact ⟨m + 1, by omega, by simp, by rw [HS.out, hbe]⟩
                  case measure => simp [intOf]; omega
            · obtain rfl : m = stay.length := by omega
              have hdm : decide ((stay.length : Int) < (stay.length : Int)) = false := by simp
              rw [List.take_length]
              clear hc hnil
              have hone : ∀ r, crashTo D stay (k + 1) = r → RefAt B' wr q (made D.n r) → RefAt B' wr q (made D.n (crashTo D stay (k + 1))) := fun r e h => e ▸ h
              cases hin : decide ((k : Int) ∈ stay) with
              | false =>
                have hnot : (k : Int) ∉ stay := by simpa using hin
                have rr2 := hone _ (by simp [crashTo, hnot]) rr
                clear hone hL2 hin
                go_wp2_with fail
                go_roundw
                case rel => exact ⟨k + 1, by omega, by simp, rr2, hbr⟩
                case measure => simp [intOf]; omega
              | true =>
                have hmem : (k : Int) ∈ stay := by simpa using hin
                clear hone hin
                obtain ⟨gL, rfl, hgL, hcL⟩ := hL2 (by omega)
                obtain ⟨uk, z0, z1, hmk⟩ := hcL k hlt2
                obtain ⟨ua, uc, hue, _⟩ := id hmk.isB
                obtain ⟨hyn, hyl⟩ := hok.hung _ (List.getElem_mem hlt2)
                rw [hyl] at hue
                obtain ⟨usL, _, hoL, _⟩ := id hL
                obtain ⟨_, curL, hgLh⟩ := ownsRow_kind hoL (k := gL) rfl
                obtain ⟨aR, cR, aM, cM, hq0, hSR, hLR⟩ := rr.cells
                obtain ⟨_, _, e9, hnR, hmR, hR2⟩ := hSR.shape
                simp only [Value.slice.injEq, true_and] at e9
                obtain ⟨rfl, rfl⟩ := e9
                obtain ⟨g, rfl, hgB, _⟩ := hR2 (by simp only [made]; omega)
                have z2 : wr.cell? ⟨q, 0, none⟩ = some (.slice (some ⟨g, 0, none⟩) D.n cR) := by rw [cell_of_row _ _ _ _ _ _ hq0]; rfl
                subst hue
                obtain ⟨xa, xc, w2, hrc, hm2, hb2⟩ := run_copy wr.drew _ _ hmk.isB.drew (by omega)
                rw [hyl] at hrc hm2
                have hb2' : Below wr.heap.size wr w2 := ((Below.refl wr.heap.size wr).drew).trans hb2
                have r2 := rr.below hb2'
                obtain ⟨a5, c5, b5, d5, hq5, hS5, hL5⟩ := r2.cells
                have hq2 := (hb2'.block q (lt_of_heap hq0)).trans hq0
                rw [hq2] at hq5
                simp only [Option.some.injEq, Obj.cells.injEq, Array.mk.injEq, List.cons.injEq, Value.slice.injEq, and_true, true_and] at hq5
                obtain ⟨⟨rfl, rfl⟩, rfl, rfl⟩ := hq5
                have hcr : crashTo D stay (k + 1) = putS (crashTo D stay k) D.hung[k].1 D.hung[k].2 := by simp [crashTo, hmem, List.getElem?_eq_getElem hlt2]
                have hcl := crashTo_length hok stay k
                obtain ⟨⟨c0, hc0⟩, hf0, rrs, tts⟩ := RefAt.setSafe r2.low hq2 hS5 hL5 D.hung[k].1 hyn (made D.n (crashTo D stay (k + 1))) rfl (fun i hi hne => by
                  simp only [made] at hi ⊢
                  rw [hcr, sec_putS_other hcl hyl hyn hi hne]) rfl rfl rfl rfl (.slice xa 128 xc) (by
                  simp only [made]
                  rw [hcr, sec_putS_same hcl hyl hyn]
                  exact hm2.base_le hsz)
                have hbf := (hbr.trans (hb2'.mono hsz)).trans (tts.below r2.size fun _ hk => hk.1)
                have HR := Lib.hid (And.intro rrs hbf)
                have hS0 : CrHeld q p g gL k D.n D.hung.length cR cL2 D.hung[k].1 (.slice ua 128 uc) wr.drew := ⟨z2, p1, z0, z1⟩
                have hS2' : CrHeld q p g gL k D.n D.hung.length cR cL2 D.hung[k].1 (.slice ua 128 uc) w2 := hS0.keep (hb2.block q (lt_of_heap (w := wr.drew) hq0)) (hb2.block p (lt_of_heap (w := wr.drew) hp)) (hb2.block gL (lt_of_heap (w := wr.drew) hgLh))
                have hS3' : CrHeld q p g gL k D.n D.hung.length cR cL2 D.hung[k].1 (.slice ua 128 uc) (w2.setCell ⟨g, D.hung[k].1, none⟩ (.slice xa 128 xc)) := by
                  obtain ⟨us5, _, ho5, _⟩ := hS5
                  obtain ⟨_, cur5, hg5⟩ := ownsRow_kind ho5 (k := g) rfl
                  have ho := others_set hg5 D.hung[k].1 (.slice xa 128 xc)
                  exact hS2'.keep (ho q _ _ _ hq2 (by decide)) (ho p _ _ _ ((hb2'.block p (lt_of_heap hp)).trans hp) (by decide)) (ho gL _ _ _ ((hb2'.block gL (lt_of_heap hgLh)).trans hgLh) (by decide))
                have k0 : (0 : Int) ≤ (k : Int) := by omega
                have k1 : (k : Int) < (D.hung.length : Int) := by omega
                have y0 : (0 : Int) ≤ (D.hung[k].1 : Int) := by omega
                have y1 : (D.hung[k].1 : Int) < (D.n : Int) := by omega
                have Hrc := Lib.hid hrc
                clear rrs tts hbf hcl hcr hS5 hL5 hq2 r2 hb2' hb2 hm2 hrc z0 z1 z2 hSR hLR hq0 hR2 hgLh hoL hmk hcL hL2 rr hL hp
                generalize D.hung[k].1 = yy at *
                go_wp2_with fail
                refine wp_region_noPanic ?_
                refine wp_region_held_drew (S := (CrHeld q p g gL k D.n D.hung.length cR cL2 yy (.slice ua 128 uc))) (by kernel_rfl) hS0 (fun hH => ?_)
                refine wpAnyH_take (i := 0) (oi := { dst := some 63, op := Op.move (Operand.tmp 5), type := 49, pos := "ref.go:119", after := #[], guard := none }) (v := ?_) rfl (by kernel_rfl) (by kernel_rfl) (by kernel_rfl) (fun _ _ _ h => h) (Or.inl ⟨by rfl, ?_⟩) hH ?_
                rotate_left
                · (intro w hSw; obtain ⟨q1, q2, q3, q4⟩ := hSw; go_simp; try with_reducible rfl)
                try simp only [Act.put, List.setIfInBounds_toArray, List.set_cons_zero, List.set_cons_succ]
                refine wpAnyH_take (i := 1) (oi := { dst := some 64, op := Op.nilCheck (Operand.tmp 63), type := 0, pos := "ref.go:119", after := #[{ on := 0, ground := Ground.data }], guard := none }) (v := ?_) rfl (by kernel_rfl) (by kernel_rfl) (by kernel_rfl) (fun _ _ _ h => h) (Or.inl ⟨by rfl, ?_⟩) hH ?_
                rotate_left
                · (intro w hSw; obtain ⟨q1, q2, q3, q4⟩ := hSw; go_simp; try with_reducible rfl)
                try simp only [Act.put, List.setIfInBounds_toArray, List.set_cons_zero, List.set_cons_succ]
                refine wpAnyH_take (i := 2) (oi := { dst := some 65, op := Op.fieldAddr 71 (Operand.tmp 64) 0, type := 0, pos := "ref.go:119", after := #[{ on := 1, ground := Ground.data }], guard := none }) (v := ?_) rfl (by kernel_rfl) (by kernel_rfl) (by kernel_rfl) (fun _ _ _ h => h) (Or.inl ⟨by rfl, ?_⟩) hH ?_
                rotate_left
                · (intro w hSw; obtain ⟨q1, q2, q3, q4⟩ := hSw; go_simp; try with_reducible rfl)
                try simp only [Act.put, List.setIfInBounds_toArray, List.set_cons_zero, List.set_cons_succ]
                refine wpAnyH_take (i := 3) (oi := { dst := some 66, op := Op.load 68 (Operand.tmp 65), type := 68, pos := "ref.go:119", after := #[{ on := 2, ground := Ground.data }], guard := none }) (v := ?_) rfl (by kernel_rfl) (by kernel_rfl) (by kernel_rfl) (fun _ _ _ h => h) (Or.inl ⟨by rfl, ?_⟩) hH ?_
                rotate_left
                · (intro w hSw; obtain ⟨q1, q2, q3, q4⟩ := hSw; go_simp; try with_reducible rfl)
                try simp only [Act.put, List.setIfInBounds_toArray, List.set_cons_zero, List.set_cons_succ]
                refine wpAnyH_take (i := 4) (oi := { dst := some 67, op := Op.move (Operand.tmp 0), type := 49, pos := "ref.go:119", after := #[], guard := none }) (v := ?_) rfl (by kernel_rfl) (by kernel_rfl) (by kernel_rfl) (fun _ _ _ h => h) (Or.inl ⟨by rfl, ?_⟩) hH ?_
                rotate_left
                · (intro w hSw; obtain ⟨q1, q2, q3, q4⟩ := hSw; go_simp; try with_reducible rfl)
                try simp only [Act.put, List.setIfInBounds_toArray, List.set_cons_zero, List.set_cons_succ]
                refine wpAnyH_take (i := 5) (oi := { dst := some 68, op := Op.nilCheck (Operand.tmp 67), type := 0, pos := "ref.go:119", after := #[{ on := 4, ground := Ground.data }], guard := none }) (v := ?_) rfl (by kernel_rfl) (by kernel_rfl) (by kernel_rfl) (fun _ _ _ h => h) (Or.inl ⟨by rfl, ?_⟩) hH ?_
                rotate_left
                · (intro w hSw; obtain ⟨q1, q2, q3, q4⟩ := hSw; go_simp; try with_reducible rfl)
                try simp only [Act.put, List.setIfInBounds_toArray, List.set_cons_zero, List.set_cons_succ]
                refine wpAnyH_take (i := 6) (oi := { dst := some 69, op := Op.fieldAddr 71 (Operand.tmp 68) 1, type := 0, pos := "ref.go:119", after := #[{ on := 5, ground := Ground.data }], guard := none }) (v := ?_) rfl (by kernel_rfl) (by kernel_rfl) (by kernel_rfl) (fun _ _ _ h => h) (Or.inl ⟨by rfl, ?_⟩) hH ?_
                rotate_left
                · (intro w hSw; obtain ⟨q1, q2, q3, q4⟩ := hSw; go_simp; try with_reducible rfl)
                try simp only [Act.put, List.setIfInBounds_toArray, List.set_cons_zero, List.set_cons_succ]
                refine wpAnyH_take (i := 7) (oi := { dst := some 70, op := Op.load 69 (Operand.tmp 69), type := 69, pos := "ref.go:119", after := #[{ on := 6, ground := Ground.data }], guard := none }) (v := ?_) rfl (by kernel_rfl) (by kernel_rfl) (by kernel_rfl) (fun _ _ _ h => h) (Or.inl ⟨by rfl, ?_⟩) hH ?_
                rotate_left
                · (intro w hSw; obtain ⟨q1, q2, q3, q4⟩ := hSw; go_simp; try with_reducible rfl)
                try simp only [Act.put, List.setIfInBounds_toArray, List.set_cons_zero, List.set_cons_succ]
                refine wpAnyH_take (i := 8) (oi := { dst := some 71, op := Op.move (Operand.tmp 7), type := 3, pos := "ref.go:119", after := #[], guard := none }) (v := ?_) rfl (by kernel_rfl) (by kernel_rfl) (by kernel_rfl) (fun _ _ _ h => h) (Or.inl ⟨by rfl, ?_⟩) hH ?_
                rotate_left
                · (intro w hSw; obtain ⟨q1, q2, q3, q4⟩ := hSw; go_simp; try with_reducible rfl)
                try simp only [Act.put, List.setIfInBounds_toArray, List.set_cons_zero, List.set_cons_succ]
                refine wpAnyH_take (i := 9) (oi := { dst := some 72, op := Op.indexAddr 69 (Operand.tmp 70) (Operand.tmp 71), type := 0, pos := "ref.go:119", after := #[{ on := 7, ground := Ground.data }, { on := 8, ground := Ground.data }], guard := none }) (v := ?_) rfl (by kernel_rfl) (by kernel_rfl) (by kernel_rfl) (fun _ _ _ h => h) (Or.inl ⟨by rfl, ?_⟩) hH ?_
                rotate_left
                · (intro w hSw; obtain ⟨q1, q2, q3, q4⟩ := hSw; go_simp; try with_reducible rfl)
                try simp only [Act.put, List.setIfInBounds_toArray, List.set_cons_zero, List.set_cons_succ]
                refine wpAnyH_take (i := 10) (oi := { dst := some 73, op := Op.fieldAddr 76 (Operand.tmp 72) 0, type := 0, pos := "ref.go:119", after := #[{ on := 9, ground := Ground.data }], guard := none }) (v := ?_) rfl (by kernel_rfl) (by kernel_rfl) (by kernel_rfl) (fun _ _ _ h => h) (Or.inl ⟨by rfl, ?_⟩) hH ?_
                rotate_left
                · (intro w hSw; obtain ⟨q1, q2, q3, q4⟩ := hSw; go_simp; try with_reducible rfl)
                try simp only [Act.put, List.setIfInBounds_toArray, List.set_cons_zero, List.set_cons_succ]
                refine wpAnyH_take (i := 11) (oi := { dst := some 74, op := Op.load 3 (Operand.tmp 73), type := 3, pos := "ref.go:119", after := #[{ on := 10, ground := Ground.data }], guard := none }) (v := ?_) rfl (by kernel_rfl) (by kernel_rfl) (by kernel_rfl) (fun _ _ _ h => h) (Or.inl ⟨by rfl, ?_⟩) hH ?_
                rotate_left
                · (intro w hSw; obtain ⟨q1, q2, q3, q4⟩ := hSw; go_simp; try with_reducible rfl)
                try simp only [Act.put, List.setIfInBounds_toArray, List.set_cons_zero, List.set_cons_succ]
                refine wpAnyH_take (i := 12) (oi := { dst := some 75, op := Op.move (Operand.tmp 0), type := 49, pos := "ref.go:119", after := #[], guard := none }) (v := ?_) rfl (by kernel_rfl) (by kernel_rfl) (by kernel_rfl) (fun _ _ _ h => h) (Or.inl ⟨by rfl, ?_⟩) hH ?_
                rotate_left
                · (intro w hSw; obtain ⟨q1, q2, q3, q4⟩ := hSw; go_simp; try with_reducible rfl)
                try simp only [Act.put, List.setIfInBounds_toArray, List.set_cons_zero, List.set_cons_succ]
                refine wpAnyH_take (i := 13) (oi := { dst := some 76, op := Op.nilCheck (Operand.tmp 75), type := 0, pos := "ref.go:119", after := #[{ on := 12, ground := Ground.data }], guard := none }) (v := ?_) rfl (by kernel_rfl) (by kernel_rfl) (by kernel_rfl) (fun _ _ _ h => h) (Or.inl ⟨by rfl, ?_⟩) hH ?_
                rotate_left
                · (intro w hSw; obtain ⟨q1, q2, q3, q4⟩ := hSw; go_simp; try with_reducible rfl)
                try simp only [Act.put, List.setIfInBounds_toArray, List.set_cons_zero, List.set_cons_succ]
                refine wpAnyH_take (i := 14) (oi := { dst := some 77, op := Op.fieldAddr 71 (Operand.tmp 76) 1, type := 0, pos := "ref.go:119", after := #[{ on := 13, ground := Ground.data }], guard := none }) (v := ?_) rfl (by kernel_rfl) (by kernel_rfl) (by kernel_rfl) (fun _ _ _ h => h) (Or.inl ⟨by rfl, ?_⟩) hH ?_
                rotate_left
                · (intro w hSw; obtain ⟨q1, q2, q3, q4⟩ := hSw; go_simp; try with_reducible rfl)
                try simp only [Act.put, List.setIfInBounds_toArray, List.set_cons_zero, List.set_cons_succ]
                refine wpAnyH_take (i := 15) (oi := { dst := some 78, op := Op.load 69 (Operand.tmp 77), type := 69, pos := "ref.go:119", after := #[{ on := 14, ground := Ground.data }], guard := none }) (v := ?_) rfl (by kernel_rfl) (by kernel_rfl) (by kernel_rfl) (fun _ _ _ h => h) (Or.inl ⟨by rfl, ?_⟩) hH ?_
                rotate_left
                · (intro w hSw; obtain ⟨q1, q2, q3, q4⟩ := hSw; go_simp; try with_reducible rfl)
                try simp only [Act.put, List.setIfInBounds_toArray, List.set_cons_zero, List.set_cons_succ]
                refine wpAnyH_take (i := 16) (oi := { dst := some 79, op := Op.move (Operand.tmp 7), type := 3, pos := "ref.go:119", after := #[], guard := none }) (v := ?_) rfl (by kernel_rfl) (by kernel_rfl) (by kernel_rfl) (fun _ _ _ h => h) (Or.inl ⟨by rfl, ?_⟩) hH ?_
                rotate_left
                · (intro w hSw; obtain ⟨q1, q2, q3, q4⟩ := hSw; go_simp; try with_reducible rfl)
                try simp only [Act.put, List.setIfInBounds_toArray, List.set_cons_zero, List.set_cons_succ]
                refine wpAnyH_take (i := 17) (oi := { dst := some 80, op := Op.indexAddr 69 (Operand.tmp 78) (Operand.tmp 79), type := 0, pos := "ref.go:119", after := #[{ on := 15, ground := Ground.data }, { on := 16, ground := Ground.data }], guard := none }) (v := ?_) rfl (by kernel_rfl) (by kernel_rfl) (by kernel_rfl) (fun _ _ _ h => h) (Or.inl ⟨by rfl, ?_⟩) hH ?_
                rotate_left
                · (intro w hSw; obtain ⟨q1, q2, q3, q4⟩ := hSw; go_simp; try with_reducible rfl)
                try simp only [Act.put, List.setIfInBounds_toArray, List.set_cons_zero, List.set_cons_succ]
                refine wpAnyH_take (i := 18) (oi := { dst := some 81, op := Op.fieldAddr 76 (Operand.tmp 80) 1, type := 0, pos := "ref.go:119", after := #[{ on := 17, ground := Ground.data }], guard := none }) (v := ?_) rfl (by kernel_rfl) (by kernel_rfl) (by kernel_rfl) (fun _ _ _ h => h) (Or.inl ⟨by rfl, ?_⟩) hH ?_
                rotate_left
                · (intro w hSw; obtain ⟨q1, q2, q3, q4⟩ := hSw; go_simp; try with_reducible rfl)
                try simp only [Act.put, List.setIfInBounds_toArray, List.set_cons_zero, List.set_cons_succ]
                refine wpAnyH_take (i := 19) (oi := { dst := some 82, op := Op.load 30 (Operand.tmp 81), type := 30, pos := "ref.go:119", after := #[{ on := 18, ground := Ground.data }], guard := none }) (v := ?_) rfl (by kernel_rfl) (by kernel_rfl) (by kernel_rfl) (fun _ _ _ h => h) (Or.inl ⟨by rfl, ?_⟩) hH ?_
                rotate_left
                · (intro w hSw; obtain ⟨q1, q2, q3, q4⟩ := hSw; go_simp; try with_reducible rfl)
                try simp only [Act.put, List.setIfInBounds_toArray, List.set_cons_zero, List.set_cons_succ]
                refine wpAnyH_ready (rs := [20]) (by kernel_rfl) (by simp) ?_
                refine AllReadyH.cons (o := { dst := some 83, op := Op.call { callee := Callee.builtin Builtin.append, args := #[Operand.const (Value.slice none 0 0), Operand.tmp 82], argTypes := #[30, 30] }, type := 30, pos := "ref.go:119", after := #[{ on := 19, ground := Ground.data }], guard := none }) rfl (fun K hK => ?_) AllReadyH.nil
                refine step_append_run rfl (.const (.slice none 0 0)) (.tmp 82) 30 30 (by rfl) _ _ _ (by rfl) (by rfl) Hrc.out ?_
                refine hK.out _ _ hS2' (fun hH => ?_)
                clear hK K
                try simp only [Act.put, List.setIfInBounds_toArray, List.set_cons_zero, List.set_cons_succ]
                refine wpAnyH_take (i := 21) (oi := { dst := some 84, op := Op.indexAddr 68 (Operand.tmp 66) (Operand.tmp 74), type := 0, pos := "ref.go:119", after := #[{ on := 3, ground := Ground.data }, { on := 11, ground := Ground.data }, { on := 0, ground := Ground.phase }, { on := 1, ground := Ground.phase }, { on := 2, ground := Ground.phase }, { on := 3, ground := Ground.phase }, { on := 4, ground := Ground.phase }, { on := 5, ground := Ground.phase }, { on := 6, ground := Ground.phase }, { on := 7, ground := Ground.phase }, { on := 8, ground := Ground.phase }, { on := 9, ground := Ground.phase }, { on := 10, ground := Ground.phase }, { on := 11, ground := Ground.phase }, { on := 12, ground := Ground.phase }, { on := 13, ground := Ground.phase }, { on := 14, ground := Ground.phase }, { on := 15, ground := Ground.phase }, { on := 16, ground := Ground.phase }, { on := 17, ground := Ground.phase }, { on := 18, ground := Ground.phase }, { on := 19, ground := Ground.phase }, { on := 20, ground := Ground.phase }], guard := none }) (v := ?_) rfl (by kernel_rfl) (by kernel_rfl) (by kernel_rfl) (fun _ _ _ h => h) (Or.inl ⟨by rfl, ?_⟩) hH ?_
                rotate_left
                · (intro w hSw; obtain ⟨q1, q2, q3, q4⟩ := hSw; go_simp; try with_reducible rfl)
                try simp only [Act.put, List.setIfInBounds_toArray, List.set_cons_zero, List.set_cons_succ]
                refine wpAnyH_ready (rs := [22]) (by kernel_rfl) (by simp) ?_
                refine AllReadyH.cons (o := { dst := none, op := Op.store 30 (Operand.tmp 84) (Operand.tmp 83), type := 0, pos := "ref.go:119", after := #[{ on := 21, ground := Ground.data }, { on := 20, ground := Ground.data }, { on := 20, ground := Ground.chain }, { on := 0, ground := Ground.phase }, { on := 1, ground := Ground.phase }, { on := 2, ground := Ground.phase }, { on := 3, ground := Ground.phase }, { on := 4, ground := Ground.phase }, { on := 5, ground := Ground.phase }, { on := 6, ground := Ground.phase }, { on := 7, ground := Ground.phase }, { on := 8, ground := Ground.phase }, { on := 9, ground := Ground.phase }, { on := 10, ground := Ground.phase }, { on := 11, ground := Ground.phase }, { on := 12, ground := Ground.phase }, { on := 13, ground := Ground.phase }, { on := 14, ground := Ground.phase }, { on := 15, ground := Ground.phase }, { on := 16, ground := Ground.phase }, { on := 17, ground := Ground.phase }, { on := 18, ground := Ground.phase }, { on := 19, ground := Ground.phase }, { on := 20, ground := Ground.phase }], guard := none }) rfl (fun K hK => ?_) AllReadyH.nil
                go_simp
                refine hK.out _ _ hS3' (fun hH => ?_)
                clear hK K
                try simp only [Act.put, List.setIfInBounds_toArray, List.set_cons_zero, List.set_cons_succ]
                refine wpAnyH_done (by kernel_rfl) ?_ _
                refine NoPanic.normal ?_
                obtain ⟨rrs, hbf⟩ := HR.out
                go_wp2_with fail
                go_roundw
                case rel => exact ⟨k + 1, by omega, by simp, rrs, hbf⟩
                case measure => simp [intOf]; omega
        · obtain rfl : k = D.hung.length := by omega
          have hd2 : decide ((D.hung.length : Int) < (D.hung.length : Int)) = false := by simp
          clear hp hS hL hL2
          go_wp2_with fail
          go_ret
          exact ⟨q, rfl, rr, hbr⟩
end Go.Proofs.Ytncoclbmnhbgbaa
