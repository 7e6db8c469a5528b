/- list: what an iterator goes through, at most so many. -/
import Derived.Test.YtaohneahlcnahaaAgIter
set_option linter.unusedVariables false
set_option linter.unusedSimpArgs false
namespace Go.Proofs.Ytaohneahlcnahaa
open Go.RowKit Go.Shelf
attribute [local go_sem] Oper.semAt_some

/-- an iterator's value goes through xs, wherever a loop gathers into a variable of its own that is younger than w -/
def Goes (w : World) (gf : Nat) (lb : Array Value) (xs : List Du) : Prop :=
  (∀ args w, (callFunc gf args).run Try.prog w = .ok (.enter gf args) w) ∧
  ∀ (n b : Nat) (W : World), 1 ≤ n → Below w.heap.size w W → (Boxed W b 27 (.slice none 0 0) ∨ Boxed W b 39 (.slice none 0 0)) →
    SeqStopsK Fence.wide n Try.prog gf lb (fun x : Du => #[.agg #[.int .i64 x.1, .int .i64 x.2]]) (KeptV b) (fun ys => ys = xs) (fun pre => pre <+: xs) xs.length W
theorem Goes.below {w w' : World} {gf : Nat} {lb : Array Value} {xs : List Du} (h : Goes w gf lb xs) (hb : Below w.heap.size w w') : Goes w' gf lb xs :=
  ⟨h.1, fun n b W hn hW hbx => h.2 n b W hn (hb.trans (hW.mono hb.size)) hbx⟩
/-- such a variable's block is none of another type -/
theorem box_ne {W : World} {b k : Nat} {c : Array Value} {T : TypeId} {fr : Nat × Nat} (h : Boxed W b 27 (.slice none 0 0) ∨ Boxed W b 39 (.slice none 0 0)) (hk : W.heap[k]? = some (.cells c T fr)) (h1 : T ≠ 27) (h2 : T ≠ 39) : b ≠ k := by
  rintro rfl
  rcases h with h | h
  · have h : W.heap[b]? = _ := h
    rw [hk] at h
    injection h with h
    injection h with _ h
    exact h1 h
  · have h : W.heap[b]? = _ := h
    rw [hk] at h
    injection h with h
    injection h with _ h
    exact h2 h
theorem box_nil {W : World} {b : Nat} (h : Boxed W b 27 (.slice none 0 0) ∨ Boxed W b 39 (.slice none 0 0)) : W.cell? ⟨b, 0, none⟩ = some (.slice none 0 0) := h.elim (·.cell) (·.cell)
theorem list_zero (w : World) (gf : Nat) (lb : Array Value) : Calls Try.prog 10 #[.func (.func gf) #[] lb, .int .i64 0] w fun e w' => e = .returned (.slice none 0 0) ∧ Below w.heap.size w w' := by
  have hb : Below w.heap.size w ((w.alloc (.cells #[.int .i64 0] 3)).alloc (.cells #[.slice none 0 0] 27)) := ((Below.refl _ _).alloc (Nat.le_refl _) _).alloc (by simp) _
  have hnf : ∀ w, (binOp BinOp.eql 30 (.func (.func gf) #[] lb) .nilFunc).run Try.prog w = .ok (.bool false) w := fun w => by kernel_rfl
  go_enter Try.func10, Try.ntmps10
  go_wp2
  go_ret
  exact ⟨rfl, hb⟩
def ListPost (w : World) (xs : List Du) (e : Ending) (w' : World) : Prop := ∃ v, e = .returned v ∧ MineD w.heap.size w' v xs ∧ Below w.heap.size w w'
set_option maxRecDepth 100000 in
set_option maxHeartbeats 4000000 in
theorem list_pos (w : World) (gf : Nat) (lb : Array Value) (xs : List Du) (hg : Goes w gf lb xs) (m : Nat) (h0 : 0 < m) (hm : m ≤ 1000000) :
    Calls Try.prog 10 #[.func (.func gf) #[] lb, .int .i64 (m : Int)] w (ListPost w (xs.take m)) := by
  refine callsIn_wide (n := 3).1 ?_
  have hm0 : ((m : Int) == 0) = false := by simp; omega
  have bM := Boxed.new w 3 (.int .i64 (m : Int))
  have bO := Boxed.new (w.alloc (.cells #[.int .i64 (m : Int)] 3)) 27 (.slice none 0 0)
  have bM2 := bM.alloc (.cells #[.slice none 0 0] 27)
  rw [World.size_alloc] at bO
  have hB0 : Below w.heap.size w ((w.alloc (.cells #[.int .i64 (m : Int)] 3)).alloc (.cells #[.slice none 0 0] 27)) := ((Below.refl _ w).alloc (Nat.le_refl _) _).alloc (by simp) _
  have hsz : ((w.alloc (.cells #[.int .i64 (m : Int)] 3)).alloc (.cells #[.slice none 0 0] 27)).heap.size = w.heap.size + 2 := by simp
  have hnf : ∀ w, (binOp BinOp.eql 30 (.func (.func gf) #[] lb) .nilFunc).run Try.prog w = .ok (.bool false) w := fun w => by kernel_rfl
  refine callsIn_of_wp_marks Try.func10 rfl trivial ?_ rfl
  simp only [Try.ntmps10, List.size_toArray, List.length_cons, List.length_nil, Nat.reduceAdd, Nat.reduceSub, Array.replicate_succ, Array.replicate_zero, List.push_toArray, List.append_toArray, List.nil_append, List.cons_append]
  gi_wp2_with fail
  obtain ⟨W0, hW0⟩ : ∃ W0, (w.alloc (.cells #[.int .i64 (m : Int)] 3)).alloc (.cells #[.slice none 0 0] 27) = W0 := ⟨_, rfl⟩
  rw [hW0] at bO bM2 hB0 hsz ⊢
  clear hW0 bM
  refine wpIn_rangeFunc_ownH (F := Fence.wide) rfl (by omega) (gf := gf) (lb := lb) rfl trivial hg.1
    (hg.2 2 (w.heap.size + 1) W0 (by omega) hB0 (.inl bO)) KeptV.trans (fun W l o o' hl h1 h2 _ => KeptV.put W l o o' h1 h2 (by omega)) (Below.refl _ _) (fun _ => rfl)
    (fun pre W => ((∃ v, Boxed W (w.heap.size + 1) 27 v ∧ W.ownsRow w.heap.size 37 2 v pre.length (dv pre) ∧ True) ∧ Boxed W w.heap.size 3 (.int .i64 (m : Int))) ∧ pre.length < m ∧ Below w.heap.size w W)
    (fun c pre W => (∃ v, Boxed W (w.heap.size + 1) 27 v ∧ W.ownsRow w.heap.size 37 2 v pre.length (dv pre) ∧ True) ∧ (c = .exit 0 ∧ pre.length = m) ∧ Below w.heap.size w W)
    (OwnFrom.and (OwnFrom.and (Own.from (holdsRow_own w.heap.size (w.heap.size + 1) 27 37 2 (fun pre : List Du => pre.length) (fun pre => dv pre) (fun _ _ => True)) _) (Own.from (boxed_own _ _ (fun _ => .int .i64 (m : Int))) _)) (OwnFrom.and (ownFrom_pure _ (fun pre : List Du => pre.length < m)) (ownFrom_below (Nat.le_refl _) (by omega))))
    (fun c => OwnFrom.and (Own.from (holdsRow_own w.heap.size (w.heap.size + 1) 27 37 2 (fun pre : List Du => pre.length) (fun pre => dv pre) (fun _ _ => True)) _) (OwnFrom.and (ownFrom_pure _ (fun pre : List Du => c = .exit 0 ∧ pre.length = m)) (ownFrom_below (Nat.le_refl _) (by omega))))
    ⟨⟨⟨_, bO, MineD.nil _ _, trivial⟩, bM2⟩, h0, hB0⟩
    (fun x a' W => ∃ Bx, w.heap.size + 1 < Bx ∧ W.heap[Bx]? = some (.cells #[.int .i64 x.1, .int .i64 x.2] 37 (0, 0)) ∧ a' = { tmps := #[.func (.func gf) #[] lb, .int .i64 (m : Int), undef, .pointer (some ⟨w.heap.size, 0, none⟩), .slice none 0 0, .pointer (some ⟨w.heap.size + 1, 0, none⟩), .pointer (some ⟨Bx, 0, none⟩), .func (.func gf) #[] lb, .bool false, .bool false, .int .i64 (m : Int), .bool false, .bool false, .func (.func gf) #[] lb, .agg #[.int .i64 x.1, .int .i64 x.2], undef, undef, undef, undef, undef, undef, undef, undef, undef], defers := [] })
    (fun x a' _ X Y row hs hg hr => by obtain ⟨Bx, h1, h2, h3⟩ := hs; exact ⟨Bx, h1, cells_own Bx _ _ _ () X Y row h2 hg (fun r e => (hr r e).2), h3⟩)
    ?assign ?body ?done ?stop
  case assign =>
    rintro l pre x W K ⟨⟨⟨v, bv, rv, _⟩, bm⟩, hl, hb⟩ hK
    gi_wp2
    exact hK _ _ ((KeepsOthers.alloc _ _).from _) (KeptV.of_below bv.lt ((Below.refl _ W).alloc (Nat.le_refl _) _)) ⟨⟨⟨v, bv.alloc _, World.ownsRow.alloc rv _, trivial⟩, bm.alloc _⟩, hl, hb.alloc hb.size _⟩ ⟨W.heap.size, bv.lt, heap_alloc_new _ _, rfl⟩
  case body =>
    rintro l pre x a' W hl ⟨r, hr⟩ ⟨⟨⟨v, bv, rv, _⟩, bm⟩, hlm, hb⟩ ⟨Bx, hBx, hx, rfl⟩ hlt
    have hxd : IsD (W.alloc (.cells #[.int .i64 x.1, .int .i64 x.2] 37)) (.slice (some ⟨W.heap.size, 0, none⟩) 1 1) [x] := (MineD.lit (w := W) [x] (Nat.le_refl _) (by simp [maxLen])).isD
    obtain ⟨v', w1, hr1, m1, _, hg1, _, hown⟩ := run_dues (W.alloc (.cells #[.int .i64 x.1, .int .i64 x.2] 37)) w.heap.size v pre (World.ownsRow.alloc rv _) (.slice (some ⟨W.heap.size, 0, none⟩) 1 1) [x] hxd (by simp; omega) (by have := hb.size; simp; omega)
    obtain ⟨bv1, bv2, r2, k2, b2⟩ := bv.appended (by decide) rv hb.size (by omega) m1 hg1
    have kv := KeptV.appended bv bv2 rv r2 hg1 hown
    have bm2 : Boxed (w1.setCell ⟨w.heap.size + 1, 0, none⟩ v') w.heap.size 3 (.int .i64 (m : Int)) := ((bm.alloc _).kept hg1 ((bm.alloc (.cells #[.int .i64 x.1, .int .i64 x.2] 37)).not_row (by decide) (World.ownsRow.alloc rv _))).other (by omega) _
    have bm1 : Boxed w1 w.heap.size 3 (.int .i64 (m : Int)) := (bm.alloc _).kept hg1 ((bm.alloc (.cells #[.int .i64 x.1, .int .i64 x.2] 37)).not_row (by decide) (World.ownsRow.alloc rv _))
    have hfin : ∀ M, M = m → (∃ v, Boxed (w1.setCell ⟨w.heap.size + 1, 0, none⟩ v') (w.heap.size + 1) 27 v ∧ (w1.setCell ⟨w.heap.size + 1, 0, none⟩ v').ownsRow w.heap.size 37 2 v (pre ++ [x]).length (dv (pre ++ [x])) ∧ True) := fun _ _ => ⟨v', bv2, r2, trivial⟩
    have bb := hb.trans b2
    obtain ⟨a4, N, k4, rfl, hN⟩ : ∃ a n k, v' = .slice a n k ∧ n = pre.length + 1 := by obtain ⟨a, k, h, _⟩ := MineD.isD m1; exact ⟨a, _, k, h, by simp⟩
    have cv := bv.cell
    have cx0 : W.cell? ⟨Bx, 0, none⟩ = some (.int .i64 x.1) := (cell_of_row _ _ _ _ _ _ hx).trans rfl
    have cx1 : W.cell? ⟨Bx, 1, none⟩ = some (.int .i64 x.2) := (cell_of_row _ _ _ _ _ _ hx).trans rfl
    have cv1 := bv1.cell
    have fv1 := bv1.frozen
    have cm2 := bm2.cell
    have cv2 := bv2.cell
    have HF := Lib.hid (hfin m rfl)
    have HK := Lib.hid k2
    have HKV := Lib.hid kv
    have HBB := Lib.hid bb
    have HBM := Lib.hid bm2
    have HN := Lib.hid hN
    clear hfin k2 kv bb bv bv1 bv2 rv r2 m1 hg1 hown bm bm1 b2 hb hxd hN
    by_cases hlast : pre.length + 1 = m
    · have hbe : ((N : Int) == (m : Int)) = true := by simp; have := HN.out; omega
      have HL := Lib.hid hlast
      clear hlast
      gi_wp2_with (gi_at_builtin; refine wpListIn_append_run rfl (.tmp 15) (.tmp 17) 27 27 rfl _ _ rfl rfl hr1 ?_; clear hr1)
      exact ⟨HK.out.from _, HF.out, ⟨rfl, by simp; exact HL.out⟩, HBB.out⟩
    · have hbe : ((N : Int) == (m : Int)) = false := by simp; have := HN.out; omega
      gi_wp2_with (gi_at_builtin; refine wpListIn_append_run rfl (.tmp 15) (.tmp 17) 27 27 rfl _ _ rfl rfl hr1 ?_; clear hr1)
      exact ⟨HK.out.from _, HKV.out, ⟨HF.out, HBM.out⟩, by simp; omega, HBB.out⟩
  case done =>
    rintro D ys W hD rfl ⟨⟨⟨v, bv, rv, _⟩, bm⟩, hlm, hb⟩ hK
    have hc := bv.cell
    have e : ys.take m = ys := List.take_of_length_le (by omega)
    have HE := Lib.hid e
    have RV := Lib.hid rv
    clear e rv
    gi_wp2
    refine ⟨by simp, .inl ⟨_, _, rfl, run_takeDeferred hK, ?_⟩⟩
    exact ⟨_, results_tmp rfl _ _ _, v, rfl, by rw [HE.out]; exact ownsRow_putObj RV.out _ hK rfl, hb.trans (belowK_b (w := w) (Nat.le_refl _) W D _ _ (by omega) hK rfl rfl)⟩
  case stop =>
    rintro D c pre W hD hpre ⟨⟨v, bv, rv, _⟩, ⟨rfl, hlm⟩, hb⟩ hK
    have hc := bv.cell
    have e : xs.take m = pre := by
      obtain ⟨r, rfl⟩ := hpre
      rw [← hlm]
      exact List.take_left
    have HE := Lib.hid e
    have RV := Lib.hid rv
    clear e rv
    gi_wp2
    refine ⟨by simp, .inl ⟨_, _, rfl, run_takeDeferred hK, ?_⟩⟩
    exact ⟨_, results_tmp rfl _ _ _, v, rfl, by rw [HE.out]; exact ownsRow_putObj RV.out _ hK rfl, hb.trans (belowK_b (w := w) (Nat.le_refl _) W D _ _ (by omega) hK rfl rfl)⟩
end Go.Proofs.Ytaohneahlcnahaa
