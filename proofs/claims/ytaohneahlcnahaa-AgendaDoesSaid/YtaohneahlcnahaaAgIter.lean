/- agenda: the iterators All, Up: what they go through. -/
import Derived.Test.YtaohneahlcnahaaAgDrop
import Derived.Test.YtaohneahlcnahaaIterKit
import Derived.Shelf.Abstract
import Derived.OwnWalkIn
import Derived.TacticsInMore
import Derived.LoopNIn
import Derived.LoopIn
set_option linter.unusedVariables false
set_option linter.unusedSimpArgs false
namespace Go.Proofs.Ytaohneahlcnahaa
open Go.RowKit Go.Shelf
attribute [local go_sem] Oper.semAt_some

/-- the predicate of All, as a value -/
abbrev allF : Value := .func (.func 24) #[] #[]
/-- the predicate of Up, as a value: the day lies in block d -/
abbrev upF (d : Nat) : Value := .func (.func 25) #[] #[.pointer (some ⟨d, 0, none⟩)]
theorem allF_any (w : World) (x : Du) : Calls Try.prog 24 #[.agg #[.int .i64 x.1, .int .i64 x.2]] w fun e w' => e = .returned (.bool true) ∧ Below w.heap.size w w' := by
  have b2 : Below w.heap.size w (w.alloc (.cells #[.int .i64 x.1, .int .i64 x.2] 37)) := (Below.refl _ w).alloc (Nat.le_refl _) _
  go_enter Try.func24, Try.ntmps24
  go_wp2
  go_ret
  exact ⟨rfl, b2⟩
theorem upF_any (w : World) (d : Nat) (day : Int) (hd : w.cell? ⟨d, 0, none⟩ = some (.int .i64 day)) (x : Du) :
    Calls Try.prog 25 #[.agg #[.int .i64 x.1, .int .i64 x.2], .pointer (some ⟨d, 0, none⟩)] w fun e w' => e = .returned (.bool (decide (x.1 ≤ day))) ∧ Below w.heap.size w w' := by
  have hd2 := cells_below ((Below.refl _ w).alloc (Nat.le_refl _) (.cells (dv1 x).toArray 37)) _ _ hd
  have b2 : Below w.heap.size w (w.alloc (.cells #[.int .i64 x.1, .int .i64 x.2] 37)) := (Below.refl _ w).alloc (Nat.le_refl _) _
  have hd3 : (w.alloc (.cells #[.int .i64 x.1, .int .i64 x.2] 37)).cell? ⟨d, 0, none⟩ = some (.int .i64 day) := hd2
  have hlt := World.block_lt_of_cell? w _ hd
  dsimp only at hlt
  clear hd2
  go_enter Try.func25, Try.ntmps25
  go_wp2
  go_ret
  exact ⟨rfl, b2⟩
/-- the first entries, up to a day -/
def upL (L : List Du) (day : Int) : List Du := L.takeWhile fun x => decide (x.1 ≤ day)
theorem upL_stop {L : List Du} {day : Int} : ∀ {k : Nat} (hk : k < L.length), (∀ x ∈ L.take k, x.1 ≤ day) → ¬ L[k].1 ≤ day → L.take k = upL L day := by
  induction L with
  | nil => intro k hk; simp at hk
  | cons y r ih =>
    intro k hk h hx
    cases k with
    | zero =>
      simp only [List.getElem_cons_zero] at hx
      simp [upL, hx]
    | succ k =>
      have hy : y.1 ≤ day := h y (by simp)
      rw [List.take_succ_cons, ih (by simpa using hk) (fun x hm => h x (by simp [hm])) (by simpa using hx)]
      simp [upL, hy]
theorem upL_all {L : List Du} {day : Int} (h : ∀ x ∈ L, x.1 ≤ day) : upL L day = L := by
  unfold upL
  induction L with
  | nil => rfl
  | cons y r ih => rw [List.takeWhile_cons_of_pos (by simpa using h y (by simp)), ih fun x hx => h x (by simp [hx])]
theorem upL_take {L : List Du} {day : Int} {k : Nat} (h : ∀ x ∈ L.take k, x.1 ≤ day) : L.take k <+: upL L day := by
  have e : upL L day = L.take k ++ upL (L.drop k) day := by
    unfold upL
    conv => lhs; rw [← List.take_append_drop k L]
    exact List.takeWhile_append_of_pos (fun x hx => by simpa using h x hx)
  rw [e]
  exact List.prefix_append _ _

set_option maxRecDepth 100000 in
set_option maxHeartbeats 4000000 in
/-- the iterator of All: it goes through L, in order -/
theorem iterAll_stops (n : Nat) (hn : 1 ≤ n) (b bp bi a B : Nat) (v : Value) (L : List Du) (w : World) (h : AgAt B w a v L) (hl : L.length ≤ 1000000) (hbp : w.heap[bp]? = some (.cells #[agptr a] 61 (0, 0)))
    (hbi : w.heap[bi]? = some (.cells #[allF] 52 (0, 0))) (hnil : w.cell? ⟨b, 0, none⟩ = some (.slice none 0 0)) (n1 : b ≠ a) (n2 : b ≠ bp) (n3 : b ≠ bi) :
    SeqStopsK Fence.wide n Try.prog 39 #[.pointer (some ⟨bp, 0, none⟩), .pointer (some ⟨bi, 0, none⟩)] (fun x : Du => #[.agg #[.int .i64 x.1, .int .i64 x.2]]) (KeptV b) (fun ys => ys = L) (fun pre => pre <+: L) L.length w := fun l J Jx W hW hJ hJx hY h0 => by
  have hb := World.block_lt_of_cell? w _ hnil
  dsimp only at hb
  have h1 := h.below hW
  have hbpW := (hW.block bp (lt_of_heap hbp)).trans hbp
  have hbiW := (hW.block bi (lt_of_heap hbi)).trans hbi
  have hnilW : W.cell? ⟨b, 0, none⟩ = some (.slice none 0 0) := (hW.cell (p := ⟨b, 0, none⟩) hb).trans hnil
  have cp : W.cell? ⟨bp, 0, none⟩ = some (agptr a) := (cell_of_row _ _ _ _ _ _ hbpW).trans rfl
  have ca : W.cell? ⟨a, 1, none⟩ = some v := (cell_of_row _ _ _ _ _ _ h1.head).trans rfl
  obtain ⟨av, cv, hv, hlc, hmx, _⟩ := h1.row.isD
  unfold maxLen at hmx
  subst hv
  have HROW := Lib.hid h1.row.isD
  have HY := Lib.hid hY
  have HJ := Lib.hid hJ
  have H0 := Lib.hid h0
  have HBI := Lib.hid hbiW
  have HBP := Lib.hid hbpW
  have HNIL := Lib.hid hnilW
  have HW := Lib.hid hW
  have hbW : b < W.heap.size := Nat.lt_of_lt_of_le hb hW.size
  clear hJ hY h0 h1 h hbp hbi hnil hbiW hbpW hnilW hJx hW
  refine callsIn_of_wp Try.func39 rfl trivial ?_ rfl
  simp only [Try.ntmps39, List.size_toArray, List.length_cons, List.length_nil, Nat.reduceAdd, Nat.reduceSub, Array.replicate_succ, Array.replicate_zero, List.push_toArray, List.append_toArray, List.nil_append, List.cons_append]
  gi_wp2_with fail
  refine ⟨trivial, ?_⟩
  refine (callsIn_wide.2 (dclone_any W _ L HROW.out hl)).mono ?_
  rintro e w1 ⟨v1, rfl, m1, b1⟩
  obtain ⟨a1, N, k1, rfl, hN, hNm⟩ : ∃ a n k, v1 = .slice a n k ∧ n = L.length ∧ n ≤ maxLen := by
    obtain ⟨a, k, h, h2, h3, _⟩ := m1.isD
    exact ⟨a, _, k, h, rfl, by omega⟩
  subst hN
  have KV1 := Lib.hid (KeptV.refl b w1)
  have HROW1 := Lib.hid m1
  have J1 := Lib.hid (abides_below HJ.out H0.out b1)
  have HBI1 := Lib.hid ((b1.block bi (lt_of_heap HBI.out)).trans HBI.out)
  have HNIL1 := Lib.hid ((b1.cell (p := ⟨b, 0, none⟩) hbW).trans HNIL.out)
  have hbw1 : b < w1.heap.size := Nat.lt_of_lt_of_le hbW b1.size
  have hs1 := b1.size
  clear m1 b1 cp ca
  gi_wp2_with fail
  gi_loopw [5, 12, 13, 14, 15, 16, 17, 18, 19, 20, 21, 22, 23, 24, 25, 26] (fun _ i _ _ _ _ _ _ _ _ _ _ _ _ _ _ wr => ∃ k : Nat, k ≤ L.length ∧ i = .int .i64 (k : Int) ∧ J (L.take k) wr ∧ KeptV b w1 wr) (fun _ i _ _ _ _ _ _ _ _ _ _ _ _ _ _ _ => L.length - (intOf i).toNat)
  case atStart => exact ⟨0, Nat.zero_le _, rfl, J1.out, KV1.out⟩
  case round =>
    obtain ⟨k, hk, rfl, hJs, hkv⟩ := hrel
    have HKV := Lib.hid hkv
    have HJs := Lib.hid hJs
    clear hkv hJs
    have hpt : ∀ k, pointsAt wr b k → w1.heap.size ≤ k := fun k hk => (HKV.out.points k hk).elim (fun h => absurd h (nil_points HNIL1.out k)) fun h => h
    have HPT := Lib.hid hpt
    clear hpt
    have hbr : b < wr.heap.size := Nat.lt_of_lt_of_le hbw1 HKV.out.size
    by_cases hlt : k < L.length
    · have hd : decide ((k : Int) < (L.length : Int)) = true := by simpa using hlt
      have i0 : (0 : Int) ≤ (k : Int) := by omega
      have i1 : (k : Int) < (L.length : Int) := by omega
      have hrow : IsD wr (.slice a1 L.length k1) L := (HROW1.out.keepOwn (fun g hg e => by
        rcases HROW1.out.2 with ⟨e2, _⟩ | ⟨g2, _, cur, e2, hB2, hg2, _⟩
        · rw [e2] at e; cases e
        · obtain rfl : g = g2 := by rw [e2] at e; simpa [Value.ownBlock] using e
          rw [hg2]
          exact HKV.out.cells g _ _ _ hg2 (fun e3 => by have := hB2; omega) (nil_points HNIL1.out g))).isD
      obtain ⟨_, _, _, had⟩ := hrow.addr
      obtain ⟨Ba, o, rfl, hc⟩ := had (by omega)
      obtain ⟨c0, c1⟩ := hc k hlt
      have hbi := HKV.out.cells bi _ _ _ HBI1.out (fun e => n3 e.symm) (nil_points HNIL1.out bi)
      obtain ⟨y, hy⟩ : ∃ y, y = L[k] := ⟨_, rfl⟩
      rw [← hy] at c0 c1
      have HYY := Lib.hid hy
      have bx : Below wr.heap.size wr (wr.alloc (.cells #[.int .i64 y.1, .int .i64 y.2] 37)) := (Below.refl _ _).alloc (Nat.le_refl _) _
      have hgx : (wr.alloc (.cells #[.int .i64 y.1, .int .i64 y.2] 37)).heap[wr.heap.size]? = some (.cells #[.int .i64 y.1, .int .i64 y.2] 37 (0, 0)) := heap_alloc_new _ _
      have ci : (wr.alloc (.cells #[.int .i64 y.1, .int .i64 y.2] 37)).cell? ⟨bi, 0, none⟩ = some (allF) := (cell_of_row _ _ _ _ _ _ ((bx.block bi (lt_of_heap hbi)).trans hbi)).trans rfl
      clear hc had hrow hy
      gi_wp2_with fail
      refine ⟨trivial, ?_⟩
      refine (callsIn_wide.2 (allF_any _ y)).mono ?_
      rintro e w3 ⟨rfl, b3⟩
      have b4 : Below wr.heap.size wr w3 := bx.trans (b3.mono (by simp))
      have x3 := (b3.block _ (lt_of_heap hgx)).trans hgx
      have x30 : w3.cell? ⟨wr.heap.size, 0, none⟩ = some (.int .i64 y.1) := (cell_of_row _ _ _ _ _ _ x3).trans rfl
      have x31 : w3.cell? ⟨wr.heap.size, 1, none⟩ = some (.int .i64 y.2) := (cell_of_row _ _ _ _ _ _ x3).trans rfl
      have hJ3 := abides_below HJ.out HJs.out b4
      have kv3 := HKV.out.trans (KeptV.of_below hbr b4)
      have KV3 := Lib.hid kv3
      clear b4 b3 bx hgx ci c0 c1 x3 kv3
      obtain ⟨fn, tmps, assign, body, hy, hR⟩ := HY.out (L.take k) y w3 hJ3 (by rw [List.length_take]; omega)
      have htk : L.take k ++ [y] = L.take (k + 1) := by rw [HYY.out, List.take_add_one, List.getElem?_eq_getElem hlt]; rfl
      have HTK := Lib.hid htk
      clear htk hJ3
      gi_wp2_with fail
      refine hR.mono ?_
      rintro e w5 (⟨rfl, hJ5, kv5⟩ | ⟨rfl, hJx5⟩)
      · have HJ5 := Lib.hid hJ5
        have KV5 := Lib.hid (KV3.out.trans kv5)
        clear hJ5 kv5
        gi_wp2_with fail
        go_roundw
        case rel => exact ⟨k + 1, by omega, by go_num, by rw [← HTK.out]; exact HJ5.out, KV5.out⟩
        case measure => simp [intOf]; omega
      · have HJX := Lib.hid hJx5
        clear hJx5
        gi_wp2_with fail
        refine bodyPost_ret (results_none rfl _ _ _) rfl ?_
        exact ⟨⟨_, rfl⟩, .inr ⟨_, ⟨L.drop (k + 1), by rw [HTK.out, List.take_append_drop]⟩, HJX.out⟩⟩
    · obtain rfl : k = L.length := by omega
      have hd : decide ((L.length : Int) < (L.length : Int)) = false := by simp
      have hJL := HJs.out
      rw [List.take_length] at hJL
      have HJL := Lib.hid hJL
      clear hJL
      gi_wp2_with fail
      go_end0
      exact ⟨⟨_, rfl⟩, .inl ⟨_, rfl, HJL.out⟩⟩

set_option maxRecDepth 100000 in
set_option maxHeartbeats 4000000 in
/-- the iterator of Up: it goes through (upL L day), in order -/
theorem iterUp_stops (n : Nat) (hn : 1 ≤ n) (b bp bi a B : Nat) (v : Value) (L : List Du) (w : World) (h : AgAt B w a v L) (hl : L.length ≤ 1000000) (d : Nat) (day : Int) (hdd : w.heap[d]? = some (.cells #[.int .i64 day] 3 (0, 0))) (n4 : b ≠ d) (hbp : w.heap[bp]? = some (.cells #[agptr a] 61 (0, 0)))
    (hbi : w.heap[bi]? = some (.cells #[upF d] 52 (0, 0))) (hnil : w.cell? ⟨b, 0, none⟩ = some (.slice none 0 0)) (n1 : b ≠ a) (n2 : b ≠ bp) (n3 : b ≠ bi) :
    SeqStopsK Fence.wide n Try.prog 39 #[.pointer (some ⟨bp, 0, none⟩), .pointer (some ⟨bi, 0, none⟩)] (fun x : Du => #[.agg #[.int .i64 x.1, .int .i64 x.2]]) (KeptV b) (fun ys => ys = (upL L day)) (fun pre => pre <+: (upL L day)) (upL L day).length w := fun l J Jx W hW hJ hJx hY h0 => by
  have hb := World.block_lt_of_cell? w _ hnil
  dsimp only at hb
  have h1 := h.below hW
  have hbpW := (hW.block bp (lt_of_heap hbp)).trans hbp
  have hbiW := (hW.block bi (lt_of_heap hbi)).trans hbi
  have hnilW : W.cell? ⟨b, 0, none⟩ = some (.slice none 0 0) := (hW.cell (p := ⟨b, 0, none⟩) hb).trans hnil
  have cp : W.cell? ⟨bp, 0, none⟩ = some (agptr a) := (cell_of_row _ _ _ _ _ _ hbpW).trans rfl
  have ca : W.cell? ⟨a, 1, none⟩ = some v := (cell_of_row _ _ _ _ _ _ h1.head).trans rfl
  obtain ⟨av, cv, hv, hlc, hmx, _⟩ := h1.row.isD
  unfold maxLen at hmx
  subst hv
  have HDD := Lib.hid ((hW.block d (lt_of_heap hdd)).trans hdd)
  clear hdd
  have HROW := Lib.hid h1.row.isD
  have HY := Lib.hid hY
  have HJ := Lib.hid hJ
  have H0 := Lib.hid h0
  have HBI := Lib.hid hbiW
  have HBP := Lib.hid hbpW
  have HNIL := Lib.hid hnilW
  have HW := Lib.hid hW
  have hbW : b < W.heap.size := Nat.lt_of_lt_of_le hb hW.size
  clear hJ hY h0 h1 h hbp hbi hnil hbiW hbpW hnilW hJx hW
  refine callsIn_of_wp Try.func39 rfl trivial ?_ rfl
  simp only [Try.ntmps39, List.size_toArray, List.length_cons, List.length_nil, Nat.reduceAdd, Nat.reduceSub, Array.replicate_succ, Array.replicate_zero, List.push_toArray, List.append_toArray, List.nil_append, List.cons_append]
  gi_wp2_with fail
  refine ⟨trivial, ?_⟩
  refine (callsIn_wide.2 (dclone_any W _ L HROW.out hl)).mono ?_
  rintro e w1 ⟨v1, rfl, m1, b1⟩
  obtain ⟨a1, N, k1, rfl, hN, hNm⟩ : ∃ a n k, v1 = .slice a n k ∧ n = L.length ∧ n ≤ maxLen := by
    obtain ⟨a, k, h, h2, h3, _⟩ := m1.isD
    exact ⟨a, _, k, h, rfl, by omega⟩
  subst hN
  have KV1 := Lib.hid (KeptV.refl b w1)
  have HROW1 := Lib.hid m1
  have J1 := Lib.hid (abides_below HJ.out H0.out b1)
  have HBI1 := Lib.hid ((b1.block bi (lt_of_heap HBI.out)).trans HBI.out)
  have HNIL1 := Lib.hid ((b1.cell (p := ⟨b, 0, none⟩) hbW).trans HNIL.out)
  have hbw1 : b < w1.heap.size := Nat.lt_of_lt_of_le hbW b1.size
  have hs1 := b1.size
  have HD1 := Lib.hid ((b1.block d (lt_of_heap HDD.out)).trans HDD.out)
  clear m1 b1 cp ca
  gi_wp2_with fail
  gi_loopw [5, 12, 13, 14, 15, 16, 17, 18, 19, 20, 21, 22, 23, 24, 25, 26] (fun _ i _ _ _ _ _ _ _ _ _ _ _ _ _ _ wr => ∃ k : Nat, k ≤ L.length ∧ i = .int .i64 (k : Int) ∧ (∀ x ∈ L.take k, x.1 ≤ day) ∧ J (L.take k) wr ∧ KeptV b w1 wr) (fun _ i _ _ _ _ _ _ _ _ _ _ _ _ _ _ _ => L.length - (intOf i).toNat)
  case atStart => exact ⟨0, Nat.zero_le _, rfl, by simp, J1.out, KV1.out⟩
  case round =>
    obtain ⟨k, hk, rfl, hall, hJs, hkv⟩ := hrel
    have HKV := Lib.hid hkv
    have HJs := Lib.hid hJs
    clear hkv hJs
    have hpt : ∀ k, pointsAt wr b k → w1.heap.size ≤ k := fun k hk => (HKV.out.points k hk).elim (fun h => absurd h (nil_points HNIL1.out k)) fun h => h
    have HPT := Lib.hid hpt
    clear hpt
    have hbr : b < wr.heap.size := Nat.lt_of_lt_of_le hbw1 HKV.out.size
    by_cases hlt : k < L.length
    · have hd : decide ((k : Int) < (L.length : Int)) = true := by simpa using hlt
      have i0 : (0 : Int) ≤ (k : Int) := by omega
      have i1 : (k : Int) < (L.length : Int) := by omega
      have hrow : IsD wr (.slice a1 L.length k1) L := (HROW1.out.keepOwn (fun g hg e => by
        rcases HROW1.out.2 with ⟨e2, _⟩ | ⟨g2, _, cur, e2, hB2, hg2, _⟩
        · rw [e2] at e; cases e
        · obtain rfl : g = g2 := by rw [e2] at e; simpa [Value.ownBlock] using e
          rw [hg2]
          exact HKV.out.cells g _ _ _ hg2 (fun e3 => by have := hB2; omega) (nil_points HNIL1.out g))).isD
      obtain ⟨_, _, _, had⟩ := hrow.addr
      obtain ⟨Ba, o, rfl, hc⟩ := had (by omega)
      obtain ⟨c0, c1⟩ := hc k hlt
      have hbi := HKV.out.cells bi _ _ _ HBI1.out (fun e => n3 e.symm) (nil_points HNIL1.out bi)
      have hdb := HKV.out.cells d _ _ _ HD1.out (fun e => n4 e.symm) (nil_points HNIL1.out d)
      have HALL := Lib.hid hall
      clear hall
      obtain ⟨y, hy⟩ : ∃ y, y = L[k] := ⟨_, rfl⟩
      rw [← hy] at c0 c1
      have HYY := Lib.hid hy
      have bx : Below wr.heap.size wr (wr.alloc (.cells #[.int .i64 y.1, .int .i64 y.2] 37)) := (Below.refl _ _).alloc (Nat.le_refl _) _
      have hgx : (wr.alloc (.cells #[.int .i64 y.1, .int .i64 y.2] 37)).heap[wr.heap.size]? = some (.cells #[.int .i64 y.1, .int .i64 y.2] 37 (0, 0)) := heap_alloc_new _ _
      have ci : (wr.alloc (.cells #[.int .i64 y.1, .int .i64 y.2] 37)).cell? ⟨bi, 0, none⟩ = some (upF d) := (cell_of_row _ _ _ _ _ _ ((bx.block bi (lt_of_heap hbi)).trans hbi)).trans rfl
      have cdd : (wr.alloc (.cells #[.int .i64 y.1, .int .i64 y.2] 37)).cell? ⟨d, 0, none⟩ = some (.int .i64 day) := (cell_of_row _ _ _ _ _ _ ((bx.block d (lt_of_heap hdb)).trans hdb)).trans rfl
      clear hc had hrow hy
      gi_wp2_with fail
      refine ⟨trivial, ?_⟩
      refine (callsIn_wide.2 (upF_any _ d day cdd y)).mono ?_
      rintro e w3 ⟨rfl, b3⟩
      have b4 : Below wr.heap.size wr w3 := bx.trans (b3.mono (by simp))
      have x3 := (b3.block _ (lt_of_heap hgx)).trans hgx
      have x30 : w3.cell? ⟨wr.heap.size, 0, none⟩ = some (.int .i64 y.1) := (cell_of_row _ _ _ _ _ _ x3).trans rfl
      have x31 : w3.cell? ⟨wr.heap.size, 1, none⟩ = some (.int .i64 y.2) := (cell_of_row _ _ _ _ _ _ x3).trans rfl
      have hJ3 := abides_below HJ.out HJs.out b4
      have kv3 := HKV.out.trans (KeptV.of_below hbr b4)
      have KV3 := Lib.hid kv3
      clear b4 b3 bx hgx ci cdd hdb hbi c0 c1 x3 kv3
      have htk : L.take k ++ [y] = L.take (k + 1) := by rw [HYY.out, List.take_add_one, List.getElem?_eq_getElem hlt]; rfl
      by_cases hle : y.1 ≤ day
      · have hdl : decide (y.1 ≤ day) = true := by simpa using hle
        rw [hdl]
        have hall : ∀ x ∈ L.take (k + 1), x.1 ≤ day := fun x hx => by
          rw [← htk, List.mem_append, List.mem_singleton] at hx
          exact hx.elim (HALL.out x) fun e => e ▸ hle
        have hlenP : k < (upL L day).length := by
          have := (upL_take hall).length_le
          rw [List.length_take] at this
          omega
        obtain ⟨fn, tmps, assign, body, hy, hR⟩ := HY.out (L.take k) y w3 hJ3 (by rw [List.length_take]; omega)
        have HTK := Lib.hid htk
        have HALL2 := Lib.hid hall
        clear htk hJ3 hle hdl hall hlenP
        gi_wp2_with fail
        refine hR.mono ?_
        rintro e w5 (⟨rfl, hJ5, kv5⟩ | ⟨rfl, hJx5⟩)
        · have HJ5 := Lib.hid hJ5
          have KV5 := Lib.hid (KV3.out.trans kv5)
          clear hJ5 kv5
          gi_wp2_with fail
          go_roundw
          case rel => exact ⟨k + 1, by omega, by go_num, HALL2.out, by rw [← HTK.out]; exact HJ5.out, KV5.out⟩
          case measure => simp [intOf]; omega
        · have HJX := Lib.hid hJx5
          clear hJx5
          gi_wp2_with fail
          refine bodyPost_ret (results_none rfl _ _ _) rfl ?_
          exact ⟨⟨_, rfl⟩, .inr ⟨_, by rw [HTK.out]; exact upL_take HALL2.out, HJX.out⟩⟩
      · have hdl : decide (y.1 ≤ day) = false := by simpa using hle
        rw [hdl]
        have hst := upL_stop hlt HALL.out (by rw [← HYY.out]; exact hle)
        have HST := Lib.hid hst
        have HJ3 := Lib.hid hJ3
        clear htk hJ3 hle hdl hst
        gi_wp2_with fail
        refine ⟨fun _ h => (by cases h), ?_⟩
        gi_wp2_with fail
        refine bodyPost_ret (results_none rfl _ _ _) rfl ?_
        exact ⟨⟨_, rfl⟩, .inl ⟨_, HST.out, HJ3.out⟩⟩
    · obtain rfl : k = L.length := by omega
      have hd : decide ((L.length : Int) < (L.length : Int)) = false := by simp
      have hJL := HJs.out
      rw [List.take_length] at hJL hall
      have HAL := Lib.hid (upL_all hall).symm
      clear hall
      have HJL := Lib.hid hJL
      clear hJL
      gi_wp2_with fail
      go_end0
      exact ⟨⟨_, rfl⟩, .inl ⟨_, HAL.out, HJL.out⟩⟩
end Go.Proofs.Ytaohneahlcnahaa
