/- usanceref19's agenda; Days, Up. -/
import Derived.Test.YtaohneahlcnahaaRefLess
import Derived.Test.YtaohneahlcnahaaAgDays
set_option linter.unusedVariables false
set_option linter.unusedSimpArgs false
namespace Go.Proofs.Ytaohneahlcnahaa
open Go.RowKit

structure RefAt (B : Nat) (w : World) (r : Nat) (u : Value) (L : List Du) : Prop where
  low : B ≤ r
  head : w.heap[r]? = some (.cells #[u] 46 (0, 0))
  row : MineD B w u L
theorem RefAt.below {B : Nat} {w w' : World} {r : Nat} {u : Value} {L : List Du} (h : RefAt B w r u L) (hb : Below w.heap.size w w') : RefAt B w' r u L := ⟨h.low, (hb.block _ (lt_of_heap h.head)).trans h.head, h.row.below hb⟩
theorem RefAt.cell {B : Nat} {w : World} {r : Nat} {u : Value} {L : List Du} (h : RefAt B w r u L) : w.cell? ⟨r, 0, none⟩ = some u := (cell_of_row _ _ _ _ _ _ h.head).trans rfl
theorem RefAt.slot {B : Nat} {w : World} {r : Nat} {u : Value} {L : List Du} (h : RefAt B w r u L) : ∃ a c, u = .slice a L.length c := by obtain ⟨a, c, e, _⟩ := h.row.isD; exact ⟨a, c, e⟩
/-- Up as the document says it -/
def upR (L : List Du) (day : Int) : List Du := L.filter fun x => decide (x.1 ≤ day)
def DuesPost (L : List Du) (w : World) (e : Ending) (w' : World) : Prop := ∃ v, e = .returned v ∧ MineD w.heap.size w' v L ∧ Below w.heap.size w w'
theorem days_snoc' (L : List Du) (x : Du) (nm : Int) : daysL (L ++ [x]) nm = if x.2 = nm then daysL L nm ++ [x.1] else daysL L nm := by
  rw [days_snoc]
  by_cases h : x.2 = nm <;> simp [h]
theorem up_snoc (L : List Du) (x : Du) (day : Int) : upR (L ++ [x]) day = if x.1 ≤ day then upR L day ++ [x] else upR L day := by
  unfold upR
  rw [List.filter_append]
  by_cases h : x.1 ≤ day <;> simp [h]

set_option maxRecDepth 100000 in
set_option maxHeartbeats 4000000 in
theorem refDays_any (B : Nat) (w : World) (r : Nat) (u : Value) (L : List Du) (h : RefAt B w r u L) (hl : L.length ≤ 1000000) (nm : Int) : Calls Try.prog 21 #[.pointer (some ⟨r, 0, none⟩), .int .i64 nm] w ((fun w0 => DaysPost w0 (daysL L nm)) w) := by
  obtain ⟨au, cu, rfl⟩ := h.slot
  have H := Lib.hid h
  clear h
  go_enter Try.func21, Try.ntmps21
  go_wp2_with fail
  go_loopw [5, 6, 7, 8, 9, 10, 11, 12, 13, 14, 15, 16, 17, 18, 19, 20, 21, 22, 23, 24, 25, 26, 27, 28, 29, 30, 31, 32, 33, 34, 35, 36] (fun o i _ _ _ _ _ _ _ _ _ _ _ _ _ _ _ _ _ _ _ _ _ _ _ _ _ _ _ _ _ _ wr => ∃ k : Nat, k ≤ L.length ∧ i = .int .i64 (k : Int) ∧ MineI w.heap.size wr o (daysL (L.take k) nm) ∧ Below w.heap.size w wr) (fun _ i _ _ _ _ _ _ _ _ _ _ _ _ _ _ _ _ _ _ _ _ _ _ _ _ _ _ _ _ _ _ _ => L.length - (intOf i).toNat)
  case atStart => exact ⟨0, Nat.zero_le _, rfl, MineI.nil _ _, Below.refl _ _⟩
  case round =>
    obtain ⟨k, hk, rfl, hm, hbr⟩ := hrel
    have HR := Lib.hid (H.out.below hbr)
    have y0 := HR.out.cell
    by_cases hlt : k < L.length
    · have hd : decide ((k : Int) < (L.length : Int)) = true := by simpa using hlt
      have hi0 : (0 : Int) ≤ (k : Int) := by omega
      have hi1 : (k : Int) < (L.length : Int) := by omega
      obtain ⟨-, -, -, hv1⟩ := HR.out.row.isD.addr
      obtain ⟨B1, o1, rfl, hc⟩ := hv1 (by omega)
      obtain ⟨c0, c1⟩ := hc k hlt
      have TS := Lib.hid (List.take_succ_eq_append_getElem hlt)
      clear hv1 hc
      generalize L[k] = y at *
      by_cases hq : y.2 = nm
      · have hq1 : (y.2 == nm) = true := by simpa using hq
        have hdl : (daysL (L.take k) nm).length ≤ 1000000 := by have := days_len (L.take k) nm; rw [List.length_take] at this; omega
        have bs := hbr.size
        obtain ⟨v', w', hr, m1, b1⟩ := MineI.snoc (w := wr.alloc (.cells #[.int .i64 y.1] 3)) (World.ownsRow.alloc hm _) (by simp; omega) hdl y.1 wr.heap.size (heap_alloc_new wr _)
        have BR := Lib.hid ((hbr.alloc bs _).trans (b1.below (by simp; omega) (fun k hk => hk)))
        have M1 := Lib.hid (show MineI w.heap.size w' v' (daysL (L.take (k + 1)) nm) by rw [TS.out, days_snoc', if_pos hq]; exact m1)
        clear m1 b1 hm hbr hq bs
        go_wp2_with (at_builtin; refine Lib.wpList_append_run _ rfl _ _ _ _ rfl _ _ rfl rfl _ _ hr ?_; clear hr)
        go_roundw
        case rel => exact ⟨k + 1, by omega, by go_num, M1.out, BR.out⟩
        case measure => simp [intOf]; omega
      · have hq1 : (y.2 == nm) = false := by simpa using hq
        have BR := Lib.hid hbr
        have M1 := Lib.hid (show MineI w.heap.size wr _ (daysL (L.take (k + 1)) nm) by rw [TS.out, days_snoc', if_neg hq]; exact hm)
        clear hm hbr hq
        go_wp2_with fail
        go_roundw
        case rel => exact ⟨k + 1, by omega, by go_num, M1.out, BR.out⟩
        case measure => simp [intOf]; omega
    · obtain rfl : k = L.length := by omega
      have hd : decide ((L.length : Int) < (L.length : Int)) = false := by simp
      have HM := Lib.hid hm
      clear hm
      go_wp2_with fail
      go_ret
      have := HM.out
      rw [List.take_length] at this
      exact ⟨_, rfl, this, hbr⟩

set_option maxRecDepth 100000 in
set_option maxHeartbeats 4000000 in
theorem refUp_any (B : Nat) (w : World) (r : Nat) (u : Value) (L : List Du) (h : RefAt B w r u L) (hl : L.length ≤ 1000000) (nm : Int) : Calls Try.prog 22 #[.pointer (some ⟨r, 0, none⟩), .int .i64 nm] w ((DuesPost (upR L nm)) w) := by
  obtain ⟨au, cu, rfl⟩ := h.slot
  have H := Lib.hid h
  clear h
  go_enter Try.func22, Try.ntmps22
  go_wp2_with fail
  go_loopw [5, 6, 7, 8, 9, 10, 11, 12, 13, 14, 15, 16, 17, 18, 19, 20, 21, 22, 23, 24, 25, 26, 27, 28, 29, 30, 31, 32, 33, 34, 35] (fun o i _ _ _ _ _ _ _ _ _ _ _ _ _ _ _ _ _ _ _ _ _ _ _ _ _ _ _ _ _ wr => ∃ k : Nat, k ≤ L.length ∧ i = .int .i64 (k : Int) ∧ MineD w.heap.size wr o (upR (L.take k) nm) ∧ Below w.heap.size w wr) (fun _ i _ _ _ _ _ _ _ _ _ _ _ _ _ _ _ _ _ _ _ _ _ _ _ _ _ _ _ _ _ _ => L.length - (intOf i).toNat)
  case atStart => exact ⟨0, Nat.zero_le _, rfl, MineD.nil _ _, Below.refl _ _⟩
  case round =>
    obtain ⟨k, hk, rfl, hm, hbr⟩ := hrel
    have HR := Lib.hid (H.out.below hbr)
    have y0 := HR.out.cell
    by_cases hlt : k < L.length
    · have hd : decide ((k : Int) < (L.length : Int)) = true := by simpa using hlt
      have hi0 : (0 : Int) ≤ (k : Int) := by omega
      have hi1 : (k : Int) < (L.length : Int) := by omega
      obtain ⟨-, -, -, hv1⟩ := HR.out.row.isD.addr
      obtain ⟨B1, o1, rfl, hc⟩ := hv1 (by omega)
      obtain ⟨c0, c1⟩ := hc k hlt
      have TS := Lib.hid (List.take_succ_eq_append_getElem hlt)
      clear hv1 hc
      generalize L[k] = y at *
      by_cases hq : y.1 ≤ nm
      · have hq1 : decide (y.1 ≤ nm) = true := by simpa using hq
        have hdl : (upR (L.take k) nm).length ≤ 1000000 := by have : (upR (L.take k) nm).length ≤ (L.take k).length := List.length_filter_le _ _; rw [List.length_take] at this; omega
        have bs := hbr.size
        have hxd : IsD (wr.alloc (.cells #[.int .i64 y.1, .int .i64 y.2] 37)) (.slice (some ⟨wr.heap.size, 0, none⟩) 1 1) [y] := (MineD.lit (w := wr) [y] (Nat.le_refl _) (by simp [maxLen])).isD
        obtain ⟨v', w', hr, m1, b1, -⟩ := run_dues (wr.alloc (.cells #[.int .i64 y.1, .int .i64 y.2] 37)) w.heap.size _ _ (World.ownsRow.alloc hm _) (.slice (some ⟨wr.heap.size, 0, none⟩) 1 1) [y] hxd (by simp; omega) (by simp; omega)
        have BR := Lib.hid ((hbr.alloc bs _).trans b1)
        have M1 := Lib.hid (show MineD w.heap.size w' v' (upR (L.take (k + 1)) nm) by rw [TS.out, up_snoc, if_pos hq]; exact m1)
        clear m1 b1 hm hbr hq bs hxd
        go_wp2_with (at_builtin; refine Lib.wpList_append_run _ rfl _ _ _ _ rfl _ _ rfl rfl _ _ hr ?_; clear hr)
        go_roundw
        case rel => exact ⟨k + 1, by omega, by go_num, M1.out, BR.out⟩
        case measure => simp [intOf]; omega
      · have hq1 : decide (y.1 ≤ nm) = false := by simpa using hq
        have BR := Lib.hid hbr
        have M1 := Lib.hid (show MineD w.heap.size wr _ (upR (L.take (k + 1)) nm) by rw [TS.out, up_snoc, if_neg hq]; exact hm)
        clear hm hbr hq
        go_wp2_with fail
        go_roundw
        case rel => exact ⟨k + 1, by omega, by go_num, M1.out, BR.out⟩
        case measure => simp [intOf]; omega
    · obtain rfl : k = L.length := by omega
      have hd : decide ((L.length : Int) < (L.length : Int)) = false := by simp
      have HM := Lib.hid hm
      clear hm
      go_wp2_with fail
      go_ret
      have := HM.out
      rw [List.take_length] at this
      exact ⟨_, rfl, this, hbr⟩
end Go.Proofs.Ytaohneahlcnahaa
