/- usanceref19: Drop. -/
import Derived.Test.YtaohneahlcnahaaRefDays
import Derived.Test.YtaohneahlcnahaaAgDrop
set_option linter.unusedVariables false
set_option linter.unusedSimpArgs false
namespace Go.Proofs.Ytaohneahlcnahaa
open Go.RowKit

theorem keep_snoc (L : List Du) (x : Du) (nm : Int) : keepL (L ++ [x]) nm = if x.2 = nm then keepL L nm else keepL L nm ++ [x] := by
  unfold keepL
  rw [List.filter_append]
  by_cases h : x.2 = nm <;> simp [h]
/-- a store of a fresh row -/
theorem RefAt.stored {B : Nat} {w0 w : World} {r : Nat} {u u' : Value} {L L' : List Du} (h : RefAt B w r u L) (hr : r < w0.heap.size) (hB : B ≤ w0.heap.size) (hm : MineD w0.heap.size w u' L') : RefAt B (w.setCell ⟨r, 0, none⟩ u') r u' L' := by
  have h2 := head_setCell (i := 0) h.head u'
  refine ⟨h.low, h2, MineD.down (hm.keepOwn fun k hk e => Below.heap_setCell _ _ _ _ (fun e2 => ?_)) hB⟩
  have := (World.ownsRow.lt hm k e.symm).1
  have e3 : k = r := e2
  omega
def RStep (B : Nat) (w : World) (r : Nat) (E : Int) (L' : List Du) (e : Ending) (w' : World) : Prop :=
  ∃ u', e = .returned (.int .i64 E) ∧ RefAt B w' r u' L' ∧ Turned (· = r) w w' ∧ ∀ k, u'.ownBlock = some k → w.heap.size ≤ k
set_option maxRecDepth 100000 in
set_option maxHeartbeats 4000000 in
theorem refDrop_any (B : Nat) (w : World) (r : Nat) (u : Value) (L : List Du) (h : RefAt B w r u L) (hl : L.length ≤ 1000000) (nm : Int) :
    Calls Try.prog 20 #[.pointer (some ⟨r, 0, none⟩), .int .i64 nm] w (RStep B w r ((L.length : Int) - ((keepL L nm).length : Int)) (keepL L nm)) := by
  obtain ⟨au, cu, rfl⟩ := h.slot
  have hrw := lt_of_heap h.head
  have H := Lib.hid h
  clear h
  go_enter Try.func20, Try.ntmps20
  go_wp2_with fail
  go_loopw [5, 6, 8, 9, 10, 11, 12, 13, 14, 15, 16, 17, 18, 19, 20, 21, 22, 23, 24, 25, 26, 27, 28, 29, 30, 31, 32, 33, 34, 35, 36] (fun o i _ _ _ _ _ _ _ _ _ _ _ _ _ _ _ _ _ _ _ _ _ _ _ _ _ _ _ _ _ wr => ∃ k : Nat, k ≤ L.length ∧ i = .int .i64 (k : Int) ∧ MineD w.heap.size wr o (keepL (L.take k) nm) ∧ Below w.heap.size w wr) (fun _ i _ _ _ _ _ _ _ _ _ _ _ _ _ _ _ _ _ _ _ _ _ _ _ _ _ _ _ _ _ _ => L.length - (intOf i).toNat)
  case atStart => exact ⟨0, Nat.zero_le _, rfl, MineD.nil _ _, Below.refl _ _⟩
  case round =>
    obtain ⟨k, hk, rfl, hm, hbr⟩ := hrel
    have HR := Lib.hid (H.out.below hbr)
    have y0 := HR.out.cell
    by_cases hlt : k < L.length
    · have hd : decide ((k : Int) < (L.length : Int)) = true := by simpa using hlt
      have hi0 : (0 : Int) ≤ (k : Int) := by omega
      have hi1 : (k : Int) < (L.length : Int) := by omega
      obtain ⟨-, -, -, hv1⟩ := HR.out.row.isD.addr
      obtain ⟨B1, o1, rfl, hc⟩ := hv1 (by omega)
      obtain ⟨c0, c1⟩ := hc k hlt
      have TS := Lib.hid (List.take_succ_eq_append_getElem hlt)
      clear hv1 hc
      generalize L[k] = y at *
      by_cases hq : y.2 = nm
      · have hq1 : (y.2 == nm) = true := by simpa using hq
        have BR := Lib.hid hbr
        have M1 := Lib.hid (show MineD w.heap.size wr _ (keepL (L.take (k + 1)) nm) by rw [TS.out, keep_snoc, if_pos hq]; exact hm)
        clear hm hbr hq
        go_wp2_with fail
        go_roundw
        case rel => exact ⟨k + 1, by omega, by go_num, M1.out, BR.out⟩
        case measure => simp [intOf]; omega
      · have hq1 : (y.2 == nm) = false := by simpa using hq
        have hdl : (keepL (L.take k) nm).length ≤ 1000000 := by have := keep_len (L.take k) nm; rw [List.length_take] at this; omega
        have bs := hbr.size
        have hxd : IsD (wr.alloc (.cells #[.int .i64 y.1, .int .i64 y.2] 37)) (.slice (some ⟨wr.heap.size, 0, none⟩) 1 1) [y] := (MineD.lit (w := wr) [y] (Nat.le_refl _) (by simp [maxLen])).isD
        obtain ⟨v', w', hr, m1, b1, -⟩ := run_dues (wr.alloc (.cells #[.int .i64 y.1, .int .i64 y.2] 37)) w.heap.size _ _ (World.ownsRow.alloc hm _) (.slice (some ⟨wr.heap.size, 0, none⟩) 1 1) [y] hxd (by simp; omega) (by simp; omega)
        have BR := Lib.hid ((hbr.alloc bs _).trans b1)
        have M1 := Lib.hid (show MineD w.heap.size w' v' (keepL (L.take (k + 1)) nm) by rw [TS.out, keep_snoc, if_neg hq]; exact m1)
        clear m1 b1 hm hbr hq bs hxd
        go_wp2_with (at_builtin; refine Lib.wpList_append_run _ rfl _ _ _ _ rfl _ _ rfl rfl _ _ hr ?_; clear hr)
        go_roundw
        case rel => exact ⟨k + 1, by omega, by go_num, M1.out, BR.out⟩
        case measure => simp [intOf]; omega
    · obtain rfl : k = L.length := by omega
      have hd : decide ((L.length : Int) < (L.length : Int)) = false := by simp
      rw [List.take_length] at hm
      obtain ⟨ao, co, rfl⟩ : ∃ a c, _ = Value.slice a (keepL L nm).length c := by obtain ⟨a, c, e, _⟩ := hm.isD; exact ⟨a, c, e⟩
      have hkl := keep_len L nm
      have fz := frozen_p HR.out.head 0
      have RS := Lib.hid (HR.out.stored hrw (by have := H.out.low; omega) hm)
      have HT := Lib.hid (((Turned.of_below (T := (· = r)) hbr)).trans (turned_at _ r 0 (.slice ao (keepL L nm).length co) rfl))
      have HN := Lib.hid (fun k e => (World.ownsRow.lt hm k e).1)
      clear hm hbr HR
      go_wp2_with fail
      go_ret
      exact ⟨_, rfl, RS.out, HT.out, HN.out⟩
end Go.Proofs.Ytaohneahlcnahaa
