/- The contracts of the statement's helpers ahead and stays. -/
import Derived.Test.YteeenihhehmmoaaDoorAppAny
import Derived.Test.YteeenihhehmmoaaDoorLawSums
import Derived.Test.YteeenihhehmmoaaDoorLawShort
set_option linter.unusedVariables false
set_option linter.unusedSimpArgs false
namespace Go.Proofs.YteeenihhehmmoaaDoor
open Go.RowKit

section
variable {P : Program}
theorem wpList_room {w : World} {ops : Array Oper} {rest : List Oper} {o : Oper} {a : Act} {Q : Exit → Act → World → Prop} (hgd : o.guard = none) (s x : Operand) (t : TypeId)
    (ho : o.op = .call { callee := .builtin .append, args := #[s, x], argTypes := #[t, t] })
    (base : Nat) (e : TypeId) (hP : (P.info? e).map (fun i => (i.zero, i.size, i.bytes)) = some (some (.int .u8 0), 1, 1)) (ht : P.underlying t = some (.slice e))
    (g n cap : Nat) (L : List UInt8) (hs : a.eval s = .slice (some ⟨g, 0, none⟩) n cap) (hat : w.heap[g]? = some (.cells (bv L).toArray e (0, 0))) (hL : L.length = cap)
    (hg : base ≤ g) (u : Value) (m : List UInt8) (hx : a.eval x = u) (hu : IsB w u m) (hroom : n + m.length ≤ cap) (hbase : base ≤ w.heap.size)
    (h : ∀ w', w'.heap[g]? = some (.cells (bv (L.take n ++ m ++ L.drop (n + m.length))).toArray e (0, 0)) → Below base w w' → wpList P ops Q rest (a.put o.dst (.slice (some ⟨g, 0, none⟩) (n + m.length) cap)) w') : wpList P ops Q (o :: rest) a w := by
  obtain ⟨i, hi, hz, hs1, hb1⟩ := info_parts hP
  have hlen : ∀ w' : World, (Builtin.lenOf u).run P w' = .ok m.length w' := fun w' => by obtain ⟨a, cap, rfl, _⟩ := hu; simp [Builtin.lenOf]
  have hf1 := run_firstCells_isB (P := P) hu w rfl
  have hst := run_storeCells_at P g n e (bv m) 0 (bv L).toArray w hat (by simp [bv]; omega) (bv_oneCell m)
  simp only [Nat.add_zero] at hst
  have hrun : (Builtin.append_ #[t, t] o.type #[.slice (some ⟨g, 0, none⟩) n cap, u]).run P w = .ok (.slice (some ⟨g, 0, none⟩) (n + m.length) cap) (w.setRow g ((bv L).toArray.toList.take n ++ bv m ++ (bv L).toArray.toList.drop (n + (bv m).length)).toArray) := by
    simp [Builtin.append_, run_underlying ht, sizeOf, typeInfo, hi, hs1, hlen, hroom, hf1, Addr.add_lit, hst]
  refine wpList_plain hgd fun K hK => ?_
  unfold Oper.wp execOp
  simp only [ho, resolve, invoke, builtin, Sem.run_bind, Sem.run_pure, Result.andThen_ok, List.map_toArray, List.map_cons, List.map_nil, hs, hx, hrun]
  refine hK _ _ (h _ ?_ ?_)
  · rw [setRow_heap w g _ _ e _ hat]
    congr 2
    simp [bv]
  · refine (Below.refl base w).grown (row := some g) ⟨rfl, rfl, rfl, by simp, fun k _ hk => setRow_other w g k _ (fun e => hk (by simp [e]))⟩ hbase (fun k hk => by cases hk; exact hg)
end

/-- what the row bears, k marks being laid -/
def fl (l : List UInt8) (k : Nat) : List UInt8 := l ++ List.replicate k 165 ++ List.replicate (40 - k) 0
theorem fl_len (l : List UInt8) (k : Nat) (h : k ≤ 40) : (fl l k).length = l.length + 40 := by simp [fl]; omega
theorem fl_set (l : List UInt8) (k : Nat) (h : k < 40) : (fl l k).set (l.length + k) 165 = fl l (k + 1) := by
  have e : List.replicate (40 - k) (0 : UInt8) = 0 :: List.replicate (40 - (k + 1)) 0 := by
    rw [show 40 - k = (40 - (k + 1)) + 1 by omega, List.replicate_succ]
  unfold fl
  rw [e, List.set_append_right _ _ (by simp), List.length_append, List.length_replicate, Nat.sub_self, List.set_cons_zero, List.replicate_succ' (n := k)]
  simp
theorem fl_0 (l : List UInt8) : fl l 0 = l ++ List.replicate 40 0 := by simp [fl]
theorem fl_40 (l : List UInt8) : fl l 40 = l ++ List.replicate 40 165 := by simp [fl]
theorem made_bytes (N : Nat) : madeCells (Value.cells (.int .u8 0)) N = (bv (List.replicate N 0)).toArray := by
  apply Array.ext
  · simp [madeCells, bv]
  · intro i h1 h2
    simp [madeCells, bv, Value.cells, Nat.mod_one]

theorem mine_row {e : TypeId} {base g cap : Nat} {w : World} {L : List UInt8} (hat : w.heap[g]? = some (.cells (bv L).toArray e (0, 0))) (hL : L.length = cap) (hm : cap ≤ maxLen) (hg : base ≤ g) :
    Mine e base w (.slice (some ⟨g, 0, none⟩) cap cap) L := by
  subst hL
  refine ⟨by simp [bv], .inr ⟨g, L.length, _, rfl, hg, hat, Nat.le_refl _, hm, by simp [bv], ?_⟩⟩
  simp [bv]
  exact List.take_of_length_le (by simp)
set_option maxHeartbeats 4000000 in
theorem ahead_any (v : Value) (l : List UInt8) (w : World) (hv : IsB w v l) (hl : l.length ≤ 4194304) :
    Calls Tryd.prog 24 #[v] w (fun e w' => ∃ g, e = .returned (.slice (some ⟨g, 0, none⟩) l.length (l.length + 40)) ∧ Below w.heap.size w w' ∧
      IsB w' (.slice (some ⟨g, 0, none⟩) (l.length + 40) (l.length + 40)) (l ++ List.replicate 40 165)) := by
  obtain ⟨a, cap, rfl, hlc, hm, hnil, hc⟩ := id hv
  clear hc
  obtain ⟨i, hi, hz, hs1, hb1⟩ := info_parts (P := Tryd.prog) (e := 5) info_byte
  have hmk := run_make (P := Tryd.prog) w 24 5 i (.int .u8 0) Tryd.underlying24 hi hz .i64 .i64 0 ((l.length : Int) + 40) (by omega) (by omega) (by rw [hb1]; omega) (by omega)
  rw [hs1, Nat.mul_one, show ((l.length : Int) + 40).toNat = l.length + 40 by omega, made_bytes, show (0 : Int).toNat = 0 from rfl] at hmk
  have hat0 : (w.alloc (.cells (bv (List.replicate (l.length + 40) 0)).toArray 5)).heap[w.heap.size]? = some (.cells (bv (List.replicate (l.length + 40) 0)).toArray 5 (0, 0)) := heap_alloc_new w _
  have hb0 : Below w.heap.size w (w.alloc (.cells (bv (List.replicate (l.length + 40) 0)).toArray 5)) := (Below.refl _ _).alloc (Nat.le_refl _) _
  generalize w.alloc (.cells (bv (List.replicate (l.length + 40) 0)).toArray 5) = w1 at *
  have hv1 := hv.below hb0
  have hsz0 := hb0.size
  clear hi hz hs1 hb1
  have hcutf := fun W => run_cut_h (P := Tryd.prog) W Tryd.underlying24 info_byte (some ⟨w.heap.size, 0, none⟩) l.length (l.length + 40) (l.length + 40) ((l.length : Int) + 40) (by omega) (by omega)
  go_enter Tryd.func24, Tryd.ntmps24
  go_wp2_with (at_builtin; refine wpList_room rfl (.tmp 10) (.tmp 11) 24 rfl w.heap.size 5 info_byte Tryd.underlying24 w.heap.size 0 (l.length + 40) (List.replicate (l.length + 40) 0) rfl hat0 ?_ (Nat.le_refl _) _ l rfl hv1 ?_ hsz0 ?_; (simp); (omega); intro w2 hat2 hb2)
  have hfl : (List.take 0 (List.replicate (l.length + 40) 0) ++ l ++ List.drop (0 + l.length) (List.replicate (l.length + 40) 0)) = fl l 0 := by
    rw [fl_0, List.take_zero, List.nil_append, List.drop_replicate]
    congr 2
    omega
  rw [hfl] at hat2
  have hown0 := mine_row (base := w.heap.size) hat2 (fl_len l 0 (by omega)) (by unfold maxLen; omega) (Nat.le_refl _)
  have hb2' := hb0.trans hb2
  clear hat2 hat0 hmk hcutf hfl hb2 hb0 hv1 hsz0
  go_loopw [5] (fun i wr => ∃ k : Nat, k ≤ 40 ∧ i = .int .i64 ((l.length + k : Nat) : Int) ∧ Mine 5 w.heap.size wr (.slice (some ⟨w.heap.size, 0, none⟩) (l.length + 40) (l.length + 40)) (fl l k) ∧ Below w.heap.size w wr) (fun i _ => l.length + 40 - (intOf i).toNat)
  case atStart => exact ⟨0, by omega, rfl, hown0, hb2'⟩
  case round =>
    obtain ⟨k, hk, rfl, hown, hbl⟩ := hrel
    by_cases hlt : k < 40
    · have hj : l.length + k < l.length + 40 := by omega
      have hown2 : Mine 5 w.heap.size wr (.slice (some ⟨w.heap.size, 0, none⟩) (fl l k).length (l.length + 40)) (fl l k) := by rw [fl_len l k hk]; exact hown
      have hcell := World.ownsRow.cellAt hown2 (l.length + k) (by rw [fl_len l k hk, Nat.mul_one]; exact hj)
      rw [bv_get (fl l k) (l.length + k) (by rw [fl_len l k hk]; exact hj)] at hcell
      have hfro := World.ownsRow.frozenAt hown2 (l.length + k)
      have hS : Mine 5 w.heap.size (wr.setCell ⟨w.heap.size, l.length + k, none⟩ (.int .u8 165)) (.slice (some ⟨w.heap.size, 0, none⟩) (l.length + 40) (l.length + 40)) (fl l (k + 1)) := by
        have h := Mine.stored (l := fl l k) (g := w.heap.size) (cap := l.length + 40) hown2 (l.length + k) 165
        rw [fl_set l k hlt, fl_len l (k + 1) (by omega)] at h
        exact h
      have hbS : Below w.heap.size w (wr.setCell ⟨w.heap.size, l.length + k, none⟩ (.int .u8 165)) := hbl.setCell (p := ⟨w.heap.size, l.length + k, none⟩) (Nat.le_refl _) _
      have HS := Lib.hid hS
      have HB := Lib.hid hbS
      clear hS hbS hown hown2 hbl hown0 hb2'
      go_wp2_with fail
      go_roundw
      case rel => exact ⟨k + 1, by omega, by go_num, HS.out, HB.out⟩
      case measure => simp [intOf]; omega
    · obtain rfl : k = 40 := by omega
      have hi := hown.isB
      rw [fl_40] at hi
      clear hown hown0 hb2'
      go_wp2_with fail
      go_ret
      exact ⟨_, rfl, hbl, hi⟩

set_option maxHeartbeats 4000000 in
theorem stays_any (g : Nat) (v : Value) (l : List UInt8) (w : World) (hv : IsB w v l) (hl : l.length ≤ 4194304)
    (hx : IsB w (.slice (some ⟨g, 0, none⟩) (l.length + 40) (l.length + 40)) (l ++ List.replicate 40 165)) :
    Calls Tryd.prog 27 #[.slice (some ⟨g, 0, none⟩) l.length (l.length + 40), v] w (fun e w' => e = .returned (.bool true) ∧ w' = w) := by
  have hs1 := run_str (P := Tryd.prog) hv 24 9 5 Tryd.underlying24 Tryd.underlying5 Tryd.underlying9
  have hp := hx.pre l.length (by simp)
  rw [List.take_left] at hp
  have hs2 := run_str (P := Tryd.prog) hp 24 9 5 Tryd.underlying24 Tryd.underlying5 Tryd.underlying9
  obtain ⟨a, cap, rfl, hlc, hm, hnil, hc⟩ := id hv
  clear hc hp
  have hcutf := run_cut_h (P := Tryd.prog) w Tryd.underlying24 info_byte (some ⟨g, 0, none⟩) l.length (l.length + 40) (l.length + 40) ((l.length : Int) + 40) (by omega) (by omega)
  have hcell : ∀ k, k < 40 → w.cell? ⟨g, l.length + k, none⟩ = some (.int .u8 165) := by
    intro k hk
    have h := isB_cell hx (l.length + k) (by simp; omega)
    rw [Nat.zero_add, List.getElem_append_right (by omega)] at h
    rw [h, List.getElem_replicate]
    rfl
  have Hcell := Lib.hid hcell
  clear hcell
  go_enter Tryd.func27, Tryd.ntmps27
  go_wp2_with fail
  go_loop [6] (fun i => ∃ k : Nat, k ≤ 40 ∧ i = .int .i64 ((l.length + k : Nat) : Int)) (fun i => l.length + 40 - (intOf i).toNat)
  case atStart => exact ⟨0, by omega, rfl⟩
  case round =>
    obtain ⟨k, hk, rfl⟩ := hrel
    by_cases hlt : k < 40
    · have hc := Hcell.out k hlt
      have hj : l.length + k < l.length + 40 := by omega
      go_wp2_with fail
      go_round
      case rel => exact ⟨k + 1, by omega, by go_num⟩
      case measure => simp [intOf]; omega
    · obtain rfl : k = 40 := by omega
      go_wp2_with fail
      go_ret
      exact ⟨rfl, rfl⟩
end Go.Proofs.YteeenihhehmmoaaDoor
