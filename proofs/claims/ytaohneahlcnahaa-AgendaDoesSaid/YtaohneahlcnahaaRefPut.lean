/- usanceref19: Put. -/
import Derived.Test.YtaohneahlcnahaaRefDrop
import Derived.Test.YtaohneahlcnahaaAgenda
import Derived.StillTailTactics
import Derived.Deep.RegionHeld3
import Derived.Laws.MakeOwn
set_option linter.unusedVariables false
set_option linter.unusedSimpArgs false
namespace Go.Proofs.Ytaohneahlcnahaa
open Go.RowKit

/-- an append whose run is known, as a step of a drawn region -/
theorem step_append_run {ops : Array Oper} {w w' : World} {K : Act → World → Prop} {Q : Exit → Act → World → Prop} {a : Act} {o : Oper} {E : Prop} (hg : o.guard = none) (s x : Operand) (t t' : TypeId) (ho : o.op = .call { callee := .builtin .append, args := #[s, x], argTypes := #[t, t'] }) (u v r : Value)
    (hs : a.eval s = u) (hx : a.eval x = v) (hr : (Builtin.append_ #[t, t'] o.type #[u, v]).run Try.prog w = .ok r w') (h : K (a.put o.dst r) w') : if Region.wanted o (yielded ops a.tmps) = true then Oper.wp Try.prog o a w K Q else E := by
  rw [if_pos (by simp [Region.wanted, hg])]
  unfold Oper.wp execOp
  simp only [ho, resolve, invoke, builtin, Sem.run_bind, Sem.run_pure, Result.andThen_ok, List.map_toArray, List.map_cons, List.map_nil, hs, hx, hr]
  exact h
theorem IsD.take {w : World} {a : Option Addr} {len cap n : Nat} {L : List Du} (h : IsD w (.slice a len cap) L) (hn : n ≤ L.length) : IsD w (.slice a n cap) (L.take n) := by
  obtain ⟨a', cap', hv, hl, hm, hx, hc⟩ := h
  injection hv with e1 e2 e3
  subst e1 e2 e3
  have hl' : (L.take n).length = n := by rw [List.length_take]; omega
  refine ⟨a, cap, by rw [hl'], by omega, hm, hx, fun x hx => ⟨fun h0 => (hc x hx).1 (by omega), fun i hi => ?_⟩⟩
  have := (hc x hx).2 i (by omega)
  rw [List.getElem_take]
  exact this
theorem IsD.drop {w : World} {B o len cap n : Nat} {L : List Du} (h : IsD w (.slice (some ⟨B, o, none⟩) len cap) L) (hn : n ≤ L.length) : IsD w (.slice (some ⟨B, o + n * 2, none⟩) (L.length - n) (cap - n)) (L.drop n) := by
  obtain ⟨a', cap', hv, hl, hm, hx, hc⟩ := h
  injection hv with e1 e2 e3
  subst e1 e2 e3
  have hl' : (L.drop n).length = L.length - n := List.length_drop
  refine ⟨_, cap - n, by rw [hl'], by omega, by omega, (fun h => (by cases h)), ?_⟩
  rintro x ⟨⟩
  refine ⟨fun _ => rfl, fun i hi => ?_⟩
  have := (hc _ rfl).2 (n + i) (by omega)
  rw [List.getElem_drop]
  rw [show o + n * 2 + i * 2 = o + (n + i) * 2 by omega]
  exact this
/-- what is cut off behind the end -/
theorem isD_tail {w : World} {a : Option Addr} {len cap k : Nat} {L : List Du} (h : IsD w (.slice a len cap) L) (hk : k = L.length) : IsD w (.slice (if cap = k then a else a.map (fun x => x.add (k * 2))) (L.length - k) (cap - k)) (L.drop k) := by
  obtain ⟨a', cap', hv, hl, hm, hx, hc⟩ := h
  injection hv with e1 e2 e3
  subst e1 e2 e3
  have e : L.drop k = [] := List.drop_eq_nil_of_le (by omega)
  rw [e]
  refine ⟨_, cap - k, by rw [show L.length - k = 0 by omega]; rfl, by simp, by omega, fun h0 => ?_, fun x _ => ⟨fun h => by simp at h, fun i hi => by simp at hi⟩⟩
  split at h0
  · omega
  · rw [Option.map_eq_none_iff] at h0
    have := hx h0
    omega
theorem wrap_small {n : Int} (h1 : -9223372036854775808 ≤ n) (h2 : n ≤ 9223372036854775807) : IntKind.i64.wrap n = n := by
  simp only [IntKind.wrap, IntKind.bits, IntKind.signed]
  simp
  omega
/-- a row with nothing in it yet -/
theorem run_make_dues (w : World) (base c : Nat) (z : Int) (hzc : z = c) (hc : c ≤ 1000001) (hb : base ≤ w.heap.size) : ∃ w', (Instr.makeSlice 27 (.int .i64 0) (.int .i64 z)).run Try.prog w = .ok (.slice (some ⟨w.heap.size, 0, none⟩) 0 c) w' ∧ MineD base w' (.slice (some ⟨w.heap.size, 0, none⟩) 0 c) [] ∧ Below base w w' := by
  subst hzc
  obtain ⟨i, hi, hz, hs1, hb1⟩ := info_parts (P := Try.prog) (e := 37) info_due
  obtain ⟨w', h1, h2, h3⟩ := run_makeSlice_owned (P := Try.prog) (w := w) base 27 37 i _ 2 Try.underlying27 hi hz hs1 .i64 .i64 c (by omega) (by rw [hb1]; omega) (by unfold maxLen; omega) hb
  exact ⟨w', h1, h2, (Below.refl base w).grown h3 hb fun k hk => by cases hk⟩
/-- where the loop stops is where the entry belongs -/
theorem at_of {L : List Du} {x : Du} {k : Nat} (hs : Srt L) (hk : k ≤ L.length) (hlo : ∀ j (h : j < L.length), j < k → ord L[j] x < 0) (hhi : ∀ h : k < L.length, 0 ≤ ord L[k] x) : At L x k := by
  refine ⟨hk, hlo, fun j hj hkj => ?_⟩
  rcases Nat.lt_or_ge k j with h | h
  · have h1 := hs.get h hj
    have h2 := hhi (by omega)
    rcases Int.lt_or_le (ord L[j] x) 0 with h3 | h3
    · have := ord_trans h1 h3; omega
    · exact h3
  · obtain rfl : j = k := by omega
    exact hhi hj
/-- what Put leaves -/
def RPut (B : Nat) (w : World) (r : Nat) (u : Value) (E : Int) (L' : List Du) (e : Ending) (w' : World) : Prop :=
  ∃ u', e = .returned (.int .i64 E) ∧ RefAt B w' r u' L' ∧ Turned (· = r) w w' ∧ (u' = u ∨ ∀ k, u'.ownBlock = some k → w.heap.size ≤ k)
def LoAt (w : World) (L : List Du) (x : Du) (k : Nat) (wr : World) : Prop := (∀ j (h : j < L.length), j < k → ord L[j] x < 0) ∧ Below (w.heap.size + 1) (w.alloc (.cells (dv1 x).toArray 37)) wr
theorem pair_if {α : Type _} (y x : Du) (p q : α) : (if y.1 = x.1 then (if y.2 = x.2 then p else q) else q) = if y = x then p else q := by
  obtain ⟨y1, y2⟩ := y
  obtain ⟨x1, x2⟩ := x
  by_cases h1 : y1 = x1 <;> by_cases h2 : y2 = x2 <;> simp [h1, h2]
attribute [local irreducible] wpStill
set_option maxRecDepth 100000 in
set_option maxHeartbeats 8000000 in
theorem refPut_good (B : Nat) (w : World) (r : Nat) (u : Value) (L : List Du) (d n : Int) (h : RefAt B w r u L) (hs : Srt L) (hl : L.length ≤ 1000000) (hd1 : ¬ d < 0) (hd2 : ¬ 73048 < d) (hn1 : ¬ n < 1) (hn2 : ¬ 2147483647 < n) :
    Calls Try.prog 19 #[.pointer (some ⟨r, 0, none⟩), .int .i64 d, .int .i64 n] w (RPut B w r u 0 (insD L (d, n))) := by
  obtain ⟨au, cu, rfl⟩ := h.slot
  have hrw := lt_of_heap h.head
  obtain ⟨x, hx⟩ : ∃ x : Du, x = (d, n) := ⟨_, rfl⟩
  have HX := Lib.hid hx
  have q1 : decide (d < 0) = false := by simpa using hd1
  have q2 : decide (73048 < d) = false := by simpa using hd2
  have q3 : decide (n < 1) = false := by simpa using hn1
  have q4 : decide (2147483647 < n) = false := by simpa using hn2
  have xd : d = x.1 := by rw [hx]
  have xn : n = x.2 := by rw [hx]
  rw [← hx]
  clear hx hd1 hd2 hn1 hn2
  subst xd xn
  clear HX
  have hxb : (w.alloc (.cells (dv1 x).toArray 37)).heap[w.heap.size]? = some (.cells (dv1 x).toArray 37 (0, 0)) := heap_alloc_new w _
  have S0 := Lib.hid (show LoAt w L x 0 (w.alloc (.cells (dv1 x).toArray 37)) from ⟨fun j _ h => by omega, Below.refl _ _⟩)
  have H := Lib.hid (h.below (((Below.refl w.heap.size w).alloc (Nat.le_refl _) (.cells (dv1 x).toArray 37))))
  have H0 := Lib.hid h
  have HS := Lib.hid hs
  clear h hs
  go_enter Try.func19, Try.ntmps19
  go_wp2_with fail
  have hWs : (w.alloc (.cells (dv1 x).toArray 37)).heap.size = w.heap.size + 1 := by simp
  change Code.wp _ _ _ _ (w.alloc (.cells (dv1 x).toArray 37))
  generalize hW : w.alloc (.cells (dv1 x).toArray 37) = W at *
  have HW := Lib.hid hW
  clear hW
  rename_i K9 h9
  have HK9 := Lib.hid h9
  clear h9
  go_loopw [8, 25, 26, 27, 28, 29, 30, 31, 32, 33, 34, 35, 36, 37, 38, 39, 40, 41, 42, 43, 44] (fun i _ _ _ _ _ _ _ _ _ _ _ _ _ _ _ _ _ _ _ _ wr => ∃ k : Nat, k ≤ L.length ∧ i = .int .i64 (k : Int) ∧ (∀ j (h : j < L.length), j < k → ord L[j] x < 0) ∧ Below (w.heap.size + 1) W wr) (fun i _ _ _ _ _ _ _ _ _ _ _ _ _ _ _ _ _ _ _ _ _ => L.length - (intOf i).toNat)
  case atStart => exact ⟨0, Nat.zero_le _, rfl, fun j _ h => by omega, Below.refl _ _⟩
  case round =>
    obtain ⟨k, hk, rfl, hlo, hbr⟩ := hrel
    clear S0
    have bR : Below (w.heap.size + 1) W wr.drew := hbr.drew
    have HR := Lib.hid (H.out.below (by rw [hWs]; exact bR))
    have hxr := (bR.block _ (by omega)).trans hxb
    have x0 : wr.drew.cell? ⟨w.heap.size, 0, none⟩ = some (.int .i64 x.1) := (cell_of_row _ _ _ _ _ _ hxr).trans rfl
    have x1 : wr.drew.cell? ⟨w.heap.size, 1, none⟩ = some (.int .i64 x.2) := (cell_of_row _ _ _ _ _ _ hxr).trans rfl
    have y0 := HR.out.cell
    have LO := Lib.hid hlo
    have BR := Lib.hid bR
    clear hlo hbr bR hxr
    by_cases hlt : k < L.length
    · have hd : decide ((k : Int) < (L.length : Int)) = true := by simpa using hlt
      have hi0 : (0 : Int) ≤ (k : Int) := by omega
      have hi1 : (k : Int) < (L.length : Int) := by omega
      obtain ⟨-, -, -, hv1⟩ := HR.out.row.isD.addr
      obtain ⟨B1, o1, rfl, hc⟩ := hv1 (by omega)
      obtain ⟨c0, c1⟩ := hc k hlt
      clear hv1 hc
      obtain ⟨y, hy⟩ : ∃ y, y = L[k] := ⟨_, rfl⟩
      rw [← hy] at c0 c1
      have HY := Lib.hid hy
      clear hy
      go_wp2_with fail
      refine wp_region_still_tail 16 (by kernel_rfl) (by kernel_rfl) ?_
      simp only [List.take_succ_cons, List.take_zero, List.drop_succ_cons, List.drop_zero]
      change wpStill _ _ wr.drew (fun a' => wpList _ _ _ _ a' wr.drew) _ _
      generalize wr.drew = W1 at *
      iterate 16 still_step
      refine wpStill_nil ?_
      go_wp2_with fail
      refine (less_any W1 y x).mono ?_
      rintro e w2 ⟨rfl, b2⟩
      have B2 := Lib.hid (BR.out.trans (b2.mono (by have := BR.out.size; omega)))
      clear BR b2 c0 c1 x0 x1 y0
      by_cases hq : ord y x < 0
      · have hq1 : decide (ord y x < 0) = true := by simpa using hq
        have LO2 := Lib.hid (show ∀ j (h : j < L.length), j < k + 1 → ord L[j] x < 0 from fun j h hj => by
          rcases Nat.lt_or_ge j k with h2 | h2
          · exact LO.out j h h2
          · obtain rfl : j = k := by omega
            rw [← HY.out]; exact hq)
        clear hq
        go_wp2_with fail
        go_roundw
        case rel => exact ⟨k + 1, by omega, by go_num, LO2.out, B2.out⟩
        case measure => simp [intOf]; omega
      · have hq1 : decide (ord y x < 0) = false := by simpa using hq
        have AT := Lib.hid (at_of HS.out hk LO.out (fun h => by rw [← HY.out]; omega))
        clear hq
        go_wp2_with fail
        refine HK9.out _ _ ?_
        apply wp_seq_k
        intro K10 h10
        have HK10 := Lib.hid h10
        clear h10
        apply wp_seq_k
        intro Kc hcnd
        have bR2 : Below (w.heap.size + 1) W w2.drew := B2.out.drew
        have HR2 := Lib.hid (H.out.below (by rw [hWs]; exact bR2))
        have hxr := (bR2.block _ (by omega)).trans hxb
        have x0 : w2.drew.cell? ⟨w.heap.size, 0, none⟩ = some (.int .i64 x.1) := (cell_of_row _ _ _ _ _ _ hxr).trans rfl
        have x1 : w2.drew.cell? ⟨w.heap.size, 1, none⟩ = some (.int .i64 x.2) := (cell_of_row _ _ _ _ _ _ hxr).trans rfl
        have y0 := HR2.out.cell
        obtain ⟨-, -, -, hv1⟩ := HR2.out.row.isD.addr
        obtain ⟨B1', o1', eB, hc⟩ := hv1 (by omega)
        injection eB with eB
        injection eB with eB1 eB2
        subst eB1 eB2
        obtain ⟨c0, c1⟩ := hc k hlt
        rw [← HY.out] at c0 c1
        have BR2 := Lib.hid bR2
        clear hv1 hc hxr bR2 B2 HR
        refine wp_region_still_tail 17 (by kernel_rfl) (by kernel_rfl) ?_
        simp only [List.take_succ_cons, List.take_zero, List.drop_succ_cons, List.drop_zero]
        change wpStill _ _ w2.drew (fun a' => wpList _ _ _ _ a' w2.drew) _ _
        generalize w2.drew = W2 at *
        iterate 16 still_step
        refine wpStill_step (fun K hK => ?_)
        go_simp
        rw [pair_if]
        by_cases hyx : y = x
        · rw [if_pos hyx]
          refine ⟨rfl, hK _ ?_⟩
          clear hK K
          refine wpStill_nil ?_
          go_wp2_with fail
          go_ret
          have e : insD L x = L := if_pos (by rw [← hyx, HY.out]; exact List.getElem_mem hlt)
          rw [e]
          have hbW : Below w.heap.size w W := by rw [← HW.out]; exact (Below.refl _ _).alloc (Nat.le_refl _) _
          exact ⟨_, rfl, HR2.out, Turned.of_below (hbW.trans (BR2.out.mono (by omega))), .inl rfl⟩
        · rw [if_neg hyx]
          refine ⟨rfl, hK _ ?_⟩
          clear hK K
          refine wpStill_nil ?_
          have hxL : x ∉ L := fun hm => by
            obtain ⟨h1, h2⟩ := (AT.out.found HS.out).2 hm
            exact hyx (HY.out.trans (ord_zero.1 h2))
          clear hyx x0 x1 c0 c1 y0
          go_wp2_with fail
          refine HK10.out _ _ ?_
          apply wp_seq_k
          intro K12 h12
          have HK12 := Lib.hid h12
          clear h12
          have hkl : (k : Int) ≤ (cu : Int) := by have := HR2.out.row.isD.addr.2.1; omega
          have hk0 : (0 : Int) ≤ (k : Int) := by omega
          have hwr : IntKind.i64.wrap ((L.length : Int) + 1) = (L.length : Int) + 1 := wrap_small (by omega) (by omega)
          obtain ⟨w3, hr3, m3, b3⟩ := run_make_dues W2.drew W2.heap.size (L.length + 1) ((L.length : Int) + 1) (by omega) (by omega) (Nat.le_refl _)
          have b3' : Below W2.heap.size W2 w3 := (Below.refl _ W2).drew.trans b3
          have HR3 := HR2.out.below b3'
          have hH3 : (fun w' => w'.cell? ⟨r, 0, none⟩ = some (.slice (some ⟨B1, o1, none⟩) L.length cu)) w3 := HR3.cell
          obtain ⟨v4, w4, hr1, m4, b4, -⟩ := run_dues w3 W2.heap.size _ [] m3 (.slice (some ⟨B1, o1, none⟩) k cu) (L.take k) (HR3.row.isD.take hk) (by rw [List.length_take, List.length_nil]; omega) b3'.size
          rw [List.nil_append] at m4
          obtain ⟨a4, N4, k4, rfl⟩ : ∃ a n k, v4 = .slice a n k := by obtain ⟨a, k, h, _⟩ := m4.isD; exact ⟨a, _, k, h⟩
          have b4' : Below W2.heap.size W2 w4 := b3'.trans b4
          have HR4 := Lib.hid (HR2.out.below b4')
          have hH5 : (fun w' => w'.cell? ⟨r, 0, none⟩ = some (.slice (some ⟨B1, o1, none⟩) L.length cu)) w4 := HR4.out.cell
          have M4 := Lib.hid m4
          have B4 := Lib.hid b4'
          have hc2 := HR2.out.cell
          clear m3 b3 b3' HR3 m4 b4 b4'
          refine wp_region_noPanic ?_
          refine wp_region_held_drew (S := (fun w' => w'.cell? ⟨r, 0, none⟩ = some (.slice (some ⟨B1, o1, none⟩) L.length cu))) (by kernel_rfl) hc2 (fun hH => ?_)
          refine wpAnyH_take (i := 0) (oi := { dst := some 63, op := Op.move (Operand.tmp 0), type := 44, pos := "ref.go:30", after := #[], guard := none }) (v := ?_) rfl (by kernel_rfl) (by kernel_rfl) (by kernel_rfl) (fun _ _ _ h => h) (Or.inl ⟨by rfl, ?_⟩) hH ?_
          rotate_left
          · (intro w hSw; skip; go_simp; try with_reducible rfl)
          try simp only [Act.put, List.setIfInBounds_toArray, List.set_cons_zero, List.set_cons_succ]
          refine wpAnyH_take (i := 1) (oi := { dst := some 64, op := Op.nilCheck (Operand.tmp 63), type := 0, pos := "ref.go:30", after := #[{ on := 0, ground := Ground.data }], guard := none }) (v := ?_) rfl (by kernel_rfl) (by kernel_rfl) (by kernel_rfl) (fun _ _ _ h => h) (Or.inl ⟨by rfl, ?_⟩) hH ?_
          rotate_left
          · (intro w hSw; skip; go_simp; try with_reducible rfl)
          try simp only [Act.put, List.setIfInBounds_toArray, List.set_cons_zero, List.set_cons_succ]
          refine wpAnyH_take (i := 2) (oi := { dst := some 65, op := Op.fieldAddr 46 (Operand.tmp 64) 0, type := 0, pos := "ref.go:30", after := #[{ on := 1, ground := Ground.data }], guard := none }) (v := ?_) rfl (by kernel_rfl) (by kernel_rfl) (by kernel_rfl) (fun _ _ _ h => h) (Or.inl ⟨by rfl, ?_⟩) hH ?_
          rotate_left
          · (intro w hSw; skip; go_simp; try with_reducible rfl)
          try simp only [Act.put, List.setIfInBounds_toArray, List.set_cons_zero, List.set_cons_succ]
          refine wpAnyH_take (i := 3) (oi := { dst := some 66, op := Op.load 27 (Operand.tmp 65), type := 27, pos := "ref.go:30", after := #[{ on := 2, ground := Ground.data }], guard := none }) (v := ?_) rfl (by kernel_rfl) (by kernel_rfl) (by kernel_rfl) (fun _ _ _ h => h) (Or.inl ⟨by rfl, ?_⟩) hH ?_
          rotate_left
          · (intro w hSw; skip; go_simp; try with_reducible rfl)
          try simp only [Act.put, List.setIfInBounds_toArray, List.set_cons_zero, List.set_cons_succ]
          refine wpAnyH_take (i := 4) (oi := { dst := some 67, op := Op.call { callee := Callee.builtin Builtin.len, args := #[Operand.tmp 66], argTypes := #[27] }, type := 3, pos := "ref.go:30", after := #[{ on := 3, ground := Ground.data }], guard := none }) (v := ?_) rfl (by kernel_rfl) (by kernel_rfl) (by kernel_rfl) (fun _ _ _ h => h) (Or.inl ⟨by rfl, ?_⟩) hH ?_
          rotate_left
          · (intro w hSw; skip; go_simp; try with_reducible rfl)
          try simp only [Act.put, List.setIfInBounds_toArray, List.set_cons_zero, List.set_cons_succ]
          refine wpAnyH_take (i := 5) (oi := { dst := some 68, op := Op.binOp BinOp.add 3 (Operand.tmp 67) (Operand.const (Value.int IntKind.i64 1)) 3, type := 3, pos := "ref.go:30", after := #[{ on := 4, ground := Ground.data }], guard := none }) (v := ?_) rfl (by kernel_rfl) (by kernel_rfl) (by kernel_rfl) (fun _ _ _ h => h) (Or.inl ⟨by rfl, ?_⟩) hH ?_
          rotate_left
          · (intro w hSw; skip; go_simp; try with_reducible rfl)
          try simp only [Act.put, List.setIfInBounds_toArray, List.set_cons_zero, List.set_cons_succ]
          refine wpAnyH_take (i := 7) (oi := { dst := some 70, op := Op.move (Operand.tmp 0), type := 44, pos := "ref.go:30", after := #[], guard := none }) (v := ?_) rfl (by kernel_rfl) (by kernel_rfl) (by kernel_rfl) (fun _ _ _ h => h) (Or.inl ⟨by rfl, ?_⟩) hH ?_
          rotate_left
          · (intro w hSw; skip; go_simp; try with_reducible rfl)
          try simp only [Act.put, List.setIfInBounds_toArray, List.set_cons_zero, List.set_cons_succ]
          refine wpAnyH_take (i := 8) (oi := { dst := some 71, op := Op.nilCheck (Operand.tmp 70), type := 0, pos := "ref.go:30", after := #[{ on := 7, ground := Ground.data }], guard := none }) (v := ?_) rfl (by kernel_rfl) (by kernel_rfl) (by kernel_rfl) (fun _ _ _ h => h) (Or.inl ⟨by rfl, ?_⟩) hH ?_
          rotate_left
          · (intro w hSw; skip; go_simp; try with_reducible rfl)
          try simp only [Act.put, List.setIfInBounds_toArray, List.set_cons_zero, List.set_cons_succ]
          refine wpAnyH_take (i := 9) (oi := { dst := some 72, op := Op.fieldAddr 46 (Operand.tmp 71) 0, type := 0, pos := "ref.go:30", after := #[{ on := 8, ground := Ground.data }], guard := none }) (v := ?_) rfl (by kernel_rfl) (by kernel_rfl) (by kernel_rfl) (fun _ _ _ h => h) (Or.inl ⟨by rfl, ?_⟩) hH ?_
          rotate_left
          · (intro w hSw; skip; go_simp; try with_reducible rfl)
          try simp only [Act.put, List.setIfInBounds_toArray, List.set_cons_zero, List.set_cons_succ]
          refine wpAnyH_take (i := 10) (oi := { dst := some 73, op := Op.load 27 (Operand.tmp 72), type := 27, pos := "ref.go:30", after := #[{ on := 9, ground := Ground.data }], guard := none }) (v := ?_) rfl (by kernel_rfl) (by kernel_rfl) (by kernel_rfl) (fun _ _ _ h => h) (Or.inl ⟨by rfl, ?_⟩) hH ?_
          rotate_left
          · (intro w hSw; skip; go_simp; try with_reducible rfl)
          try simp only [Act.put, List.setIfInBounds_toArray, List.set_cons_zero, List.set_cons_succ]
          refine wpAnyH_take (i := 11) (oi := { dst := some 74, op := Op.move (Operand.tmp 8), type := 3, pos := "ref.go:30", after := #[], guard := none }) (v := ?_) rfl (by kernel_rfl) (by kernel_rfl) (by kernel_rfl) (fun _ _ _ h => h) (Or.inl ⟨by rfl, ?_⟩) hH ?_
          rotate_left
          · (intro w hSw; skip; go_simp; try with_reducible rfl)
          try simp only [Act.put, List.setIfInBounds_toArray, List.set_cons_zero, List.set_cons_succ]
          refine wpAnyH_take (i := 12) (oi := { dst := some 75, op := Op.slice 27 (Operand.tmp 73) none (some (Operand.tmp 74)) none, type := 27, pos := "ref.go:30", after := #[{ on := 10, ground := Ground.data }, { on := 11, ground := Ground.data }], guard := none }) (v := ?_) rfl (by kernel_rfl) (by kernel_rfl) (by kernel_rfl) (fun _ _ _ h => h) (Or.inl ⟨by rfl, ?_⟩) hH ?_
          rotate_left
          · (intro w hSw; skip; go_simp; try with_reducible rfl)
          try simp only [Act.put, List.setIfInBounds_toArray, List.set_cons_zero, List.set_cons_succ]
          refine wpAnyH_ready (rs := [6]) (by kernel_rfl) (by simp) ?_
          refine AllReadyH.cons (o := { dst := some 69, op := Op.makeSlice 27 (Operand.const (Value.int IntKind.i64 0)) (Operand.tmp 68), type := 27, pos := "ref.go:30", after := #[{ on := 5, ground := Ground.data }], guard := none }) rfl (fun K hK => ?_) AllReadyH.nil
          go_simp
          refine hK.out _ _ hH3 (fun hH => ?_)
          clear hK K
          try simp only [Act.put, List.setIfInBounds_toArray, List.set_cons_zero, List.set_cons_succ]
          refine wpAnyH_ready (rs := [13]) (by kernel_rfl) (by simp) ?_
          refine AllReadyH.cons (o := { dst := some 76, op := Op.call { callee := Callee.builtin Builtin.append, args := #[Operand.tmp 69, Operand.tmp 75], argTypes := #[27, 27] }, type := 27, pos := "ref.go:30", after := #[{ on := 6, ground := Ground.data }, { on := 12, ground := Ground.data }], guard := none }) rfl (fun K hK => ?_) AllReadyH.nil
          refine step_append_run rfl (.tmp 69) (.tmp 75) 27 27 (by rfl) _ _ _ (by rfl) (by rfl) hr1 ?_
          refine hK.out _ _ hH5 (fun hH => ?_)
          clear hK K
          try simp only [Act.put, List.setIfInBounds_toArray, List.set_cons_zero, List.set_cons_succ]
          refine wpAnyH_take (i := 14) (oi := { dst := some 9, op := Op.assign (Operand.tmp 76), type := 27, pos := "ref.go:30", after := #[{ on := 13, ground := Ground.data }, { on := 13, ground := Ground.chain }, { on := 0, ground := Ground.phase }, { on := 1, ground := Ground.phase }, { on := 2, ground := Ground.phase }, { on := 3, ground := Ground.phase }, { on := 4, ground := Ground.phase }, { on := 5, ground := Ground.phase }, { on := 6, ground := Ground.phase }, { on := 7, ground := Ground.phase }, { on := 8, ground := Ground.phase }, { on := 9, ground := Ground.phase }, { on := 10, ground := Ground.phase }, { on := 11, ground := Ground.phase }, { on := 12, ground := Ground.phase }, { on := 13, ground := Ground.phase }], guard := none }) (v := ?_) rfl (by kernel_rfl) (by kernel_rfl) (by kernel_rfl) (fun _ _ _ h => h) (Or.inl ⟨by rfl, ?_⟩) hH ?_
          rotate_left
          · (intro w hSw; skip; go_simp; try with_reducible rfl)
          try simp only [Act.put, List.setIfInBounds_toArray, List.set_cons_zero, List.set_cons_succ]
          refine wpAnyH_done (by kernel_rfl) ?_ _
          refine NoPanic.normal ?_
          go_wp2_with fail
          refine HK12.out _ _ ?_
          clear hr1 hc2 hwr
          have hws : w.heap.size ≤ W2.heap.size := by have := BR2.out.size; omega
          have hxr4 := (BR2.out.block _ (by omega)).trans hxb
          have hxr5 := (B4.out.block _ (lt_of_heap hxr4)).trans hxr4
          have x0 : w4.cell? ⟨w.heap.size, 0, none⟩ = some (.int .i64 x.1) := (cell_of_row _ _ _ _ _ _ hxr5).trans rfl
          have x1 : w4.cell? ⟨w.heap.size, 1, none⟩ = some (.int .i64 x.2) := (cell_of_row _ _ _ _ _ _ hxr5).trans rfl
          have hxd : IsD (w4.alloc (.cells #[.int .i64 x.1, .int .i64 x.2] 37)) (.slice (some ⟨w4.heap.size, 0, none⟩) 1 1) [x] := (MineD.lit (w := w4) [x] (Nat.le_refl _) (by simp [maxLen])).isD
          have hs4 := B4.out.size
          obtain ⟨v5, w5, hr5, m5, b5, -⟩ := run_dues (w4.alloc (.cells #[.int .i64 x.1, .int .i64 x.2] 37)) W2.heap.size (.slice a4 N4 k4) (L.take k) (World.ownsRow.alloc M4.out _) (.slice (some ⟨w4.heap.size, 0, none⟩) 1 1) [x] hxd (by rw [List.length_take, List.length_singleton]; omega) (by simp; omega)
          obtain ⟨a5, N5, k5, rfl⟩ : ∃ a n k, v5 = .slice a n k := by obtain ⟨a, k, h, _⟩ := m5.isD; exact ⟨a, _, k, h⟩
          have b5' : Below W2.heap.size W2 w5 := (B4.out.alloc hs4 _).trans b5
          have HR5 := HR2.out.below b5'
          have y5 := HR5.cell
          have hs5 := b5'.size
          obtain ⟨v6, w6, hr6, m6, b6, -⟩ := run_dues w5 W2.heap.size (.slice a5 N5 k5) (L.take k ++ [x]) m5 (.slice (some ⟨B1, o1 + k * 2, none⟩) (L.length - k) (cu - k)) (L.drop k) (HR5.row.isD.drop hk) (by rw [List.length_append, List.length_take, List.length_drop, List.length_singleton]; omega) hs5
          have b6' : Below W2.heap.size W2 w6 := b5'.trans b6
          have HR6 := HR2.out.below b6'
          have fz := frozen_p HR6.head 0
          have y6 := HR6.cell
          obtain ⟨a6, N6, k6, rfl⟩ : ∃ a n k, v6 = .slice a n k := by obtain ⟨a, k, h, _⟩ := m6.isD; exact ⟨a, _, k, h⟩
          have e6 : insD L x = L.take k ++ [x] ++ L.drop k := by
            unfold insD
            rw [if_neg hxL, AT.out.filter.1, AT.out.filter.2, List.append_assoc]
            rfl
          rw [← e6] at m6
          have RS := Lib.hid (RefAt.stored (w0 := W2) HR6 (lt_of_heap HR2.out.head) (by have := HR2.out.low; have := lt_of_heap HR2.out.head; omega) m6)
          have hbW : Below w.heap.size w W := by rw [← HW.out]; exact (Below.refl _ _).alloc (Nat.le_refl _) _
          have HT := Lib.hid ((Turned.of_below (T := (· = r)) ((hbW.trans (BR2.out.mono (by omega))).trans (b6'.mono hws))).trans (turned_at _ r 0 (.slice a6 N6 k6) rfl))
          have HN := Lib.hid (show ∀ j, (Value.slice a6 N6 k6).ownBlock = some j → w.heap.size ≤ j from fun j e => Nat.le_trans hws (World.ownsRow.lt m6 j e).1)
          clear hxr4 hxr5 hxd hs4 m5 b5 b5' HR5 m6 b6 b6' HR6 e6 hbW hs5 hws
          apply wp_seq_k
          intro K13 h13
          have HK13 := Lib.hid h13
          clear h13
          have HR6' := Lib.hid hr6
          clear hr6
          go_wp2_with (at_builtin; refine Lib.wpList_append_run _ rfl _ _ _ _ rfl _ _ rfl rfl _ _ hr5 ?_; clear hr5)
          refine HK13.out _ _ ?_
          have hr6 := HR6'.out
          clear HR6' x0 x1
          have hck : ¬ (cu = k) := by have := HR2.out.row.isD.addr.2.1; omega
          apply wp_seq_k
          intro K14 h14
          have HK14 := Lib.hid h14
          clear h14
          go_wp2_with (at_builtin; refine Lib.wpList_append_run _ rfl _ _ _ _ rfl _ _ rfl rfl _ _ hr6 ?_; clear hr6)
          all_goals (refine HK14.out _ _ ?_; go_wp2_with fail; go_ret; exact ⟨_, rfl, RS.out, HT.out, .inr HN.out⟩)
    · have ek : k = L.length := by omega
      have hd : decide ((k : Int) < (L.length : Int)) = false := decide_eq_false (by omega)
      have AT := Lib.hid (at_of HS.out hk LO.out (fun h => by omega))
      have hxL : x ∉ L := fun hm => by
        obtain ⟨h1, h2⟩ := (AT.out.found HS.out).2 hm
        omega
      have HEK := Lib.hid ek
      clear ek
      go_wp2_with fail
      refine wp_region_still_tail 16 (by kernel_rfl) (by kernel_rfl) ?_
      simp only [List.take_succ_cons, List.take_zero, List.drop_succ_cons, List.drop_zero]
      change wpStill _ _ wr.drew (fun a' => wpList _ _ _ _ a' wr.drew) _ _
      generalize wr.drew = W1 at *
      iterate 16 still_step
      refine wpStill_nil ?_
      go_wp2_with fail
      refine HK9.out _ _ ?_
      apply wp_seq_k
      intro K10 h10
      have HK10 := Lib.hid h10
      clear h10
      apply wp_seq_k
      intro Kc hcnd
      have bR2 : Below (w.heap.size + 1) W W1.drew := BR.out.drew
      have HR2 := Lib.hid (H.out.below (by rw [hWs]; exact bR2))
      have BR2 := Lib.hid bR2
      clear y0 bR2 BR HR x0 x1
      have y0 := HR2.out.cell
      refine wp_region_still_tail 17 (by kernel_rfl) (by kernel_rfl) ?_
      simp only [List.take_succ_cons, List.take_zero, List.drop_succ_cons, List.drop_zero]
      change wpStill _ _ W1.drew (fun a' => wpList _ _ _ _ a' W1.drew) _ _
      generalize W1.drew = W2 at *
      iterate 17 still_step
      refine wpStill_nil ?_
      clear y0
      go_wp2_with fail
      refine HK10.out _ _ ?_
      apply wp_seq_k
      intro K12 h12
      have HK12 := Lib.hid h12
      clear h12
      have hkl : (k : Int) ≤ (cu : Int) := by have := HR2.out.row.isD.addr.2.1; omega
      have hk0 : (0 : Int) ≤ (k : Int) := by omega
      have hwr : IntKind.i64.wrap ((L.length : Int) + 1) = (L.length : Int) + 1 := wrap_small (by omega) (by omega)
      obtain ⟨w3, hr3, m3, b3⟩ := run_make_dues W2.drew W2.heap.size (L.length + 1) ((L.length : Int) + 1) (by omega) (by omega) (Nat.le_refl _)
      have b3' : Below W2.heap.size W2 w3 := (Below.refl _ W2).drew.trans b3
      have HR3 := HR2.out.below b3'
      have hH3 : (fun w' => w'.cell? ⟨r, 0, none⟩ = some (.slice au L.length cu)) w3 := HR3.cell
      obtain ⟨v4, w4, hr1, m4, b4, -⟩ := run_dues w3 W2.heap.size _ [] m3 (.slice au k cu) (L.take k) (HR3.row.isD.take hk) (by rw [List.length_take, List.length_nil]; omega) b3'.size
      rw [List.nil_append] at m4
      obtain ⟨a4, N4, k4, rfl⟩ : ∃ a n k, v4 = .slice a n k := by obtain ⟨a, k, h, _⟩ := m4.isD; exact ⟨a, _, k, h⟩
      have b4' : Below W2.heap.size W2 w4 := b3'.trans b4
      have HR4 := Lib.hid (HR2.out.below b4')
      have hH5 : (fun w' => w'.cell? ⟨r, 0, none⟩ = some (.slice au L.length cu)) w4 := HR4.out.cell
      have M4 := Lib.hid m4
      have B4 := Lib.hid b4'
      have hc2 := HR2.out.cell
      clear m3 b3 b3' HR3 m4 b4 b4'
      refine wp_region_noPanic ?_
      refine wp_region_held_drew (S := (fun w' => w'.cell? ⟨r, 0, none⟩ = some (.slice au L.length cu))) (by kernel_rfl) hc2 (fun hH => ?_)
      refine wpAnyH_take (i := 0) (oi := { dst := some 63, op := Op.move (Operand.tmp 0), type := 44, pos := "ref.go:30", after := #[], guard := none }) (v := ?_) rfl (by kernel_rfl) (by kernel_rfl) (by kernel_rfl) (fun _ _ _ h => h) (Or.inl ⟨by rfl, ?_⟩) hH ?_
      rotate_left
      · (intro w hSw; skip; go_simp; try with_reducible rfl)
      try simp only [Act.put, List.setIfInBounds_toArray, List.set_cons_zero, List.set_cons_succ]
      refine wpAnyH_take (i := 1) (oi := { dst := some 64, op := Op.nilCheck (Operand.tmp 63), type := 0, pos := "ref.go:30", after := #[{ on := 0, ground := Ground.data }], guard := none }) (v := ?_) rfl (by kernel_rfl) (by kernel_rfl) (by kernel_rfl) (fun _ _ _ h => h) (Or.inl ⟨by rfl, ?_⟩) hH ?_
      rotate_left
      · (intro w hSw; skip; go_simp; try with_reducible rfl)
      try simp only [Act.put, List.setIfInBounds_toArray, List.set_cons_zero, List.set_cons_succ]
      refine wpAnyH_take (i := 2) (oi := { dst := some 65, op := Op.fieldAddr 46 (Operand.tmp 64) 0, type := 0, pos := "ref.go:30", after := #[{ on := 1, ground := Ground.data }], guard := none }) (v := ?_) rfl (by kernel_rfl) (by kernel_rfl) (by kernel_rfl) (fun _ _ _ h => h) (Or.inl ⟨by rfl, ?_⟩) hH ?_
      rotate_left
      · (intro w hSw; skip; go_simp; try with_reducible rfl)
      try simp only [Act.put, List.setIfInBounds_toArray, List.set_cons_zero, List.set_cons_succ]
      refine wpAnyH_take (i := 3) (oi := { dst := some 66, op := Op.load 27 (Operand.tmp 65), type := 27, pos := "ref.go:30", after := #[{ on := 2, ground := Ground.data }], guard := none }) (v := ?_) rfl (by kernel_rfl) (by kernel_rfl) (by kernel_rfl) (fun _ _ _ h => h) (Or.inl ⟨by rfl, ?_⟩) hH ?_
      rotate_left
      · (intro w hSw; skip; go_simp; try with_reducible rfl)
      try simp only [Act.put, List.setIfInBounds_toArray, List.set_cons_zero, List.set_cons_succ]
      refine wpAnyH_take (i := 4) (oi := { dst := some 67, op := Op.call { callee := Callee.builtin Builtin.len, args := #[Operand.tmp 66], argTypes := #[27] }, type := 3, pos := "ref.go:30", after := #[{ on := 3, ground := Ground.data }], guard := none }) (v := ?_) rfl (by kernel_rfl) (by kernel_rfl) (by kernel_rfl) (fun _ _ _ h => h) (Or.inl ⟨by rfl, ?_⟩) hH ?_
      rotate_left
      · (intro w hSw; skip; go_simp; try with_reducible rfl)
      try simp only [Act.put, List.setIfInBounds_toArray, List.set_cons_zero, List.set_cons_succ]
      refine wpAnyH_take (i := 5) (oi := { dst := some 68, op := Op.binOp BinOp.add 3 (Operand.tmp 67) (Operand.const (Value.int IntKind.i64 1)) 3, type := 3, pos := "ref.go:30", after := #[{ on := 4, ground := Ground.data }], guard := none }) (v := ?_) rfl (by kernel_rfl) (by kernel_rfl) (by kernel_rfl) (fun _ _ _ h => h) (Or.inl ⟨by rfl, ?_⟩) hH ?_
      rotate_left
      · (intro w hSw; skip; go_simp; try with_reducible rfl)
      try simp only [Act.put, List.setIfInBounds_toArray, List.set_cons_zero, List.set_cons_succ]
      refine wpAnyH_take (i := 7) (oi := { dst := some 70, op := Op.move (Operand.tmp 0), type := 44, pos := "ref.go:30", after := #[], guard := none }) (v := ?_) rfl (by kernel_rfl) (by kernel_rfl) (by kernel_rfl) (fun _ _ _ h => h) (Or.inl ⟨by rfl, ?_⟩) hH ?_
      rotate_left
      · (intro w hSw; skip; go_simp; try with_reducible rfl)
      try simp only [Act.put, List.setIfInBounds_toArray, List.set_cons_zero, List.set_cons_succ]
      refine wpAnyH_take (i := 8) (oi := { dst := some 71, op := Op.nilCheck (Operand.tmp 70), type := 0, pos := "ref.go:30", after := #[{ on := 7, ground := Ground.data }], guard := none }) (v := ?_) rfl (by kernel_rfl) (by kernel_rfl) (by kernel_rfl) (fun _ _ _ h => h) (Or.inl ⟨by rfl, ?_⟩) hH ?_
      rotate_left
      · (intro w hSw; skip; go_simp; try with_reducible rfl)
      try simp only [Act.put, List.setIfInBounds_toArray, List.set_cons_zero, List.set_cons_succ]
      refine wpAnyH_take (i := 9) (oi := { dst := some 72, op := Op.fieldAddr 46 (Operand.tmp 71) 0, type := 0, pos := "ref.go:30", after := #[{ on := 8, ground := Ground.data }], guard := none }) (v := ?_) rfl (by kernel_rfl) (by kernel_rfl) (by kernel_rfl) (fun _ _ _ h => h) (Or.inl ⟨by rfl, ?_⟩) hH ?_
      rotate_left
      · (intro w hSw; skip; go_simp; try with_reducible rfl)
      try simp only [Act.put, List.setIfInBounds_toArray, List.set_cons_zero, List.set_cons_succ]
      refine wpAnyH_take (i := 10) (oi := { dst := some 73, op := Op.load 27 (Operand.tmp 72), type := 27, pos := "ref.go:30", after := #[{ on := 9, ground := Ground.data }], guard := none }) (v := ?_) rfl (by kernel_rfl) (by kernel_rfl) (by kernel_rfl) (fun _ _ _ h => h) (Or.inl ⟨by rfl, ?_⟩) hH ?_
      rotate_left
      · (intro w hSw; skip; go_simp; try with_reducible rfl)
      try simp only [Act.put, List.setIfInBounds_toArray, List.set_cons_zero, List.set_cons_succ]
      refine wpAnyH_take (i := 11) (oi := { dst := some 74, op := Op.move (Operand.tmp 8), type := 3, pos := "ref.go:30", after := #[], guard := none }) (v := ?_) rfl (by kernel_rfl) (by kernel_rfl) (by kernel_rfl) (fun _ _ _ h => h) (Or.inl ⟨by rfl, ?_⟩) hH ?_
      rotate_left
      · (intro w hSw; skip; go_simp; try with_reducible rfl)
      try simp only [Act.put, List.setIfInBounds_toArray, List.set_cons_zero, List.set_cons_succ]
      refine wpAnyH_take (i := 12) (oi := { dst := some 75, op := Op.slice 27 (Operand.tmp 73) none (some (Operand.tmp 74)) none, type := 27, pos := "ref.go:30", after := #[{ on := 10, ground := Ground.data }, { on := 11, ground := Ground.data }], guard := none }) (v := ?_) rfl (by kernel_rfl) (by kernel_rfl) (by kernel_rfl) (fun _ _ _ h => h) (Or.inl ⟨by rfl, ?_⟩) hH ?_
      rotate_left
      · (intro w hSw; skip; go_simp; try with_reducible rfl)
      try simp only [Act.put, List.setIfInBounds_toArray, List.set_cons_zero, List.set_cons_succ]
      refine wpAnyH_ready (rs := [6]) (by kernel_rfl) (by simp) ?_
      refine AllReadyH.cons (o := { dst := some 69, op := Op.makeSlice 27 (Operand.const (Value.int IntKind.i64 0)) (Operand.tmp 68), type := 27, pos := "ref.go:30", after := #[{ on := 5, ground := Ground.data }], guard := none }) rfl (fun K hK => ?_) AllReadyH.nil
      go_simp
      refine hK.out _ _ hH3 (fun hH => ?_)
      clear hK K
      try simp only [Act.put, List.setIfInBounds_toArray, List.set_cons_zero, List.set_cons_succ]
      refine wpAnyH_ready (rs := [13]) (by kernel_rfl) (by simp) ?_
      refine AllReadyH.cons (o := { dst := some 76, op := Op.call { callee := Callee.builtin Builtin.append, args := #[Operand.tmp 69, Operand.tmp 75], argTypes := #[27, 27] }, type := 27, pos := "ref.go:30", after := #[{ on := 6, ground := Ground.data }, { on := 12, ground := Ground.data }], guard := none }) rfl (fun K hK => ?_) AllReadyH.nil
      refine step_append_run rfl (.tmp 69) (.tmp 75) 27 27 (by rfl) _ _ _ (by rfl) (by rfl) hr1 ?_
      refine hK.out _ _ hH5 (fun hH => ?_)
      clear hK K
      try simp only [Act.put, List.setIfInBounds_toArray, List.set_cons_zero, List.set_cons_succ]
      refine wpAnyH_take (i := 14) (oi := { dst := some 9, op := Op.assign (Operand.tmp 76), type := 27, pos := "ref.go:30", after := #[{ on := 13, ground := Ground.data }, { on := 13, ground := Ground.chain }, { on := 0, ground := Ground.phase }, { on := 1, ground := Ground.phase }, { on := 2, ground := Ground.phase }, { on := 3, ground := Ground.phase }, { on := 4, ground := Ground.phase }, { on := 5, ground := Ground.phase }, { on := 6, ground := Ground.phase }, { on := 7, ground := Ground.phase }, { on := 8, ground := Ground.phase }, { on := 9, ground := Ground.phase }, { on := 10, ground := Ground.phase }, { on := 11, ground := Ground.phase }, { on := 12, ground := Ground.phase }, { on := 13, ground := Ground.phase }], guard := none }) (v := ?_) rfl (by kernel_rfl) (by kernel_rfl) (by kernel_rfl) (fun _ _ _ h => h) (Or.inl ⟨by rfl, ?_⟩) hH ?_
      rotate_left
      · (intro w hSw; skip; go_simp; try with_reducible rfl)
      try simp only [Act.put, List.setIfInBounds_toArray, List.set_cons_zero, List.set_cons_succ]
      refine wpAnyH_done (by kernel_rfl) ?_ _
      refine NoPanic.normal ?_
      go_wp2_with fail
      refine HK12.out _ _ ?_
      clear hr1 hc2 hwr
      have hws : w.heap.size ≤ W2.heap.size := by have := BR2.out.size; omega
      have hxr4 := (BR2.out.block _ (by omega)).trans hxb
      have hxr5 := (B4.out.block _ (lt_of_heap hxr4)).trans hxr4
      have x0 : w4.cell? ⟨w.heap.size, 0, none⟩ = some (.int .i64 x.1) := (cell_of_row _ _ _ _ _ _ hxr5).trans rfl
      have x1 : w4.cell? ⟨w.heap.size, 1, none⟩ = some (.int .i64 x.2) := (cell_of_row _ _ _ _ _ _ hxr5).trans rfl
      have hxd : IsD (w4.alloc (.cells #[.int .i64 x.1, .int .i64 x.2] 37)) (.slice (some ⟨w4.heap.size, 0, none⟩) 1 1) [x] := (MineD.lit (w := w4) [x] (Nat.le_refl _) (by simp [maxLen])).isD
      have hs4 := B4.out.size
      obtain ⟨v5, w5, hr5, m5, b5, -⟩ := run_dues (w4.alloc (.cells #[.int .i64 x.1, .int .i64 x.2] 37)) W2.heap.size (.slice a4 N4 k4) (L.take k) (World.ownsRow.alloc M4.out _) (.slice (some ⟨w4.heap.size, 0, none⟩) 1 1) [x] hxd (by rw [List.length_take, List.length_singleton]; omega) (by simp; omega)
      obtain ⟨a5, N5, k5, rfl⟩ : ∃ a n k, v5 = .slice a n k := by obtain ⟨a, k, h, _⟩ := m5.isD; exact ⟨a, _, k, h⟩
      have b5' : Below W2.heap.size W2 w5 := (B4.out.alloc hs4 _).trans b5
      have HR5 := HR2.out.below b5'
      have y5 := HR5.cell
      have hs5 := b5'.size
      obtain ⟨v6, w6, hr6, m6, b6, -⟩ := run_dues w5 W2.heap.size (.slice a5 N5 k5) (L.take k ++ [x]) m5 (.slice (if cu = k then au else Option.map (fun x => x.add (k * 2)) au) (L.length - k) (cu - k)) (L.drop k) (isD_tail HR5.row.isD HEK.out) (by rw [List.length_append, List.length_take, List.length_drop, List.length_singleton]; omega) hs5
      have b6' : Below W2.heap.size W2 w6 := b5'.trans b6
      have HR6 := HR2.out.below b6'
      have fz := frozen_p HR6.head 0
      have y6 := HR6.cell
      obtain ⟨a6, N6, k6, rfl⟩ : ∃ a n k, v6 = .slice a n k := by obtain ⟨a, k, h, _⟩ := m6.isD; exact ⟨a, _, k, h⟩
      have e6 : insD L x = L.take k ++ [x] ++ L.drop k := by
        unfold insD
        rw [if_neg hxL, AT.out.filter.1, AT.out.filter.2, List.append_assoc]
        rfl
      rw [← e6] at m6
      have RS := Lib.hid (RefAt.stored (w0 := W2) HR6 (lt_of_heap HR2.out.head) (by have := HR2.out.low; have := lt_of_heap HR2.out.head; omega) m6)
      have hbW : Below w.heap.size w W := by rw [← HW.out]; exact (Below.refl _ _).alloc (Nat.le_refl _) _
      have HT := Lib.hid ((Turned.of_below (T := (· = r)) ((hbW.trans (BR2.out.mono (by omega))).trans (b6'.mono hws))).trans (turned_at _ r 0 (.slice a6 N6 k6) rfl))
      have HN := Lib.hid (show ∀ j, (Value.slice a6 N6 k6).ownBlock = some j → w.heap.size ≤ j from fun j e => Nat.le_trans hws (World.ownsRow.lt m6 j e).1)
      clear hxr4 hxr5 hxd hs4 m5 b5 b5' HR5 m6 b6 b6' HR6 e6 hbW hs5 hws
      apply wp_seq_k
      intro K13 h13
      have HK13 := Lib.hid h13
      clear h13
      have HR6' := Lib.hid hr6
      clear hr6
      go_wp2_with (at_builtin; refine Lib.wpList_append_run _ rfl _ _ _ _ rfl _ _ rfl rfl _ _ hr5 ?_; clear hr5)
      refine HK13.out _ _ ?_
      have hr6 := HR6'.out
      clear HR6' x0 x1
      skip
      apply wp_seq_k
      intro K14 h14
      have HK14 := Lib.hid h14
      clear h14
      go_wp2_with (at_builtin; refine Lib.wpList_append_run _ rfl _ _ _ _ rfl _ _ rfl rfl _ _ hr6 ?_; clear hr6)
      all_goals (refine HK14.out _ _ ?_; go_wp2_with fail; go_ret; exact ⟨_, rfl, RS.out, HT.out, .inr HN.out⟩)
end Go.Proofs.Ytaohneahlcnahaa
