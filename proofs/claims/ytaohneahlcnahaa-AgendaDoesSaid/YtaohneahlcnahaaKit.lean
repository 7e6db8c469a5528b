/- Laws of append onto a row of the call's own, whatever is appended: a slice (nil too) or a string. Over any program. -/
import Derived.Test.YtaohneahlcnahaaChecked
import Derived.WalkKit
import Derived.Lib.Hide
set_option linter.unusedVariables false
set_option linter.unusedSimpArgs false
namespace Go.Proofs.Ytaohneahlcnahaa
open Go.RowKit

section
variable {P : Program}
theorem run_app (w : World) (base : Nat) (t xt ty e : TypeId) (i : TypeInfo) (z : Value) (size bytes : Nat) (d : TypeDesc) (ht : P.underlying t = some (.slice e))
    (hxt : P.underlying xt = some d) (hd : d = .slice e ∨ d = .string) (hi : P.info? e = some i) (hz : i.zero = some z)
    (hsize : i.size = size) (hby : i.bytes = bytes) (hzs : z.cells.size = size) (hsz : 0 < size)
    (v : Value) (n : Nat) (xs : List Value) (hown : w.ownsRow base e size v n xs)
    (x : Value) (m : Nat) (news : List Value) (hlen : ∀ w' : World, (Builtin.lenOf x).run P w' = .ok m w') (hl : news.length = m * size)
    (hf : ∀ w' : World, w'.heap = w.heap → (Builtin.firstCells size m x).run P w' = .ok news.toArray w') (h1 : ∀ u ∈ news, u.oneCell' = true)
    (h63 : n + m ≤ maxLen) (hbytes : (n + m) * bytes ≤ 140737488355328) (hbase : base ≤ w.heap.size) :
    ∃ v' w', (Builtin.append_ #[t, xt] ty #[v, x]).run P w = .ok v' w' ∧ w'.ownsRow base e size v' (n + m) (xs ++ news) ∧ w.grownBy w' v.ownBlock ∧
      (v' = .slice none 0 0 ↔ v = .slice none 0 0 ∧ m = 0) ∧ (v'.ownBlock = v.ownBlock ∨ v'.ownBlock = some w.heap.size) := by
  subst hsize
  subst hby
  have hf1 := hf w rfl
  have hf2 := hf w.drew rfl
  clear hf
  have hsmall : n + m ≤ 9223372036854775807 := by simp only [maxLen] at h63; omega
  have hlen2 : (xs ++ news).length = (n + m) * i.size := by rw [List.length_append, hown.1, hl, Nat.add_mul]
  have grown : ∀ (old : Nat), old < n + m → ∀ (row : Option Nat),
      (w.drew.alloc (.cells (xs.toArray ++ news.toArray ++ Builtin.zeroCells z.cells (grownCap w (n + m) old e - (n + m))) e)).ownsRow base e i.size
        (.slice (some ⟨w.heap.size, 0, none⟩) (n + m) (grownCap w (n + m) old e)) (n + m) (xs ++ news) ∧
      w.grownBy (w.drew.alloc (.cells (xs.toArray ++ news.toArray ++ Builtin.zeroCells z.cells (grownCap w (n + m) old e - (n + m))) e)) row := by
    intro old ho row
    have hge := grownCap_ge w (n + m) old e
    have hcm : grownCap w (n + m) old e ≤ maxLen := grownCap_le_maxLen w (n + m) old e h63
    refine ⟨⟨hlen2, .inr ⟨w.heap.size, _, _, rfl, hbase, heap_alloc_new w.drew _, hge, hcm, ?_, ?_⟩⟩, ⟨rfl, rfl, rfl, by simp, fun k hk _ => Below.heap_alloc w.drew _ k hk⟩⟩
    · simp only [Array.size_append, List.size_toArray, size_zeroCells, hzs, hown.1, hl, ← Nat.add_mul]
      congr 1
      omega
    · simp only [Array.toList_append, List.append_assoc]
      rw [← List.append_assoc, ← hlen2]
      exact List.take_left
  rcases hown.2 with ⟨rfl, rfl⟩ | ⟨g, cap, cur, rfl, hbg, hg, hnc, hcm, hcs, htake⟩
  · have hx : xs = [] := List.eq_nil_of_length_eq_zero (by simpa using hown.1)
    subst hx
    by_cases hm : m = 0
    · subst hm
      have hn : news = [] := List.eq_nil_of_length_eq_zero (by simpa using hl)
      subst hn
      refine ⟨.slice none 0 0, w, ?_, World.ownsRow_nil w base e i.size, ⟨rfl, rfl, rfl, Nat.le_refl _, fun _ _ _ => rfl⟩, by simp, .inl rfl⟩
      rcases hd with rfl | rfl <;> simp [Builtin.append_, run_underlying ht, run_underlying hxt, sizeOf, typeInfo, hi, hlen, hf1]
    · have h63' : ¬ (9223372036854775807 < (m : Int)) := by omega
      have hfit : Builtin.nextslicecap m 0 * i.bytes ≤ 281474976710656 := growslice_fits (by omega) (by simpa using hbytes)
      have h48' : ¬ (281474976710656 < Builtin.nextslicecap m 0 * i.bytes) := by omega
      have hgr := grown 0 (by omega) (Value.ownBlock (.slice none 0 0))
      simp only [Nat.zero_add, List.nil_append, Array.empty_append] at hgr ⊢
      refine ⟨_, _, ?_, hgr.1, hgr.2, by simp [hm], .inr rfl⟩
      rcases hd with rfl | rfl <;> simp [Builtin.append_, run_underlying ht, run_underlying hxt, sizeOf, typeInfo, zeroValue, hi, hz, hlen, hm, h63', h48', Question.forced, run_firstCells_none, hf2, newRow, grownCap]
  · by_cases hroom : n + m ≤ cap
    · have hfit : n * i.size + news.length ≤ cur.size := by rw [hl, hcs, ← Nat.add_mul]; exact Nat.mul_le_mul_right _ hroom
      have hst := run_storeCells_at P g (n * i.size) e news 0 cur w hg (by simpa using hfit) h1
      simp only [Nat.add_zero] at hst
      refine ⟨.slice (some ⟨g, 0, none⟩) (n + m) cap, w.setRow g (cur.toList.take (n * i.size) ++ news ++ cur.toList.drop (n * i.size + news.length)).toArray, ?_, ⟨hlen2, .inr ⟨g, cap, _, rfl, hbg, setRow_heap w g cur _ e _ hg, hroom, hcm, ?_, ?_⟩⟩, ⟨rfl, rfl, rfl, by simp, fun k _ hk => setRow_other w g k _ (fun e => hk (by simp [Value.ownBlock, e]))⟩, by simp, .inl rfl⟩
      · rcases hd with rfl | rfl <;> simp [Builtin.append_, run_underlying ht, run_underlying hxt, sizeOf, typeInfo, hi, hlen, hroom, hf1, Addr.add_lit, hst]
      · simp only [List.size_toArray, List.length_append, List.length_take, List.length_drop, Array.length_toList]
        omega
      · rw [htake, ← hlen2]
        exact List.take_left
    · have holds : ∀ j u, xs[j]? = some u → w.cell? ((⟨g, 0, none⟩ : Addr).add j) = some u := hown.cells (g := g) rfl
      have hn : ¬ (n + m ≤ cap) := by omega
      have h63' : ¬ (9223372036854775807 < ((n : Int) + (m : Int))) := by omega
      have hfit : Builtin.nextslicecap (n + m) cap * i.bytes ≤ 281474976710656 := growslice_fits (by omega) hbytes
      have h48' : ¬ (281474976710656 < Builtin.nextslicecap (n + m) cap * i.bytes) := by omega
      have hfo := run_firstCells_some (P := P) w.drew i.size n ⟨g, 0, none⟩ n cap xs hown.1 (by simpa using holds)
      have hgr := grown cap (by omega) (Value.ownBlock (.slice (some ⟨g, 0, none⟩) n cap))
      refine ⟨_, _, ?_, hgr.1, hgr.2, by simp, .inr rfl⟩
      rcases hd with rfl | rfl <;> simp [Builtin.append_, run_underlying ht, run_underlying hxt, sizeOf, typeInfo, zeroValue, hi, hz, hlen, hn, h63', h48', Question.forced, hf2, hfo, newRow, grownCap]
      all_goals
        congr 2
        apply Array.ext'
        simp [List.append_assoc]

/-- the cells of a list of bytes -/
def bv (l : List UInt8) : List Value := l.map fun b => .int .u8 (b.toNat : Int)
theorem bv_length (l : List UInt8) : (bv l).length = l.length := by simp [bv]
theorem bv_append (l r : List UInt8) : bv (l ++ r) = bv l ++ bv r := by simp [bv]
theorem bv_oneCell (l : List UInt8) : ∀ u ∈ bv l, u.oneCell' = true := by
  intro u hu
  obtain ⟨_, _, rfl⟩ := List.mem_map.1 hu
  rfl
theorem bv_get (l : List UInt8) (i : Nat) (h : i < l.length) : (bv l)[i]? = some (.int .u8 (l[i].toNat : Int)) := by simp [bv, h]

/-- the slice value v reads as the bytes l -/
def IsB (w : World) (v : Value) (l : List UInt8) : Prop :=
  ∃ a cap, v = .slice a l.length cap ∧ l.length ≤ cap ∧ cap ≤ maxLen ∧ (a = none → cap = 0) ∧
    ∀ x, a = some x → (0 < l.length → x.spot = none) ∧ ∀ i, (h : i < l.length) → w.cell? ⟨x.block, x.off + i, none⟩ = some (.int .u8 (l[i].toNat : Int))
/-- the slice value v reads as the slices of bytes ls -/
def IsBs (w : World) (v : Value) (ls : List (List UInt8)) : Prop :=
  ∃ a cap, v = .slice a ls.length cap ∧ ls.length ≤ cap ∧ cap ≤ maxLen ∧ (a = none → cap = 0) ∧
    ∀ x, a = some x → (0 < ls.length → x.spot = none) ∧ ∀ i, (h : i < ls.length) → ∃ u, w.cell? ⟨x.block, x.off + i, none⟩ = some u ∧ IsB w u ls[i]
/-- the slice value v is a row of bytes of the call's own, from block base on -/
def Mine (e : TypeId) (base : Nat) (w : World) (v : Value) (l : List UInt8) : Prop := w.ownsRow base e 1 v l.length (bv l)

theorem IsB.nil (w : World) : IsB w (.slice none 0 0) [] := ⟨none, 0, rfl, Nat.le_refl _, by simp [maxLen], fun _ => rfl, fun x h => by cases h⟩
theorem IsB.of_cells {w w' : World} {v : Value} {l : List UInt8} (h : IsB w v l) (hw : ∀ a u, w.cell? a = some u → w'.cell? a = some u) : IsB w' v l := by
  obtain ⟨a, cap, hv, hl, hm, hn, hc⟩ := h
  exact ⟨a, cap, hv, hl, hm, hn, fun x hx => ⟨(hc x hx).1, fun i hi => hw _ _ ((hc x hx).2 i hi)⟩⟩
theorem cells_below {w w' : World} (hb : Below w.heap.size w w') (a : Addr) (u : Value) (h : w.cell? a = some u) : w'.cell? a = some u :=
  (hb.cell (World.block_lt_of_cell? w a h)).trans h
theorem IsB.below {w w' : World} {v : Value} {l : List UInt8} (h : IsB w v l) (hb : Below w.heap.size w w') : IsB w' v l := h.of_cells (cells_below hb)
theorem IsB.alloc {w : World} {v : Value} {l : List UInt8} (h : IsB w v l) (o : Obj) : IsB (w.alloc o) v l := h.below ((Below.refl _ _).alloc (Nat.le_refl _) _)
theorem IsB.drew {w : World} {v : Value} {l : List UInt8} (h : IsB w v l) : IsB w.drew v l := h
theorem IsB.grown {w w' : World} {v : Value} {l : List UInt8} {row : Option Nat} (h : IsB w v l) (hg : w.grownBy w' row) (hne : v.ownBlock = none ∨ v.ownBlock ≠ row) : IsB w' v l := by
  obtain ⟨a, cap, hv, hl, hm, hn, hc⟩ := h
  refine ⟨a, cap, hv, hl, hm, hn, fun x hx => ⟨(hc x hx).1, fun i hi => ?_⟩⟩
  refine hg.cell ((hc x hx).2 i hi) ?_
  rw [hv, hx] at hne
  simpa [Value.ownBlock] using hne
theorem Mine.nil (e : TypeId) (base : Nat) (w : World) : Mine e base w (.slice none 0 0) [] := World.ownsRow_nil w base e 1
theorem Mine.alloc {e : TypeId} {base : Nat} {w : World} {v : Value} {l : List UInt8} (h : Mine e base w v l) (o : Obj) : Mine e base (w.alloc o) v l := World.ownsRow.alloc h o
theorem Mine.drew {e : TypeId} {base : Nat} {w : World} {v : Value} {l : List UInt8} (h : Mine e base w v l) : Mine e base w.drew v l := h
theorem Mine.below {e : TypeId} {base : Nat} {w w' : World} {v : Value} {l : List UInt8} (h : Mine e base w v l) (hb : Below w.heap.size w w') : Mine e base w' v l := by
  obtain ⟨h1, h2⟩ := h
  refine ⟨h1, ?_⟩
  rcases h2 with h2 | ⟨g, cap, cur, hv, hg, hh, r⟩
  · exact .inl h2
  · exact .inr ⟨g, cap, cur, hv, hg, by rw [hb.block g (Array.getElem?_eq_some_iff.1 hh).1]; exact hh, r⟩
theorem Mine.base_le {e : TypeId} {base base' : Nat} {w : World} {v : Value} {l : List UInt8} (h : Mine e base w v l) (hb : base' ≤ base) : Mine e base' w v l := by
  obtain ⟨h1, h2⟩ := h
  refine ⟨h1, ?_⟩
  rcases h2 with h2 | ⟨g, cap, cur, hv, hg, r⟩
  · exact .inl h2
  · exact .inr ⟨g, cap, cur, hv, by omega, r⟩
theorem Mine.isB {e : TypeId} {base : Nat} {w : World} {v : Value} {l : List UInt8} (h : Mine e base w v l) : IsB w v l := by
  rcases h.2 with ⟨rfl, hn⟩ | ⟨g, cap, cur, rfl, hb, hg, hnc, hcm, hcs, htake⟩
  · have : l = [] := List.eq_nil_of_length_eq_zero hn
    subst this
    exact IsB.nil w
  · refine ⟨some ⟨g, 0, none⟩, cap, rfl, hnc, hcm, fun h => (by cases h), ?_⟩
    rintro x ⟨⟩
    refine ⟨fun _ => rfl, fun i hi => ?_⟩
    have hc := World.ownsRow.cells h (g := g) rfl i _ (bv_get l i hi)
    simpa [Addr.add_lit] using hc
theorem Mine.lt {e : TypeId} {base : Nat} {w : World} {v : Value} {l : List UInt8} (h : Mine e base w v l) : ∀ k, v.ownBlock = some k → base ≤ k ∧ k < w.heap.size := World.ownsRow.lt h
theorem Mine.lit {e : TypeId} {base : Nat} {w : World} (l : List UInt8) (hb : base ≤ w.heap.size) (hm : l.length ≤ maxLen) :
    Mine e base (w.alloc (.cells (bv l).toArray e)) (.slice (some ⟨w.heap.size, 0, none⟩) l.length l.length) l := by
  have := World.ownsRow_lit (e := e) (size := 1) (base := base) w (bv l).toArray l.length hb hm (by simp [bv])
  simpa [Mine] using this

theorem run_firstCells_isB {w : World} {v : Value} {l : List UInt8} (h : IsB w v l) : ∀ w' : World, w'.heap = w.heap → (Builtin.firstCells 1 l.length v).run P w' = .ok (bv l).toArray w' := by
  intro w' hw
  obtain ⟨a, cap, rfl, hl, hm, hn, hc⟩ := h
  cases a with
  | none =>
    have : l = [] := List.eq_nil_of_length_eq_zero (by have := hn rfl; omega)
    subst this
    simp [Builtin.firstCells, bv]
  | some x =>
    by_cases h0 : l = []
    · subst h0
      simp [Builtin.firstCells, bv, loadCells, loadCellsFrom]
    obtain ⟨b, o, s⟩ := x
    obtain ⟨hs, hc⟩ := hc _ rfl
    obtain rfl : s = none := hs (List.length_pos_iff.2 h0)
    refine run_firstCells_some (P := P) w' 1 l.length _ _ _ (bv l) (by simp [bv]) ?_
    intro j u hj
    have hlt : j < l.length := by have := (List.getElem?_eq_some_iff.1 hj).1; simpa [bv] using this
    rw [bv_get l j hlt] at hj
    obtain rfl := Option.some.inj hj
    rw [Addr.add_lit, World.cell?_of_block (w := w) (by rw [hw])]
    exact hc j hlt

/-- append of what reads as bytes, onto a row of bytes of one's own -/
theorem wpList_bytes {w : World} {ops : Array Oper} {rest : List Oper} {o : Oper} {a : Act} {Q : Exit → Act → World → Prop} (hgd : o.guard = none) (s x : Operand) (t : TypeId)
    (ho : o.op = .call { callee := .builtin .append, args := #[s, x], argTypes := #[t, t] })
    (base : Nat) (e : TypeId) (hP : (P.info? e).map (fun i => (i.zero, i.size, i.bytes)) = some (some (.int .u8 0), 1, 1)) (ht : P.underlying t = some (.slice e))
    (v : Value) (l : List UInt8) (hs : a.eval s = v) (hown : Mine e base w v l)
    (u : Value) (m : List UInt8) (hx : a.eval x = u) (hu : IsB w u m)
    (hlen : l.length + m.length ≤ 140737488355328) (hbase : base ≤ w.heap.size)
    (h : ∀ v' w', Mine e base w' v' (l ++ m) → w.grownBy w' v.ownBlock → Below base w w' → (v' = .slice none 0 0 ↔ v = .slice none 0 0 ∧ m = []) → (v'.ownBlock = v.ownBlock ∨ v'.ownBlock = some w.heap.size) → wpList P ops Q rest (a.put o.dst v') w') : wpList P ops Q (o :: rest) a w := by
  obtain ⟨i, hi, hz, hs1, hb1⟩ := info_parts hP
  obtain ⟨v', w', hr, h2, h3, h4, h5⟩ := run_app (P := P) w base t t o.type e i (.int .u8 0) 1 1 _ ht ht (.inl rfl) hi hz hs1 hb1 rfl (by decide) v l.length (bv l) hown u m.length (bv m)
    (fun w' => by obtain ⟨a, cap, rfl, _⟩ := hu; simp [Builtin.lenOf]) (by simp [bv]) (run_firstCells_isB hu) (bv_oneCell m) (by unfold maxLen; omega) (by omega) hbase
  refine wpList_plain hgd fun K hK => ?_
  unfold Oper.wp execOp
  simp only [ho, resolve, invoke, builtin, Sem.run_bind, Sem.run_pure, Result.andThen_ok, List.map_toArray, List.map_cons, List.map_nil, hs, hx, hr]
  refine hK _ _ (h v' w' ?_ h3 ((Below.refl base w).grown h3 hbase fun k hk => (hown.lt k hk).1) ?_ h5)
  · rw [← bv_append, ← List.length_append] at h2; exact h2
  · rw [h4]
    simp [List.length_eq_zero_iff]

/-- append of a string, onto a row of bytes of one's own -/
theorem wpList_string {w : World} {ops : Array Oper} {rest : List Oper} {o : Oper} {a : Act} {Q : Exit → Act → World → Prop} (hgd : o.guard = none) (s x : Operand) (t st : TypeId)
    (ho : o.op = .call { callee := .builtin .append, args := #[s, x], argTypes := #[t, st] })
    (base : Nat) (e : TypeId) (hP : (P.info? e).map (fun i => (i.zero, i.size, i.bytes)) = some (some (.int .u8 0), 1, 1)) (ht : P.underlying t = some (.slice e)) (hst : P.underlying st = some .string)
    (v : Value) (l : List UInt8) (hs : a.eval s = v) (hown : Mine e base w v l)
    (u : ByteArray) (hx : a.eval x = .string u)
    (hlen : l.length + u.size ≤ 140737488355328) (hbase : base ≤ w.heap.size)
    (h : ∀ v' w', Mine e base w' v' (l ++ u.data.toList) → w.grownBy w' v.ownBlock → Below base w w' → (v' = .slice none 0 0 ↔ v = .slice none 0 0 ∧ u.data.toList = []) → (v'.ownBlock = v.ownBlock ∨ v'.ownBlock = some w.heap.size) → wpList P ops Q rest (a.put o.dst v') w') : wpList P ops Q (o :: rest) a w := by
  obtain ⟨i, hi, hz, hs1, hb1⟩ := info_parts hP
  have hx2 : (Array.map (fun b : UInt8 => Value.int IntKind.u8 (b.toNat : Int)) u.data).extract 0 u.size = (bv u.data.toList).toArray := by
    have hs : u.size = (Array.map (fun b : UInt8 => Value.int IntKind.u8 (b.toNat : Int)) u.data).size := by rw [Array.size_map]; rfl
    rw [hs, Array.extract_size]
    apply Array.ext'
    simp [bv]
  have hul : u.data.toList.length = u.size := by rw [Array.length_toList]; rfl
  obtain ⟨v', w', hr, h2, h3, h4, h5⟩ := run_app (P := P) w base t st o.type e i (.int .u8 0) 1 1 _ ht hst (.inr rfl) hi hz hs1 hb1 rfl (by decide) v l.length (bv l) hown (.string u) u.size (bv u.data.toList)
    (fun w' => by simp [Builtin.lenOf]) (by rw [bv_length, hul, Nat.mul_one]) (fun w' _ => by
      simp only [Builtin.firstCells, Sem.run_pure]
      congr 1
      rw [← hx2]
      have e0 : (u.extract 0 u.size) = u := ByteArray.extract_zero_size
      have hs : u.size = (Array.map (fun b : UInt8 => Value.int IntKind.u8 (b.toNat : Int)) u.data).size := by rw [Array.size_map]; rfl
      rw [e0, hs, Array.extract_size]) (bv_oneCell _) (by unfold maxLen; omega) (by omega) hbase
  refine wpList_plain hgd fun K hK => ?_
  unfold Oper.wp execOp
  simp only [ho, resolve, invoke, builtin, Sem.run_bind, Sem.run_pure, Result.andThen_ok, List.map_toArray, List.map_cons, List.map_nil, hs, hx, hr]
  refine hK _ _ (h v' w' ?_ h3 ((Below.refl base w).grown h3 hbase fun k hk => (hown.lt k hk).1) ?_ h5)
  · rw [← bv_append, ← hul, ← List.length_append] at h2; exact h2
  · rw [h4, ← List.length_eq_zero_iff, hul]

/-- string(b) -/
theorem run_str {w : World} {v : Value} {l : List UInt8} (hv : IsB w v l) (src dst e : TypeId) (hs : P.underlying src = some (.slice e)) (he : P.underlying e = some (.int .u8)) (hd : P.underlying dst = some .string) :
    (convert src dst v).run P w = .ok (.string ⟨l.toArray⟩) w := by
  obtain ⟨a, cap, rfl, hl, hm, hn, hc⟩ := hv
  rw [run_convert_bytes_string w src dst e _ _ _ hs he hd]
  cases a with
  | none =>
    have : l = [] := List.eq_nil_of_length_eq_zero (by have := hn rfl; omega)
    subst this
    simp [Conv.bytesToString]
    rfl
  | some x =>
    by_cases h0 : l = []
    · subst h0
      simp [Conv.bytesToString, loadCells, loadCellsFrom]
      rfl
    obtain ⟨b, o, s⟩ := x
    obtain ⟨hs, hc⟩ := hc _ rfl
    obtain rfl : s = none := hs (List.length_pos_iff.2 h0)
    have hlc := run_loadCells_list (P := P) w ⟨b, o, none⟩ (bv l) (by
      intro j u hj
      have hlt : j < l.length := by have := (List.getElem?_eq_some_iff.1 hj).1; simpa [bv] using this
      rw [bv_get l j hlt] at hj
      obtain rfl := Option.some.inj hj
      rw [Addr.add_lit]
      exact hc j hlt)
    rw [bv_length] at hlc
    have e1 : bv l = (l.map fun b => (b.toNat : Int)).map (Value.int .u8) := by simp [bv]
    rw [e1] at hlc
    rw [run_bytesToString w _ _ _ _ hlc, foldl_push_bytes]
    have e2 : ((l.map fun b => (b.toNat : Int)).map fun n => UInt8.ofNat n.toNat) = l := by
      rw [List.map_map]
      conv => rhs; rw [← List.map_id l]
      apply List.map_congr_left
      intro b _
      simp
    rw [e2]
    have e3 : (ByteArray.empty.data ++ l.toArray) = l.toArray := by
      rw [show ByteArray.empty.data = #[] from rfl, Array.empty_append]
    rw [e3]

/-- where a part of a slice begins -/
def cutA (a : Option Addr) (cap n : Nat) : Option Addr := if cap = n then a else a.map (·.add n)
theorem run_cut_l (w : World) {t e : TypeId} (ht : P.underlying t = some (.slice e)) (hsz : (P.info? e).map (fun i => (i.zero, i.size, i.bytes)) = some (some (.int .u8 0), 1, 1)) (a : Option Addr) (len cap n : Nat) (L : Int) (hL : L = n) (hn : n ≤ len) :
    (Instr.slice t (.slice a len cap) (some (.int .i64 L)) none none).run P w = .ok (.slice (cutA a cap n) (len - n) (cap - n)) w := by
  obtain ⟨i, hi, hz, hs1, hb1⟩ := info_parts hsz
  subst hL
  have h2 : (n : Int) ≤ (len : Int) := by omega
  have hc : (cap = n) = (cap = n) := rfl
  simp [Instr.slice, run_underlying ht, Instr.sliceBounds, run_sliceBound, sizeOf, typeInfo, hi, hs1, h2, cutA]
theorem run_cut_lh (w : World) {t e : TypeId} (ht : P.underlying t = some (.slice e)) (hsz : (P.info? e).map (fun i => (i.zero, i.size, i.bytes)) = some (some (.int .u8 0), 1, 1)) (a : Option Addr) (len cap n h : Nat) (L H : Int) (hL : L = n) (hH : H = h) (hn : n ≤ h) (hh : h ≤ cap) :
    (Instr.slice t (.slice a len cap) (some (.int .i64 L)) (some (.int .i64 H)) none).run P w = .ok (.slice (cutA a cap n) (h - n) (cap - n)) w := by
  obtain ⟨i, hi, hz, hs1, hb1⟩ := info_parts hsz
  subst hL
  subst hH
  have h2 : (n : Int) ≤ (h : Int) := by omega
  have h3 : (h : Int) ≤ (cap : Int) := by omega
  simp [Instr.slice, run_underlying ht, Instr.sliceBounds, run_sliceBound, sizeOf, typeInfo, hi, hs1, h2, h3, cutA]
theorem run_cut_h (w : World) {t e : TypeId} (ht : P.underlying t = some (.slice e)) (hsz : (P.info? e).map (fun i => (i.zero, i.size, i.bytes)) = some (some (.int .u8 0), 1, 1)) (a : Option Addr) (len cap h : Nat) (H : Int) (hH : H = h) (hh : h ≤ cap) :
    (Instr.slice t (.slice a len cap) none (some (.int .i64 H)) none).run P w = .ok (.slice a h cap) w := by
  obtain ⟨i, hi, hz, hs1, hb1⟩ := info_parts hsz
  subst hH
  have h3 : (h : Int) ≤ (cap : Int) := by omega
  have h4 : (0 : Int) ≤ (h : Int) := by omega
  simp [Instr.slice, run_underlying ht, Instr.sliceBounds, run_sliceBound, sizeOf, typeInfo, hi, hs1, h3]
  intro _
  cases a with
  | none => rfl
  | some a => simp [Addr.add]
theorem IsB.cut {w : World} {a : Option Addr} {len cap : Nat} {l : List UInt8} (hv : IsB w (.slice a len cap) l) (n h : Nat) (hn : n ≤ h) (hh : h ≤ l.length) :
    IsB w (.slice (cutA a cap n) (h - n) (cap - n)) ((l.take h).drop n) := by
  obtain ⟨a', cap', hv, hl, hm, hnil, hc⟩ := hv
  simp only [Value.slice.injEq] at hv
  obtain ⟨rfl, rfl, rfl⟩ := hv
  have hlen : ((l.take h).drop n).length = h - n := by simp; omega
  refine ⟨cutA a cap n, cap - n, by rw [hlen], by rw [hlen]; omega, by omega, ?_, ?_⟩
  · intro hnone
    unfold cutA at hnone
    split at hnone
    · omega
    · cases a with
      | none => have := hnil rfl; omega
      | some x => cases hnone
  · intro x hx
    unfold cutA at hx
    split at hx
    · obtain ⟨h1, h2⟩ := hc x hx
      refine ⟨fun hpos => h1 (by rw [hlen] at hpos; omega), fun i hi => ?_⟩
      rw [hlen] at hi
      omega
    · cases a with
      | none => cases hx
      | some y =>
        simp only [Option.map_some, Option.some.injEq] at hx
        subst hx
        obtain ⟨h1, h2⟩ := hc y rfl
        refine ⟨fun hpos => by rw [hlen] at hpos; have h1' := h1 (by omega); unfold Addr.add; split <;> simp [h1'], fun i hi => ?_⟩
        have hi' := hi
        rw [hlen] at hi'
        have h3 := h2 (n + i) (by omega)
        have e1 : (y.add n).block = y.block := by unfold Addr.add; split <;> rfl
        have e2 : (y.add n).off = y.off + n := by unfold Addr.add; split <;> simp_all
        have e3 : ((l.take h).drop n)[i] = l[n + i] := by simp
        rw [e1, e2, e3, Nat.add_assoc]
        exact h3

/-- []byte(s) -/
theorem wpList_conv {w : World} {ops : Array Oper} {rest : List Oper} {d : Option Tmp} {ty : TypeId} {p : String} {af : Array Edge} {a : Act} {Q : Exit → Act → World → Prop} (x : Operand) (st t e : TypeId)
    (hs : P.underlying st = some .string) (ht : P.underlying t = some (.slice e)) (he : P.underlying e = some (.int .u8)) (s : ByteArray) (hx : a.eval x = .string s) (hlen : s.size ≤ 140737488355328)
    (h : ∀ cap w', s.size ≤ cap → cap ≤ maxLen → IsB w' (.slice (some ⟨w.heap.size, 0, none⟩) s.size cap) s.data.toList → Below w.heap.size w w' → w.heap.size < w'.heap.size →
      w'.heap[w.heap.size]? = some (.cells (bytesRow s cap) e ((bytesRow s cap).size, (bytesRow s cap).size + 1)) →
      wpList P ops Q rest (a.put d (.slice (some ⟨w.heap.size, 0, none⟩) s.size cap)) w') :
    wpList P ops Q ({ dst := d, op := .convert st t x, type := ty, pos := p, after := af, guard := none } :: rest) a w := by
  have hrun := run_bytes_of_string (P := P) w st t e s hs ht he
  have hge := grownCap_ge w s.size 0 e
  have hcm : grownCap w s.size 0 e ≤ maxLen := grownCap_le_maxLen w s.size 0 e (by unfold maxLen; omega)
  refine wpList_plain rfl fun K hK => ?_
  unfold Oper.wp execOp
  simp only [hx, hrun, Result.andThen_ok, Sem.run_bind, Sem.run_pure, Sem.run_map]
  generalize grownCap w s.size 0 e = cap at *
  generalize hW : (w.drew.alloc (.cells (bytesRow s cap) e ((bytesRow s cap).size, (bytesRow s cap).size + 1))) = W
  have hat : W.heap[w.heap.size]? = some (.cells (bytesRow s cap) e ((bytesRow s cap).size, (bytesRow s cap).size + 1)) := by
    rw [← hW]; exact heap_alloc_new w.drew _
  have hbel : Below w.heap.size w W := by
    rw [← hW]; exact ((Below.refl _ _).drew).alloc (Nat.le_refl _) _
  have hul : s.data.toList.length = s.size := by rw [Array.length_toList]; rfl
  refine hK _ _ (h cap W hge hcm ⟨some ⟨w.heap.size, 0, none⟩, cap, by rw [hul], by rw [hul]; exact hge, hcm, fun h => (by cases h), ?_⟩ hbel (by rw [← hW]; simp) hat)
  rintro y ⟨⟩
  refine ⟨fun _ => rfl, fun i hi => ?_⟩
  have hc : W.cell? ⟨w.heap.size, i, none⟩ = (bytesRow s cap)[i]? := cell_of_row W _ _ _ _ _ hat
  have hi2 : i < s.data.size := by simpa using hi
  simp only [Nat.zero_add]
  rw [hc, bytesRow, Array.getElem?_append_left (by simpa using hi2)]
  simp
  exact ⟨_, Array.getElem?_eq_getElem hi2, rfl⟩
end
theorem isB_cell {w : World} {b o n cap : Nat} {l : List UInt8} (h : IsB w (.slice (some ⟨b, o, none⟩) n cap) l) (i : Nat) (hi : i < l.length) : w.cell? ⟨b, o + i, none⟩ = some (.int .u8 (l[i].toNat : Int)) := by
  obtain ⟨a', cap', hv', _, _, _, hc'⟩ := h
  simp only [Value.slice.injEq] at hv'
  obtain ⟨rfl, _, _⟩ := hv'
  exact (hc' _ rfl).2 i hi
theorem isB_lit {w : World} (e : TypeId) (l : List UInt8) (h : l.length ≤ maxLen) : IsB (w.alloc (.cells (bv l).toArray e)) (.slice (some ⟨w.heap.size, 0, none⟩) l.length l.length) l := (Mine.lit (e := e) l (Nat.le_refl _) h).isB
theorem isB_byte (w : World) (E : TypeId) (n : Int) (x : UInt8) (h : n = ((x.toNat : Nat) : Int)) : IsB (w.alloc (.cells #[.int .u8 n] E)) (.slice (some ⟨w.heap.size, 0, none⟩) 1 1) [x] := by
  rw [h]; exact (Mine.lit (e := E) [x] (Nat.le_refl _) (by simp [maxLen])).isB
/-- where a loop stands that reads a slice of bytes 'src' and gathers others in a row of its own -/
structure Gath (e : TypeId) (B : Nat) (w0 : World) (src : Value) (L : List UInt8) (wr : World) (b : Value) (acc : List UInt8) : Prop where
  mine : Mine e B wr b acc
  below : Below B w0 wr
  srcB : IsB wr src L
  apart : ∀ k, src.ownBlock = some k → k < wr.heap.size ∧ b.ownBlock ≠ some k
theorem Gath.app {e : TypeId} {B : Nat} {w0 : World} {src : Value} {L : List UInt8} {wr : World} {b : Value} {acc : List UInt8} (h : Gath e B w0 src L wr b acc) {o : Obj} {w1 : World} {v' : Value} {m : List UInt8}
    {acc' : List UInt8} (heq : acc' = acc ++ m) (hB : B ≤ wr.heap.size) (hm : Mine e B w1 v' acc') (hg : (wr.alloc o).grownBy w1 b.ownBlock) (hb : Below B (wr.alloc o) w1) (hrow : v'.ownBlock = b.ownBlock ∨ v'.ownBlock = some (wr.heap.size + 1)) :
    Gath e B w0 src L w1 v' (acc ++ m) := by
  subst heq
  have hsz : wr.heap.size < w1.heap.size := by have := hg.size; simp at this; omega
  refine ⟨hm, h.below.trans (((Below.refl _ _).alloc hB _).trans hb), (h.srcB.alloc o).grown hg ?_, fun k hk => ?_⟩
  · cases hs : src.ownBlock with
    | none => exact .inl rfl
    | some k => exact .inr (fun e => (h.apart k hs).2 e.symm)
  · obtain ⟨h1, h2⟩ := h.apart k hk
    refine ⟨by omega, ?_⟩
    rcases hrow with hr | hr
    · rw [hr]; exact h2
    · rw [hr]; simp; omega
theorem isBs_lit {w : World} (E : TypeId) (us : List Value) (ls : List (List UInt8)) (hm : ls.length ≤ maxLen) (h : ∀ i, (hi : i < ls.length) → ∃ u, us[i]? = some u ∧ IsB w u ls[i]) :
    IsBs (w.alloc (.cells us.toArray E)) (.slice (some ⟨w.heap.size, 0, none⟩) ls.length ls.length) ls := by
  refine ⟨some ⟨w.heap.size, 0, none⟩, ls.length, rfl, Nat.le_refl _, hm, (fun hn => (by cases hn)), ?_⟩
  intro x hx
  obtain rfl := Option.some.inj hx
  refine ⟨fun _ => rfl, fun i hi => ?_⟩
  obtain ⟨u, hu, hb⟩ := h i hi
  refine ⟨u, ?_, hb.alloc _⟩
  simpa using hu
theorem IsBs.below {w w' : World} {v : Value} {ls : List (List UInt8)} (h : IsBs w v ls) (hb : Below w.heap.size w w') : IsBs w' v ls := by
  obtain ⟨a, cap, hv, hl, hm, hn, hc⟩ := h
  refine ⟨a, cap, hv, hl, hm, hn, fun x hx => ⟨(hc x hx).1, fun i hi => ?_⟩⟩
  obtain ⟨u, h1, h2⟩ := (hc x hx).2 i hi
  exact ⟨u, cells_below hb _ _ h1, h2.below hb⟩
theorem isB_row {w : World} (E : TypeId) (fr : Nat × Nat) (l : List UInt8) (h : l.length ≤ maxLen) : IsB (w.alloc (.cells (bv l).toArray E fr)) (.slice (some ⟨w.heap.size, 0, none⟩) l.length l.length) l := by
  refine ⟨some ⟨w.heap.size, 0, none⟩, l.length, rfl, Nat.le_refl _, h, (fun hn => (by cases hn)), ?_⟩
  intro x hx
  obtain rfl := Option.some.inj hx
  refine ⟨fun _ => rfl, fun i hi => ?_⟩
  simp only [Nat.zero_add]
  rw [cell_of_row _ _ _ _ _ _ (heap_alloc_new w _)]
  have := bv_get l i hi
  simpa using this
end Go.Proofs.Ytaohneahlcnahaa
