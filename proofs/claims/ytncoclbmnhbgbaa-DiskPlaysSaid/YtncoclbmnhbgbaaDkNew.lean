/- A new disk. -/
import Derived.Test.YtncoclbmnhbgbaaDkFlush
import Derived.Laws.MakeOwn
import Derived.Carry
set_option linter.unusedVariables false
set_option linter.unusedSimpArgs false
namespace Go.Proofs.Ytncoclbmnhbgbaa
open Go.RowKit

/-- a new disk of n sectors -/
def Dk.new (n : Nat) : Dk := ⟨n, List.replicate (n * 128) 0, List.replicate (n * 128) 0, [], 0, -1, false⟩
theorem Dk.new_ok {n : Nat} (h1 : 1 ≤ n) (h2 : n ≤ 16384) : (Dk.new n).Ok :=
  ⟨h1, h2, by simp [Dk.new], by simp [Dk.new], fun x hx => (by cases hx), Nat.le_refl _, by simp [Dk.new], by simp [Dk.new], by simp [Dk.new]⟩

theorem run_make_sects (n : Nat) (hn : n ≤ 16384) : ∃ C : Array Value, C.toList = bv (List.replicate (n * 128) 0) ∧
    ∀ w : World, (Instr.makeSlice 57 (.int .i64 (n : Int)) (.int .i64 (n : Int))).run Try.prog w = .ok (.slice (some ⟨w.heap.size, 0, none⟩) n n) (w.alloc (.cells C 63)) := by
  obtain ⟨i, hi, hz, hs, hb⟩ : ∃ i, Try.prog.info? 63 = some i ∧ i.zero = some (.agg (List.replicate 128 (.int .u8 0)).toArray) ∧ i.size = 128 ∧ i.bytes = 128 := by
    have h : (Try.prog.info? 63).map (fun i => (i.zero, i.size, i.bytes)) = some (some (.agg (List.replicate 128 (.int .u8 0)).toArray), 128, 128) := by kernel_rfl
    cases hq : Try.prog.info? 63 with
    | none => rw [hq] at h; cases h
    | some i =>
      rw [hq, Option.map_some, Option.some.injEq, Prod.mk.injEq, Prod.mk.injEq] at h
      exact ⟨i, rfl, h⟩
  refine ⟨madeCells (List.replicate 128 (.int .u8 0)).toArray (n * 128), ?_, fun w => ?_⟩
  · apply List.ext_getElem?
    intro j
    have hget : ∀ x : List UInt8, ∀ i : Nat, (bv x)[i]? = (x[i]?).map fun b => Value.int .u8 (b.toNat : Int) := fun x i => by simp [bv]
    rw [hget]
    by_cases hj : j < n * 128
    · have hm : j % 128 < 128 := Nat.mod_lt _ (by omega)
      have hz : ∀ (Z : Array Value), Z.toList = List.replicate 128 (Value.int .u8 0) → (madeCells Z (n * 128)).toList[j]? = some (.int .u8 0) := by
        intro Z hZ
        have hs : Z.size = 128 := by rw [← Array.length_toList, hZ, List.length_replicate]
        have hg : Z[j % 128]! = .int .u8 0 := by
          have e : Z[j % 128]? = some (.int .u8 0) := by rw [← Array.getElem?_toList, hZ, List.getElem?_replicate, if_pos hm]
          rw [getElem!_def, e]
        simp only [madeCells, Array.toList_map, Array.toList_range, List.getElem?_map, List.getElem?_range hj, Option.map_some, hs, hg]
      rw [hz _ (by rw [List.toList_toArray]), List.getElem?_replicate, if_pos hj]
      rfl
    · rw [List.getElem?_eq_none (by simp [madeCells]; omega), List.getElem?_eq_none (by simp; omega)]
      rfl
  · have := run_make w 57 63 i _ Try.underlying57 hi hz .i64 .i64 (n : Int) (n : Int) (by omega) (by omega) (by rw [hb]; omega) (by omega)
    rw [this, hs, Int.toNat_natCast]
    rfl
theorem new_at {w : World} {p S N M n : Nat} {C : Array Value} (hC : C.toList = bv (List.replicate (n * 128) 0)) (h1 : 1 ≤ n) (h2 : n ≤ 16384) (hf : Ft.Ok ⟨p, S, N, M, n, n⟩)
    (hp : w.heap[p]? = some (.cells #[.slice (some ⟨S, 0, none⟩) n n, .slice (some ⟨N, 0, none⟩) n n, .map (some M), .int .i64 0, .int .i64 (-1), .bool false] 60 (0, 0)))
    (hS : w.heap[S]? = some (.cells C 63 (0, 0))) (hN : w.heap[N]? = some (.cells C 63 (0, 0))) (hM : w.heap[M]? = some (.map #[] 0)) : DkAt w ⟨p, S, N, M, n, n⟩ (Dk.new n) := by
  have hsz : C.size = n * 128 := by rw [← Array.length_toList, hC, bv_length, List.length_replicate]
  have hm : n ≤ maxLen := by simp [maxLen]; omega
  have hs : ∀ g, w.heap[g]? = some (.cells C 63 (0, 0)) → Sects w g n n (List.replicate (n * 128) 0) := fun g hg =>
    ⟨C, hg, Nat.le_refl _, hm, hsz, by simp, by rw [hC, List.take_of_length_le (by rw [bv_length]; exact Nat.le_refl _)]⟩
  exact ⟨hf, Dk.new_ok h1 h2, hp, hs S hS, hs N hN, ⟨[], 0, hM, rfl, fun i hi => by simp [Dk.new] at hi⟩⟩

theorem heap4 (w : World) (a b c d : Obj) : ((((w.alloc a).alloc b).alloc c).alloc d).drew.heap[w.heap.size]? = some a ∧ ((((w.alloc a).alloc b).alloc c).alloc d).drew.heap[w.heap.size + 1]? = some b ∧
    ((((w.alloc a).alloc b).alloc c).alloc d).drew.heap[w.heap.size + 1 + 1]? = some c ∧ ((((w.alloc a).alloc b).alloc c).alloc d).drew.heap[w.heap.size + 1 + 1 + 1]? = some d := by
  show ((((w.heap.push a).push b).push c).push d)[_]? = _ ∧ ((((w.heap.push a).push b).push c).push d)[_]? = _ ∧ ((((w.heap.push a).push b).push c).push d)[_]? = _ ∧ ((((w.heap.push a).push b).push c).push d)[_]? = _
  have push_old : ∀ (H : Array Obj) (x : Obj) (k : Nat), k < H.size → (H.push x)[k]? = H[k]? := fun H x k hk => by rw [Array.getElem?_push, if_neg (by omega)]
  have push_new : ∀ (H : Array Obj) (x : Obj) (k : Nat), k = H.size → (H.push x)[k]? = some x := fun H x k hk => by rw [Array.getElem?_push, if_pos hk]
  refine ⟨?_, ?_, ?_, ?_⟩
  · rw [push_old _ _ _ (by simp only [Array.size_push]; omega), push_old _ _ _ (by simp only [Array.size_push]; omega), push_old _ _ _ (by simp only [Array.size_push]; omega), push_new _ _ _ rfl]
  · rw [push_old _ _ _ (by simp only [Array.size_push]; omega), push_old _ _ _ (by simp only [Array.size_push]; omega), push_new _ _ _ (by simp only [Array.size_push])]
  · rw [push_old _ _ _ (by simp only [Array.size_push]; omega), push_new _ _ _ (by simp only [Array.size_push])]
  · rw [push_new _ _ _ (by simp only [Array.size_push])]
theorem below4 (w : World) (a b c d : Obj) : Below w.heap.size w ((((w.alloc a).alloc b).alloc c).alloc d).drew := by
  have e1 : (w.alloc a).heap.size = w.heap.size + 1 := Array.size_push ..
  have e2 : ((w.alloc a).alloc b).heap.size = w.heap.size + 1 + 1 := (Array.size_push ..).trans (by rw [e1])
  have e3 : (((w.alloc a).alloc b).alloc c).heap.size = w.heap.size + 1 + 1 + 1 := (Array.size_push ..).trans (by rw [e2])
  exact (((((Below.refl _ _).alloc (Nat.le_refl _) _).alloc (by omega) _).alloc (by omega) _).alloc (by omega) _).drew
/-- A disk that was made has blocks of its own. -/
def Ft.new (F : Ft) (w : World) : Prop := ∀ k, F.has k → w.heap.size ≤ k
theorem new4 (w : World) (a b c x y : Nat) (ha : w.heap.size ≤ a) (hb : w.heap.size ≤ b) (hc : w.heap.size ≤ c) : Ft.new ⟨w.heap.size + 1 + 1 + 1, a, b, c, x, y⟩ w := by
  rintro k (rfl | rfl | rfl | rfl)
  · show _ ≤ w.heap.size + 1 + 1 + 1
    omega
  · exact ha
  · exact hb
  · exact hc

set_option maxHeartbeats 4000000 in
theorem new_any (w : World) (n : Int) (h1 : -9223372036854775808 ≤ n) (h2 : n ≤ 9223372036854775807) (hn : ¬ (1 ≤ n ∧ n ≤ 16384)) :
    Calls Try.prog 22 #[.int .i64 n] w fun e w' => e = .returned (.tuple #[.pointer none, .int .i64 40]) ∧ w = w' := by
  by_cases h0 : n < 1
  · have d0 : decide (n < 1) = true := by simpa using h0
    go_enter Try.func22, Try.ntmps22
    go_wp2
    go_ret2
    exact ⟨rfl, rfl⟩
  · have d0 : decide (n < 1) = false := by simpa using h0
    have d1 : decide (16384 < n) = true := by simp; omega
    go_enter Try.func22, Try.ntmps22
    go_wp2
    go_ret2
    exact ⟨rfl, rfl⟩
set_option maxHeartbeats 4000000 in
theorem new_some (w : World) (n : Nat) (hn : 1 ≤ n ∧ n ≤ 16384) :
    Calls Try.prog 22 #[.int .i64 (n : Int)] w fun e w' => ∃ F : Ft, e = .returned (.tuple #[F.ptr, .int .i64 0]) ∧ DkAt w' F (Dk.new n) ∧ F.new w ∧ Below w.heap.size w w' := by
  obtain ⟨C, hC, hmk⟩ := run_make_sects n hn.2
  have d0 : decide ((n : Int) < 1) = false := by simp; omega
  have d1 : decide ((16384 : Int) < (n : Int)) = false := by simp; omega
  have hmm := fun w => run_makeMap (P := Try.prog) 58 w
  obtain ⟨g1, g2⟩ := hn
  go_enter Try.func22, Try.ntmps22
  go_wp2
  go_region
  all_goals go_wp2
  all_goals go_ret2
  all_goals first
    | (exact ⟨⟨w.heap.size + 1 + 1 + 1, w.heap.size, w.heap.size + 1, w.heap.size + 1 + 1, n, n⟩, rfl, new_at hC g1 g2 ⟨(by simp only [ne_eq]; omega), (by simp only [ne_eq]; omega), (by simp only [ne_eq]; omega), (by simp only [ne_eq]; omega), (by simp only [ne_eq]; omega), (by simp only [ne_eq]; omega)⟩ (heap4 w _ _ _ _).2.2.2 (heap4 w _ _ _ _).1 (heap4 w _ _ _ _).2.1 (heap4 w _ _ _ _).2.2.1, new4 _ _ _ _ _ _ (by omega) (by omega) (by omega), below4 w _ _ _ _⟩)
    | (exact ⟨⟨w.heap.size + 1 + 1 + 1, w.heap.size, w.heap.size + 1 + 1, w.heap.size + 1, n, n⟩, rfl, new_at hC g1 g2 ⟨(by simp only [ne_eq]; omega), (by simp only [ne_eq]; omega), (by simp only [ne_eq]; omega), (by simp only [ne_eq]; omega), (by simp only [ne_eq]; omega), (by simp only [ne_eq]; omega)⟩ (heap4 w _ _ _ _).2.2.2 (heap4 w _ _ _ _).1 (heap4 w _ _ _ _).2.2.1 (heap4 w _ _ _ _).2.1, new4 _ _ _ _ _ _ (by omega) (by omega) (by omega), below4 w _ _ _ _⟩)
    | (exact ⟨⟨w.heap.size + 1 + 1 + 1, w.heap.size + 1, w.heap.size, w.heap.size + 1 + 1, n, n⟩, rfl, new_at hC g1 g2 ⟨(by simp only [ne_eq]; omega), (by simp only [ne_eq]; omega), (by simp only [ne_eq]; omega), (by simp only [ne_eq]; omega), (by simp only [ne_eq]; omega), (by simp only [ne_eq]; omega)⟩ (heap4 w _ _ _ _).2.2.2 (heap4 w _ _ _ _).2.1 (heap4 w _ _ _ _).1 (heap4 w _ _ _ _).2.2.1, new4 _ _ _ _ _ _ (by omega) (by omega) (by omega), below4 w _ _ _ _⟩)
    | (exact ⟨⟨w.heap.size + 1 + 1 + 1, w.heap.size + 1, w.heap.size + 1 + 1, w.heap.size, n, n⟩, rfl, new_at hC g1 g2 ⟨(by simp only [ne_eq]; omega), (by simp only [ne_eq]; omega), (by simp only [ne_eq]; omega), (by simp only [ne_eq]; omega), (by simp only [ne_eq]; omega), (by simp only [ne_eq]; omega)⟩ (heap4 w _ _ _ _).2.2.2 (heap4 w _ _ _ _).2.1 (heap4 w _ _ _ _).2.2.1 (heap4 w _ _ _ _).1, new4 _ _ _ _ _ _ (by omega) (by omega) (by omega), below4 w _ _ _ _⟩)
    | (exact ⟨⟨w.heap.size + 1 + 1 + 1, w.heap.size + 1 + 1, w.heap.size, w.heap.size + 1, n, n⟩, rfl, new_at hC g1 g2 ⟨(by simp only [ne_eq]; omega), (by simp only [ne_eq]; omega), (by simp only [ne_eq]; omega), (by simp only [ne_eq]; omega), (by simp only [ne_eq]; omega), (by simp only [ne_eq]; omega)⟩ (heap4 w _ _ _ _).2.2.2 (heap4 w _ _ _ _).2.2.1 (heap4 w _ _ _ _).1 (heap4 w _ _ _ _).2.1, new4 _ _ _ _ _ _ (by omega) (by omega) (by omega), below4 w _ _ _ _⟩)
    | (exact ⟨⟨w.heap.size + 1 + 1 + 1, w.heap.size + 1 + 1, w.heap.size + 1, w.heap.size, n, n⟩, rfl, new_at hC g1 g2 ⟨(by simp only [ne_eq]; omega), (by simp only [ne_eq]; omega), (by simp only [ne_eq]; omega), (by simp only [ne_eq]; omega), (by simp only [ne_eq]; omega), (by simp only [ne_eq]; omega)⟩ (heap4 w _ _ _ _).2.2.2 (heap4 w _ _ _ _).2.2.1 (heap4 w _ _ _ _).2.1 (heap4 w _ _ _ _).1, new4 _ _ _ _ _ _ (by omega) (by omega) (by omega), below4 w _ _ _ _⟩)
end Go.Proofs.Ytncoclbmnhbgbaa
