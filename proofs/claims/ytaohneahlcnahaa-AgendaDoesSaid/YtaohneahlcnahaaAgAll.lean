/- agenda: All, Up: the iterators' values. -/
import Derived.Test.YtaohneahlcnahaaAgList
set_option linter.unusedVariables false
set_option linter.unusedSimpArgs false
namespace Go.Proofs.Ytaohneahlcnahaa
open Go.RowKit Go.Shelf

def GoesPost (w : World) (xs : List Du) (e : Ending) (w' : World) : Prop := ∃ gf lb, e = .returned (.func (.func gf) #[] lb) ∧ Goes w' gf lb xs ∧ Below w.heap.size w w'
abbrev whileF (bp bi : Nat) : Value := .func (.func 39) #[] #[.pointer (some ⟨bp, 0, none⟩), .pointer (some ⟨bi, 0, none⟩)]
/-- sorted.while: two boxes and a value -/
theorem swhile_any (w : World) (a : Nat) (f : Fn) (cap : Array Value) : Calls Try.prog 32 #[agptr a, .func f #[] cap] w fun e w' => e = .returned (whileF w.heap.size (w.heap.size + 1)) ∧
    w' = (w.alloc (.cells #[agptr a] 61)).alloc (.cells #[.func f #[] cap] 52) := by
  go_enter Try.func32, Try.ntmps32
  go_wp2
  go_ret
  exact ⟨rfl, rfl⟩
theorem while_any (w : World) (a : Nat) (f : Fn) (cap : Array Value) : Calls Try.prog 23 #[agptr a, .func f #[] cap] w fun e w' => e = .returned (whileF w.heap.size (w.heap.size + 1)) ∧
    w' = (w.alloc (.cells #[agptr a] 61)).alloc (.cells #[.func f #[] cap] 52) := by
  go_enter Try.func23, Try.ntmps23
  go_wp2_with fail
  refine (swhile_any w a f cap).mono ?_
  rintro e w' ⟨rfl, rfl⟩
  go_wp2_with fail
  go_ret
  exact ⟨rfl, rfl⟩
theorem while_nil (w : World) (f : Fn) (cap : Array Value) : Calls Try.prog 23 #[.pointer none, .func f #[] cap] w fun e w' => e = .returned (.func (.func 31) #[] #[]) ∧ w = w' := by
  go_enter Try.func23, Try.ntmps23
  go_wp2
  go_ret
  exact ⟨rfl, rfl⟩
/-- of a nil agenda there is nothing to go through -/
theorem none_goes (w : World) : Goes w 31 #[] [] := by
  refine ⟨enters_of Try.func31 (by kernel_rfl) rfl, fun n b W hn _ _ => fun l J Jx W1 _ _ _ _ h0 => ?_⟩
  refine callsIn_of_wp Try.func31 rfl trivial ?_ rfl
  simp only [Try.ntmps31, List.size_toArray, List.length_cons, List.length_nil, Nat.reduceAdd, Nat.reduceSub, Array.replicate_succ, Array.replicate_zero, List.push_toArray, List.append_toArray, List.nil_append, List.cons_append]
  gi_wp2
  first | go_end0 | refine bodyPost_ret (results_none rfl _ _ _) rfl ?_
  exact ⟨⟨_, rfl⟩, .inl h0⟩
theorem agAll_any (B : Nat) (w : World) (a : Nat) (v : Value) (L : List Du) (h : AgAt B w a v L) (hl : L.length ≤ 1000000) : Calls Try.prog 12 #[agptr a] w (GoesPost w L) := by
  have hb : Below w.heap.size w ((w.alloc (.cells #[agptr a] 61)).alloc (.cells #[allF] 52)) := ((Below.refl _ w).alloc (Nat.le_refl _) _).alloc (by simp) _
  have hbp : ((w.alloc (.cells #[agptr a] 61)).alloc (.cells #[allF] 52)).heap[w.heap.size]? = some (.cells #[agptr a] 61 (0, 0)) := (Below.heap_alloc _ _ _ (by simp)).trans (heap_alloc_new w _)
  have hbi : ((w.alloc (.cells #[agptr a] 61)).alloc (.cells #[allF] 52)).heap[w.heap.size + 1]? = some (.cells #[allF] 52 (0, 0)) := by
    have := heap_alloc_new (w.alloc (.cells #[agptr a] 61)) (.cells #[allF] 52)
    rwa [World.size_alloc] at this
  have hsz : ((w.alloc (.cells #[agptr a] 61)).alloc (.cells #[allF] 52)).heap.size = w.heap.size + 2 := by simp
  have hgo : Goes ((w.alloc (.cells #[agptr a] 61)).alloc (.cells #[allF] 52)) 39 #[.pointer (some ⟨w.heap.size, 0, none⟩), .pointer (some ⟨w.heap.size + 1, 0, none⟩)] L := by
    have h1 := h.below hb
    refine ⟨enters_of Try.func39 (by kernel_rfl) rfl, fun n b W hn hW hbx => ?_⟩
    have ha := lt_of_heap h.head
    exact iterAll_stops n hn b w.heap.size (w.heap.size + 1) a B v L W (h1.below hW) hl ((hW.block _ (by omega)).trans hbp) ((hW.block _ (by omega)).trans hbi) (box_nil hbx) (box_ne hbx (h1.below hW).head (by decide) (by decide)) (box_ne hbx ((hW.block _ (by omega)).trans hbp) (by decide) (by decide)) (box_ne hbx ((hW.block _ (by omega)).trans hbi) (by decide) (by decide))
  clear hbp hbi hsz h
  go_enter Try.func12, Try.ntmps12
  go_wp2_with fail
  refine (while_any w a _ #[]).mono ?_
  rintro e w' ⟨rfl, rfl⟩
  have HG := Lib.hid hgo
  clear hgo
  go_wp2_with fail
  go_ret
  exact ⟨_, _, rfl, HG.out, hb⟩
theorem agAll_nil (w : World) : Calls Try.prog 12 #[.pointer none] w (GoesPost w []) := by
  go_enter Try.func12, Try.ntmps12
  go_wp2_with fail
  refine (while_nil w _ #[]).mono ?_
  rintro e w' ⟨rfl, rfl⟩
  go_wp2_with fail
  go_ret
  exact ⟨_, _, rfl, none_goes _, Below.refl _ _⟩
theorem agUp_any (B : Nat) (w : World) (a : Nat) (v : Value) (L : List Du) (h : AgAt B w a v L) (hl : L.length ≤ 1000000) (day : Int) : Calls Try.prog 13 #[agptr a, .int .i64 day] w (GoesPost w (upL L day)) := by
  have hgo : Goes (((w.alloc (.cells #[.int .i64 day] 3)).alloc (.cells #[agptr a] 61)).alloc (.cells #[upF w.heap.size] 52)) 39 #[.pointer (some ⟨w.heap.size + 1, 0, none⟩), .pointer (some ⟨w.heap.size + 1 + 1, 0, none⟩)] (upL L day) := by
    have hb : Below w.heap.size w (((w.alloc (.cells #[.int .i64 day] 3)).alloc (.cells #[agptr a] 61)).alloc (.cells #[upF w.heap.size] 52)) := (((Below.refl _ w).alloc (Nat.le_refl _) _).alloc (by simp) _).alloc (by simp; omega) _
    have h1 := h.below hb
    refine ⟨enters_of Try.func39 (by kernel_rfl) rfl, fun n b W hn hW hbx => ?_⟩
    have ha := lt_of_heap h.head
    have hd : (((w.alloc (.cells #[.int .i64 day] 3)).alloc (.cells #[agptr a] 61)).alloc (.cells #[upF w.heap.size] 52)).heap[w.heap.size]? = some (.cells #[.int .i64 day] 3 (0, 0)) := (Below.heap_alloc _ _ _ (by simp; omega)).trans ((Below.heap_alloc _ _ _ (by simp)).trans (heap_alloc_new w _))
    have hbp : (((w.alloc (.cells #[.int .i64 day] 3)).alloc (.cells #[agptr a] 61)).alloc (.cells #[upF w.heap.size] 52)).heap[w.heap.size + 1]? = some (.cells #[agptr a] 61 (0, 0)) := by
      refine (Below.heap_alloc _ _ _ (by simp)).trans ?_
      have := heap_alloc_new (w.alloc (.cells #[.int .i64 day] 3)) (.cells #[agptr a] 61)
      rwa [World.size_alloc] at this
    have hbi : (((w.alloc (.cells #[.int .i64 day] 3)).alloc (.cells #[agptr a] 61)).alloc (.cells #[upF w.heap.size] 52)).heap[w.heap.size + 1 + 1]? = some (.cells #[upF w.heap.size] 52 (0, 0)) := by
      have := heap_alloc_new ((w.alloc (.cells #[.int .i64 day] 3)).alloc (.cells #[agptr a] 61)) (.cells #[upF w.heap.size] 52)
      rwa [World.size_alloc, World.size_alloc] at this
    have hsz : (((w.alloc (.cells #[.int .i64 day] 3)).alloc (.cells #[agptr a] 61)).alloc (.cells #[upF w.heap.size] 52)).heap.size = w.heap.size + 3 := by simp
    exact iterUp_stops n hn b (w.heap.size + 1) (w.heap.size + 1 + 1) a B v L W (h1.below hW) hl w.heap.size day ((hW.block _ (by omega)).trans hd) (box_ne hbx ((hW.block _ (by omega)).trans hd) (by decide) (by decide)) ((hW.block _ (by omega)).trans hbp) ((hW.block _ (by omega)).trans hbi) (box_nil hbx) (box_ne hbx (h1.below hW).head (by decide) (by decide)) (box_ne hbx ((hW.block _ (by omega)).trans hbp) (by decide) (by decide)) (box_ne hbx ((hW.block _ (by omega)).trans hbi) (by decide) (by decide))
  have hb : Below w.heap.size w (((w.alloc (.cells #[.int .i64 day] 3)).alloc (.cells #[agptr a] 61)).alloc (.cells #[upF w.heap.size] 52)) := (((Below.refl _ w).alloc (Nat.le_refl _) _).alloc (by simp) _).alloc (by simp; omega) _
  have HG := Lib.hid hgo
  clear hgo h
  go_enter Try.func13, Try.ntmps13
  go_wp2_with fail
  refine (while_any _ a _ _).mono ?_
  rintro e w' ⟨rfl, rfl⟩
  go_wp2_with fail
  go_ret
  exact ⟨_, _, rfl, HG.out, hb⟩
theorem agUp_nil (w : World) (day : Int) : Calls Try.prog 13 #[.pointer none, .int .i64 day] w (GoesPost w []) := by
  have hb : Below w.heap.size w (w.alloc (.cells #[.int .i64 day] 3)) := (Below.refl _ w).alloc (Nat.le_refl _) _
  go_enter Try.func13, Try.ntmps13
  go_wp2_with fail
  refine (while_nil _ _ _).mono ?_
  rintro e w' ⟨rfl, rfl⟩
  go_wp2_with fail
  go_ret
  exact ⟨_, _, rfl, none_goes _, hb⟩
end Go.Proofs.Ytaohneahlcnahaa
