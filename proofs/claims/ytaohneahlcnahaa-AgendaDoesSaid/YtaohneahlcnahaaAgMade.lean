/- made: an agenda with entries. -/
import Derived.Test.YtaohneahlcnahaaAgShown
import Derived.Test.YtaohneahlcnahaaOps3
import Derived.StillTailTactics
set_option linter.unusedVariables false
set_option linter.unusedSimpArgs false
namespace Go.Proofs.Ytaohneahlcnahaa
open Go.RowKit

def madeK (l : List O3) : List Du := l.foldl (fun L o => putL L o.d o.n) []
theorem madeK_snoc (l : List O3) (x : O3) : madeK (l ++ [x]) = putL (madeK l) x.d x.n := by simp [madeK]
theorem putL_length (L : List Du) (d n : Int) : (putL L d n).length ≤ L.length + 1 := by
  unfold putL
  split
  · exact insD_length L _
  · omega
theorem foldK_length (l : List O3) (L : List Du) : (l.foldl (fun L o => putL L o.d o.n) L).length ≤ L.length + l.length := by
  induction l generalizing L with
  | nil => simp
  | cons x l ih => have h1 := ih (putL L x.d x.n); have h2 := putL_length L x.d x.n; simp only [List.foldl_cons, List.length_cons]; omega
theorem madeK_length (l : List O3) : (madeK l).length ≤ l.length := by have := foldK_length l []; simpa [madeK] using this
theorem madeK_take {l : List O3} {k : Nat} (h : k < l.length) : madeK (l.take (k + 1)) = putL (madeK (l.take k)) l[k].d l[k].n := by
  rw [List.take_succ_eq_append_getElem h, madeK_snoc]
def madeL (l : List O3) : List Du := madeK (l.take 200)
theorem madeL_length (l : List O3) : (madeL l).length ≤ 200 := by
  have := madeK_length (l.take 200)
  rw [List.length_take] at this
  unfold madeL
  omega
def MadePost (w : World) (L : List Du) (e : Ending) (w' : World) : Prop := ∃ a v, e = .returned (agptr a) ∧ AgAt w.heap.size w' a v L ∧ Below w.heap.size w w'
def MadeAt (w0 : World) (a : Nat) (L : List Du) (wr : World) : Prop := ∃ v, AgAt w0.heap.size wr a v L ∧ Below w0.heap.size w0 wr
set_option maxRecDepth 100000 in
set_option maxHeartbeats 4000000 in
theorem made_any (w : World) (v : Value) (l : List O3) (hv : IsP w v l) :
    Calls Try.prog 11 #[v] w (MadePost w (madeL l)) := by
  obtain ⟨a, cap, rfl, -⟩ := id hv
  have Hv := Lib.hid hv
  clear hv
  go_enter Try.func11, Try.ntmps11
  go_wp2_with fail
  refine (agNew_any w).mono ?_
  rintro e w1 ⟨g, rfl, a1, b1⟩
  have S1 := Lib.hid (show MadeAt w g [] w1 from ⟨_, a1, b1⟩)
  clear a1 b1
  go_wp2_with fail
  go_loopw [4, 6, 7, 8, 9, 10, 11, 12, 13, 14, 15, 16, 17, 18, 19, 20, 21, 22, 23, 24, 25, 26, 27] (fun i _ _ _ _ _ _ _ _ _ _ _ _ _ _ _ _ _ _ _ _ _ _ wr => ∃ k : Nat, k ≤ l.length ∧ k ≤ 200 ∧ i = .int .i64 (k : Int) ∧ MadeAt w g (madeK (l.take k)) wr) (fun i _ _ _ _ _ _ _ _ _ _ _ _ _ _ _ _ _ _ _ _ _ _ _ => l.length - (intOf i).toNat)
  case atStart => exact ⟨0, Nat.zero_le _, Nat.zero_le _, rfl, S1.out⟩
  case round =>
    obtain ⟨k, hk, hk2, rfl, hm⟩ := hrel
    clear S1
    have HM := Lib.hid hm
    clear hm
    by_cases hlt : k < l.length
    · by_cases hlt2 : k < 200
      · have hd : decide ((k : Int) < (l.length : Int)) = true := by simpa using hlt
        have hd2 : decide ((k : Int) < 200) = true := decide_eq_true (by omega)
        have hi0 : (0 : Int) ≤ (k : Int) := by omega
        have hi1 : (k : Int) < (l.length : Int) := by omega
        obtain ⟨v1, ha, hb⟩ := HM.out
        obtain ⟨-, -, -, hv1⟩ := (Hv.out.below hb.drew).addr
        obtain ⟨B1, o1, rfl, hc⟩ := hv1 (by omega)
        obtain ⟨c0, c1, c2⟩ := hc k hlt
        have ML := Lib.hid (madeK_take hlt)
        have hlen : (madeK (l.take k)).length ≤ 1000000 := by have := madeK_length (l.take k); rw [List.length_take] at this; omega
        have AB := Lib.hid (And.intro (show AgAt w.heap.size wr.drew g v1 (madeK (l.take k)) from ha.below ((Below.refl _ wr).drew)) hb.drew)
        clear hv1 HM ha hb hc
        generalize l[k] = y at *
        generalize madeK (l.take k) = L0 at *
        go_wp2_with fail
        refine wp_region_still_tail 11 (by kernel_rfl) (by kernel_rfl) ?_
        simp only [List.take_succ_cons, List.take_zero, List.drop_succ_cons, List.drop_zero]
        change wpStill _ _ wr.drew (fun a' => wpList _ _ _ _ a' wr.drew) _ _
        generalize wr.drew = W1 at *
        iterate 11 still_step
        refine wpStill_nil ?_
        go_wp2_with fail
        refine (agPut_any _ W1 g v1 L0 y.d y.n AB.out.1 hlen).mono ?_
        rintro e w2 ⟨v2, rfl, a2, t2⟩
        have S2 := Lib.hid (show MadeAt w g _ w2 from ⟨_, a2, AB.out.1.own AB.out.2 t2⟩)
        rw [← ML.out] at S2
        clear a2 t2 AB ML c0 c1 c2
        go_wp2_with fail
        go_roundw
        case rel => exact ⟨k + 1, by omega, by omega, by go_num, S2.out⟩
        case measure => simp [intOf]; omega
      · have e200 : k = 200 := by omega
        have hd : decide ((k : Int) < (l.length : Int)) = true := by simpa using hlt
        have hd2 : decide ((k : Int) < 200) = false := decide_eq_false (by omega)
        go_wp2_with fail
        go_ret
        obtain ⟨v1, ha, hb⟩ := HM.out
        have e : madeL l = madeK (l.take k) := by unfold madeL; rw [e200]
        exact ⟨_, v1, rfl, by rw [e]; exact ha, hb⟩
    · obtain rfl : k = l.length := by omega
      have hd : decide ((l.length : Int) < (l.length : Int)) = false := by simp
      go_wp2_with fail
      go_ret
      obtain ⟨v1, ha, hb⟩ := HM.out
      have e : madeL l = madeK (l.take l.length) := by unfold madeL; rw [List.take_of_length_le (by omega), List.take_length]
      exact ⟨_, v1, rfl, by rw [e]; exact ha, hb⟩
end Go.Proofs.Ytaohneahlcnahaa
