/- a row of ints of the call's own; what plays leaves, as it is read. -/
import Derived.Test.YtncoclbmnhbgbaaDkPlays
set_option linter.unusedVariables false
set_option linter.unusedSimpArgs false
namespace Go.Proofs.Ytncoclbmnhbgbaa
open Go.RowKit

theorem info_int : (Try.prog.info? 3).map (fun i => (i.zero, i.size, i.bytes)) = some (some (.int .i64 0), 1, 8) := by kernel_rfl
def iv (zs : List Int) : List Value := zs.map fun n => .int .i64 n
def MineI (base : Nat) (w : World) (v : Value) (zs : List Int) : Prop := w.ownsRow base 3 1 v zs.length (iv zs)
theorem MineI.nil (base : Nat) (w : World) : MineI base w (.slice none 0 0) [] := World.ownsRow_nil w base 3 1
theorem MineI.isI {base : Nat} {w : World} {v : Value} {zs : List Int} (h : MineI base w v zs) : IsI w v zs := by
  rcases h.2 with ⟨rfl, hn⟩ | ⟨g, cap, cur, rfl, hb, hg, hnc, hcm, hcs, htake⟩
  · obtain rfl : zs = [] := List.eq_nil_of_length_eq_zero hn
    exact IsI.nil w
  · refine ⟨some ⟨g, 0, none⟩, cap, rfl, hnc, hcm, fun h => (by cases h), ?_⟩
    rintro x ⟨⟩
    refine ⟨fun _ => rfl, fun i hi => ?_⟩
    rw [cell_of_row _ _ _ _ _ _ hg, Nat.zero_add]
    have e : (iv zs)[i]? = some (.int .i64 zs[i]) := by simp [iv, hi]
    rw [← htake, List.getElem?_take, if_pos (by simpa [iv] using hi)] at e
    simpa using e
theorem MineI.snoc {B : Nat} {w : World} {v : Value} {zs : List Int} (h : MineI B w v zs) (hB : B ≤ w.heap.size) (hL : zs.length ≤ 1000000) (z : Int) (g : Nat) (hg : w.heap[g]? = some (.cells #[.int .i64 z] 3 (0, 0))) :
    ∃ v' w', (Builtin.append_ #[23, 23] 23 #[v, .slice (some ⟨g, 0, none⟩) 1 1]).run Try.prog w = .ok v' w' ∧ MineI B w' v' (zs ++ [z]) ∧ Turned (fun k => B ≤ k) w w' := by
  obtain ⟨i, hi, hz, hs, hb⟩ := info_parts (P := Try.prog) (e := 3) info_int
  have hcell : ∀ w' : World, w'.heap = w.heap → ∀ j c, ([.int .i64 z] : List Value)[j]? = some c → w'.cell? ((⟨g, 0, none⟩ : Addr).add j) = some c := fun w' hw j c hj => by
    rw [Addr.add_mid, Nat.zero_add, cell_of_row w' _ _ _ _ _ (by rw [hw]; exact hg)]
    simpa using hj
  obtain ⟨v', w', hr, ho, hgr, _, _⟩ := run_app (P := Try.prog) w B 23 23 23 3 i _ 1 8 _ Try.underlying23 Try.underlying23 (.inl rfl) hi hz hs hb rfl (by decide) v zs.length (iv zs) h
    (.slice (some ⟨g, 0, none⟩) 1 1) 1 [.int .i64 z] (fun w' => rfl) rfl (fun w' hw => run_firstCells_some (P := Try.prog) w' 1 1 ⟨g, 0, none⟩ 1 1 [.int .i64 z] rfl (hcell w' hw)) (by
      intro c hc
      rw [List.mem_singleton.1 hc]; rfl) (by simp [maxLen]; omega) (by omega) hB
  refine ⟨v', w', hr, ?_, hgr.os, hgr.tape, hgr.output, hgr.size, fun k hk hn => hgr.block k hk fun e => hn ?_⟩
  · unfold MineI
    rw [show iv (zs ++ [z]) = iv zs ++ [.int .i64 z] by simp [iv], List.length_append]
    exact ho
  · rcases h.2 with ⟨rfl, _⟩ | ⟨g', _, _, rfl, hb', _⟩
    · cases e
    · have : k = g' := by simpa [Value.ownBlock] using e
      omega
theorem LooseAt.shape {B : Nat} {w : World} {v : Value} {L : List (Nat × List UInt8)} (h : LooseAt B w v L) : ∃ a cap, v = .slice a L.length cap ∧ L.length ≤ cap ∧ cap ≤ maxLen := by
  rcases h.at with ⟨rfl, rfl⟩ | ⟨g, cap, rfl, _, h1, h2, _⟩
  · exact ⟨none, 0, rfl, Nat.le_refl _, by simp [maxLen]⟩
  · exact ⟨_, cap, rfl, h1, h2⟩
/-- all loose writes laid -/
theorem crashTo_all {D : Dk} {stay : List Int} (h : ∀ i : Nat, i < D.hung.length → (i : Int) ∈ stay) (k : Nat) (hk : k ≤ D.hung.length) : crashTo D stay k = layAll D.safe (D.hung.take k) := by
  induction k with
  | zero => rfl
  | succ k ih =>
    have hlt : k < D.hung.length := by omega
    rw [crashTo, if_pos (h k hlt), List.take_add_one, List.getElem?_eq_getElem hlt, ih (by omega), Option.toList_some, layAll_snoc]
/-- one more loose write looked at, at sector a -/
theorem crashTo_step {D : Dk} (hok : D.Ok) (stay : List Int) (k a : Nat) (hk : k < D.hung.length) (ha : a < D.n) :
    sec (crashTo D stay (k + 1)) a = if (k : Int) ∈ stay ∧ D.hung[k].1 = a then D.hung[k].2 else sec (crashTo D stay k) a := by
  obtain ⟨h1, h2⟩ := hok.hung D.hung[k] (List.getElem_mem hk)
  rw [crashTo]
  by_cases hs : (k : Int) ∈ stay
  · rw [if_pos hs, List.getElem?_eq_getElem hk]
    by_cases he : D.hung[k].1 = a
    · rw [if_pos ⟨hs, he⟩]
      show sec (putS _ D.hung[k].1 _) a = _
      rw [he]
      exact sec_putS_same (crashTo_length hok stay k) h2 ha
    · rw [if_neg (fun e => he e.2)]
      exact sec_putS_other (crashTo_length hok stay k) h2 h1 ha (fun e => he e.symm)
  · rw [if_neg hs, if_neg (fun e => hs e.1)]
end Go.Proofs.Ytncoclbmnhbgbaa
