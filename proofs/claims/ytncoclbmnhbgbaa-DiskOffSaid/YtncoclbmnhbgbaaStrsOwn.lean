/- a row of strings of the call's own. -/
import Derived.Test.YtncoclbmnhbgbaaIntsOwn
set_option linter.unusedVariables false
set_option linter.unusedSimpArgs false
namespace Go.Proofs.Ytncoclbmnhbgbaa
open Go.RowKit

theorem info_str : (Try.prog.info? 9).map (fun i => (i.zero, i.size, i.bytes)) = some (some (.string ⟨#[]⟩), 1, 16) := by kernel_rfl
def sv (ls : List (List UInt8)) : List Value := ls.map fun l => .string ⟨l.toArray⟩
def MineS (base : Nat) (w : World) (v : Value) (ls : List (List UInt8)) : Prop := w.ownsRow base 9 1 v ls.length (sv ls)
theorem MineS.nil (base : Nat) (w : World) : MineS base w (.slice none 0 0) [] := World.ownsRow_nil w base 9 1
theorem MineS.at {base : Nat} {w : World} {v : Value} {ls : List (List UInt8)} (h : MineS base w v ls) (h0 : ls ≠ []) : ∃ g cap, v = .slice (some ⟨g, 0, none⟩) ls.length cap ∧ ls.length ≤ cap ∧ cap ≤ maxLen ∧ ∀ i (hi : i < ls.length), w.cell? ⟨g, i, none⟩ = some (.string ⟨ls[i].toArray⟩) := by
  rcases h.2 with ⟨rfl, hn⟩ | ⟨g, cap, cur, rfl, hb, hg, hnc, hcm, hcs, htake⟩
  · exact absurd (List.eq_nil_of_length_eq_zero hn) h0
  · refine ⟨g, cap, rfl, hnc, hcm, fun i hi => ?_⟩
    rw [cell_of_row _ _ _ _ _ _ hg]
    have e : (sv ls)[i]? = some (.string ⟨ls[i].toArray⟩) := by simp [sv, hi]
    rw [← htake, List.getElem?_take, if_pos (by simpa [sv] using hi)] at e
    simpa using e
theorem MineS.snoc {B : Nat} {w : World} {v : Value} {zs : List (List UInt8)} (h : MineS B w v zs) (hB : B ≤ w.heap.size) (hL : zs.length ≤ 1000000) (z : List UInt8) (g : Nat) (hg : w.heap[g]? = some (.cells #[.string ⟨z.toArray⟩] 9 (0, 0))) :
    ∃ v' w', (Builtin.append_ #[37, 37] 37 #[v, .slice (some ⟨g, 0, none⟩) 1 1]).run Try.prog w = .ok v' w' ∧ MineS B w' v' (zs ++ [z]) ∧ Turned (fun k => B ≤ k) w w' := by
  obtain ⟨i, hi, hz, hs, hb⟩ := info_parts (P := Try.prog) (e := 9) info_str
  have hcell : ∀ w' : World, w'.heap = w.heap → ∀ j c, ([.string ⟨z.toArray⟩] : List Value)[j]? = some c → w'.cell? ((⟨g, 0, none⟩ : Addr).add j) = some c := fun w' hw j c hj => by
    rw [Addr.add_mid, Nat.zero_add, cell_of_row w' _ _ _ _ _ (by rw [hw]; exact hg)]
    simpa using hj
  obtain ⟨v', w', hr, ho, hgr, _, _⟩ := run_app (P := Try.prog) w B 37 37 37 9 i _ 1 16 _ Try.underlying37 Try.underlying37 (.inl rfl) hi hz hs hb rfl (by decide) v zs.length (sv zs) h
    (.slice (some ⟨g, 0, none⟩) 1 1) 1 [.string ⟨z.toArray⟩] (fun w' => rfl) rfl (fun w' hw => run_firstCells_some (P := Try.prog) w' 1 1 ⟨g, 0, none⟩ 1 1 [.string ⟨z.toArray⟩] rfl (hcell w' hw)) (by
      intro c hc
      rw [List.mem_singleton.1 hc]; rfl) (by simp [maxLen]; omega) (by omega) hB
  refine ⟨v', w', hr, ?_, hgr.os, hgr.tape, hgr.output, hgr.size, fun k hk hn => hgr.block k hk fun e => hn ?_⟩
  · unfold MineS
    rw [show sv (zs ++ [z]) = sv zs ++ [.string ⟨z.toArray⟩] by simp [sv], List.length_append]
    exact ho
  · rcases h.2 with ⟨rfl, _⟩ | ⟨g', _, _, rfl, hb', _⟩
    · cases e
    · have : k = g' := by simpa [Value.ownBlock] using e
      omega
end Go.Proofs.Ytncoclbmnhbgbaa
