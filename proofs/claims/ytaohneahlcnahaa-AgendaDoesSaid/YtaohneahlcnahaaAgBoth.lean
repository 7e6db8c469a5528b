/- an agenda and the document's agenda side by side. -/
import Derived.Test.YtaohneahlcnahaaAgStay
import Derived.Test.YtaohneahlcnahaaRefPutAny
import Derived.Test.YtaohneahlcnahaaAgShown
set_option linter.unusedVariables false
set_option linter.unusedSimpArgs false
namespace Go.Proofs.Ytaohneahlcnahaa
open Go.RowKit

structure Both (B : Nat) (w : World) (a : Nat) (v : Value) (r : Nat) (u : Value) (L : List Du) : Prop where
  ag : AgAt B w a v L
  rf : RefAt B w r u L
  sep : ∀ k, u.ownBlock = some k → v.ownBlock ≠ some k
theorem Both.below {B : Nat} {w w' : World} {a : Nat} {v : Value} {r : Nat} {u : Value} {L : List Du} (h : Both B w a v r u L) (hb : Below w.heap.size w w') : Both B w' a v r u L := ⟨h.ag.below hb, h.rf.below hb, h.sep⟩
theorem ar_ne {B : Nat} {w : World} {a : Nat} {v : Value} {r : Nat} {u : Value} {L L' : List Du} (h : AgAt B w a v L) (k : RefAt B w r u L') : a ≠ r := by
  rintro rfl
  have e := k.head
  rw [h.head] at e
  injection e with e
  injection e with _ e
  exact absurd e (by decide)
/-- the agenda where the document's one turned -/
theorem AgAt.through {B : Nat} {w w' : World} {a : Nat} {v : Value} {r : Nat} {u : Value} {L L' : List Du} (h : AgAt B w a v L) (k : RefAt B w r u L') (ht : Turned (· = r) w w') : AgAt B w' a v L :=
  h.keep fun j hj hT => ht.block j hj fun e => by
    subst e
    rcases hT with e | e
    · exact ar_ne h k e.symm
    · exact h.row.notIn k.head (by decide) e.symm
/-- the document's one where the agenda turned -/
theorem RefAt.through {B : Nat} {w w' : World} {r : Nat} {u : Value} {L' : List Du} {T : Nat → Prop} (k : RefAt B w r u L') (ht : Turned T w w') (hr : ¬ T r) (hu : ∀ j, u.ownBlock = some j → ¬ T j) : RefAt B w' r u L' :=
  ⟨k.low, (ht.block r (lt_of_heap k.head) hr).trans k.head, k.row.keepOwn fun j hj e => ht.block j hj (hu j e.symm)⟩
theorem RefAt.own {B : Nat} {w0 w w' : World} {r : Nat} {u : Value} {L : List Du} (h : RefAt B w r u L) (hb : Below B w0 w) (ht : Turned (· = r) w w') : Below B w0 w' :=
  hb.trans (ht.below (Nat.le_trans h.low (Nat.le_of_lt (lt_of_heap h.head))) fun k hk => by subst hk; exact h.low)
theorem putL_len {L : List Du} {d n : Int} (h : putL L d n ≠ L) : (putL L d n).length ≠ L.length := by
  unfold putL at *
  split at h
  · rename_i he
    rw [if_pos he]
    unfold insD at *
    split at h
    · exact absurd rfl h
    · rename_i hx
      rw [if_neg hx, List.length_append, List.length_cons]
      have := filt_len L (d, n)
      omega
  · exact absurd rfl h
/-- a call's own Op stays -/
def OpKept (w w1 : World) : Prop := ∀ (b : Nat) (c : Array Value) (fr : Nat × Nat), w.heap[b]? = some (.cells c 25 fr) → w1.heap[b]? = some (.cells c 25 fr)
theorem op_ne {B : Nat} {w : World} {a : Nat} {v : Value} {L : List Du} (h : AgAt B w a v L) {b : Nat} {c : Array Value} {fr : Nat × Nat} (hb : w.heap[b]? = some (.cells c 25 fr)) : b ≠ a := by
  rintro rfl
  rw [h.head] at hb
  injection hb with e
  injection e with _ e
  exact absurd e (by decide)
def P1 (B : Nat) (w0 w w1 : World) (a r : Nat) (u : Value) (L L' : List Du) (E : Int) (e : Ending) : Prop :=
  ∃ v', e = .returned (.int .i64 E) ∧ AgAt B w1 a v' L' ∧ RefAt B w1 r u L ∧ Below B w0 w1 ∧ (L' = L → ∀ k, u.ownBlock = some k → v'.ownBlock ≠ some k) ∧ OpKept w w1
def P2 (B : Nat) (w0 w1 : World) (a r : Nat) (v : Value) (L' : List Du) (E : Int) (e : Ending) : Prop :=
  ∃ u', e = .returned (.int .i64 E) ∧ Both B w1 a v r u' L' ∧ Below B w0 w1
theorem bothPut1 {B : Nat} {w0 w : World} {a : Nat} {v : Value} {r : Nat} {u : Value} {L : List Du} (h : Both B w a v r u L) (hb : Below B w0 w) (hl : L.length ≤ 1000000) (d n : Int) :
    Calls Try.prog 18 #[agptr a, .int .i64 d, .int .i64 n] w fun e w1 => P1 B w0 w w1 a r u L (putL L d n) (putE d n) e := by
  by_cases hs : putL L d n = L
  · refine (agPut_stay B w a v L d n h.ag hl hs).mono ?_
    rintro e w1 ⟨rfl, h1, b1⟩
    exact ⟨v, rfl, hs.symm ▸ h1, h.rf.below b1, hb.trans (b1.mono h.ag.size), fun _ => h.sep, fun b c fr hx => (b1.block b (lt_of_heap hx)).trans hx⟩
  · refine (agPut_any B w a v L d n h.ag hl).mono ?_
    rintro e w1 ⟨v', rfl, h1, t1⟩
    refine ⟨v', rfl, h1, h.rf.through t1 ?_ ?_, h.ag.own hb t1, fun e => absurd e hs, fun b c fr hx => (t1.block b (lt_of_heap hx) fun e => e.elim (op_ne h.ag hx) fun e => h.ag.row.notIn hx (by decide) e.symm).trans hx⟩
    · rintro (e | e)
      · exact ar_ne h.ag h.rf e.symm
      · exact h.ag.row.notIn h.rf.head (by decide) e.symm
    · intro j hj hT
      rcases hT with e | e
      · subst e
        exact h.rf.row.notIn h.ag.head (by decide) hj
      · exact h.sep j hj e.symm
theorem bothPut2 {B : Nat} {w0 w : World} {a : Nat} {v : Value} {r : Nat} {u : Value} {L : List Du} {d n : Int} (h : AgAt B w a v (putL L d n)) (k : RefAt B w r u L) (hs : Srt L) (hb : Below B w0 w) (hl : L.length ≤ 1000000)
    (hc : putL L d n = L → ∀ k, u.ownBlock = some k → v.ownBlock ≠ some k) :
    Calls Try.prog 19 #[.pointer (some ⟨r, 0, none⟩), .int .i64 d, .int .i64 n] w fun e w1 => P2 B w0 w1 a r v (putL L d n) (putE d n) e := by
  refine (refPut_any B w r u L k hs hl d n).mono ?_
  rintro e w1 ⟨u', rfl, k1, t1, hu⟩
  refine ⟨u', rfl, ⟨h.through k t1, k1, fun j hj => ?_⟩, k.own hb t1⟩
  rcases hu with rfl | hu
  · refine hc ?_ j hj
    by_cases e : putL L d n = L
    · exact e
    · obtain ⟨a1, c1, e1⟩ := k.slot
      obtain ⟨a2, c2, e2⟩ := k1.slot
      rw [e1] at e2
      injection e2 with _ e2 _
      exact absurd e2.symm (putL_len e)
  · intro e
    have := (World.ownsRow.lt h.row j e).2
    have := hu j hj
    omega
theorem bothDrop1 {B : Nat} {w0 w : World} {a : Nat} {v : Value} {r : Nat} {u : Value} {L : List Du} (h : Both B w a v r u L) (hb : Below B w0 w) (hl : L.length ≤ 1000000) (n : Int) :
    Calls Try.prog 15 #[agptr a, .int .i64 n] w fun e w1 => ∃ v', e = .returned (.int .i64 ((L.length : Int) - ((keepL L n).length : Int))) ∧ AgAt B w1 a v' (keepL L n) ∧ RefAt B w1 r u L ∧ Below B w0 w1 ∧ OpKept w w1 := by
  refine (agDrop_any B w a v L h.ag hl n).mono ?_
  rintro e w1 ⟨v', rfl, h1, t1⟩
  refine ⟨v', rfl, h1, h.rf.through t1 (fun e => ar_ne h.ag h.rf e.symm) (fun j hj e => ?_), hb.trans (t1.below h.ag.size fun k hk => by subst hk; exact h.ag.low), fun b c fr hx => (t1.block b (lt_of_heap hx) (op_ne h.ag hx)).trans hx⟩
  subst e
  exact h.rf.row.notIn h.ag.head (by decide) hj
theorem bothDrop2 {B : Nat} {w0 w : World} {a : Nat} {v : Value} {r : Nat} {u : Value} {L : List Du} {n : Int} (h : AgAt B w a v (keepL L n)) (k : RefAt B w r u L) (hb : Below B w0 w) (hl : L.length ≤ 1000000) :
    Calls Try.prog 20 #[.pointer (some ⟨r, 0, none⟩), .int .i64 n] w fun e w1 => P2 B w0 w1 a r v (keepL L n) ((L.length : Int) - ((keepL L n).length : Int)) e := by
  refine (refDrop_any B w r u L k hl n).mono ?_
  rintro e w1 ⟨u', rfl, k1, t1, hu⟩
  refine ⟨u', rfl, ⟨h.through k t1, k1, fun j hj e => ?_⟩, k.own hb t1⟩
  have := (World.ownsRow.lt h.row j e).2
  have := hu j hj
  omega
/-- a row of one's own with one number set -/
theorem MineI.set {B : Nat} {w : World} {v : Value} {zs : List Int} (h : MineI B w v zs) {i : Nat} (hi : i < zs.length) : ∃ g cap, v = .slice (some ⟨g, 0, none⟩) zs.length cap ∧ w.frozen? ⟨g, i, none⟩ = false ∧ (∃ z, w.cell? ⟨g, i, none⟩ = some z) ∧
    ∃ zs', zs'.length = zs.length ∧ MineI B (w.setCell ⟨g, i, none⟩ (.int .i64 (-1))) v zs' ∧ Below B w (w.setCell ⟨g, i, none⟩ (.int .i64 (-1))) := by
  have hii := h.isI
  rcases h.2 with ⟨_, h0⟩ | ⟨g, cap, cur, hv, hB, hg, hn, hc, hs, ht⟩
  · omega
  · subst hv
    have hsz : i < cur.size := by omega
    refine ⟨g, cap, rfl, frozen_p hg i, ⟨cur[i], by rw [cell_of_row _ _ _ _ _ _ hg]; simp [hsz]⟩, zs.set i (-1), by simp, ⟨by simp [iv], .inr ⟨g, cap, cur.setIfInBounds i (.int .i64 (-1)), by simp, hB, head_setCell hg _, by simpa using hn, hc, by simpa using hs, ?_⟩⟩, ?_⟩
    · rw [List.length_set]
      have e : iv (zs.set i (-1)) = (iv zs).set i (.int .i64 (-1)) := by simp [iv, List.map_set]
      rw [e, ← ht]
      simp [List.take_set]
    · exact (turned_at (T := (· = g)) w g i _ rfl).below (Nat.le_trans hB (Nat.le_of_lt (lt_of_heap hg))) fun k hk => by subst hk; exact hB
end Go.Proofs.Ytaohneahlcnahaa
