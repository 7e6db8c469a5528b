/- The card CardPagerLasts: for every input the law answers true, and what came in reads as it did; with what it needs ahead. -/
import Derived.Test.YtbmmcaoifkboiaaGreatDoorBase4
import Derived.StillTailTactics
import Derived.MapKept
import Derived.LoopTactic
import Derived.Deep.Cut
import Derived.IntWalk
import Derived.Test.YtbmmcaoifkboiaaGreatDoorCards
import Derived.Test.YtbmmcaoifkboiaaGreatDoorTie
/- Readers of what the statements of chapter 08L take. -/
set_option linter.unusedVariables false
set_option linter.unusedSimpArgs false
set_option maxRecDepth 100000
namespace Go.Proofs.YtbmmcaoifkboiaaGreatDoor
open Go.ChangeShapes Go.WideShapes Go.ChangeAt Go.RowKit Go.Deep

def rdOps8 : Rd (List OpP) := rdOpP.slice (by decide) 33 Tryz.underlying33 (by kernel_rfl)
structure LifeP where
  script : List OpP
  cut : Int
  stay : List Int
instance : Inhabited LifeP := ⟨⟨default, default, default⟩⟩
/-- its cells -/
def LifeP.At (w : World) (x : LifeP) (cs : List Value) : Prop := ∃ c0 c1 c2, cs = [c0, c1, c2] ∧ rdOps8.R w [c0] x.script ∧ rdInt.R w [c1] x.cut ∧ rdInts.R w [c2] x.stay
def rdLifeP : Rd LifeP where
  T := 36
  n := 3
  R := fun w cs x => x.At w cs
  size := by kernel_rfl
  len := fun h => by
    obtain ⟨c0, c1, c2, he, _⟩ := h
    rw [he]; rfl
  keep := fun h hw => by
    obtain ⟨c0, c1, c2, he, k0, k1, k2⟩ := h
    exact ⟨c0, c1, c2, he, rdOps8.keep k0 hw, rdInt.keep k1 hw, rdInts.keep k2 hw⟩
  trod := fun {H enc W m cs y} h hl => by
    have hc := trod_cells Tryz.underlying36 h
    rw [show Tryz.prog.cellsOf 36 = 3 by kernel_rfl] at hc
    match cs, hc with
    | [c0, c1, c2], _ =>
      obtain ⟨n0, z0, f0, l0⟩ := trod_field Tryz.underlying36 h hl 0 _ rfl
      change DataW.trod enc Tryz.prog W 0 (fun _ => true) true n0 33 (List.take (Tryz.prog.cellsOf 33) (List.drop 0 [c0, c1, c2])) = _ at f0
      rw [show Tryz.prog.cellsOf 33 = 1 from rdOps8.size] at f0
      obtain ⟨x0, h0⟩ := rdOps8.trod (cs := [c0]) f0 l0
      obtain ⟨n1, z1, f1, l1⟩ := trod_field Tryz.underlying36 h hl 1 _ rfl
      change DataW.trod enc Tryz.prog W 0 (fun _ => true) true n1 3 (List.take (Tryz.prog.cellsOf 3) (List.drop 1 [c0, c1, c2])) = _ at f1
      rw [show Tryz.prog.cellsOf 3 = 1 from rdInt.size] at f1
      obtain ⟨x1, h1⟩ := rdInt.trod (cs := [c1]) f1 l1
      obtain ⟨n2, z2, f2, l2⟩ := trod_field Tryz.underlying36 h hl 2 _ rfl
      change DataW.trod enc Tryz.prog W 0 (fun _ => true) true n2 34 (List.take (Tryz.prog.cellsOf 34) (List.drop 2 [c0, c1, c2])) = _ at f2
      rw [show Tryz.prog.cellsOf 34 = 1 from rdInts.size] at f2
      obtain ⟨x2, h2⟩ := rdInts.trod (cs := [c2]) f2 l2
      exact ⟨⟨x0, x1, x2⟩, c0, c1, c2, rfl, h0, h1, h2⟩
end Go.Proofs.YtbmmcaoifkboiaaGreatDoor

/- Crashes under a pager: what a disk holds behind one; a Commit under which the power may go. Plain lists. -/
set_option linter.unusedVariables false
set_option linter.unusedSimpArgs false
set_option maxRecDepth 100000
namespace Go.Proofs.YtbmmcaoifkboiaaGreatDoor
open Go.RowKit

/-- a disk as a crash leaves it, with an image of a journal -/
structure CFresh (n : Nat) (seq : Int) (B : List (List UInt8)) (top : Nat) (D : Dk) : Prop where
  flat : D.Flat
  ok : D.Ok
  hn : D.n = n
  off : D.off = false
  cut : D.cut = -1
  ops : D.ops = 0
  img : Img n seq B top D.now
theorem crash_ok {D : Dk} (h : D.Ok) (stay : List Int) : (D.crash stay).Ok := ⟨h.n1, h.nm, crashTo_length h stay _, crashTo_length h stay _, (fun x hx => by cases hx), Nat.le_refl _, Nat.zero_le _, by show (-9223372036854775808 : Int) ≤ -1; decide, by show (-1 : Int) ≤ _; decide⟩
theorem CFresh.of_in {n : Nat} {seq : Int} {B : List (List UInt8)} {top : Nat} {D : Dk} (h : D.In fun l => Img n seq B top l) (hn : D.n = n) (stay : List Int) : CFresh n seq B top (D.crash stay) :=
  ⟨⟨rfl, rfl⟩, crash_ok h.ok stay, hn, rfl, rfl, rfl, h.crash stay _⟩
theorem Live.cfresh {n : Nat} {J : Jn} {seq : Int} {B : List (List UInt8)} {top : Nat} (h : Live n J seq B AllOk) (hl : J.last ≤ top) (ht : top < 4611686018427387904) (stay : List Int) : CFresh n seq B top (J.D.crash stay) := by
  obtain ⟨w, pl, him⟩ := h.im
  exact CFresh.of_in (h.flat.isIn h.dok ⟨w, pl, him.top hl ht⟩) h.hn stay
theorem CFresh.opened {n : Nat} {seq : Int} {B : List (List UInt8)} {top : Nat} {D : Dk} (h : CFresh n seq B top D) : ∃ J, D.openJ = (0, J) ∧ Live n J seq B AllOk ∧ J.last ≤ top ∧ J.D.ops ≤ (n - 2) / 2 + 1 ∧ J.D.cut = -1 := by
  obtain ⟨w, pl, him⟩ := h.img
  have hlo := him.lo
  have hhi := him.hi
  obtain ⟨c, J, o⟩ := open_im him h.flat h.ok h.hn h.off (by rw [h.ops]; omega)
  rcases o.ends with ⟨rfl, a2, _⟩ | ⟨_, a2, _⟩
  · exact ⟨J, o.eq, a2, o.last, by have := o.ops; rw [h.ops] at this; omega, o.cut.trans h.cut⟩
  · rw [h.cut] at a2
    omega
/-- these blocks say a pager that stands so -/
def OnB (n : Nat) (R : Rp) (B : List (List UInt8)) : Prop := ∀ J seq, Live n J seq B AllOk → ∃ P, P.J = J ∧ Sim n P R seq B
section
variable {n m : Nat} {P : Pg} {R : Rp} {seq : Int} {B : List (List UInt8)}
theorem Sim.rejoin (h : Sim n P R seq B) {J : Jn} {s : Int} (hl : Live n J s B AllOk) : Sim n { P with J := J } R s B :=
  ⟨hl, h.off, h.now, h.was, h.root, h.wroot, h.len, h.lenw, h.plan, h.rok, h.wok, h.pagew, h.pagen, h.free, h.nodup, h.clean⟩
theorem Sim.onB (h : Sim n P R seq B) : OnB n R B := fun J s hl => ⟨{ P with J := J }, rfl, h.rejoin hl⟩
/-- a Commit under which the power may go -/
structure CutC (n : Nat) (P : Pg) (R : Rp) (seq : Int) (B : List (List UInt8)) (top : Nat) : Prop where
  ends : (P.commit.1 = 0 ∧ ∃ seq' B', Sim n P.commit.2 R.commit seq' B' ∧ seq ≤ seq' ∧ seq' ≤ seq + 1) ∨
    (P.commit.1 = 43 ∧ P.commit.2.off = 43 ∧ P.commit.2.J.D.Ok ∧ P.commit.2.J.D.n = n ∧ ∃ seq' B', OnB n R.commit B' ∧ seq ≤ seq' ∧ seq' ≤ seq + 1 ∧ ∀ stay, CFresh n seq B top (P.commit.2.J.D.crash stay) ∨ CFresh n seq' B' top (P.commit.2.J.D.crash stay))
  last : P.commit.2.J.last ≤ P.J.last + 1
  ops : P.commit.2.J.D.ops ≤ P.J.D.ops + (8 + 16 * R.pages.length)
theorem Sim.cut_commit (h : Sim n P R seq B) (hn : 6 ≤ n) {top : Nat} (ht : P.J.last + 1 ≤ top) (ht2 : top < 4611686018427387904) (hb : P.J.D.ops + (8 + 16 * R.pages.length) ≤ 1048576) : CutC n P R seq B top := by
  cases hch : P.change with
  | false =>
    obtain ⟨c1, c2, c3⟩ := h.clean hch
    have e : P.commit = (0, P) := by rw [Pg.commit, if_neg (by simp [h.fails1]), if_pos hch]
    refine ⟨.inl ⟨by rw [e], seq, B, ?_, by omega, by omega⟩, by rw [e]; show P.J.last ≤ _; omega, by rw [e]; show P.J.D.ops ≤ _; omega⟩
    rw [e]
    exact ⟨h.live, h.off, h.now, by rw [h.was]; show _ = R.pages.map _; rw [c2], h.root, by rw [h.wroot]; exact c3.symm, h.len, rfl, h.plan, h.rok, h.wok, fun k b hk => h.pagew k b (by rw [← c2]; exact hk), fun k b hk => by
      obtain ⟨d1, d2⟩ := h.pagen k b hk
      exact ⟨d1, d2.imp id fun d => ⟨d.1, hk⟩⟩, h.free, h.nodup, fun _ => ⟨c1, rfl, rfl⟩⟩
  | true =>
    obtain ⟨k1, k2, k3, k4⟩ := h.keys
    have hzl : P.places.length = 2 + 8 * (keysOf P.own).length := commitPlaces_len _
    have hw := writes_live h.live (h.right hn) (by omega) (by omega)
    have hy := write_yes h.live (h.right hn) (by omega)
    have hops := hw.ops
    rcases hw.ends with ⟨a1, a2⟩ | ⟨a1, a2, Q, hin, hQ⟩
    · have e : P.commit = (0, { P with J := P.J.writes P.places P.blocks, was := P.now, wroot := P.root, own := [], change := false }) := by
        rw [Pg.commit, if_neg (by simp [h.fails1]), if_neg (by simp [hch])]
        simp only
        rw [hy, if_neg (by simp [a1])]
      refine ⟨.inl ⟨by rw [e], seq + 1, updB B P.places P.blocks, by rw [e]; exact h.written hn a2, by omega, by omega⟩, by rw [e]; exact Nat.le_of_eq hw.last, ?_⟩
      rw [e]
      show (P.J.writes P.places P.blocks).D.ops ≤ _
      omega
    · have e : P.commit = (43, { P with J := P.J.writes P.places P.blocks, off := 43 }) := by
        rw [Pg.commit, if_neg (by simp [h.fails1]), if_neg (by simp [hch])]
        simp only
        rw [hy]
        simp only
        rw [a1, if_pos (by decide), heardOff, if_pos (.inl rfl)]
      refine ⟨.inr ⟨by rw [e], by rw [e], by rw [e]; exact hin.ok, by rw [e]; exact hw.hn.trans h.live.hn, seq + 1, updB B P.places P.blocks, fun J s hl => ⟨_, rfl, h.written hn hl⟩, by omega, by omega, fun stay => ?_⟩, by rw [e]; exact Nat.le_of_eq hw.last, ?_⟩
      · rw [e]
        have hc := hin.crash stay (P.J.writes P.places P.blocks).D.hung.length
        have hn := hw.hn.trans h.live.hn
        rcases hQ _ hc with ⟨w', pl, him⟩ | ⟨w', pl, him⟩
        · exact .inl ⟨⟨rfl, rfl⟩, crash_ok hin.ok stay, hn, rfl, rfl, rfl, w', pl, him.top ht ht2⟩
        · exact .inr ⟨⟨rfl, rfl⟩, crash_ok hin.ok stay, hn, rfl, rfl, rfl, w', pl, him.top ht ht2⟩
      · rw [e]
        show (P.J.writes P.places P.blocks).D.ops ≤ _
        omega
/-- both stand alike, behind at most m Commits; the power may be about to go -/
structure StC (n m : Nat) (P : Pg) (R : Rp) : Prop where
  sim : ∃ seq B, Sim n P R seq B ∧ 0 ≤ seq ∧ seq ≤ 1 + (m : Int)
  last : P.J.last ≤ 2 + m
  ops : P.J.D.ops ≤ 675 + 328 * m
theorem StC.of {P' : Pg} {R' : Rp} (h : StC n m P R) (hJ : P'.J = P.J) (hs : ∀ seq B, Sim n P R seq B → Sim n P' R' seq B) : StC n (m + 1) P' R' := by
  obtain ⟨seq, B, h1, h2, h3⟩ := h.sim
  exact ⟨⟨seq, B, hs seq B h1, h2, by omega⟩, by rw [hJ]; have := h.last; omega, by rw [hJ]; have := h.ops; omega⟩
theorem StC.mono {k : Nat} (h : StC n m P R) (hk : m ≤ k) : StC n k P R := by
  obtain ⟨s, B, h1, h2, h3⟩ := h.sim
  have := h.last
  have := h.ops
  have : 328 * m ≤ 328 * k := Nat.mul_le_mul_left _ hk
  exact ⟨⟨s, B, h1, h2, by omega⟩, by omega, by omega⟩
theorem StC.cutAt (h : StC n m P R) (c : Int) (h1 : -9223372036854775808 ≤ c) (h2 : c ≤ 9223372036854775807) : StC n m { P with J := { P.J with D := { P.J.D with cut := c, off := false } } } R := by
  obtain ⟨s, B, hs, h3⟩ := h.sim
  have hl := hs.live
  exact ⟨⟨s, B, hs.rejoin ⟨hl.off, rfl, hl.flat, ⟨hl.dok.n1, hl.dok.nm, hl.dok.safe, hl.dok.now, hl.dok.hung, hl.dok.loose, hl.dok.ops, h1, h2⟩, hl.hn, hl.hseq, hl.im, hl.home⟩, h3⟩, h.last, h.ops⟩
theorem StC.len (h : StC n m P R) (hn2 : n ≤ 331) : R.pages.length ≤ 20 ∧ R.pages.length = ((n - 2) / 2 - 2) / 8 := by
  obtain ⟨s, B, hs, _⟩ := h.sim
  have := hs.len
  exact ⟨by omega, by omega⟩
/-- a disk holds a pager that stands so -/
def Lies (n m : Nat) (R : Rp) (D : Dk) : Prop := ∃ s B, OnB n R B ∧ 0 ≤ s ∧ s ≤ 1 + (m : Int) ∧ CFresh n s B (2 + m) D
theorem Lies.open {D : Dk} (h : Lies n m R D) (hl : R.pages.length ≤ 1023) (hn : 6 ≤ n) (hn2 : n ≤ 331) : ∃ J P', D.openJ = (0, J) ∧ J.popen = (0, J, some P') ∧ P'.J = J ∧ J.D.n = n ∧ StC n m P' R.abort := by
  obtain ⟨s, B, h1, h2, h3, h4⟩ := h
  obtain ⟨J, e1, e2, e3, e4, e5⟩ := h4.opened
  obtain ⟨P, rfl, hs⟩ := h1 J s e2
  obtain ⟨P', p1, p2, p3⟩ := hs.popen hl hn
  exact ⟨P.J, P', e1, p1, p2, e2.hn, ⟨s, B, p3, h2, h3⟩, by rw [p2]; exact e3, by rw [p2]; omega⟩
/-- what a crash now would leave -/
structure NearP (n m : Nat) (P : Pg) (R T : Rp) : Prop where
  ok : P.J.D.Ok
  hn : P.J.D.n = n
  img : ∀ stay, Lies n m R (P.J.D.crash stay) ∨ Lies n m T (P.J.D.crash stay)
theorem StC.near (h : StC n m P R) (hm : m < 4611686018427387900) (T : Rp) : NearP n m P R T := by
  obtain ⟨s, B, hs, h1, h2⟩ := h.sim
  exact ⟨hs.live.dok, hs.live.hn, fun stay => .inl ⟨s, B, hs.onB, h1, h2, hs.live.cfresh h.last (by omega) stay⟩⟩
theorem StC.commit (h : StC n m P R) (hn : 6 ≤ n) (hn2 : n ≤ 331) (hm : m ≤ 2000) : (P.commit.1 = 0 ∧ StC n (m + 1) P.commit.2 R.commit) ∨ (P.commit.1 = 43 ∧ P.commit.2.off = 43 ∧ NearP n (m + 1) P.commit.2 R R.commit) := by
  obtain ⟨s, B, hs, h1, h2⟩ := h.sim
  have hl := h.last
  have ho := h.ops
  have hlen := (h.len hn2).1
  have c := hs.cut_commit hn (top := 2 + (m + 1)) (by omega) (by omega) (by omega)
  have c1 := c.last
  have c2 := c.ops
  rcases c.ends with ⟨e, s', B', e1, e2, e3⟩ | ⟨e, e1, e2, e3, s', B', e4, e5, e6, e7⟩
  · exact .inl ⟨e, ⟨s', B', e1, by omega, by omega⟩, by omega, by omega⟩
  · refine .inr ⟨e, e1, e2, e3, fun stay => ?_⟩
    rcases e7 stay with h | h
    · exact .inl ⟨s, B, hs.onB, h1, by omega, h⟩
    · exact .inr ⟨s', B', e4, by omega, by omega, h⟩
theorem NearP.mono {T : Rp} {k : Nat} (h : NearP n m P R T) (hk : m ≤ k) (hk2 : k < 4611686018427387900) : NearP n k P R T := by
  have up : ∀ R D, Lies n m R D → Lies n k R D := fun R D h => by
    obtain ⟨s, B, h1, h2, h3, h4⟩ := h
    obtain ⟨w, pl, him⟩ := h4.img
    exact ⟨s, B, h1, h2, by omega, h4.flat, h4.ok, h4.hn, h4.off, h4.cut, h4.ops, w, pl, him.top (by omega) (by omega)⟩
  exact ⟨h.ok, h.hn, fun stay => (h.img stay).imp (up _ _) (up _ _)⟩
end
theorem alloc_off {P : Pg} (h : P.off = 43) : P.alloc = ((0, 43), P) := by
  have e : P.fails (-1) = 43 := by rw [Pg.fails, if_pos (by rw [h]; decide), h]
  rw [Pg.alloc, e, if_pos (by decide)]
theorem read_off8 {P : Pg} (h : P.off = 43) : P.read 0 = ([], 43, P) := by
  have ef : P.fails 0 = 43 := by rw [Pg.fails, if_pos (by rw [h]; decide), h]
  have e : P.must 0 = 43 := by rw [Pg.must, ef, if_pos (.inl (by decide))]
  rw [Pg.read, e, if_pos (by decide)]
theorem abort_same {R T : Rp} (h1 : T.abort.pages = R.abort.pages) (h2 : T.abort.root = R.abort.root) : T.abort = R.abort := by
  have e1 : T.was = R.was := h1
  have e2 : T.wroot = R.wroot := h2
  show (⟨T.was, T.wroot, T.was, T.wroot, false⟩ : Rp) = ⟨R.was, R.wroot, R.was, R.wroot, false⟩
  rw [e1, e2]
end Go.Proofs.YtbmmcaoifkboiaaGreatDoor

/- PagerLasts: both pagers beside blocks that nobody touches; a copy of the document's that shares its texts. -/
set_option linter.unusedVariables false
set_option linter.unusedSimpArgs false
set_option maxRecDepth 100000
namespace Go.Proofs.YtbmmcaoifkboiaaGreatDoor
open Go.RowKit

/-- its texts -/
def RS8 (g : Rf) (k : Nat) : Prop := (∃ v ∈ g.vs, pBlk v = some k) ∨ ∃ v ∈ g.ws, pBlk v = some k
theorem RT8.cases {g : Rf} {k : Nat} (h : RT8 g k) : RH8 g k ∨ RS8 g k := by
  rcases h with e | e | e | e | e
  · exact .inl (.inl e)
  · exact .inl (.inr (.inl e))
  · exact .inl (.inr (.inr e))
  · exact .inr (.inl e)
  · exact .inr (.inr e)
theorem RS8.rt {g : Rf} {k : Nat} (h : RS8 g k) : RT8 g k := .inr (.inr (.inr h))
theorem RfAt.text {w : World} {g : Rf} {R : Rp} (h : RfAt w g R) {k : Nat} (hk : RS8 g k) : ∃ b, w.heap[k]? = some (strO b) := by
  rcases hk with ⟨v, hv, e⟩ | ⟨v, hv, e⟩
  · exact h.ptr.str v hv _ e
  · exact h.wptr.str v hv _ e
theorem VRow.no_text {w : World} {g c : Nat} {vs : List Value} (h : VRow w 125 g c vs) (b : List UInt8) : w.heap[g]? ≠ some (strO b) := by
  obtain ⟨cur, h1, _⟩ := h
  rw [h1]
  intro e
  simp at e
theorem RfAt.no_text {w : World} {g : Rf} {R : Rp} (h : RfAt w g R) {k : Nat} (hk : RH8 g k) (b : List UInt8) : w.heap[k]? ≠ some (strO b) := by
  rcases hk with rfl | rfl | rfl
  · rw [h.head]
    intro e
    simp at e
  · exact h.now.no_text b
  · exact h.was.no_text b
theorem RfTo.heads {w w' : World} {g : Rf} {R R' : Rp} (h : RfAt w g R) (ht : RfTo w g w' R') : ∃ g', RfAt w' g' R' ∧ g'.q = g.q ∧ (∀ k, RT8 g' k → RT8 g k ∨ w.heap.size ≤ k) ∧ (∀ k, RH8 g' k → RH8 g k ∨ w.heap.size ≤ k) ∧ Turned (RH8 g) w w' := by
  obtain ⟨g', a, b, c, d⟩ := ht
  refine ⟨g', a, b, c, fun k hk => ?_, d⟩
  rcases c k hk.rt with e | e
  · rcases e.cases with e | e
    · exact .inl e
    · by_cases hh : RH8 g k
      · exact .inl hh
      · obtain ⟨bs, hbs⟩ := h.text e
        exact absurd ((d.block k (lt_of_heap hbs) hh).trans hbs) (a.no_text hk bs)
  · exact .inr e
/-- both pagers; the blocks X, as they lie in wx, are out of their reach; of Y nothing is the document's -/
structure LSY (w0 w : World) (F : Ft) (p : Nat) (f : Pf) (P : Pg) (g : Rf) (R : Rp) (wx : World) (X Y : Nat → Prop) : Prop where
  ls : LS w0 w F p f P g R
  out : ∀ k, X k → k < w.heap.size ∧ ¬ PJ F p f k ∧ ¬ RH8 g k
  kept : ∀ k, X k → w.heap[k]? = wx.heap[k]?
  aside : ∀ k, Y k → k < w.heap.size ∧ ¬ RT8 g k
section
variable {w0 w w' wx : World} {F : Ft} {p : Nat} {f f' : Pf} {P P' : Pg} {g : Rf} {R R' : Rp} {X Y : Nat → Prop}
theorem LSY.pg (h : LSY w0 w F p f P g R wx X Y) : PgAt w F p f P := h.ls.pg
theorem LSY.rf (h : LSY w0 w F p f P g R wx X Y) : RfAt w g R := h.ls.rf
theorem LSY.below (h : LSY w0 w F p f P g R wx X Y) : Below w0.heap.size w0 w := h.ls.below
theorem LSY.own (h : LSY w0 w F p f P g R wx X Y) : ∀ k, PJ F p f k ∨ RT8 g k → w0.heap.size ≤ k := h.ls.own
theorem LSY.lt (h : LSY w0 w F p f P g R wx X Y) {k : Nat} (hk : PJ F p f k ∨ RT8 g k) : k < w.heap.size := h.ls.lt hk
theorem LSY.step (h : LSY w0 w F p f P g R wx X Y) (hb : Below w.heap.size w w') : LSY w0 w' F p f P g R wx X Y :=
  ⟨h.ls.step hb, fun k hk => ⟨Nat.lt_of_lt_of_le (h.out k hk).1 hb.size, (h.out k hk).2⟩, fun k hk => (hb.block k (h.out k hk).1).trans (h.kept k hk), fun k hk => ⟨Nat.lt_of_lt_of_le (h.aside k hk).1 hb.size, (h.aside k hk).2⟩⟩
theorem LSY.read (h : LSY w0 w F p f P g R wx X Y) (hp : PgAt w' F p f P') (ht : Turned (PJ F p f) w w') : LSY w0 w' F p f P' g R wx X Y :=
  ⟨h.ls.read hp ht, fun k hk => ⟨Nat.lt_of_lt_of_le (h.out k hk).1 ht.size, (h.out k hk).2⟩, fun k hk => (ht.block k (h.out k hk).1 (h.out k hk).2.1).trans (h.kept k hk), fun k hk => ⟨Nat.lt_of_lt_of_le (h.aside k hk).1 ht.size, (h.aside k hk).2⟩⟩
theorem LSY.stepT (h : LSY w0 w F p f P g R wx X Y) (a : PgAt w' F p f' P') (c : ∀ k, PT f' k → PT f k ∨ w.heap.size ≤ k) (d : Turned (PJ F p f) w w') : LSY w0 w' F p f' P' g R wx X Y := by
  refine ⟨h.ls.stepT a c d, fun k hk => ⟨Nat.lt_of_lt_of_le (h.out k hk).1 d.size, fun e => ?_, (h.out k hk).2.2⟩, fun k hk => (d.block k (h.out k hk).1 (h.out k hk).2.1).trans (h.kept k hk), fun k hk => ⟨Nat.lt_of_lt_of_le (h.aside k hk).1 d.size, (h.aside k hk).2⟩⟩
  have h1 := h.out k hk
  rcases e with e | e
  · exact h1.2.1 (.inl e)
  · rcases c k e with e | e
    · exact h1.2.1 (.inr e)
    · omega
theorem LSY.stepP (h : LSY w0 w F p f P g R wx X Y) (ht : PgTo w F p f w' P') : ∃ f', LSY w0 w' F p f' P' g R wx X Y ∧ f'.q = f.q := by
  obtain ⟨f', a, b, c, d⟩ := ht
  exact ⟨f', h.stepT a c d, b⟩
theorem LSY.stepR (h : LSY w0 w F p f P g R wx X Y) (ht : RfTo w g w' R') : ∃ g', LSY w0 w' F p f P g' R' wx X Y ∧ g'.q = g.q := by
  obtain ⟨g', l, q⟩ := h.ls.stepR ht
  obtain ⟨g2, a, b, c, ch, d⟩ := ht.heads h.rf
  have l2 : LS w0 w' F p f P g2 R' := by
    refine ⟨l.pg, a, l.below, fun k hk => ?_, fun k hk e => ?_, l.nib⟩
    · rcases hk with hk | hk
      · exact h.own k (.inl hk)
      · rcases c k hk with e | e
        · exact h.own k (.inr e)
        · exact Nat.le_trans h.below.size e
    · rcases c k hk with e2 | e2
      · exact h.ls.apart k e2 e
      · have := h.pg.lt e
        omega
  refine ⟨g2, ⟨l2, fun k hk => ⟨Nat.lt_of_lt_of_le (h.out k hk).1 d.size, (h.out k hk).2.1, fun e => ?_⟩, fun k hk => (d.block k (h.out k hk).1 (h.out k hk).2.2).trans (h.kept k hk), fun k hk => ⟨Nat.lt_of_lt_of_le (h.aside k hk).1 d.size, fun e => ?_⟩⟩, b⟩
  · have h1 := h.out k hk
    rcases ch k e with e | e
    · exact h1.2.2 e
    · omega
  · have h1 := h.aside k hk
    rcases c k e with e | e
    · exact h1.2 e
    · omega
theorem LSY.other {T : Nat → Prop} (h : LSY w0 w F p f P g R wx X Y) (ht : Turned T w w') (h1 : ∀ k, T k → w0.heap.size ≤ k) (h2 : ∀ k, T k → ¬ PJ F p f k ∧ ¬ RT8 g k) (h3 : ∀ k, X k → ¬ T k) : LSY w0 w' F p f P g R wx X Y :=
  ⟨h.ls.other ht h1 h2, fun k hk => ⟨Nat.lt_of_lt_of_le (h.out k hk).1 ht.size, (h.out k hk).2⟩, fun k hk => (ht.block k (h.out k hk).1 (h3 k hk)).trans (h.kept k hk), fun k hk => ⟨Nat.lt_of_lt_of_le (h.aside k hk).1 ht.size, (h.aside k hk).2⟩⟩
end
/-- both pagers, and another one of the document's -/
structure LT (w0 w : World) (F : Ft) (p : Nat) (f : Pf) (P : Pg) (g : Rf) (R : Rp) (g2 : Rf) (T : Rp) : Prop where
  ls : LS w0 w F p f P g R
  t : RfAt w g2 T
  low : ∀ k, RT8 g2 k → w0.heap.size ≤ k
  tp : ∀ k, RT8 g2 k → ¬ PJ F p f k
  tr : ∀ k, RT8 g2 k → ¬ RH8 g k
  rt : ∀ k, RH8 g2 k → ¬ RT8 g k
section
variable {w0 w w' : World} {F F' : Ft} {p p' : Nat} {f f' : Pf} {P P' : Pg} {g g2 g3 : Rf} {R R' T T' : Rp}
theorem LT.y (h : LT w0 w F p f P g R g2 T) : LSY w0 w F p f P g R w (RT8 g2) (RH8 g2) :=
  ⟨h.ls, fun k hk => ⟨h.t.lt k hk, h.tp k hk, h.tr k hk⟩, fun _ _ => rfl, fun k hk => ⟨h.t.lt k hk.rt, h.rt k hk⟩⟩
theorem RfAt.keep2 (h : RfAt w g R) (hw : ∀ k, RT8 g k → w'.heap[k]? = w.heap[k]?) : RfAt w' g R :=
  ⟨(hw _ (.inl rfl)).trans h.head, h.now.keep (hw _ (.inr (.inl rfl))), h.was.keep (hw _ (.inr (.inr (.inl rfl)))), h.ptr.keep fun v hv k hk => hw k (.inr (.inr (.inr (.inl ⟨v, hv, hk⟩)))), h.wptr.keep fun v hv k hk => hw k (.inr (.inr (.inr (.inr ⟨v, hv, hk⟩)))),
   h.n0, h.n1, h.nw, fun k hk => lt_of_heap ((hw k hk).trans (Array.getElem?_eq_getElem (h.lt k hk))), h.sep⟩
theorem LT.back {g' : Rf} (h : LT w0 w F p f P g R g2 T) (hy : LSY w0 w' F p f' P' g' R' w (RT8 g2) (RH8 g2)) : LT w0 w' F p f' P' g' R' g2 T :=
  ⟨hy.ls, h.t.keep2 (fun k hk => hy.kept k hk), h.low, fun k hk => (hy.out k hk).2.1, fun k hk => (hy.out k hk).2.2, fun k hk => (hy.aside k hk).2⟩
theorem LT.step (h : LT w0 w F p f P g R g2 T) (hb : Below w.heap.size w w') : LT w0 w' F p f P g R g2 T := ⟨h.ls.step hb, h.t.below hb, h.low, h.tp, h.tr, h.rt⟩
theorem LT.read (h : LT w0 w F p f P g R g2 T) (hp : PgAt w' F p f P') (ht : Turned (PJ F p f) w w') : LT w0 w' F p f P' g R g2 T := ⟨h.ls.read hp ht, h.t.turned ht fun k hk e => h.tp k hk e, h.low, h.tp, h.tr, h.rt⟩
theorem LT.stepT (h : LT w0 w F p f P g R g2 T) (a : PgAt w' F p f' P') (c : ∀ k, PT f' k → PT f k ∨ w.heap.size ≤ k) (d : Turned (PJ F p f) w w') : LT w0 w' F p f' P' g R g2 T := h.back (h.y.stepT a c d)
theorem LT.stepR (h : LT w0 w F p f P g R g2 T) (ht : RfTo w g w' R') : ∃ g', LT w0 w' F p f P g' R' g2 T ∧ g'.q = g.q := by
  obtain ⟨g', a, b⟩ := h.y.stepR ht
  exact ⟨g', h.back a, b⟩
theorem LT.other {S : Nat → Prop} (h : LT w0 w F p f P g R g2 T) (ht : Turned S w w') (h1 : ∀ k, S k → w0.heap.size ≤ k) (h2 : ∀ k, S k → ¬ PJ F p f k ∧ ¬ RT8 g k ∧ ¬ RT8 g2 k) : LT w0 w' F p f P g R g2 T :=
  ⟨h.ls.other ht h1 fun k hk => ⟨(h2 k hk).1, (h2 k hk).2.1⟩, h.t.turned ht fun k hk e => (h2 k e).2.2 hk, h.low, h.tp, h.tr, h.rt⟩
theorem LT.stepS (h : LT w0 w F p f P g R g2 T) (ht : RfTo w g2 w' T') : ∃ g3, LT w0 w' F p f P g R g3 T' ∧ g3.q = g2.q := by
  obtain ⟨g3, a, b, c, ch, d⟩ := ht.heads h.t
  have hl := h.ls.other d (fun k hk => h.low k hk.rt) fun k hk => ⟨h.tp k hk.rt, h.rt k hk⟩
  refine ⟨g3, ⟨hl, a, fun k hk => ?_, fun k hk e => ?_, fun k hk e => ?_, fun k hk e => ?_⟩, b⟩
  · rcases c k hk with e | e
    · exact h.low k e
    · exact Nat.le_trans h.ls.below.size e
  · rcases c k hk with e2 | e2
    · exact h.tp k e2 e
    · have := h.ls.lt (.inl e); omega
  · rcases c k hk with e2 | e2
    · exact h.tr k e2 e
    · have := h.ls.lt (.inr e.rt); omega
  · rcases ch k hk with e2 | e2
    · exact h.rt k e2 e
    · have := h.ls.lt (.inr e); omega
/-- another copy -/
theorem LS.copied (h : LS w0 w F p f P g R) (ha : RfAt w' g2 T) (hs : ∀ k, RT8 g2 k → RS8 g k ∨ w.heap.size ≤ k) (hh : ∀ k, RH8 g2 k → w.heap.size ≤ k) (hb : Below w.heap.size w w') : LT w0 w' F p f P g R g2 T := by
  refine ⟨h.step hb, ha, fun k hk => ?_, fun k hk e => ?_, fun k hk e => ?_, fun k hk e => ?_⟩
  · rcases hs k hk with e | e
    · exact h.own k (.inr e.rt)
    · exact Nat.le_trans h.below.size e
  · rcases hs k hk with e2 | e2
    · exact h.apart k e2.rt e
    · have := h.lt (.inl e); omega
  · rcases hs k hk with e2 | e2
    · obtain ⟨b, hb⟩ := h.rf.text e2
      exact h.rf.no_text e b hb
    · have := h.lt (.inr e.rt); omega
  · have := hh k hk
    have := h.lt (.inr e)
    omega
theorem LT.swap (h : LT w0 w F p f P g R g2 T) : LS w0 w F p f P g2 T :=
  ⟨h.ls.pg, h.t, h.ls.below, fun k hk => hk.elim (fun e => h.ls.own k (.inl e)) (h.low k), fun k hk e => h.tp k hk e, h.ls.nib⟩
theorem LS.plain (h : LS w0 w F p f P g R) : LSY w0 w F p f P g R w (fun _ => False) (fun _ => False) := ⟨h, fun _ e => e.elim, fun _ e => e.elim, fun _ e => e.elim⟩
/-- another pager, made behind all that stands -/
theorem LT.reborn (h : LT w0 w F p f P g R g2 T) (hp : PgAt w' F' p' f' P') (hf : ∀ k, PJ F' p' f' k → w.heap.size ≤ k) (hb : Below w.heap.size w w') : LT w0 w' F' p' f' P' g R g2 T := by
  have h1 := h.ls.below.size
  refine ⟨⟨hp, h.ls.rf.below hb, h.ls.below.trans (hb.mono h1), fun k hk => ?_, fun k hk e => ?_, h.ls.nib⟩, h.t.below hb, h.low, fun k hk e => ?_, h.tr, h.rt⟩
  · rcases hk with e | e
    · exact Nat.le_trans h1 (hf k e)
    · exact h.ls.own k (.inr e)
  · have := h.ls.lt (.inr hk); have := hf k e; omega
  · have := h.t.lt k hk; have := hf k e; omega
end
end Go.Proofs.YtbmmcaoifkboiaaGreatDoor

/- has: does a pager stand as the document's? Whatever the document's stands as. -/
set_option linter.unusedVariables false
set_option linter.unusedSimpArgs false
set_option maxRecDepth 100000
namespace Go.Proofs.YtbmmcaoifkboiaaGreatDoor
open Go.RowKit

theorem pages_same {T R : Rp} (hl : T.pages.length = R.pages.length) (h : ∀ j : Nat, j < R.pages.length → T.read (j : Int) = R.read (j : Int)) : T.pages = R.pages := by
  have key : ∀ (Z : Rp) (j : Nat), j < Z.pages.length → Z.pages[j]? = some (if (Z.read (j : Int)).2 = 0 then some (Z.read (j : Int)).1 else none) := fun Z j hj => by
    have e : (j : Int).toNat = j := by omega
    cases ht : Z.taken (j : Int) with
    | false =>
      have hr : Z.read (j : Int) = ([], 81) := by rw [Rp.read, if_pos ht]
      rw [hr, if_neg (by decide)]
      have h2 : decide ((0 : Int) ≤ (j : Int)) = true := decide_eq_true (by omega)
      have h3 : decide ((j : Int) < (Z.pages.length : Int)) = true := decide_eq_true (by omega)
      rw [Rp.taken, h2, h3, e, List.getD_eq_getElem?_getD, List.getElem?_eq_getElem hj] at ht
      rw [List.getElem?_eq_getElem hj]
      cases hp : Z.pages[j] with
      | none => rfl
      | some b => rw [hp] at ht; simp at ht
    | true =>
      obtain ⟨a1, a2, b, a3⟩ := taken_get ht
      rw [e] at a3
      have hr : Z.read (j : Int) = (b, 0) := by rw [Rp.read, if_neg (by simp [ht]), e, List.getD_eq_getElem?_getD, a3]; rfl
      rw [hr, a3, if_pos rfl]
  apply List.ext_getElem?
  intro j
  by_cases hj : j < R.pages.length
  · rw [key T j (by omega), key R j hj, h j hj]
  · rw [List.getElem?_eq_none (by omega), List.getElem?_eq_none (by omega)]
theorem read_pages {T R : Rp} (h : T.pages = R.pages) (i : Int) : T.read i = R.read i := by
  unfold Rp.read Rp.taken
  rw [h]
/-- what has tells -/
def HasEnd (w0 : World) (F : Ft) (p : Nat) (f : Pf) (P : Pg) (g : Rf) (R : Rp) (wx : World) (X Y : Nat → Prop) (ps : List (Option (List UInt8))) (r : Int) (e : Ending) (w' : World) : Prop := ∃ b, e = .returned (.bool b) ∧ (b = true ↔ ps = R.pages ∧ r = R.root) ∧ LSY w0 w' F p f P g R wx X Y
set_option maxHeartbeats 16000000 in
theorem has8_some (w0 w wx : World) {F : Ft} {p : Nat} {f : Pf} {P : Pg} {g : Rf} {R T : Rp} {n : Nat} {seq : Int} {B : List (List UInt8)} {X Y : Nat → Prop} (h : LSY w0 w F p f P g R wx X Y) (hs : Sim n P T seq B) (htl : T.pages.length = R.pages.length) :
    Calls Tryz.prog 19 #[qptr f.q, qptr g.q] w (HasEnd w0 F p f P g R wx X Y T.pages T.root) := by
  have hd := h.step (Below.refl w.heap.size w).drew
  have HP := Lib.hid (pages_any hd.pg)
  have HL := Lib.hid (left_any hd.pg)
  have HR := Lib.hid (root_any hd.pg)
  have HRL := Lib.hid (rleft8_any hd.rf)
  rw [hs.nlen, htl] at HP
  rw [hs.free_eq] at HL
  rw [hs.root] at HR
  have hc := hd.rf.cells
  obtain ⟨N, hN⟩ : ∃ N, N = R.pages.length := ⟨_, rfl⟩
  have hS0 : (fun W : World => W.cell? ⟨g.q, 0, none⟩ = some (.slice (some ⟨g.gs, 0, none⟩) N g.cs) ∧ W.cell? ⟨g.q, 1, none⟩ = some (.int .i64 R.root)) w.drew := by rw [hN]; exact ⟨hc.1, hc.2.1⟩
  have hn1 := h.rf.n1
  rw [← hN] at HP hn1
  have HTL := Lib.hid htl
  have HN := Lib.hid hN
  have HD := Lib.hid hd
  have HS := Lib.hid hs
  have hz1 : ((N : Int) != (N : Int)) = false := by simp
  clear h hs hd hc hN htl
  by_cases hfr : freeRN T.pages = freeRN R.pages
  case neg =>
    have HNO : Hid (false = true ↔ T.pages = R.pages ∧ T.root = R.root) := Lib.hid ⟨fun e => (by cases e), fun e => absurd (by rw [e.1]) hfr⟩
    have hz2 : ((freeRN T.pages : Int) != (freeRN R.pages : Int)) = true := by rw [bne_iff_ne]; omega
    clear hfr
    generalize freeRN R.pages = fr at *
    generalize freeRN T.pages = ft at *
    generalize hrt : R.root = rt at HR hS0
    generalize T.root = tt at *
    clear hrt
    go_enter Tryz.func19, Tryz.ntmps19
    go_upto_region 1 with fail
    refine wp_region_noPanic ?_
    refine wp_region_held_drew (S := (fun W : World => W.cell? ⟨g.q, 0, none⟩ = some (.slice (some ⟨g.gs, 0, none⟩) N g.cs) ∧ W.cell? ⟨g.q, 1, none⟩ = some (.int .i64 rt))) (by kernel_rfl) hS0 (fun hH => ?_)
    refine take_at (i := 0) (v := ?_) rfl (by kernel_rfl) (by kernel_rfl) (by kernel_rfl) (fun _ _ _ h => h) (Or.inl ⟨by rfl, ?_⟩) hH ?_
    rotate_left
    · (intro w hSw; obtain ⟨q0, q1⟩ := hSw; go_simp; try with_reducible rfl)
    try simp only [Act.put, List.setIfInBounds_toArray, List.set_cons_zero, List.set_cons_succ]
    refine take_at (i := 1) (v := ?_) rfl (by kernel_rfl) (by kernel_rfl) (by kernel_rfl) (fun _ _ _ h => h) (Or.inl ⟨by rfl, ?_⟩) hH ?_
    rotate_left
    · (intro w hSw; obtain ⟨q0, q1⟩ := hSw; go_simp; try with_reducible rfl)
    try simp only [Act.put, List.setIfInBounds_toArray, List.set_cons_zero, List.set_cons_succ]
    refine take_at (i := 2) (v := ?_) rfl (by kernel_rfl) (by kernel_rfl) (by kernel_rfl) (fun _ _ _ h => h) (Or.inl ⟨by rfl, ?_⟩) hH ?_
    rotate_left
    · (intro w hSw; obtain ⟨q0, q1⟩ := hSw; go_simp; try with_reducible rfl)
    try simp only [Act.put, List.setIfInBounds_toArray, List.set_cons_zero, List.set_cons_succ]
    refine take_at (i := 3) (v := ?_) rfl (by kernel_rfl) (by kernel_rfl) (by kernel_rfl) (fun _ _ _ h => h) (Or.inl ⟨by rfl, ?_⟩) hH ?_
    rotate_left
    · (intro w hSw; obtain ⟨q0, q1⟩ := hSw; go_simp; try with_reducible rfl)
    try simp only [Act.put, List.setIfInBounds_toArray, List.set_cons_zero, List.set_cons_succ]
    refine take_at (i := 5) (v := ?_) rfl (by kernel_rfl) (by kernel_rfl) (by kernel_rfl) (fun _ _ _ h => h) (Or.inl ⟨by rfl, ?_⟩) hH ?_
    rotate_left
    · (intro w hSw; obtain ⟨q0, q1⟩ := hSw; go_simp; try with_reducible rfl)
    try simp only [Act.put, List.setIfInBounds_toArray, List.set_cons_zero, List.set_cons_succ]
    refine take_at (i := 6) (v := ?_) rfl (by kernel_rfl) (by kernel_rfl) (by kernel_rfl) (fun _ _ _ h => h) (Or.inl ⟨by rfl, ?_⟩) hH ?_
    rotate_left
    · (intro w hSw; obtain ⟨q0, q1⟩ := hSw; go_simp; try with_reducible rfl)
    try simp only [Act.put, List.setIfInBounds_toArray, List.set_cons_zero, List.set_cons_succ]
    refine take_at (i := 7) (v := ?_) rfl (by kernel_rfl) (by kernel_rfl) (by kernel_rfl) (fun _ _ _ h => h) (Or.inl ⟨by rfl, ?_⟩) hH ?_
    rotate_left
    · (intro w hSw; obtain ⟨q0, q1⟩ := hSw; go_simp; try with_reducible rfl)
    try simp only [Act.put, List.setIfInBounds_toArray, List.set_cons_zero, List.set_cons_succ]
    refine take_at (i := 8) (v := ?_) rfl (by kernel_rfl) (by kernel_rfl) (by kernel_rfl) (fun _ _ _ h => h) (Or.inl ⟨by rfl, ?_⟩) hH ?_
    rotate_left
    · (intro w hSw; obtain ⟨q0, q1⟩ := hSw; go_simp; try with_reducible rfl)
    try simp only [Act.put, List.setIfInBounds_toArray, List.set_cons_zero, List.set_cons_succ]
    refine take_at (i := 9) (v := ?_) rfl (by kernel_rfl) (by kernel_rfl) (by kernel_rfl) (fun _ _ _ h => h) (Or.inl ⟨by rfl, ?_⟩) hH ?_
    rotate_left
    · (intro w hSw; obtain ⟨q0, q1⟩ := hSw; go_simp; try with_reducible rfl)
    try simp only [Act.put, List.setIfInBounds_toArray, List.set_cons_zero, List.set_cons_succ]
    refine take_at (i := 10) (v := ?_) rfl (by kernel_rfl) (by kernel_rfl) (by kernel_rfl) (fun _ _ _ h => h) (Or.inl ⟨by rfl, ?_⟩) hH ?_
    rotate_left
    · (intro w hSw; obtain ⟨q0, q1⟩ := hSw; go_simp; try with_reducible rfl)
    try simp only [Act.put, List.setIfInBounds_toArray, List.set_cons_zero, List.set_cons_succ]
    refine wpAnyH_ready (rs := [4]) (by kernel_rfl) (by simp) ?_
    refine ready_at rfl (fun K hK => ?_) AllReadyH.nil
    go_simp
    refine HP.out.mono ?_
    rintro e w' ⟨rfl, hw9⟩
    rw [hw9]
    clear hw9 w'
    go_wp2_with fail
    refine hK.out _ _ hH (fun _ => ?_)
    clear hK K
    try simp only [Act.put, List.setIfInBounds_toArray, List.set_cons_zero, List.set_cons_succ]
    refine take_at (i := 11) (v := ?_) rfl (by kernel_rfl) (by kernel_rfl) (by kernel_rfl) (fun _ _ _ h => h) (Or.inl ⟨by rfl, ?_⟩) hH ?_
    rotate_left
    · (intro w hSw; obtain ⟨q0, q1⟩ := hSw; go_simp; try with_reducible rfl)
    try simp only [Act.put, List.setIfInBounds_toArray, List.set_cons_zero, List.set_cons_succ]
    refine take_at (i := 12) (v := ?_) rfl (by kernel_rfl) (by kernel_rfl) (by kernel_rfl) (fun _ _ _ h => h) (Or.inl ⟨by rfl, ?_⟩) hH ?_
    rotate_left
    · (intro w hSw; obtain ⟨q0, q1⟩ := hSw; go_simp; try with_reducible rfl)
    try simp only [Act.put, List.setIfInBounds_toArray, List.set_cons_zero, List.set_cons_succ]
    refine take_at (i := 13) (v := ?_) rfl (by kernel_rfl) (by kernel_rfl) (by kernel_rfl) (fun _ _ _ h => h) (Or.inl ⟨by rfl, ?_⟩) hH ?_
    rotate_left
    · (intro w hSw; obtain ⟨q0, q1⟩ := hSw; go_simp; try with_reducible rfl)
    try simp only [Act.put, List.setIfInBounds_toArray, List.set_cons_zero, List.set_cons_succ]
    refine take_at (i := 14) (v := ?_) rfl (by kernel_rfl) (by kernel_rfl) (by kernel_rfl) (fun _ _ _ h => h) (Or.inl ⟨by rfl, ?_⟩) hH ?_
    rotate_left
    · (intro w hSw; obtain ⟨q0, q1⟩ := hSw; go_simp; try with_reducible rfl)
    try simp only [Act.put, List.setIfInBounds_toArray, List.set_cons_zero, List.set_cons_succ]
    refine take_at (i := 16) (v := ?_) rfl (by kernel_rfl) (by kernel_rfl) (by kernel_rfl) (fun _ _ _ h => h) (Or.inl ⟨by rfl, ?_⟩) hH ?_
    rotate_left
    · (intro w hSw; obtain ⟨q0, q1⟩ := hSw; go_simp; try with_reducible rfl)
    try simp only [Act.put, List.setIfInBounds_toArray, List.set_cons_zero, List.set_cons_succ]
    refine wpAnyH_ready (rs := [15]) (by kernel_rfl) (by simp) ?_
    refine ready_at rfl (fun K hK => ?_) AllReadyH.nil
    go_simp
    refine HL.out.mono ?_
    rintro e w' ⟨rfl, hw9⟩
    rw [hw9]
    clear hw9 w'
    go_wp2_with fail
    refine hK.out _ _ hH (fun _ => ?_)
    clear hK K
    try simp only [Act.put, List.setIfInBounds_toArray, List.set_cons_zero, List.set_cons_succ]
    refine wpAnyH_ready (rs := [17]) (by kernel_rfl) (by simp) ?_
    refine ready_at rfl (fun K hK => ?_) AllReadyH.nil
    go_simp
    refine HRL.out.mono ?_
    rintro e w' ⟨rfl, hw9⟩
    rw [hw9]
    clear hw9 w'
    go_wp2_with fail
    refine hK.out _ _ hH (fun _ => ?_)
    clear hK K
    try simp only [Act.put, List.setIfInBounds_toArray, List.set_cons_zero, List.set_cons_succ]
    refine take_at (i := 18) (v := ?_) rfl (by kernel_rfl) (by kernel_rfl) (by kernel_rfl) (fun _ _ _ h => h) (Or.inl ⟨by rfl, ?_⟩) hH ?_
    rotate_left
    · (intro w hSw; obtain ⟨q0, q1⟩ := hSw; go_simp; try with_reducible rfl)
    try simp only [Act.put, List.setIfInBounds_toArray, List.set_cons_zero, List.set_cons_succ]
    refine take_at (i := 19) (v := ?_) rfl (by kernel_rfl) (by kernel_rfl) (by kernel_rfl) (fun _ _ _ h => h) (Or.inl ⟨by rfl, ?_⟩) hH ?_
    rotate_left
    · (intro w hSw; obtain ⟨q0, q1⟩ := hSw; go_simp; try with_reducible rfl)
    try simp only [Act.put, List.setIfInBounds_toArray, List.set_cons_zero, List.set_cons_succ]
    refine take_at (i := 20) (v := ?_) rfl (by kernel_rfl) (by kernel_rfl) (by kernel_rfl) (fun _ _ _ h => h) (Or.inl ⟨by rfl, ?_⟩) hH ?_
    rotate_left
    · (intro w hSw; obtain ⟨q0, q1⟩ := hSw; go_simp; try with_reducible rfl)
    try simp only [Act.put, List.setIfInBounds_toArray, List.set_cons_zero, List.set_cons_succ]
    refine take_at (i := 21) (v := undef) rfl (by kernel_rfl) (by kernel_rfl) (by kernel_rfl) (fun _ _ _ h => h) (Or.inr ⟨by rfl, rfl⟩) hH ?_
    try simp only [Act.put, List.setIfInBounds_toArray, List.set_cons_zero, List.set_cons_succ]
    refine take_at (i := 22) (v := undef) rfl (by kernel_rfl) (by kernel_rfl) (by kernel_rfl) (fun _ _ _ h => h) (Or.inr ⟨by rfl, rfl⟩) hH ?_
    try simp only [Act.put, List.setIfInBounds_toArray, List.set_cons_zero, List.set_cons_succ]
    refine take_at (i := 23) (v := undef) rfl (by kernel_rfl) (by kernel_rfl) (by kernel_rfl) (fun _ _ _ h => h) (Or.inr ⟨by rfl, rfl⟩) hH ?_
    try simp only [Act.put, List.setIfInBounds_toArray, List.set_cons_zero, List.set_cons_succ]
    refine take_at (i := 24) (v := undef) rfl (by kernel_rfl) (by kernel_rfl) (by kernel_rfl) (fun _ _ _ h => h) (Or.inr ⟨by rfl, rfl⟩) hH ?_
    try simp only [Act.put, List.setIfInBounds_toArray, List.set_cons_zero, List.set_cons_succ]
    refine take_at (i := 25) (v := undef) rfl (by kernel_rfl) (by kernel_rfl) (by kernel_rfl) (fun _ _ _ h => h) (Or.inr ⟨by rfl, rfl⟩) hH ?_
    try simp only [Act.put, List.setIfInBounds_toArray, List.set_cons_zero, List.set_cons_succ]
    refine take_at (i := 26) (v := undef) rfl (by kernel_rfl) (by kernel_rfl) (by kernel_rfl) (fun _ _ _ h => h) (Or.inr ⟨by rfl, rfl⟩) hH ?_
    try simp only [Act.put, List.setIfInBounds_toArray, List.set_cons_zero, List.set_cons_succ]
    refine take_at (i := 27) (v := undef) rfl (by kernel_rfl) (by kernel_rfl) (by kernel_rfl) (fun _ _ _ h => h) (Or.inr ⟨by rfl, rfl⟩) hH ?_
    try simp only [Act.put, List.setIfInBounds_toArray, List.set_cons_zero, List.set_cons_succ]
    refine take_at (i := 28) (v := undef) rfl (by kernel_rfl) (by kernel_rfl) (by kernel_rfl) (fun _ _ _ h => h) (Or.inr ⟨by rfl, rfl⟩) hH ?_
    try simp only [Act.put, List.setIfInBounds_toArray, List.set_cons_zero, List.set_cons_succ]
    refine take_at (i := 29) (v := ?_) rfl (by kernel_rfl) (by kernel_rfl) (by kernel_rfl) (fun _ _ _ h => h) (Or.inl ⟨by rfl, ?_⟩) hH ?_
    rotate_left
    · (intro w hSw; obtain ⟨q0, q1⟩ := hSw; go_simp; try with_reducible rfl)
    try simp only [Act.put, List.setIfInBounds_toArray, List.set_cons_zero, List.set_cons_succ]
    refine wpAnyH_done (by kernel_rfl) ?_ _
    refine NoPanic.normal ?_
    clear hH
    go_wp2_with fail
    go_ret
    exact ⟨false, rfl, HNO.out, HD.out⟩
  rw [hfr] at HL
  have hz2 : ((freeRN R.pages : Int) != (freeRN R.pages : Int)) = false := by simp
  by_cases hrr : T.root = R.root
  case neg =>
    have HNO : Hid (false = true ↔ T.pages = R.pages ∧ T.root = R.root) := Lib.hid ⟨fun e => (by cases e), fun e => absurd e.2 hrr⟩
    have hz3 : (T.root != R.root) = true := by rw [bne_iff_ne]; exact hrr
    clear hfr hrr
    generalize freeRN R.pages = fr at *
    generalize hrt : R.root = rt at HR hS0 hz3
    generalize T.root = tt at *
    clear hrt
    go_enter Tryz.func19, Tryz.ntmps19
    go_upto_region 1 with fail
    refine wp_region_noPanic ?_
    refine wp_region_held_drew (S := (fun W : World => W.cell? ⟨g.q, 0, none⟩ = some (.slice (some ⟨g.gs, 0, none⟩) N g.cs) ∧ W.cell? ⟨g.q, 1, none⟩ = some (.int .i64 rt))) (by kernel_rfl) hS0 (fun hH => ?_)
    refine take_at (i := 0) (v := ?_) rfl (by kernel_rfl) (by kernel_rfl) (by kernel_rfl) (fun _ _ _ h => h) (Or.inl ⟨by rfl, ?_⟩) hH ?_
    rotate_left
    · (intro w hSw; obtain ⟨q0, q1⟩ := hSw; go_simp; try with_reducible rfl)
    try simp only [Act.put, List.setIfInBounds_toArray, List.set_cons_zero, List.set_cons_succ]
    refine take_at (i := 1) (v := ?_) rfl (by kernel_rfl) (by kernel_rfl) (by kernel_rfl) (fun _ _ _ h => h) (Or.inl ⟨by rfl, ?_⟩) hH ?_
    rotate_left
    · (intro w hSw; obtain ⟨q0, q1⟩ := hSw; go_simp; try with_reducible rfl)
    try simp only [Act.put, List.setIfInBounds_toArray, List.set_cons_zero, List.set_cons_succ]
    refine take_at (i := 2) (v := ?_) rfl (by kernel_rfl) (by kernel_rfl) (by kernel_rfl) (fun _ _ _ h => h) (Or.inl ⟨by rfl, ?_⟩) hH ?_
    rotate_left
    · (intro w hSw; obtain ⟨q0, q1⟩ := hSw; go_simp; try with_reducible rfl)
    try simp only [Act.put, List.setIfInBounds_toArray, List.set_cons_zero, List.set_cons_succ]
    refine take_at (i := 3) (v := ?_) rfl (by kernel_rfl) (by kernel_rfl) (by kernel_rfl) (fun _ _ _ h => h) (Or.inl ⟨by rfl, ?_⟩) hH ?_
    rotate_left
    · (intro w hSw; obtain ⟨q0, q1⟩ := hSw; go_simp; try with_reducible rfl)
    try simp only [Act.put, List.setIfInBounds_toArray, List.set_cons_zero, List.set_cons_succ]
    refine take_at (i := 5) (v := ?_) rfl (by kernel_rfl) (by kernel_rfl) (by kernel_rfl) (fun _ _ _ h => h) (Or.inl ⟨by rfl, ?_⟩) hH ?_
    rotate_left
    · (intro w hSw; obtain ⟨q0, q1⟩ := hSw; go_simp; try with_reducible rfl)
    try simp only [Act.put, List.setIfInBounds_toArray, List.set_cons_zero, List.set_cons_succ]
    refine take_at (i := 6) (v := ?_) rfl (by kernel_rfl) (by kernel_rfl) (by kernel_rfl) (fun _ _ _ h => h) (Or.inl ⟨by rfl, ?_⟩) hH ?_
    rotate_left
    · (intro w hSw; obtain ⟨q0, q1⟩ := hSw; go_simp; try with_reducible rfl)
    try simp only [Act.put, List.setIfInBounds_toArray, List.set_cons_zero, List.set_cons_succ]
    refine take_at (i := 7) (v := ?_) rfl (by kernel_rfl) (by kernel_rfl) (by kernel_rfl) (fun _ _ _ h => h) (Or.inl ⟨by rfl, ?_⟩) hH ?_
    rotate_left
    · (intro w hSw; obtain ⟨q0, q1⟩ := hSw; go_simp; try with_reducible rfl)
    try simp only [Act.put, List.setIfInBounds_toArray, List.set_cons_zero, List.set_cons_succ]
    refine take_at (i := 8) (v := ?_) rfl (by kernel_rfl) (by kernel_rfl) (by kernel_rfl) (fun _ _ _ h => h) (Or.inl ⟨by rfl, ?_⟩) hH ?_
    rotate_left
    · (intro w hSw; obtain ⟨q0, q1⟩ := hSw; go_simp; try with_reducible rfl)
    try simp only [Act.put, List.setIfInBounds_toArray, List.set_cons_zero, List.set_cons_succ]
    refine take_at (i := 9) (v := ?_) rfl (by kernel_rfl) (by kernel_rfl) (by kernel_rfl) (fun _ _ _ h => h) (Or.inl ⟨by rfl, ?_⟩) hH ?_
    rotate_left
    · (intro w hSw; obtain ⟨q0, q1⟩ := hSw; go_simp; try with_reducible rfl)
    try simp only [Act.put, List.setIfInBounds_toArray, List.set_cons_zero, List.set_cons_succ]
    refine take_at (i := 10) (v := ?_) rfl (by kernel_rfl) (by kernel_rfl) (by kernel_rfl) (fun _ _ _ h => h) (Or.inl ⟨by rfl, ?_⟩) hH ?_
    rotate_left
    · (intro w hSw; obtain ⟨q0, q1⟩ := hSw; go_simp; try with_reducible rfl)
    try simp only [Act.put, List.setIfInBounds_toArray, List.set_cons_zero, List.set_cons_succ]
    refine wpAnyH_ready (rs := [4]) (by kernel_rfl) (by simp) ?_
    refine ready_at rfl (fun K hK => ?_) AllReadyH.nil
    go_simp
    refine HP.out.mono ?_
    rintro e w' ⟨rfl, hw9⟩
    rw [hw9]
    clear hw9 w'
    go_wp2_with fail
    refine hK.out _ _ hH (fun _ => ?_)
    clear hK K
    try simp only [Act.put, List.setIfInBounds_toArray, List.set_cons_zero, List.set_cons_succ]
    refine take_at (i := 11) (v := ?_) rfl (by kernel_rfl) (by kernel_rfl) (by kernel_rfl) (fun _ _ _ h => h) (Or.inl ⟨by rfl, ?_⟩) hH ?_
    rotate_left
    · (intro w hSw; obtain ⟨q0, q1⟩ := hSw; go_simp; try with_reducible rfl)
    try simp only [Act.put, List.setIfInBounds_toArray, List.set_cons_zero, List.set_cons_succ]
    refine take_at (i := 12) (v := ?_) rfl (by kernel_rfl) (by kernel_rfl) (by kernel_rfl) (fun _ _ _ h => h) (Or.inl ⟨by rfl, ?_⟩) hH ?_
    rotate_left
    · (intro w hSw; obtain ⟨q0, q1⟩ := hSw; go_simp; try with_reducible rfl)
    try simp only [Act.put, List.setIfInBounds_toArray, List.set_cons_zero, List.set_cons_succ]
    refine take_at (i := 13) (v := ?_) rfl (by kernel_rfl) (by kernel_rfl) (by kernel_rfl) (fun _ _ _ h => h) (Or.inl ⟨by rfl, ?_⟩) hH ?_
    rotate_left
    · (intro w hSw; obtain ⟨q0, q1⟩ := hSw; go_simp; try with_reducible rfl)
    try simp only [Act.put, List.setIfInBounds_toArray, List.set_cons_zero, List.set_cons_succ]
    refine take_at (i := 14) (v := ?_) rfl (by kernel_rfl) (by kernel_rfl) (by kernel_rfl) (fun _ _ _ h => h) (Or.inl ⟨by rfl, ?_⟩) hH ?_
    rotate_left
    · (intro w hSw; obtain ⟨q0, q1⟩ := hSw; go_simp; try with_reducible rfl)
    try simp only [Act.put, List.setIfInBounds_toArray, List.set_cons_zero, List.set_cons_succ]
    refine take_at (i := 16) (v := ?_) rfl (by kernel_rfl) (by kernel_rfl) (by kernel_rfl) (fun _ _ _ h => h) (Or.inl ⟨by rfl, ?_⟩) hH ?_
    rotate_left
    · (intro w hSw; obtain ⟨q0, q1⟩ := hSw; go_simp; try with_reducible rfl)
    try simp only [Act.put, List.setIfInBounds_toArray, List.set_cons_zero, List.set_cons_succ]
    refine wpAnyH_ready (rs := [15]) (by kernel_rfl) (by simp) ?_
    refine ready_at rfl (fun K hK => ?_) AllReadyH.nil
    go_simp
    refine HL.out.mono ?_
    rintro e w' ⟨rfl, hw9⟩
    rw [hw9]
    clear hw9 w'
    go_wp2_with fail
    refine hK.out _ _ hH (fun _ => ?_)
    clear hK K
    try simp only [Act.put, List.setIfInBounds_toArray, List.set_cons_zero, List.set_cons_succ]
    refine wpAnyH_ready (rs := [17]) (by kernel_rfl) (by simp) ?_
    refine ready_at rfl (fun K hK => ?_) AllReadyH.nil
    go_simp
    refine HRL.out.mono ?_
    rintro e w' ⟨rfl, hw9⟩
    rw [hw9]
    clear hw9 w'
    go_wp2_with fail
    refine hK.out _ _ hH (fun _ => ?_)
    clear hK K
    try simp only [Act.put, List.setIfInBounds_toArray, List.set_cons_zero, List.set_cons_succ]
    refine take_at (i := 18) (v := ?_) rfl (by kernel_rfl) (by kernel_rfl) (by kernel_rfl) (fun _ _ _ h => h) (Or.inl ⟨by rfl, ?_⟩) hH ?_
    rotate_left
    · (intro w hSw; obtain ⟨q0, q1⟩ := hSw; go_simp; try with_reducible rfl)
    try simp only [Act.put, List.setIfInBounds_toArray, List.set_cons_zero, List.set_cons_succ]
    refine take_at (i := 19) (v := ?_) rfl (by kernel_rfl) (by kernel_rfl) (by kernel_rfl) (fun _ _ _ h => h) (Or.inl ⟨by rfl, ?_⟩) hH ?_
    rotate_left
    · (intro w hSw; obtain ⟨q0, q1⟩ := hSw; go_simp; try with_reducible rfl)
    try simp only [Act.put, List.setIfInBounds_toArray, List.set_cons_zero, List.set_cons_succ]
    refine take_at (i := 20) (v := ?_) rfl (by kernel_rfl) (by kernel_rfl) (by kernel_rfl) (fun _ _ _ h => h) (Or.inl ⟨by rfl, ?_⟩) hH ?_
    rotate_left
    · (intro w hSw; obtain ⟨q0, q1⟩ := hSw; go_simp; try with_reducible rfl)
    try simp only [Act.put, List.setIfInBounds_toArray, List.set_cons_zero, List.set_cons_succ]
    refine take_at (i := 21) (v := ?_) rfl (by kernel_rfl) (by kernel_rfl) (by kernel_rfl) (fun _ _ _ h => h) (Or.inl ⟨by rfl, ?_⟩) hH ?_
    rotate_left
    · (intro w hSw; obtain ⟨q0, q1⟩ := hSw; go_simp; try with_reducible rfl)
    try simp only [Act.put, List.setIfInBounds_toArray, List.set_cons_zero, List.set_cons_succ]
    refine take_at (i := 23) (v := ?_) rfl (by kernel_rfl) (by kernel_rfl) (by kernel_rfl) (fun _ _ _ h => h) (Or.inl ⟨by rfl, ?_⟩) hH ?_
    rotate_left
    · (intro w hSw; obtain ⟨q0, q1⟩ := hSw; go_simp; try with_reducible rfl)
    try simp only [Act.put, List.setIfInBounds_toArray, List.set_cons_zero, List.set_cons_succ]
    refine take_at (i := 24) (v := ?_) rfl (by kernel_rfl) (by kernel_rfl) (by kernel_rfl) (fun _ _ _ h => h) (Or.inl ⟨by rfl, ?_⟩) hH ?_
    rotate_left
    · (intro w hSw; obtain ⟨q0, q1⟩ := hSw; go_simp; try with_reducible rfl)
    try simp only [Act.put, List.setIfInBounds_toArray, List.set_cons_zero, List.set_cons_succ]
    refine take_at (i := 25) (v := ?_) rfl (by kernel_rfl) (by kernel_rfl) (by kernel_rfl) (fun _ _ _ h => h) (Or.inl ⟨by rfl, ?_⟩) hH ?_
    rotate_left
    · (intro w hSw; obtain ⟨q0, q1⟩ := hSw; go_simp; try with_reducible rfl)
    try simp only [Act.put, List.setIfInBounds_toArray, List.set_cons_zero, List.set_cons_succ]
    refine take_at (i := 26) (v := ?_) rfl (by kernel_rfl) (by kernel_rfl) (by kernel_rfl) (fun _ _ _ h => h) (Or.inl ⟨by rfl, ?_⟩) hH ?_
    rotate_left
    · (intro w hSw; obtain ⟨q0, q1⟩ := hSw; go_simp; try with_reducible rfl)
    try simp only [Act.put, List.setIfInBounds_toArray, List.set_cons_zero, List.set_cons_succ]
    refine take_at (i := 27) (v := ?_) rfl (by kernel_rfl) (by kernel_rfl) (by kernel_rfl) (fun _ _ _ h => h) (Or.inl ⟨by rfl, ?_⟩) hH ?_
    rotate_left
    · (intro w hSw; obtain ⟨q0, q1⟩ := hSw; go_simp; try with_reducible rfl)
    try simp only [Act.put, List.setIfInBounds_toArray, List.set_cons_zero, List.set_cons_succ]
    refine wpAnyH_ready (rs := [22]) (by kernel_rfl) (by simp) ?_
    refine ready_at rfl (fun K hK => ?_) AllReadyH.nil
    go_simp
    refine HR.out.mono ?_
    rintro e w' ⟨rfl, hw9⟩
    rw [hw9]
    clear hw9 w'
    go_wp2_with fail
    refine hK.out _ _ hH (fun _ => ?_)
    clear hK K
    try simp only [Act.put, List.setIfInBounds_toArray, List.set_cons_zero, List.set_cons_succ]
    refine take_at (i := 28) (v := ?_) rfl (by kernel_rfl) (by kernel_rfl) (by kernel_rfl) (fun _ _ _ h => h) (Or.inl ⟨by rfl, ?_⟩) hH ?_
    rotate_left
    · (intro w hSw; obtain ⟨q0, q1⟩ := hSw; go_simp; try with_reducible rfl)
    try simp only [Act.put, List.setIfInBounds_toArray, List.set_cons_zero, List.set_cons_succ]
    refine take_at (i := 29) (v := ?_) rfl (by kernel_rfl) (by kernel_rfl) (by kernel_rfl) (fun _ _ _ h => h) (Or.inl ⟨by rfl, ?_⟩) hH ?_
    rotate_left
    · (intro w hSw; obtain ⟨q0, q1⟩ := hSw; go_simp; try with_reducible rfl)
    try simp only [Act.put, List.setIfInBounds_toArray, List.set_cons_zero, List.set_cons_succ]
    refine wpAnyH_done (by kernel_rfl) ?_ _
    refine NoPanic.normal ?_
    clear hH
    go_wp2_with fail
    go_ret
    exact ⟨false, rfl, HNO.out, HD.out⟩
  have HRR := Lib.hid hrr
  rw [hrr] at HR
  have hz3 : (R.root != R.root) = false := by simp
  clear hfr hrr
  generalize freeRN R.pages = fr at *
  generalize hrt : R.root = rt at HR hS0 hz3
  have Hrt := Lib.hid hrt
  clear hrt
  go_enter Tryz.func19, Tryz.ntmps19
  go_upto_region 1 with fail
  refine wp_region_noPanic ?_
  refine wp_region_held_drew (S := (fun W : World => W.cell? ⟨g.q, 0, none⟩ = some (.slice (some ⟨g.gs, 0, none⟩) N g.cs) ∧ W.cell? ⟨g.q, 1, none⟩ = some (.int .i64 rt))) (by kernel_rfl) hS0 (fun hH => ?_)
  refine take_at (i := 0) (v := ?_) rfl (by kernel_rfl) (by kernel_rfl) (by kernel_rfl) (fun _ _ _ h => h) (Or.inl ⟨by rfl, ?_⟩) hH ?_
  rotate_left
  · (intro w hSw; obtain ⟨q0, q1⟩ := hSw; go_simp; try with_reducible rfl)
  try simp only [Act.put, List.setIfInBounds_toArray, List.set_cons_zero, List.set_cons_succ]
  refine take_at (i := 1) (v := ?_) rfl (by kernel_rfl) (by kernel_rfl) (by kernel_rfl) (fun _ _ _ h => h) (Or.inl ⟨by rfl, ?_⟩) hH ?_
  rotate_left
  · (intro w hSw; obtain ⟨q0, q1⟩ := hSw; go_simp; try with_reducible rfl)
  try simp only [Act.put, List.setIfInBounds_toArray, List.set_cons_zero, List.set_cons_succ]
  refine take_at (i := 2) (v := ?_) rfl (by kernel_rfl) (by kernel_rfl) (by kernel_rfl) (fun _ _ _ h => h) (Or.inl ⟨by rfl, ?_⟩) hH ?_
  rotate_left
  · (intro w hSw; obtain ⟨q0, q1⟩ := hSw; go_simp; try with_reducible rfl)
  try simp only [Act.put, List.setIfInBounds_toArray, List.set_cons_zero, List.set_cons_succ]
  refine take_at (i := 3) (v := ?_) rfl (by kernel_rfl) (by kernel_rfl) (by kernel_rfl) (fun _ _ _ h => h) (Or.inl ⟨by rfl, ?_⟩) hH ?_
  rotate_left
  · (intro w hSw; obtain ⟨q0, q1⟩ := hSw; go_simp; try with_reducible rfl)
  try simp only [Act.put, List.setIfInBounds_toArray, List.set_cons_zero, List.set_cons_succ]
  refine take_at (i := 5) (v := ?_) rfl (by kernel_rfl) (by kernel_rfl) (by kernel_rfl) (fun _ _ _ h => h) (Or.inl ⟨by rfl, ?_⟩) hH ?_
  rotate_left
  · (intro w hSw; obtain ⟨q0, q1⟩ := hSw; go_simp; try with_reducible rfl)
  try simp only [Act.put, List.setIfInBounds_toArray, List.set_cons_zero, List.set_cons_succ]
  refine take_at (i := 6) (v := ?_) rfl (by kernel_rfl) (by kernel_rfl) (by kernel_rfl) (fun _ _ _ h => h) (Or.inl ⟨by rfl, ?_⟩) hH ?_
  rotate_left
  · (intro w hSw; obtain ⟨q0, q1⟩ := hSw; go_simp; try with_reducible rfl)
  try simp only [Act.put, List.setIfInBounds_toArray, List.set_cons_zero, List.set_cons_succ]
  refine take_at (i := 7) (v := ?_) rfl (by kernel_rfl) (by kernel_rfl) (by kernel_rfl) (fun _ _ _ h => h) (Or.inl ⟨by rfl, ?_⟩) hH ?_
  rotate_left
  · (intro w hSw; obtain ⟨q0, q1⟩ := hSw; go_simp; try with_reducible rfl)
  try simp only [Act.put, List.setIfInBounds_toArray, List.set_cons_zero, List.set_cons_succ]
  refine take_at (i := 8) (v := ?_) rfl (by kernel_rfl) (by kernel_rfl) (by kernel_rfl) (fun _ _ _ h => h) (Or.inl ⟨by rfl, ?_⟩) hH ?_
  rotate_left
  · (intro w hSw; obtain ⟨q0, q1⟩ := hSw; go_simp; try with_reducible rfl)
  try simp only [Act.put, List.setIfInBounds_toArray, List.set_cons_zero, List.set_cons_succ]
  refine take_at (i := 9) (v := ?_) rfl (by kernel_rfl) (by kernel_rfl) (by kernel_rfl) (fun _ _ _ h => h) (Or.inl ⟨by rfl, ?_⟩) hH ?_
  rotate_left
  · (intro w hSw; obtain ⟨q0, q1⟩ := hSw; go_simp; try with_reducible rfl)
  try simp only [Act.put, List.setIfInBounds_toArray, List.set_cons_zero, List.set_cons_succ]
  refine take_at (i := 10) (v := ?_) rfl (by kernel_rfl) (by kernel_rfl) (by kernel_rfl) (fun _ _ _ h => h) (Or.inl ⟨by rfl, ?_⟩) hH ?_
  rotate_left
  · (intro w hSw; obtain ⟨q0, q1⟩ := hSw; go_simp; try with_reducible rfl)
  try simp only [Act.put, List.setIfInBounds_toArray, List.set_cons_zero, List.set_cons_succ]
  refine wpAnyH_ready (rs := [4]) (by kernel_rfl) (by simp) ?_
  refine ready_at rfl (fun K hK => ?_) AllReadyH.nil
  go_simp
  refine HP.out.mono ?_
  rintro e w' ⟨rfl, hw9⟩
  rw [hw9]
  clear hw9 w'
  go_wp2_with fail
  refine hK.out _ _ hH (fun _ => ?_)
  clear hK K
  try simp only [Act.put, List.setIfInBounds_toArray, List.set_cons_zero, List.set_cons_succ]
  refine take_at (i := 11) (v := ?_) rfl (by kernel_rfl) (by kernel_rfl) (by kernel_rfl) (fun _ _ _ h => h) (Or.inl ⟨by rfl, ?_⟩) hH ?_
  rotate_left
  · (intro w hSw; obtain ⟨q0, q1⟩ := hSw; go_simp; try with_reducible rfl)
  try simp only [Act.put, List.setIfInBounds_toArray, List.set_cons_zero, List.set_cons_succ]
  refine take_at (i := 12) (v := ?_) rfl (by kernel_rfl) (by kernel_rfl) (by kernel_rfl) (fun _ _ _ h => h) (Or.inl ⟨by rfl, ?_⟩) hH ?_
  rotate_left
  · (intro w hSw; obtain ⟨q0, q1⟩ := hSw; go_simp; try with_reducible rfl)
  try simp only [Act.put, List.setIfInBounds_toArray, List.set_cons_zero, List.set_cons_succ]
  refine take_at (i := 13) (v := ?_) rfl (by kernel_rfl) (by kernel_rfl) (by kernel_rfl) (fun _ _ _ h => h) (Or.inl ⟨by rfl, ?_⟩) hH ?_
  rotate_left
  · (intro w hSw; obtain ⟨q0, q1⟩ := hSw; go_simp; try with_reducible rfl)
  try simp only [Act.put, List.setIfInBounds_toArray, List.set_cons_zero, List.set_cons_succ]
  refine take_at (i := 14) (v := ?_) rfl (by kernel_rfl) (by kernel_rfl) (by kernel_rfl) (fun _ _ _ h => h) (Or.inl ⟨by rfl, ?_⟩) hH ?_
  rotate_left
  · (intro w hSw; obtain ⟨q0, q1⟩ := hSw; go_simp; try with_reducible rfl)
  try simp only [Act.put, List.setIfInBounds_toArray, List.set_cons_zero, List.set_cons_succ]
  refine take_at (i := 16) (v := ?_) rfl (by kernel_rfl) (by kernel_rfl) (by kernel_rfl) (fun _ _ _ h => h) (Or.inl ⟨by rfl, ?_⟩) hH ?_
  rotate_left
  · (intro w hSw; obtain ⟨q0, q1⟩ := hSw; go_simp; try with_reducible rfl)
  try simp only [Act.put, List.setIfInBounds_toArray, List.set_cons_zero, List.set_cons_succ]
  refine wpAnyH_ready (rs := [15]) (by kernel_rfl) (by simp) ?_
  refine ready_at rfl (fun K hK => ?_) AllReadyH.nil
  go_simp
  refine HL.out.mono ?_
  rintro e w' ⟨rfl, hw9⟩
  rw [hw9]
  clear hw9 w'
  go_wp2_with fail
  refine hK.out _ _ hH (fun _ => ?_)
  clear hK K
  try simp only [Act.put, List.setIfInBounds_toArray, List.set_cons_zero, List.set_cons_succ]
  refine wpAnyH_ready (rs := [17]) (by kernel_rfl) (by simp) ?_
  refine ready_at rfl (fun K hK => ?_) AllReadyH.nil
  go_simp
  refine HRL.out.mono ?_
  rintro e w' ⟨rfl, hw9⟩
  rw [hw9]
  clear hw9 w'
  go_wp2_with fail
  refine hK.out _ _ hH (fun _ => ?_)
  clear hK K
  try simp only [Act.put, List.setIfInBounds_toArray, List.set_cons_zero, List.set_cons_succ]
  refine take_at (i := 18) (v := ?_) rfl (by kernel_rfl) (by kernel_rfl) (by kernel_rfl) (fun _ _ _ h => h) (Or.inl ⟨by rfl, ?_⟩) hH ?_
  rotate_left
  · (intro w hSw; obtain ⟨q0, q1⟩ := hSw; go_simp; try with_reducible rfl)
  try simp only [Act.put, List.setIfInBounds_toArray, List.set_cons_zero, List.set_cons_succ]
  refine take_at (i := 19) (v := ?_) rfl (by kernel_rfl) (by kernel_rfl) (by kernel_rfl) (fun _ _ _ h => h) (Or.inl ⟨by rfl, ?_⟩) hH ?_
  rotate_left
  · (intro w hSw; obtain ⟨q0, q1⟩ := hSw; go_simp; try with_reducible rfl)
  try simp only [Act.put, List.setIfInBounds_toArray, List.set_cons_zero, List.set_cons_succ]
  refine take_at (i := 20) (v := ?_) rfl (by kernel_rfl) (by kernel_rfl) (by kernel_rfl) (fun _ _ _ h => h) (Or.inl ⟨by rfl, ?_⟩) hH ?_
  rotate_left
  · (intro w hSw; obtain ⟨q0, q1⟩ := hSw; go_simp; try with_reducible rfl)
  try simp only [Act.put, List.setIfInBounds_toArray, List.set_cons_zero, List.set_cons_succ]
  refine take_at (i := 21) (v := ?_) rfl (by kernel_rfl) (by kernel_rfl) (by kernel_rfl) (fun _ _ _ h => h) (Or.inl ⟨by rfl, ?_⟩) hH ?_
  rotate_left
  · (intro w hSw; obtain ⟨q0, q1⟩ := hSw; go_simp; try with_reducible rfl)
  try simp only [Act.put, List.setIfInBounds_toArray, List.set_cons_zero, List.set_cons_succ]
  refine take_at (i := 23) (v := ?_) rfl (by kernel_rfl) (by kernel_rfl) (by kernel_rfl) (fun _ _ _ h => h) (Or.inl ⟨by rfl, ?_⟩) hH ?_
  rotate_left
  · (intro w hSw; obtain ⟨q0, q1⟩ := hSw; go_simp; try with_reducible rfl)
  try simp only [Act.put, List.setIfInBounds_toArray, List.set_cons_zero, List.set_cons_succ]
  refine take_at (i := 24) (v := ?_) rfl (by kernel_rfl) (by kernel_rfl) (by kernel_rfl) (fun _ _ _ h => h) (Or.inl ⟨by rfl, ?_⟩) hH ?_
  rotate_left
  · (intro w hSw; obtain ⟨q0, q1⟩ := hSw; go_simp; try with_reducible rfl)
  try simp only [Act.put, List.setIfInBounds_toArray, List.set_cons_zero, List.set_cons_succ]
  refine take_at (i := 25) (v := ?_) rfl (by kernel_rfl) (by kernel_rfl) (by kernel_rfl) (fun _ _ _ h => h) (Or.inl ⟨by rfl, ?_⟩) hH ?_
  rotate_left
  · (intro w hSw; obtain ⟨q0, q1⟩ := hSw; go_simp; try with_reducible rfl)
  try simp only [Act.put, List.setIfInBounds_toArray, List.set_cons_zero, List.set_cons_succ]
  refine take_at (i := 26) (v := ?_) rfl (by kernel_rfl) (by kernel_rfl) (by kernel_rfl) (fun _ _ _ h => h) (Or.inl ⟨by rfl, ?_⟩) hH ?_
  rotate_left
  · (intro w hSw; obtain ⟨q0, q1⟩ := hSw; go_simp; try with_reducible rfl)
  try simp only [Act.put, List.setIfInBounds_toArray, List.set_cons_zero, List.set_cons_succ]
  refine take_at (i := 27) (v := ?_) rfl (by kernel_rfl) (by kernel_rfl) (by kernel_rfl) (fun _ _ _ h => h) (Or.inl ⟨by rfl, ?_⟩) hH ?_
  rotate_left
  · (intro w hSw; obtain ⟨q0, q1⟩ := hSw; go_simp; try with_reducible rfl)
  try simp only [Act.put, List.setIfInBounds_toArray, List.set_cons_zero, List.set_cons_succ]
  refine wpAnyH_ready (rs := [22]) (by kernel_rfl) (by simp) ?_
  refine ready_at rfl (fun K hK => ?_) AllReadyH.nil
  go_simp
  refine HR.out.mono ?_
  rintro e w' ⟨rfl, hw9⟩
  rw [hw9]
  clear hw9 w'
  go_wp2_with fail
  refine hK.out _ _ hH (fun _ => ?_)
  clear hK K
  try simp only [Act.put, List.setIfInBounds_toArray, List.set_cons_zero, List.set_cons_succ]
  refine take_at (i := 28) (v := ?_) rfl (by kernel_rfl) (by kernel_rfl) (by kernel_rfl) (fun _ _ _ h => h) (Or.inl ⟨by rfl, ?_⟩) hH ?_
  rotate_left
  · (intro w hSw; obtain ⟨q0, q1⟩ := hSw; go_simp; try with_reducible rfl)
  try simp only [Act.put, List.setIfInBounds_toArray, List.set_cons_zero, List.set_cons_succ]
  refine take_at (i := 29) (v := ?_) rfl (by kernel_rfl) (by kernel_rfl) (by kernel_rfl) (fun _ _ _ h => h) (Or.inl ⟨by rfl, ?_⟩) hH ?_
  rotate_left
  · (intro w hSw; obtain ⟨q0, q1⟩ := hSw; go_simp; try with_reducible rfl)
  try simp only [Act.put, List.setIfInBounds_toArray, List.set_cons_zero, List.set_cons_succ]
  refine wpAnyH_done (by kernel_rfl) ?_ _
  refine NoPanic.normal ?_
  clear hH hS0 HP HL HR HRL hz1 hz2 hz3
  go_wp2_with fail
  go_loopw [5] (fun x wr => ∃ k : Nat, k ≤ N + 2 ∧ x = .int .i64 ((k : Int) - 1) ∧ LSY w0 wr F p f P g R wx X Y ∧ ∀ j : Nat, j + 1 < k → T.read (j : Int) = R.read (j : Int)) (fun x _ => N + 3 - (intOf x + 1).toNat)
  case atStart => exact ⟨0, Nat.zero_le _, rfl, HD.out, fun j hj => by omega⟩
  case round =>
    obtain ⟨k, hk, rfl, hl, hal⟩ := hrel
    obtain ⟨i, hi⟩ : ∃ i : Int, i = (k : Int) - 1 := ⟨_, rfl⟩
    rw [← hi]
    have hi1 : -1 ≤ i := by omega
    have hi2 : i ≤ 1025 := by omega
    obtain ⟨c0, _⟩ := hl.rf.cells
    rw [← HN.out] at c0
    have HK : Hid (i = (k : Int) - 1) := Lib.hid hi
    have HAL := Lib.hid hal
    clear hal
    by_cases hle : i ≤ (N : Int)
    case neg =>
      have hdz : decide (i ≤ (N : Int)) = false := decide_eq_false hle
      have HX := Lib.hid hl
      have HYES : Hid (T.pages = R.pages ∧ T.root = R.root) := Lib.hid ⟨pages_same (HTL.out.trans rfl) fun j hj => HAL.out j (by have := HN.out; omega), HRR.out⟩
      clear hl hi hle
      go_wp2_with fail
      go_ret
      exact ⟨true, rfl, ⟨fun _ => HYES.out, fun _ => rfl⟩, HX.out⟩
    have hdz : decide (i ≤ (N : Int)) = true := decide_eq_true hle
    have hrd := pread_any hl.pg i (by omega) (by omega)
    rw [HS.out.read i] at hrd
    have HRD := Lib.hid hrd
    have HLS := Lib.hid hl
    have HLE := Lib.hid hle
    clear hl hi hrd hle
    go_wp2_with fail
    refine HRD.out.mono ?_
    rintro e w1 ⟨v, rfl, hm, hp1, ht1⟩
    have hl1 := HLS.out.read hp1 ht1
    have HR2 := Lib.hid (rread_any hl1.rf i)
    have HM := Lib.hid hm
    have HLS1 := Lib.hid hl1
    have hcv := run_str (P := Tryz.prog) hm.isB 44 9 5 Tryz.underlying44 Tryz.underlying5 Tryz.underlying9
    obtain ⟨a, c, rfl, _, _⟩ := hm.isB.form
    clear hm hp1 ht1 hl1
    by_cases hq : T.read i = R.read i
    case pos =>
      have HQ := Lib.hid hq
      rw [hq] at hcv ⊢
      clear hq
      generalize R.read i = Q at HR2 hcv ⊢
      have hq2 : (Q.2 != Q.2) = false := by simp
      go_wp2_with fail
      refine HR2.out.mono ?_
      rintro e w2 ⟨rfl, hw2⟩
      rw [hw2]
      clear hw2 w2
      go_wp2_with fail
      go_roundw
      case rel => exact ⟨k + 1, by have := HK.out; have := HLE.out; omega, by have := HK.out; congr 1; omega, HLS1.out, fun j hj => by
        by_cases hjk : j + 1 < k
        · exact HAL.out j hjk
        · have := HK.out
          obtain rfl : (j : Int) = i := by omega
          exact HQ.out⟩
      case measure => have := HK.out; have := HLE.out; simp [intOf]; omega
    have HNO : Hid (false = true ↔ T.pages = R.pages ∧ T.root = R.root) := Lib.hid ⟨fun e => (by cases e), fun e => absurd (read_pages e.1 i) hq⟩
    obtain ⟨A, hA⟩ : ∃ A, A = T.read i := ⟨_, rfl⟩
    rw [← hA] at hq hcv ⊢
    clear hA
    generalize R.read i = Q at *
    by_cases hs1 : A.1 = Q.1
    · have hq2 : (A.2 != Q.2) = true := by
        rw [bne_iff_ne]
        exact fun e => hq (Prod.ext hs1 e)
      rw [hs1] at hcv ⊢
      clear hq hs1
      go_wp2_with fail
      refine HR2.out.mono ?_
      rintro e w2 ⟨rfl, hw2⟩
      rw [hw2]
      clear hw2 w2
      go_wp2_with fail
      go_ret
      exact ⟨false, rfl, HNO.out, HLS1.out⟩
    · have hq2 : ((⟨A.1.toArray⟩ : ByteArray) != ⟨Q.1.toArray⟩) = true := by
        have h : ((⟨A.1.toArray⟩ : ByteArray) == ⟨Q.1.toArray⟩) = false := by
          rw [Bool.eq_false_iff]
          intro e
          have e2 := (Go.MapKept.bytes_beq _ _).1 e
          simp only [ByteArray.mk.injEq] at e2
          exact hs1 (by simpa using congrArg Array.toList e2)
        simp [bne, h]
      clear hq
      go_wp2_with fail
      refine HR2.out.mono ?_
      rintro e w2 ⟨rfl, hw2⟩
      rw [hw2]
      clear hw2 w2
      go_wp2_with fail
      go_ret
      exact ⟨false, rfl, HNO.out, HLS1.out⟩
end Go.Proofs.YtbmmcaoifkboiaaGreatDoor

/- does without Commit: both pagers beside other blocks; the power may be about to go. -/
set_option linter.unusedVariables false
set_option linter.unusedSimpArgs false
set_option maxRecDepth 100000
namespace Go.Proofs.YtbmmcaoifkboiaaGreatDoor
open Go.RowKit

section
variable {w0 w : World} {F : Ft} {p : Nat} {f : Pf} {P : Pg} {g : Rf} {R : Rp} {n m : Nat} {wx : World} {XB YB : Nat → Prop}
/-- what does leaves, the power perhaps about to go -/
def Do8C (w0 : World) (F : Ft) (p : Nat) (f : Pf) (g : Rf) (wx : World) (XB YB : Nat → Prop) (n m : Nat) (e : Ending) (w' : World) : Prop := e = .returned (.bool true) ∧ ∃ f' g' P' R', f'.q = f.q ∧ g'.q = g.q ∧ LSY w0 w' F p f' P' g' R' wx XB YB ∧ StC n (m + 1) P' R'
set_option maxHeartbeats 16000000 in
theorem does8c_0 (h : LSY w0 w F p f P g R wx XB YB) (hs : StC n m P R) (hm : m ≤ 2000) (hn : 32 ≤ n) (hn2 : n ≤ 331) (kind page : Int) (y : UInt8) (hk1 : -9223372036854775808 ≤ kind) (hk2 : kind ≤ 9223372036854775807) (hp1 : -9223372036854775808 ≤ page) (hp2 : page ≤ 9223372036854775807) (hK : pickN kind 10 = 0) :
    Calls Tryz.prog 14 #[qptr f.q, qptr g.q, .agg #[.int .i64 kind, .int .i64 page, .int .u8 (y.toNat : Int)]] w (Do8C w0 F p f g wx XB YB n m) := by
  obtain ⟨w1, hw1⟩ : ∃ x, x = w.alloc (opRow8 kind page y) := ⟨_, rfl⟩
  have ho1 : w1.heap[w.heap.size]? = some (opRow8 kind page y) := by rw [hw1]; exact heap_alloc_new w _
  have hb1 : Below w.heap.size w w1 := by rw [hw1]; exact (Below.refl _ _).alloc (Nat.le_refl _) _
  obtain ⟨c0, c1, c2⟩ := op_cells8 ho1
  rw [hw1] at c0 c1 c2
  have h1 := h.step hb1
  have HIN : Hid (∀ k, PJ F p f k ∨ RT8 g k → k ≠ w.heap.size) := Lib.hid fun k hk e => by have := h.lt hk; omega
  have HPK := Lib.hid (pick_any w1 kind 10 hk1 hk2 (by omega) (by omega))
  rw [hK] at HPK
  have HW1 := Lib.hid hw1
  have HS := Lib.hid hs
  have HO1 := Lib.hid ho1
  clear h hs hb1 hw1 hK ho1
  obtain ⟨pg, hpp⟩ : ∃ pg : Int, (pg = 0 ∧ (page == 77) = true) ∨ (page = pg ∧ (page == 77) = false) := by
    by_cases e : page = 77
    · exact ⟨0, .inl ⟨rfl, by simpa using e⟩⟩
    · exact ⟨page, .inr ⟨rfl, by simpa using e⟩⟩
  have hg1 : -9223372036854775808 ≤ pg := by omega
  have hg2 : pg ≤ 9223372036854775807 := by omega
  have HLS := Lib.hid h1
  clear h1
  have HA := Lib.hid (alloc_any HLS.out.pg)
  have HEQ : Hid (P.alloc.1 = R.alloc.1) := Lib.hid (by obtain ⟨s, B, a, _⟩ := HS.out.sim; exact a.alloc.1)
  have HST := Lib.hid (HS.out.of (P' := P.alloc.2) (R' := R.alloc.2) (by unfold Pg.alloc; split <;> first | rfl | (split <;> rfl)) fun s B a => a.alloc.2)
  rw [HEQ.out] at HA
  clear HEQ
  rcases hpp with ⟨rfl, hd⟩ | ⟨rfl, hd⟩
  all_goals
    go_enter Tryz.func14, Tryz.ntmps14
    go_wp2_with fail
    rw [← HW1.out]
    refine HPK.out.mono ?_
    rintro e w' ⟨rfl, hw9⟩
    rw [← hw9]
    clear hw9 w'
    clear c0 c1 c2
    go_wp2_with fail
    refine HA.out.mono ?_
    rintro e w2 ⟨rfl, ht2⟩
    obtain ⟨f2, h2, hq2⟩ := HLS.out.stepP ht2
    have HB := Lib.hid (ralloc_any h2.rf)
    have H2 := Lib.hid h2
    clear h2 ht2
    generalize R.alloc = X at *
    have hx1 : (X.1.1 == X.1.1) = true := by simp
    have hx2 : (X.1.2 == X.1.2) = true := by simp
    go_wp2_with fail
    refine HB.out.mono ?_
    rintro e w3 ⟨rfl, ht3⟩
    obtain ⟨g3, h3, hq3⟩ := H2.out.stepR ht3
    have H3 := Lib.hid h3
    clear h3 ht3
    go_wp2_with fail
    go_ret
    exact ⟨rfl, f2, g3, _, _, hq2, hq3, H3.out, HST.out⟩
set_option maxHeartbeats 16000000 in
theorem does8c_1 (h : LSY w0 w F p f P g R wx XB YB) (hs : StC n m P R) (hm : m ≤ 2000) (hn : 32 ≤ n) (hn2 : n ≤ 331) (kind page : Int) (y : UInt8) (hk1 : -9223372036854775808 ≤ kind) (hk2 : kind ≤ 9223372036854775807) (hp1 : -9223372036854775808 ≤ page) (hp2 : page ≤ 9223372036854775807) (hK : pickN kind 10 = 1) :
    Calls Tryz.prog 14 #[qptr f.q, qptr g.q, .agg #[.int .i64 kind, .int .i64 page, .int .u8 (y.toNat : Int)]] w (Do8C w0 F p f g wx XB YB n m) := by
  obtain ⟨w1, hw1⟩ : ∃ x, x = w.alloc (opRow8 kind page y) := ⟨_, rfl⟩
  have ho1 : w1.heap[w.heap.size]? = some (opRow8 kind page y) := by rw [hw1]; exact heap_alloc_new w _
  have hb1 : Below w.heap.size w w1 := by rw [hw1]; exact (Below.refl _ _).alloc (Nat.le_refl _) _
  obtain ⟨c0, c1, c2⟩ := op_cells8 ho1
  rw [hw1] at c0 c1 c2
  have h1 := h.step hb1
  have HIN : Hid (∀ k, PJ F p f k ∨ RT8 g k → k ≠ w.heap.size) := Lib.hid fun k hk e => by have := h.lt hk; omega
  have HPK := Lib.hid (pick_any w1 kind 10 hk1 hk2 (by omega) (by omega))
  rw [hK] at HPK
  have HW1 := Lib.hid hw1
  have HS := Lib.hid hs
  have HO1 := Lib.hid ho1
  clear h hs hb1 hw1 hK ho1
  obtain ⟨pg, hpp⟩ : ∃ pg : Int, (pg = 0 ∧ (page == 77) = true) ∨ (page = pg ∧ (page == 77) = false) := by
    by_cases e : page = 77
    · exact ⟨0, .inl ⟨rfl, by simpa using e⟩⟩
    · exact ⟨page, .inr ⟨rfl, by simpa using e⟩⟩
  have hg1 : -9223372036854775808 ≤ pg := by omega
  have hg2 : pg ≤ 9223372036854775807 := by omega
  have HLS := Lib.hid h1
  clear h1
  have HA := Lib.hid (alloc_any HLS.out.pg)
  have HEQ : Hid (P.alloc.1 = R.alloc.1) := Lib.hid (by obtain ⟨s, B, a, _⟩ := HS.out.sim; exact a.alloc.1)
  have HST := Lib.hid (HS.out.of (P' := P.alloc.2) (R' := R.alloc.2) (by unfold Pg.alloc; split <;> first | rfl | (split <;> rfl)) fun s B a => a.alloc.2)
  rw [HEQ.out] at HA
  clear HEQ
  rcases hpp with ⟨rfl, hd⟩ | ⟨rfl, hd⟩
  all_goals
    go_enter Tryz.func14, Tryz.ntmps14
    go_wp2_with fail
    rw [← HW1.out]
    refine HPK.out.mono ?_
    rintro e w' ⟨rfl, hw9⟩
    rw [← hw9]
    clear hw9 w'
    clear c0 c1 c2
    go_wp2_with fail
    refine HA.out.mono ?_
    rintro e w2 ⟨rfl, ht2⟩
    obtain ⟨f2, h2, hq2⟩ := HLS.out.stepP ht2
    have HB := Lib.hid (ralloc_any h2.rf)
    have H2 := Lib.hid h2
    clear h2 ht2
    generalize R.alloc = X at *
    have hx1 : (X.1.1 == X.1.1) = true := by simp
    have hx2 : (X.1.2 == X.1.2) = true := by simp
    go_wp2_with fail
    refine HB.out.mono ?_
    rintro e w3 ⟨rfl, ht3⟩
    obtain ⟨g3, h3, hq3⟩ := H2.out.stepR ht3
    have H3 := Lib.hid h3
    clear h3 ht3
    go_wp2_with fail
    go_ret
    exact ⟨rfl, f2, g3, _, _, hq2, hq3, H3.out, HST.out⟩
set_option maxHeartbeats 16000000 in
theorem does8c_2 (h : LSY w0 w F p f P g R wx XB YB) (hs : StC n m P R) (hm : m ≤ 2000) (hn : 32 ≤ n) (hn2 : n ≤ 331) (kind page : Int) (y : UInt8) (hk1 : -9223372036854775808 ≤ kind) (hk2 : kind ≤ 9223372036854775807) (hp1 : -9223372036854775808 ≤ page) (hp2 : page ≤ 9223372036854775807) (hK : pickN kind 10 = 2) :
    Calls Tryz.prog 14 #[qptr f.q, qptr g.q, .agg #[.int .i64 kind, .int .i64 page, .int .u8 (y.toNat : Int)]] w (Do8C w0 F p f g wx XB YB n m) := by
  obtain ⟨w1, hw1⟩ : ∃ x, x = w.alloc (opRow8 kind page y) := ⟨_, rfl⟩
  have ho1 : w1.heap[w.heap.size]? = some (opRow8 kind page y) := by rw [hw1]; exact heap_alloc_new w _
  have hb1 : Below w.heap.size w w1 := by rw [hw1]; exact (Below.refl _ _).alloc (Nat.le_refl _) _
  obtain ⟨c0, c1, c2⟩ := op_cells8 ho1
  rw [hw1] at c0 c1 c2
  have h1 := h.step hb1
  have HIN : Hid (∀ k, PJ F p f k ∨ RT8 g k → k ≠ w.heap.size) := Lib.hid fun k hk e => by have := h.lt hk; omega
  have HPK := Lib.hid (pick_any w1 kind 10 hk1 hk2 (by omega) (by omega))
  rw [hK] at HPK
  have HW1 := Lib.hid hw1
  have HS := Lib.hid hs
  have HO1 := Lib.hid ho1
  clear h hs hb1 hw1 hK ho1
  obtain ⟨pg, hpp⟩ : ∃ pg : Int, (pg = 0 ∧ (page == 77) = true) ∨ (page = pg ∧ (page == 77) = false) := by
    by_cases e : page = 77
    · exact ⟨0, .inl ⟨rfl, by simpa using e⟩⟩
    · exact ⟨page, .inr ⟨rfl, by simpa using e⟩⟩
  have hg1 : -9223372036854775808 ≤ pg := by omega
  have hg2 : pg ≤ 9223372036854775807 := by omega
  have HLS := Lib.hid h1
  clear h1
  have HA := Lib.hid (free_any HLS.out.pg pg hg1 hg2)
  have HBF : Hid (∀ w2 f2 P2, LSY w0 w2 F p f2 P2 g R wx XB YB → Calls Tryz.prog 43 #[qptr g.q, .int .i64 pg] w2 fun e w' => e = .returned (.int .i64 (R.free pg).1) ∧ RfTo w2 g w' (R.free pg).2) := Lib.hid fun _ _ _ h2 => rfree_any h2.rf pg
  have HEQ : Hid ((P.free pg).1 = (R.free pg).1) := Lib.hid (by obtain ⟨s, B, a, _⟩ := HS.out.sim; exact (a.freed pg).1)
  have HST := Lib.hid (HS.out.of (P' := (P.free pg).2) (R' := (R.free pg).2) (by unfold Pg.free; split <;> first | rfl | (split <;> rfl)) fun s B a => (a.freed pg).2)
  rw [HEQ.out] at HA
  clear HEQ
  generalize R.free pg = X at *
  have hx1 : (X.1 == X.1) = true := by simp
  rcases hpp with ⟨rfl, hd⟩ | ⟨rfl, hd⟩
  all_goals
    go_enter Tryz.func14, Tryz.ntmps14
    go_wp2_with fail
    rw [← HW1.out]
    refine HPK.out.mono ?_
    rintro e w' ⟨rfl, hw9⟩
    rw [← hw9]
    clear hw9 w'
    clear c0 c1 c2
    go_wp2_with fail
    refine HA.out.mono ?_
    rintro e w2 ⟨rfl, ht2⟩
    obtain ⟨f2, h2, hq2⟩ := HLS.out.stepP ht2
    have HB := Lib.hid (HBF.out _ _ _ h2)
    have H2 := Lib.hid h2
    clear h2 ht2
    go_wp2_with fail
    refine HB.out.mono ?_
    rintro e w3 ⟨rfl, ht3⟩
    obtain ⟨g3, h3, hq3⟩ := H2.out.stepR ht3
    have H3 := Lib.hid h3
    clear h3 ht3
    go_wp2_with fail
    go_ret
    exact ⟨rfl, f2, g3, _, _, hq2, hq3, H3.out, HST.out⟩
set_option maxHeartbeats 16000000 in
theorem does8c_3 (h : LSY w0 w F p f P g R wx XB YB) (hs : StC n m P R) (hm : m ≤ 2000) (hn : 32 ≤ n) (hn2 : n ≤ 331) (kind page : Int) (y : UInt8) (hk1 : -9223372036854775808 ≤ kind) (hk2 : kind ≤ 9223372036854775807) (hp1 : -9223372036854775808 ≤ page) (hp2 : page ≤ 9223372036854775807) (hK : pickN kind 10 = 3) :
    Calls Tryz.prog 14 #[qptr f.q, qptr g.q, .agg #[.int .i64 kind, .int .i64 page, .int .u8 (y.toNat : Int)]] w (Do8C w0 F p f g wx XB YB n m) := by
  obtain ⟨w1, hw1⟩ : ∃ x, x = w.alloc (opRow8 kind page y) := ⟨_, rfl⟩
  have ho1 : w1.heap[w.heap.size]? = some (opRow8 kind page y) := by rw [hw1]; exact heap_alloc_new w _
  have hb1 : Below w.heap.size w w1 := by rw [hw1]; exact (Below.refl _ _).alloc (Nat.le_refl _) _
  obtain ⟨c0, c1, c2⟩ := op_cells8 ho1
  rw [hw1] at c0 c1 c2
  have h1 := h.step hb1
  have HIN : Hid (∀ k, PJ F p f k ∨ RT8 g k → k ≠ w.heap.size) := Lib.hid fun k hk e => by have := h.lt hk; omega
  have HPK := Lib.hid (pick_any w1 kind 10 hk1 hk2 (by omega) (by omega))
  rw [hK] at HPK
  have HW1 := Lib.hid hw1
  have HS := Lib.hid hs
  have HO1 := Lib.hid ho1
  clear h hs hb1 hw1 hK ho1
  obtain ⟨pg, hpp⟩ : ∃ pg : Int, (pg = 0 ∧ (page == 77) = true) ∨ (page = pg ∧ (page == 77) = false) := by
    by_cases e : page = 77
    · exact ⟨0, .inl ⟨rfl, by simpa using e⟩⟩
    · exact ⟨page, .inr ⟨rfl, by simpa using e⟩⟩
  have hg1 : -9223372036854775808 ≤ pg := by omega
  have hg2 : pg ≤ 9223372036854775807 := by omega
  have HLS := Lib.hid h1
  clear h1
  have HA := pread_any HLS.out.pg pg hg1 hg2
  obtain ⟨s0, B0, hsim, hs1, hs2⟩ := HS.out.sim
  rw [hsim.read pg] at HA
  have HAA := Lib.hid HA
  have HST := Lib.hid (HS.out.of (P' := P) (R' := R) rfl fun s B a => a)
  have hql := Rp.read_len (fun k b hb => (hsim.pagen k b hb).1) pg
  clear HA hsim hs1 hs2
  have HRF : Hid (∀ w2, LSY w0 w2 F p f P g R wx XB YB → Calls Tryz.prog 44 #[qptr g.q, .int .i64 pg] w2 fun e w' => e = .returned (.tuple #[.string ⟨(R.read pg).1.toArray⟩, .int .i64 (R.read pg).2]) ∧ w' = w2) := Lib.hid fun _ h2 => rread_any h2.rf pg
  generalize R.read pg = Q at *
  rcases hpp with ⟨rfl, hd⟩ | ⟨rfl, hd⟩
  all_goals
    go_enter Tryz.func14, Tryz.ntmps14
    go_wp2_with fail
    rw [← HW1.out]
    refine HPK.out.mono ?_
    rintro e w' ⟨rfl, hw9⟩
    rw [← hw9]
    clear hw9 w'
    clear c0 c1 c2
    go_wp2_with fail
    refine HAA.out.mono ?_
    rintro e w2 ⟨v, rfl, hmv, hp2, ht2⟩
    have h2 := HLS.out.read hp2 ht2
    have HRR := Lib.hid (HRF.out _ h2)
    have hcv := run_str (P := Tryz.prog) hmv.isB 44 9 5 Tryz.underlying44 Tryz.underlying5 Tryz.underlying9
    obtain ⟨a, c, rfl, _, _⟩ := hmv.isB.form
    obtain ⟨N, hN⟩ : ∃ N, N = Q.1.length := ⟨_, rfl⟩
    have HM := Lib.hid hmv
    rw [← hN] at HM hcv ⊢
    have H2 := Lib.hid h2
    have HLN : Hid (Q.1.length = N) := Lib.hid hN.symm
    have hbz : HLS.out.below.size = HLS.out.below.size := rfl
    obtain ⟨BB, hBB⟩ : ∃ BB, BB = w1.heap.size := ⟨_, rfl⟩
    rw [← hBB] at HM
    have HBB : Hid (w0.heap.size ≤ BB ∧ ∀ ga, a = some ⟨ga, 0, none⟩ → ∀ j, PJ F p f j ∨ RT8 g j → j ≠ ga) := Lib.hid ⟨by rw [hBB]; exact HLS.out.below.size, fun ga e j hj => by
      have h1 := HLS.out.lt hj
      have h2 := HM.out.lt ga (by rw [e]; rfl)
      omega⟩
    have HBX : Hid (∀ ga, a = some ⟨ga, 0, none⟩ → ∀ j, XB j → j ≠ ga) := Lib.hid fun ga e j hj => by
      have h1 := (HLS.out.out j hj).1
      have h2 := HM.out.lt ga (by rw [e]; rfl)
      omega
    have hx2 : (Q.2 == Q.2) = true := by simp
    have hNl : N ≤ 896 := by rw [hN]; exact hql
    clear hmv hp2 ht2 h2 hN hbz hBB hql
    go_wp2_with fail
    refine HRR.out.mono ?_
    rintro e w3 ⟨rfl, hw3⟩
    rw [hw3]
    clear hw3 w3
    go_wp2_with fail
    go_loopw [17] (fun x wr => ∃ k : Nat, k ≤ N ∧ x = .int .i64 (k : Int) ∧ (∃ L : List UInt8, L.length = N ∧ Mine 5 BB wr (.slice a N c) L) ∧ LSY w0 wr F p f P g R wx XB YB) (fun x _ => N - (intOf x).toNat)
    case atStart => exact ⟨0, Nat.zero_le _, rfl, ⟨_, HLN.out, HM.out⟩, H2.out⟩
    case round =>
      obtain ⟨k, hk, rfl, ⟨L, hL, hml⟩, hls⟩ := hrel
      by_cases hlt : k < N
      · have hdk : decide ((k : Int) < (N : Int)) = true := decide_eq_true (by omega)
        obtain ⟨ga, rfl⟩ : ∃ ga, a = some ⟨ga, 0, none⟩ := by
          obtain ⟨ga, cc, e, _⟩ := hml.slice (by omega)
          simp only [Value.slice.injEq] at e
          exact ⟨ga, e.1⟩
        have hgl := hml.lt ga rfl
        obtain ⟨k1, k2, k3⟩ := hml.poke k (by omega) (L[k]'(by omega) + 1)
        have hinc := u8_inc (L[k]'(by omega))
        have ht := turned_one wr ga k (.int .u8 (((L[k]'(by omega) + 1).toNat : Nat) : Int))
        have hls2 := hls.other ht (fun j hj => by have := HBB.out.1; omega) (fun j hj => ⟨fun e => HBB.out.2 ga rfl j (.inl e) hj, fun e => HBB.out.2 ga rfl j (.inr e) hj⟩) (fun j e hj => HBX.out ga rfl j e hj)
        have HF := Lib.hid (And.intro k3 (And.intro hls2 (show (L.set k (L[k]'(by omega) + 1)).length = N by rw [List.length_set]; exact hL)))
        generalize L[k]'(by omega) + 1 = z at *
        generalize L[k]'(by omega) = z0 at *
        clear hml hls k3 hls2 ht
        go_wp2_with fail
        go_roundw
        case rel => exact ⟨k + 1, hlt, by go_num, ⟨_, HF.out.2.2, HF.out.1⟩, HF.out.2.1⟩
        case measure => simp [intOf]; omega
      · obtain rfl : k = N := by omega
        have hdz : decide ((k : Int) < (k : Int)) = false := by simp
        have HF := Lib.hid hls
        clear hml hls
        go_wp2_with fail
        go_ret
        exact ⟨rfl, f, g, P, R, rfl, rfl, HF.out, HST.out⟩
set_option maxHeartbeats 16000000 in
theorem does8c_4 (h : LSY w0 w F p f P g R wx XB YB) (hs : StC n m P R) (hm : m ≤ 2000) (hn : 32 ≤ n) (hn2 : n ≤ 331) (kind page : Int) (y : UInt8) (hk1 : -9223372036854775808 ≤ kind) (hk2 : kind ≤ 9223372036854775807) (hp1 : -9223372036854775808 ≤ page) (hp2 : page ≤ 9223372036854775807) (hK : pickN kind 10 = 4) :
    Calls Tryz.prog 14 #[qptr f.q, qptr g.q, .agg #[.int .i64 kind, .int .i64 page, .int .u8 (y.toNat : Int)]] w (Do8C w0 F p f g wx XB YB n m) := by
  obtain ⟨w1, hw1⟩ : ∃ x, x = w.alloc (opRow8 kind page y) := ⟨_, rfl⟩
  have ho1 : w1.heap[w.heap.size]? = some (opRow8 kind page y) := by rw [hw1]; exact heap_alloc_new w _
  have hb1 : Below w.heap.size w w1 := by rw [hw1]; exact (Below.refl _ _).alloc (Nat.le_refl _) _
  obtain ⟨c0, c1, c2⟩ := op_cells8 ho1
  rw [hw1] at c0 c1 c2
  have h1 := h.step hb1
  have HIN : Hid (∀ k, PJ F p f k ∨ RT8 g k → k ≠ w.heap.size) := Lib.hid fun k hk e => by have := h.lt hk; omega
  have HPK := Lib.hid (pick_any w1 kind 10 hk1 hk2 (by omega) (by omega))
  rw [hK] at HPK
  have HW1 := Lib.hid hw1
  have HS := Lib.hid hs
  have HO1 := Lib.hid ho1
  clear h hs hb1 hw1 hK ho1
  obtain ⟨pg, hpp⟩ : ∃ pg : Int, (pg = 0 ∧ (page == 77) = true) ∨ (page = pg ∧ (page == 77) = false) := by
    by_cases e : page = 77
    · exact ⟨0, .inl ⟨rfl, by simpa using e⟩⟩
    · exact ⟨page, .inr ⟨rfl, by simpa using e⟩⟩
  have hg1 : -9223372036854775808 ≤ pg := by omega
  have hg2 : pg ≤ 9223372036854775807 := by omega
  have HLS := Lib.hid h1
  clear h1
  have HOF := Lib.hid (fun W => of8_any W kind page y)
  have HWP : Hid (∀ w2 v, LSY w0 w2 F p f P g R wx XB YB → IsB w2 v (ofB page y) → Calls Tryz.prog 46 #[qptr f.q, .int .i64 pg, v] w2 fun e w' => e = .returned (.int .i64 (R.write pg (ofB page y)).1) ∧ PgTo w2 F p f w' (P.write pg (ofB page y)).2) := Lib.hid fun w2 v h2 hv => by
    have hA := pwrite_any h2.pg pg hg1 hg2 v _ hv
    have e : (P.write pg (ofB page y)).1 = (R.write pg (ofB page y)).1 := by obtain ⟨s, B, a, _⟩ := HS.out.sim; exact (a.write pg _).1
    rw [e] at hA
    exact hA
  have HWR : Hid (∀ w2 f2 P2 v, LSY w0 w2 F p f2 P2 g R wx XB YB → IsB w2 v (ofB page y) → Calls Tryz.prog 47 #[qptr g.q, .int .i64 pg, v] w2 fun e w' => e = .returned (.int .i64 (R.write pg (ofB page y)).1) ∧ RfTo w2 g w' (R.write pg (ofB page y)).2) := Lib.hid fun w2 f2 P2 v h2 hv => rwrite8_any h2.rf pg v _ hv
  have HST := Lib.hid (HS.out.of (P' := (P.write pg (ofB page y)).2) (R' := (R.write pg (ofB page y)).2) (by unfold Pg.write; split <;> first | rfl | (split <;> rfl)) fun s B a => (a.write pg _).2)
  have hbn := ofN_le page y
  have hlw := lt_of_heap HO1.out
  generalize R.write pg (ofB page y) = X at *
  generalize (P.write pg (ofB page y)).2 = P3 at *
  have hx1 : (X.1 == X.1) = true := by simp
  rcases hpp with ⟨rfl, hd⟩ | ⟨rfl, hd⟩
  all_goals
    go_enter Tryz.func14, Tryz.ntmps14
    go_wp2_with fail
    rw [← HW1.out]
    refine HPK.out.mono ?_
    rintro e w' ⟨rfl, hw9⟩
    rw [← hw9]
    clear hw9 w'
    clear c0 c1 c2
    obtain ⟨c0, c1, c2⟩ := op_cells8 HO1.out
    go_wp2_with fail
    refine (HOF.out w1).mono ?_
    rintro e w2 ⟨v, rfl, hmv, hb2⟩
    have h2 := HLS.out.step hb2
    have HWC := Lib.hid (HWP.out w2 v h2 hmv.isB)
    obtain ⟨a, c, rfl, _, _⟩ := hmv.isB.form
    have hN0 := ofB_length page y
    obtain ⟨N, hN⟩ : ∃ N, N = (ofB page y).length := ⟨_, rfl⟩
    rw [← hN] at HWC hmv hN0 ⊢
    have hNl : N ≤ 896 := by omega
    have HLN : Hid ((ofB page y).length = N) := Lib.hid hN.symm
    have HMV := Lib.hid hmv
    have HH2 := Lib.hid h2
    have HB2 := Lib.hid hb2
    clear hmv h2 hb2 hN hN0 c0 c1 c2
    go_wp2_with fail
    refine HWC.out.mono ?_
    rintro e w3 ⟨rfl, ht3⟩
    obtain ⟨f3, hpa, hq3, hpc, hpd⟩ := ht3
    have h3 := HH2.out.stepT hpa hpc hpd
    obtain ⟨BB, hBB⟩ : ∃ BB, BB = w1.heap.size := ⟨_, rfl⟩
    have hm3 : Mine 5 w1.heap.size w3 (.slice a N c) (ofB page y) := by
      have hnp : ∀ k, PJ F p f k → ¬ w1.heap.size ≤ k := fun k e hle => by have := HLS.out.lt (.inl e); omega
      exact HMV.out.keep fun k k1 k2 => hpd.block k k2 fun e => hnp k e k1
    have ho3 : w3.heap[w.heap.size]? = some (opRow8 kind page y) := by
      have e2 := (HB2.out.block _ hlw).trans HO1.out
      refine (hpd.block _ (lt_of_heap e2) fun e => ?_).trans e2
      have h0 := HH2.out.own _ (.inl e)
      have := HLS.out.lt (.inl e)
      have := HIN.out _ (.inl e)
      exact this rfl
    have HBB : Hid (w0.heap.size ≤ BB ∧ ∀ ga, a = some ⟨ga, 0, none⟩ → ∀ j, PJ F p f3 j ∨ RT8 g j → j ≠ ga) := Lib.hid ⟨by rw [hBB]; exact HLS.out.below.size, fun ga e j hj => by
      have h2 := HMV.out.lt ga (by rw [e]; rfl)
      rcases hj with (hj | hj) | hj
      · have := HLS.out.lt (.inl (.inl hj)); omega
      · rcases hpc j hj with h4 | h4
        · have := HLS.out.lt (.inl (.inr h4)); omega
        · omega
      · have := HLS.out.lt (.inr hj); omega⟩
    have HBX : Hid (∀ ga, a = some ⟨ga, 0, none⟩ → ∀ j, XB j → j ≠ ga) := Lib.hid fun ga e j hj => by
      have h1 := (HLS.out.out j hj).1
      have h2 := HMV.out.lt ga (by rw [e]; rfl)
      omega
    have hwB : w.heap.size < BB := by omega
    rw [← hBB] at hm3
    have HM := Lib.hid hm3
    have H2 := Lib.hid h3
    have HO3 := Lib.hid ho3
    clear hm3 h3 ho3 hBB hpa hpc hpd
    go_wp2_with fail
    go_loopw [20] (fun x wr => ∃ k : Nat, k ≤ N ∧ x = .int .i64 (k : Int) ∧ (∃ L : List UInt8, L.length = N ∧ Mine 5 BB wr (.slice a N c) L) ∧ LSY w0 wr F p f3 P3 g R wx XB YB ∧ wr.heap[w.heap.size]? = some (opRow8 kind page y)) (fun x _ => N - (intOf x).toNat)
    case atStart => exact ⟨0, Nat.zero_le _, rfl, ⟨_, HLN.out, HM.out⟩, H2.out, HO3.out⟩
    case round =>
      obtain ⟨k, hk, rfl, ⟨L, hL, hml⟩, hls, ho⟩ := hrel
      by_cases hlt : k < N
      · have hdk : decide ((k : Int) < (N : Int)) = true := decide_eq_true (by omega)
        obtain ⟨ga, rfl⟩ : ∃ ga, a = some ⟨ga, 0, none⟩ := by
          obtain ⟨ga, cc, e, _⟩ := hml.slice (by omega)
          simp only [Value.slice.injEq] at e
          exact ⟨ga, e.1⟩
        have hgl := hml.lt ga rfl
        obtain ⟨k1, k2, k3⟩ := hml.poke k (by omega) (L[k]'(by omega) + 1)
        have hinc := u8_inc (L[k]'(by omega))
        have ht := turned_one wr ga k (.int .u8 (((L[k]'(by omega) + 1).toNat : Nat) : Int))
        have hls2 := hls.other ht (fun j hj => by have := HBB.out.1; omega) (fun j hj => ⟨fun e => HBB.out.2 ga rfl j (.inl e) hj, fun e => HBB.out.2 ga rfl j (.inr e) hj⟩) (fun j e hj => HBX.out ga rfl j e hj)
        have HF := Lib.hid (And.intro k3 (And.intro hls2 (show (L.set k (L[k]'(by omega) + 1)).length = N by rw [List.length_set]; exact hL)))
        have HOK := Lib.hid ((ht.block _ (lt_of_heap ho) (by omega)).trans ho)
        clear ho
        generalize L[k]'(by omega) + 1 = z at *
        generalize L[k]'(by omega) = z0 at *
        clear hml hls k3 hls2 ht
        go_wp2_with fail
        go_roundw
        case rel => exact ⟨k + 1, hlt, by go_num, ⟨_, HF.out.2.2, HF.out.1⟩, HF.out.2.1, HOK.out⟩
        case measure => simp [intOf]; omega
      · obtain rfl : k = N := by omega
        have hdz : decide ((k : Int) < (k : Int)) = false := by simp
        have HF := Lib.hid hls
        clear hml hls
        obtain ⟨c0, c1, c2⟩ := op_cells8 ho
        clear ho
        go_wp2_with fail
        refine (HOF.out wr).mono ?_
        rintro e w6 ⟨v6, rfl, hm6, hb6⟩
        have h6 := HF.out.step hb6
        have HWD := Lib.hid (HWR.out w6 f3 P3 v6 h6 hm6.isB)
        have H6 := Lib.hid h6
        clear h6 hm6 hb6
        go_wp2_with fail
        refine HWD.out.mono ?_
        rintro e w7 ⟨rfl, ht7⟩
        obtain ⟨g7, h7, hq7⟩ := H6.out.stepR ht7
        have H7 := Lib.hid h7
        clear h7 ht7
        go_wp2_with fail
        go_ret
        exact ⟨rfl, f3, g7, _, _, hq3, hq7, H7.out, HST.out⟩
set_option maxHeartbeats 16000000 in
theorem does8c_5 (h : LSY w0 w F p f P g R wx XB YB) (hs : StC n m P R) (hm : m ≤ 2000) (hn : 32 ≤ n) (hn2 : n ≤ 331) (kind page : Int) (y : UInt8) (hk1 : -9223372036854775808 ≤ kind) (hk2 : kind ≤ 9223372036854775807) (hp1 : -9223372036854775808 ≤ page) (hp2 : page ≤ 9223372036854775807) (hK : pickN kind 10 = 5) :
    Calls Tryz.prog 14 #[qptr f.q, qptr g.q, .agg #[.int .i64 kind, .int .i64 page, .int .u8 (y.toNat : Int)]] w (Do8C w0 F p f g wx XB YB n m) := by
  obtain ⟨w1, hw1⟩ : ∃ x, x = w.alloc (opRow8 kind page y) := ⟨_, rfl⟩
  have ho1 : w1.heap[w.heap.size]? = some (opRow8 kind page y) := by rw [hw1]; exact heap_alloc_new w _
  have hb1 : Below w.heap.size w w1 := by rw [hw1]; exact (Below.refl _ _).alloc (Nat.le_refl _) _
  obtain ⟨c0, c1, c2⟩ := op_cells8 ho1
  rw [hw1] at c0 c1 c2
  have h1 := h.step hb1
  have HIN : Hid (∀ k, PJ F p f k ∨ RT8 g k → k ≠ w.heap.size) := Lib.hid fun k hk e => by have := h.lt hk; omega
  have HPK := Lib.hid (pick_any w1 kind 10 hk1 hk2 (by omega) (by omega))
  rw [hK] at HPK
  have HW1 := Lib.hid hw1
  have HS := Lib.hid hs
  have HO1 := Lib.hid ho1
  clear h hs hb1 hw1 hK ho1
  obtain ⟨pg, hpp⟩ : ∃ pg : Int, (pg = 0 ∧ (page == 77) = true) ∨ (page = pg ∧ (page == 77) = false) := by
    by_cases e : page = 77
    · exact ⟨0, .inl ⟨rfl, by simpa using e⟩⟩
    · exact ⟨page, .inr ⟨rfl, by simpa using e⟩⟩
  have hg1 : -9223372036854775808 ≤ pg := by omega
  have hg2 : pg ≤ 9223372036854775807 := by omega
  have HLS := Lib.hid h1
  clear h1
  have HOF := Lib.hid (fun W => of8_any W kind page y)
  have HWP : Hid (∀ w2 v, LSY w0 w2 F p f P g R wx XB YB → IsB w2 v (ofB page y) → Calls Tryz.prog 46 #[qptr f.q, .int .i64 pg, v] w2 fun e w' => e = .returned (.int .i64 (R.write pg (ofB page y)).1) ∧ PgTo w2 F p f w' (P.write pg (ofB page y)).2) := Lib.hid fun w2 v h2 hv => by
    have hA := pwrite_any h2.pg pg hg1 hg2 v _ hv
    have e : (P.write pg (ofB page y)).1 = (R.write pg (ofB page y)).1 := by obtain ⟨s, B, a, _⟩ := HS.out.sim; exact (a.write pg _).1
    rw [e] at hA
    exact hA
  have HWR : Hid (∀ w2 f2 P2 v, LSY w0 w2 F p f2 P2 g R wx XB YB → IsB w2 v (ofB page y) → Calls Tryz.prog 47 #[qptr g.q, .int .i64 pg, v] w2 fun e w' => e = .returned (.int .i64 (R.write pg (ofB page y)).1) ∧ RfTo w2 g w' (R.write pg (ofB page y)).2) := Lib.hid fun w2 f2 P2 v h2 hv => rwrite8_any h2.rf pg v _ hv
  have HST := Lib.hid (HS.out.of (P' := (P.write pg (ofB page y)).2) (R' := (R.write pg (ofB page y)).2) (by unfold Pg.write; split <;> first | rfl | (split <;> rfl)) fun s B a => (a.write pg _).2)
  have hbn := ofN_le page y
  have hlw := lt_of_heap HO1.out
  generalize R.write pg (ofB page y) = X at *
  generalize (P.write pg (ofB page y)).2 = P3 at *
  have hx1 : (X.1 == X.1) = true := by simp
  rcases hpp with ⟨rfl, hd⟩ | ⟨rfl, hd⟩
  all_goals
    go_enter Tryz.func14, Tryz.ntmps14
    go_wp2_with fail
    rw [← HW1.out]
    refine HPK.out.mono ?_
    rintro e w' ⟨rfl, hw9⟩
    rw [← hw9]
    clear hw9 w'
    clear c0 c1 c2
    obtain ⟨c0, c1, c2⟩ := op_cells8 HO1.out
    go_wp2_with fail
    refine (HOF.out w1).mono ?_
    rintro e w2 ⟨v, rfl, hmv, hb2⟩
    have h2 := HLS.out.step hb2
    have HWC := Lib.hid (HWP.out w2 v h2 hmv.isB)
    obtain ⟨a, c, rfl, _, _⟩ := hmv.isB.form
    have hN0 := ofB_length page y
    obtain ⟨N, hN⟩ : ∃ N, N = (ofB page y).length := ⟨_, rfl⟩
    rw [← hN] at HWC hmv hN0 ⊢
    have hNl : N ≤ 896 := by omega
    have HLN : Hid ((ofB page y).length = N) := Lib.hid hN.symm
    have HMV := Lib.hid hmv
    have HH2 := Lib.hid h2
    have HB2 := Lib.hid hb2
    clear hmv h2 hb2 hN hN0 c0 c1 c2
    go_wp2_with fail
    refine HWC.out.mono ?_
    rintro e w3 ⟨rfl, ht3⟩
    obtain ⟨f3, hpa, hq3, hpc, hpd⟩ := ht3
    have h3 := HH2.out.stepT hpa hpc hpd
    obtain ⟨BB, hBB⟩ : ∃ BB, BB = w1.heap.size := ⟨_, rfl⟩
    have hm3 : Mine 5 w1.heap.size w3 (.slice a N c) (ofB page y) := by
      have hnp : ∀ k, PJ F p f k → ¬ w1.heap.size ≤ k := fun k e hle => by have := HLS.out.lt (.inl e); omega
      exact HMV.out.keep fun k k1 k2 => hpd.block k k2 fun e => hnp k e k1
    have ho3 : w3.heap[w.heap.size]? = some (opRow8 kind page y) := by
      have e2 := (HB2.out.block _ hlw).trans HO1.out
      refine (hpd.block _ (lt_of_heap e2) fun e => ?_).trans e2
      have h0 := HH2.out.own _ (.inl e)
      have := HLS.out.lt (.inl e)
      have := HIN.out _ (.inl e)
      exact this rfl
    have HBB : Hid (w0.heap.size ≤ BB ∧ ∀ ga, a = some ⟨ga, 0, none⟩ → ∀ j, PJ F p f3 j ∨ RT8 g j → j ≠ ga) := Lib.hid ⟨by rw [hBB]; exact HLS.out.below.size, fun ga e j hj => by
      have h2 := HMV.out.lt ga (by rw [e]; rfl)
      rcases hj with (hj | hj) | hj
      · have := HLS.out.lt (.inl (.inl hj)); omega
      · rcases hpc j hj with h4 | h4
        · have := HLS.out.lt (.inl (.inr h4)); omega
        · omega
      · have := HLS.out.lt (.inr hj); omega⟩
    have HBX : Hid (∀ ga, a = some ⟨ga, 0, none⟩ → ∀ j, XB j → j ≠ ga) := Lib.hid fun ga e j hj => by
      have h1 := (HLS.out.out j hj).1
      have h2 := HMV.out.lt ga (by rw [e]; rfl)
      omega
    have hwB : w.heap.size < BB := by omega
    rw [← hBB] at hm3
    have HM := Lib.hid hm3
    have H2 := Lib.hid h3
    have HO3 := Lib.hid ho3
    clear hm3 h3 ho3 hBB hpa hpc hpd
    go_wp2_with fail
    go_loopw [20] (fun x wr => ∃ k : Nat, k ≤ N ∧ x = .int .i64 (k : Int) ∧ (∃ L : List UInt8, L.length = N ∧ Mine 5 BB wr (.slice a N c) L) ∧ LSY w0 wr F p f3 P3 g R wx XB YB ∧ wr.heap[w.heap.size]? = some (opRow8 kind page y)) (fun x _ => N - (intOf x).toNat)
    case atStart => exact ⟨0, Nat.zero_le _, rfl, ⟨_, HLN.out, HM.out⟩, H2.out, HO3.out⟩
    case round =>
      obtain ⟨k, hk, rfl, ⟨L, hL, hml⟩, hls, ho⟩ := hrel
      by_cases hlt : k < N
      · have hdk : decide ((k : Int) < (N : Int)) = true := decide_eq_true (by omega)
        obtain ⟨ga, rfl⟩ : ∃ ga, a = some ⟨ga, 0, none⟩ := by
          obtain ⟨ga, cc, e, _⟩ := hml.slice (by omega)
          simp only [Value.slice.injEq] at e
          exact ⟨ga, e.1⟩
        have hgl := hml.lt ga rfl
        obtain ⟨k1, k2, k3⟩ := hml.poke k (by omega) (L[k]'(by omega) + 1)
        have hinc := u8_inc (L[k]'(by omega))
        have ht := turned_one wr ga k (.int .u8 (((L[k]'(by omega) + 1).toNat : Nat) : Int))
        have hls2 := hls.other ht (fun j hj => by have := HBB.out.1; omega) (fun j hj => ⟨fun e => HBB.out.2 ga rfl j (.inl e) hj, fun e => HBB.out.2 ga rfl j (.inr e) hj⟩) (fun j e hj => HBX.out ga rfl j e hj)
        have HF := Lib.hid (And.intro k3 (And.intro hls2 (show (L.set k (L[k]'(by omega) + 1)).length = N by rw [List.length_set]; exact hL)))
        have HOK := Lib.hid ((ht.block _ (lt_of_heap ho) (by omega)).trans ho)
        clear ho
        generalize L[k]'(by omega) + 1 = z at *
        generalize L[k]'(by omega) = z0 at *
        clear hml hls k3 hls2 ht
        go_wp2_with fail
        go_roundw
        case rel => exact ⟨k + 1, hlt, by go_num, ⟨_, HF.out.2.2, HF.out.1⟩, HF.out.2.1, HOK.out⟩
        case measure => simp [intOf]; omega
      · obtain rfl : k = N := by omega
        have hdz : decide ((k : Int) < (k : Int)) = false := by simp
        have HF := Lib.hid hls
        clear hml hls
        obtain ⟨c0, c1, c2⟩ := op_cells8 ho
        clear ho
        go_wp2_with fail
        refine (HOF.out wr).mono ?_
        rintro e w6 ⟨v6, rfl, hm6, hb6⟩
        have h6 := HF.out.step hb6
        have HWD := Lib.hid (HWR.out w6 f3 P3 v6 h6 hm6.isB)
        have H6 := Lib.hid h6
        clear h6 hm6 hb6
        go_wp2_with fail
        refine HWD.out.mono ?_
        rintro e w7 ⟨rfl, ht7⟩
        obtain ⟨g7, h7, hq7⟩ := H6.out.stepR ht7
        have H7 := Lib.hid h7
        clear h7 ht7
        go_wp2_with fail
        go_ret
        exact ⟨rfl, f3, g7, _, _, hq3, hq7, H7.out, HST.out⟩
set_option maxHeartbeats 16000000 in
theorem does8c_6 (h : LSY w0 w F p f P g R wx XB YB) (hs : StC n m P R) (hm : m ≤ 2000) (hn : 32 ≤ n) (hn2 : n ≤ 331) (kind page : Int) (y : UInt8) (hk1 : -9223372036854775808 ≤ kind) (hk2 : kind ≤ 9223372036854775807) (hp1 : -9223372036854775808 ≤ page) (hp2 : page ≤ 9223372036854775807) (hK : pickN kind 10 = 6) :
    Calls Tryz.prog 14 #[qptr f.q, qptr g.q, .agg #[.int .i64 kind, .int .i64 page, .int .u8 (y.toNat : Int)]] w (Do8C w0 F p f g wx XB YB n m) := by
  obtain ⟨w1, hw1⟩ : ∃ x, x = w.alloc (opRow8 kind page y) := ⟨_, rfl⟩
  have ho1 : w1.heap[w.heap.size]? = some (opRow8 kind page y) := by rw [hw1]; exact heap_alloc_new w _
  have hb1 : Below w.heap.size w w1 := by rw [hw1]; exact (Below.refl _ _).alloc (Nat.le_refl _) _
  obtain ⟨c0, c1, c2⟩ := op_cells8 ho1
  rw [hw1] at c0 c1 c2
  have h1 := h.step hb1
  have HIN : Hid (∀ k, PJ F p f k ∨ RT8 g k → k ≠ w.heap.size) := Lib.hid fun k hk e => by have := h.lt hk; omega
  have HPK := Lib.hid (pick_any w1 kind 10 hk1 hk2 (by omega) (by omega))
  rw [hK] at HPK
  have HW1 := Lib.hid hw1
  have HS := Lib.hid hs
  have HO1 := Lib.hid ho1
  clear h hs hb1 hw1 hK ho1
  obtain ⟨pg, hpp⟩ : ∃ pg : Int, (pg = 0 ∧ (page == 77) = true) ∨ (page = pg ∧ (page == 77) = false) := by
    by_cases e : page = 77
    · exact ⟨0, .inl ⟨rfl, by simpa using e⟩⟩
    · exact ⟨page, .inr ⟨rfl, by simpa using e⟩⟩
  have hg1 : -9223372036854775808 ≤ pg := by omega
  have hg2 : pg ≤ 9223372036854775807 := by omega
  have HLS := Lib.hid h1
  clear h1
  have HA := Lib.hid (setroot_any HLS.out.pg pg hg1 hg2)
  have HBF : Hid (∀ w2 f2 P2, LSY w0 w2 F p f2 P2 g R wx XB YB → Calls Tryz.prog 48 #[qptr g.q, .int .i64 pg] w2 fun e w' => e = .returned (.int .i64 (R.setRoot pg).1) ∧ RfTo w2 g w' (R.setRoot pg).2) := Lib.hid fun _ _ _ h2 => rsetroot_any h2.rf pg
  have HEQ : Hid ((P.setRoot pg).1 = (R.setRoot pg).1) := Lib.hid (by obtain ⟨s, B, a, _⟩ := HS.out.sim; exact (a.setRoot pg).1)
  have HST := Lib.hid (HS.out.of (P' := (P.setRoot pg).2) (R' := (R.setRoot pg).2) (by unfold Pg.setRoot; split <;> rfl) fun s B a => (a.setRoot pg).2)
  rw [HEQ.out] at HA
  clear HEQ
  generalize R.setRoot pg = X at *
  have hx1 : (X.1 == X.1) = true := by simp
  rcases hpp with ⟨rfl, hd⟩ | ⟨rfl, hd⟩
  all_goals
    go_enter Tryz.func14, Tryz.ntmps14
    go_wp2_with fail
    rw [← HW1.out]
    refine HPK.out.mono ?_
    rintro e w' ⟨rfl, hw9⟩
    rw [← hw9]
    clear hw9 w'
    clear c0 c1 c2
    go_wp2_with fail
    refine HA.out.mono ?_
    rintro e w2 ⟨rfl, ht2⟩
    obtain ⟨f2, h2, hq2⟩ := HLS.out.stepP ht2
    have HB := Lib.hid (HBF.out _ _ _ h2)
    have H2 := Lib.hid h2
    clear h2 ht2
    go_wp2_with fail
    refine HB.out.mono ?_
    rintro e w3 ⟨rfl, ht3⟩
    obtain ⟨g3, h3, hq3⟩ := H2.out.stepR ht3
    have H3 := Lib.hid h3
    clear h3 ht3
    go_wp2_with fail
    go_ret
    exact ⟨rfl, f2, g3, _, _, hq2, hq3, H3.out, HST.out⟩
set_option maxHeartbeats 16000000 in
theorem does8c_9 (h : LSY w0 w F p f P g R wx XB YB) (hs : StC n m P R) (hm : m ≤ 2000) (hn : 32 ≤ n) (hn2 : n ≤ 331) (kind page : Int) (y : UInt8) (hk1 : -9223372036854775808 ≤ kind) (hk2 : kind ≤ 9223372036854775807) (hp1 : -9223372036854775808 ≤ page) (hp2 : page ≤ 9223372036854775807) (hK : pickN kind 10 = 9) :
    Calls Tryz.prog 14 #[qptr f.q, qptr g.q, .agg #[.int .i64 kind, .int .i64 page, .int .u8 (y.toNat : Int)]] w (Do8C w0 F p f g wx XB YB n m) := by
  obtain ⟨w1, hw1⟩ : ∃ x, x = w.alloc (opRow8 kind page y) := ⟨_, rfl⟩
  have ho1 : w1.heap[w.heap.size]? = some (opRow8 kind page y) := by rw [hw1]; exact heap_alloc_new w _
  have hb1 : Below w.heap.size w w1 := by rw [hw1]; exact (Below.refl _ _).alloc (Nat.le_refl _) _
  obtain ⟨c0, c1, c2⟩ := op_cells8 ho1
  rw [hw1] at c0 c1 c2
  have h1 := h.step hb1
  have HIN : Hid (∀ k, PJ F p f k ∨ RT8 g k → k ≠ w.heap.size) := Lib.hid fun k hk e => by have := h.lt hk; omega
  have HPK := Lib.hid (pick_any w1 kind 10 hk1 hk2 (by omega) (by omega))
  rw [hK] at HPK
  have HW1 := Lib.hid hw1
  have HS := Lib.hid hs
  have HO1 := Lib.hid ho1
  clear h hs hb1 hw1 hK ho1
  obtain ⟨pg, hpp⟩ : ∃ pg : Int, (pg = 0 ∧ (page == 77) = true) ∨ (page = pg ∧ (page == 77) = false) := by
    by_cases e : page = 77
    · exact ⟨0, .inl ⟨rfl, by simpa using e⟩⟩
    · exact ⟨page, .inr ⟨rfl, by simpa using e⟩⟩
  have hg1 : -9223372036854775808 ≤ pg := by omega
  have hg2 : pg ≤ 9223372036854775807 := by omega
  have HLS := Lib.hid h1
  clear h1
  have HA := Lib.hid (abort_any HLS.out.pg)
  have HST := Lib.hid (HS.out.of (P' := P.abort) (R' := R.abort) (by unfold Pg.abort; split <;> rfl) fun s B a => a.abort)
  rcases hpp with ⟨rfl, hd⟩ | ⟨rfl, hd⟩
  all_goals
    go_enter Tryz.func14, Tryz.ntmps14
    go_wp2_with fail
    rw [← HW1.out]
    refine HPK.out.mono ?_
    rintro e w' ⟨rfl, hw9⟩
    rw [← hw9]
    clear hw9 w'
    clear c0 c1 c2
    go_wp2_with fail
    refine HA.out.mono ?_
    rintro e w2 ⟨rfl, ht2⟩
    obtain ⟨f2, h2, hq2⟩ := HLS.out.stepP ht2
    have HB := Lib.hid (rabort8_any h2.rf)
    have H2 := Lib.hid h2
    clear h2 ht2
    go_wp2_with fail
    refine HB.out.mono ?_
    rintro e w3 ⟨rfl, ht3⟩
    obtain ⟨g3, h3, hq3⟩ := H2.out.stepR ht3
    have H3 := Lib.hid h3
    clear h3 ht3
    go_wp2_with fail
    go_ret
    exact ⟨rfl, f2, g3, _, _, hq2, hq3, H3.out, HST.out⟩
theorem does8c_any (h : LSY w0 w F p f P g R wx XB YB) (hs : StC n m P R) (hm : m ≤ 2000) (hn : 32 ≤ n) (hn2 : n ≤ 331) (kind page : Int) (y : UInt8) (hk1 : 0 ≤ kind) (hk2 : kind < 10) (hk7 : kind ≠ 7) (hk8 : kind ≠ 8) (hp1 : -9223372036854775808 ≤ page) (hp2 : page ≤ 9223372036854775807) :
    Calls Tryz.prog 14 #[qptr f.q, qptr g.q, .agg #[.int .i64 kind, .int .i64 page, .int .u8 (y.toNat : Int)]] w (Do8C w0 F p f g wx XB YB n m) := by
  rcases (show kind = 0 ∨ kind = 1 ∨ kind = 2 ∨ kind = 3 ∨ kind = 4 ∨ kind = 5 ∨ kind = 6 ∨ kind = 9 by omega) with e | e | e | e | e | e | e | e
  · exact does8c_0 h hs hm hn hn2 kind page y (by omega) (by omega) hp1 hp2 (by rw [e]; decide)
  · exact does8c_1 h hs hm hn hn2 kind page y (by omega) (by omega) hp1 hp2 (by rw [e]; decide)
  · exact does8c_2 h hs hm hn hn2 kind page y (by omega) (by omega) hp1 hp2 (by rw [e]; decide)
  · exact does8c_3 h hs hm hn hn2 kind page y (by omega) (by omega) hp1 hp2 (by rw [e]; decide)
  · exact does8c_4 h hs hm hn hn2 kind page y (by omega) (by omega) hp1 hp2 (by rw [e]; decide)
  · exact does8c_5 h hs hm hn hn2 kind page y (by omega) (by omega) hp1 hp2 (by rw [e]; decide)
  · exact does8c_6 h hs hm hn hn2 kind page y (by omega) (by omega) hp1 hp2 (by rw [e]; decide)
  · exact does8c_9 h hs hm hn hn2 kind page y (by omega) (by omega) hp1 hp2 (by rw [e]; decide)
end
end Go.Proofs.YtbmmcaoifkboiaaGreatDoor

/- The document's pager: Clone. Its texts are shared. -/
set_option linter.unusedVariables false
set_option linter.unusedSimpArgs false
set_option maxRecDepth 100000
namespace Go.Proofs.YtbmmcaoifkboiaaGreatDoor
open Go.RowKit

theorem rf_cells8 {w : World} {f : Rf} {R : Rp} (h : w.heap[f.q]? = some (rfRow f R)) : w.cell? ⟨f.q, 0, none⟩ = some (.slice (some ⟨f.gs, 0, none⟩) R.pages.length f.cs) ∧ w.cell? ⟨f.q, 1, none⟩ = some (.int .i64 R.root) ∧ w.cell? ⟨f.q, 2, none⟩ = some (.slice (some ⟨f.gw, 0, none⟩) R.was.length f.cw) ∧ w.cell? ⟨f.q, 3, none⟩ = some (.int .i64 R.wroot) ∧ w.cell? ⟨f.q, 4, none⟩ = some (.bool R.change) := by
  refine ⟨?_, ?_, ?_, ?_, ?_⟩ <;> · rw [cell_of_row _ _ _ _ _ _ h]; rfl
set_option maxHeartbeats 4000000 in
theorem rall8_any (w : World) {f : Rf} {R : Rp} (h : RfAt w f R) : Calls Tryz.prog 9 #[qptr f.q] w fun e w' => ∃ f', e = .returned (qptr f'.q) ∧ RfAt w' f' R ∧ (∀ k, RT8 f' k → RS8 f k ∨ w.heap.size ≤ k) ∧ (∀ k, RH8 f' k → w.heap.size ≤ k) ∧ Below w.heap.size w w' := by
  have hd := h.below (Below.refl w.heap.size w).drew
  have hl := hd.ptr.1
  have hc := sclone_any w.drew f.gs f.cs f.vs R.root hd.now (by have := hd.n0; omega) (by have := hd.n1; omega) hd.ptr.one
  rw [hl] at hc
  have HC := Lib.hid hc
  have HD := Lib.hid hd
  have HH := Lib.hid h
  obtain ⟨c0, c1, c2, c3, c4⟩ := rf_cells8 hd.head
  clear h hl hd hc
  go_enter Tryz.func9, Tryz.ntmps9
  go_upto_region 1 with fail
  refine wp_region_noPanic ?_
  refine wp_region_held_drew (S := (fun W : World => W.heap[f.q]? = some (rfRow f R))) (by kernel_rfl) HD.out.head (fun hH => ?_)
  refine take_at (i := 0) (v := ?_) rfl (by kernel_rfl) (by kernel_rfl) (by kernel_rfl) (fun _ _ _ h => h) (Or.inl ⟨by rfl, ?_⟩) hH ?_
  rotate_left
  · (intro w hSw; obtain ⟨c0, c1, c2, c3, c4⟩ := rf_cells8 hSw; go_simp; try with_reducible rfl)
  try simp only [Act.put, List.setIfInBounds_toArray, List.set_cons_zero, List.set_cons_succ]
  refine take_at (i := 1) (v := ?_) rfl (by kernel_rfl) (by kernel_rfl) (by kernel_rfl) (fun _ _ _ h => h) (Or.inl ⟨by rfl, ?_⟩) hH ?_
  rotate_left
  · (intro w hSw; obtain ⟨c0, c1, c2, c3, c4⟩ := rf_cells8 hSw; go_simp; try with_reducible rfl)
  try simp only [Act.put, List.setIfInBounds_toArray, List.set_cons_zero, List.set_cons_succ]
  refine take_at (i := 2) (v := ?_) rfl (by kernel_rfl) (by kernel_rfl) (by kernel_rfl) (fun _ _ _ h => h) (Or.inl ⟨by rfl, ?_⟩) hH ?_
  rotate_left
  · (intro w hSw; obtain ⟨c0, c1, c2, c3, c4⟩ := rf_cells8 hSw; go_simp; try with_reducible rfl)
  try simp only [Act.put, List.setIfInBounds_toArray, List.set_cons_zero, List.set_cons_succ]
  refine take_at (i := 3) (v := ?_) rfl (by kernel_rfl) (by kernel_rfl) (by kernel_rfl) (fun _ _ _ h => h) (Or.inl ⟨by rfl, ?_⟩) hH ?_
  rotate_left
  · (intro w hSw; obtain ⟨c0, c1, c2, c3, c4⟩ := rf_cells8 hSw; go_simp; try with_reducible rfl)
  try simp only [Act.put, List.setIfInBounds_toArray, List.set_cons_zero, List.set_cons_succ]
  refine take_at (i := 5) (v := ?_) rfl (by kernel_rfl) (by kernel_rfl) (by kernel_rfl) (fun _ _ _ h => h) (Or.inl ⟨by rfl, ?_⟩) hH ?_
  rotate_left
  · (intro w hSw; obtain ⟨c0, c1, c2, c3, c4⟩ := rf_cells8 hSw; go_simp; try with_reducible rfl)
  try simp only [Act.put, List.setIfInBounds_toArray, List.set_cons_zero, List.set_cons_succ]
  refine take_at (i := 6) (v := ?_) rfl (by kernel_rfl) (by kernel_rfl) (by kernel_rfl) (fun _ _ _ h => h) (Or.inl ⟨by rfl, ?_⟩) hH ?_
  rotate_left
  · (intro w hSw; obtain ⟨c0, c1, c2, c3, c4⟩ := rf_cells8 hSw; go_simp; try with_reducible rfl)
  try simp only [Act.put, List.setIfInBounds_toArray, List.set_cons_zero, List.set_cons_succ]
  refine take_at (i := 7) (v := ?_) rfl (by kernel_rfl) (by kernel_rfl) (by kernel_rfl) (fun _ _ _ h => h) (Or.inl ⟨by rfl, ?_⟩) hH ?_
  rotate_left
  · (intro w hSw; obtain ⟨c0, c1, c2, c3, c4⟩ := rf_cells8 hSw; go_simp; try with_reducible rfl)
  try simp only [Act.put, List.setIfInBounds_toArray, List.set_cons_zero, List.set_cons_succ]
  refine take_at (i := 8) (v := ?_) rfl (by kernel_rfl) (by kernel_rfl) (by kernel_rfl) (fun _ _ _ h => h) (Or.inl ⟨by rfl, ?_⟩) hH ?_
  rotate_left
  · (intro w hSw; obtain ⟨c0, c1, c2, c3, c4⟩ := rf_cells8 hSw; go_simp; try with_reducible rfl)
  try simp only [Act.put, List.setIfInBounds_toArray, List.set_cons_zero, List.set_cons_succ]
  refine take_at (i := 10) (v := ?_) rfl (by kernel_rfl) (by kernel_rfl) (by kernel_rfl) (fun _ _ _ h => h) (Or.inl ⟨by rfl, ?_⟩) hH ?_
  rotate_left
  · (intro w hSw; obtain ⟨c0, c1, c2, c3, c4⟩ := rf_cells8 hSw; go_simp; try with_reducible rfl)
  try simp only [Act.put, List.setIfInBounds_toArray, List.set_cons_zero, List.set_cons_succ]
  refine take_at (i := 11) (v := ?_) rfl (by kernel_rfl) (by kernel_rfl) (by kernel_rfl) (fun _ _ _ h => h) (Or.inl ⟨by rfl, ?_⟩) hH ?_
  rotate_left
  · (intro w hSw; obtain ⟨c0, c1, c2, c3, c4⟩ := rf_cells8 hSw; go_simp; try with_reducible rfl)
  try simp only [Act.put, List.setIfInBounds_toArray, List.set_cons_zero, List.set_cons_succ]
  refine take_at (i := 12) (v := ?_) rfl (by kernel_rfl) (by kernel_rfl) (by kernel_rfl) (fun _ _ _ h => h) (Or.inl ⟨by rfl, ?_⟩) hH ?_
  rotate_left
  · (intro w hSw; obtain ⟨c0, c1, c2, c3, c4⟩ := rf_cells8 hSw; go_simp; try with_reducible rfl)
  try simp only [Act.put, List.setIfInBounds_toArray, List.set_cons_zero, List.set_cons_succ]
  refine take_at (i := 13) (v := ?_) rfl (by kernel_rfl) (by kernel_rfl) (by kernel_rfl) (fun _ _ _ h => h) (Or.inl ⟨by rfl, ?_⟩) hH ?_
  rotate_left
  · (intro w hSw; obtain ⟨c0, c1, c2, c3, c4⟩ := rf_cells8 hSw; go_simp; try with_reducible rfl)
  try simp only [Act.put, List.setIfInBounds_toArray, List.set_cons_zero, List.set_cons_succ]
  refine wpAnyH_ready (rs := [4]) (by kernel_rfl) (by simp) ?_
  refine ready_at rfl (fun K hK => ?_) AllReadyH.nil
  go_simp
  refine HC.out.mono ?_
  rintro e w2 ⟨g, c, rfl, hg, hv, hb2⟩
  have hH2 := (hb2.block _ (lt_of_heap hH)).trans hH
  have HD2 := Lib.hid (HD.out.below hb2)
  have HV := Lib.hid hv
  have HB2 := Lib.hid hb2
  have HG := Lib.hid hg
  clear hv hb2 hH hg
  go_wp2_with fail
  refine hK.out _ _ hH2 (fun hH => ?_)
  clear hH2
  clear hK K
  try simp only [Act.put, List.setIfInBounds_toArray, List.set_cons_zero, List.set_cons_succ]
  refine wpAnyH_ready (rs := [9]) (by kernel_rfl) (by simp) ?_
  refine ready_at rfl (fun K hK => ?_) AllReadyH.nil
  go_simp
  have hl2 := HD2.out.wptr.1
  have hc2 := sclone_any w2 f.gw f.cw f.ws R.wroot HD2.out.was (by have := HD2.out.n0; have := HD2.out.nw; omega) (by have := HD2.out.n1; have := HD2.out.nw; omega) HD2.out.wptr.one
  rw [hl2] at hc2
  refine hc2.mono ?_
  rintro e w3 ⟨g', c', rfl, hg', hv', hb3⟩
  have hH3 := (hb3.block _ (lt_of_heap hH)).trans hH
  have HD3 := Lib.hid (HD2.out.below hb3)
  have HV2 := Lib.hid (HV.out.keep (hb3.block _ HV.out.lt))
  have HV' := Lib.hid hv'
  have HB3 := Lib.hid hb3
  have HG' := Lib.hid hg'
  clear hv' hb3 hH hg' hl2 hc2
  go_wp2_with fail
  refine hK.out _ _ hH3 (fun hH => ?_)
  clear hH3
  clear hK K
  try simp only [Act.put, List.setIfInBounds_toArray, List.set_cons_zero, List.set_cons_succ]
  refine take_at (i := 14) (v := .agg #[.slice (some ⟨g, 0, none⟩) R.pages.length c, .int .i64 R.root, .slice (some ⟨g', 0, none⟩) R.was.length c', .int .i64 R.wroot, .bool R.change]) rfl (by kernel_rfl) (by kernel_rfl) (by kernel_rfl) (fun _ _ _ h => h) (Or.inl ⟨by rfl, fun w hSw => by kernel_rfl⟩) hH ?_
  try simp only [Act.put, List.setIfInBounds_toArray, List.set_cons_zero, List.set_cons_succ]
  refine wpAnyH_ready (rs := [15]) (by kernel_rfl) (by simp) ?_
  refine ready_at rfl (fun K hK => ?_) AllReadyH.nil
  go_simp
  obtain ⟨w4, hw4⟩ : ∃ x, x = w3.alloc (.cells #[.slice (some ⟨g, 0, none⟩) R.pages.length c, .int .i64 R.root, .slice (some ⟨g', 0, none⟩) R.was.length c', .int .i64 R.wroot, .bool R.change] 69) := ⟨_, rfl⟩
  have hb4 : Below w3.heap.size w3 w4 := by rw [hw4]; exact (Below.refl _ _).alloc (Nat.le_refl _) _
  have hd4 : w4.heap[w3.heap.size]? = some (.cells #[.slice (some ⟨g, 0, none⟩) R.pages.length c, .int .i64 R.root, .slice (some ⟨g', 0, none⟩) R.was.length c', .int .i64 R.wroot, .bool R.change] 69 (0, 0)) := by rw [hw4]; exact heap_alloc_new w3 _
  have hH4 := (hb4.block _ (lt_of_heap hH)).trans hH
  rw [← hw4]
  have HW4 := Lib.hid (And.intro hb4 hd4)
  clear hw4 hb4 hd4 hH
  refine hK.out _ _ hH4 (fun hH => ?_)
  clear hH4
  clear hK K
  try simp only [Act.put, List.setIfInBounds_toArray, List.set_cons_zero, List.set_cons_succ]
  refine take_at (i := 16) (v := ?_) rfl (by kernel_rfl) (by kernel_rfl) (by kernel_rfl) (fun _ _ _ h => h) (Or.inl ⟨by rfl, ?_⟩) hH ?_
  rotate_left
  · (intro w hSw; obtain ⟨c0, c1, c2, c3, c4⟩ := rf_cells8 hSw; go_simp; try with_reducible rfl)
  try simp only [Act.put, List.setIfInBounds_toArray, List.set_cons_zero, List.set_cons_succ]
  refine wpAnyH_done (by kernel_rfl) ?_ _
  refine NoPanic.normal ?_
  clear hH
  go_wp2_with fail
  go_ret
  have hbb : Below w.heap.size w w4 := ((Below.refl _ _).drew.trans HB2.out).trans ((HB3.out.mono HB2.out.size).trans (HW4.out.1.mono (Nat.le_trans HB2.out.size HB3.out.size)))
  have d4 := HD3.out.below HW4.out.1
  have hg1 : w.heap.size ≤ g := HG.out
  have hg2 := HG'.out
  have hg3 := HV.out.lt
  have hs2 := HB2.out.size
  have hs3 := HB3.out.size
  have hs4 : w.drew.heap.size = w.heap.size := rfl
  rw [hs4] at hs2
  refine ⟨⟨w3.heap.size, g, c, g', c', f.vs, f.ws⟩, rfl, ⟨HW4.out.2, HV2.out.keep (HW4.out.1.block _ HV2.out.lt), HV'.out.keep (HW4.out.1.block _ HV'.out.lt), d4.ptr, d4.wptr, d4.n0, d4.n1, d4.nw, fun k hk => ?_, fun e => ?_⟩, fun k hk => ?_, fun k hk => ?_, hbb⟩
  · rcases hk with rfl | rfl | rfl | e | e
    · exact lt_of_heap HW4.out.2
    · exact Nat.lt_of_lt_of_le HV2.out.lt HW4.out.1.size
    · exact Nat.lt_of_lt_of_le HV'.out.lt HW4.out.1.size
    · exact d4.lt k (.inr (.inr (.inr (.inl e))))
    · exact d4.lt k (.inr (.inr (.inr (.inr e))))
  · dsimp only at e
    omega
  · rcases hk with e | e | e | e | e
    · exact .inr (by dsimp only at e; omega)
    · exact .inr (by dsimp only at e; omega)
    · exact .inr (by dsimp only at e; omega)
    · exact .inl (.inl e)
    · exact .inl (.inr e)
  · rcases hk with e | e | e <;> (dsimp only at e; omega)
end Go.Proofs.YtbmmcaoifkboiaaGreatDoor

/- Ops, CutAt. -/
set_option linter.unusedVariables false
set_option linter.unusedSimpArgs false
set_option maxRecDepth 100000
namespace Go.Proofs.YtbmmcaoifkboiaaGreatDoor
open Go.RowKit

set_option maxHeartbeats 1000000 in
theorem ops_any (w : World) (F : Ft) (D : Dk) (h : DkAt w F D) : Calls Tryz.prog 7 #[F.ptr] w fun e w' => e = .returned (.int .i64 (D.ops : Int)) ∧ w = w' := by
  obtain ⟨c0, c1, c2, c3, c4, c5⟩ := h.cells
  go_enter Tryz.func7, Tryz.ntmps7
  go_wp2
  go_ret
  exact ⟨rfl, rfl⟩
set_option maxHeartbeats 1000000 in
theorem cutAt_any (w : World) (F : Ft) (D : Dk) (h : DkAt w F D) (c : Int) (h1 : -9223372036854775808 ≤ c) (h2 : c ≤ 9223372036854775807) :
    Calls Tryz.prog 6 #[F.ptr, .int .i64 c] w fun e w' => e = .returned (.tuple #[]) ∧ DkAt w' F { D with cut := c, off := false } ∧ Turned (· = F.p) w w' := by
  have hd := (h.put_cut c h1 h2).put_off false
  have ht := (turned_p w F 4 (.int .i64 c)).trans (turned_p _ F 5 (.bool false))
  obtain ⟨c0, c1, c2, c3, c4, c5⟩ := h.cells
  have f4 := frozen_p h.head 4
  have f5 := frozen_p h.head 5
  clear h
  go_enter Tryz.func6, Tryz.ntmps6
  go_wp2
  go_end0
  exact ⟨rfl, hd, ht⟩
end Go.Proofs.YtbmmcaoifkboiaaGreatDoor

/- slices.Clone of a row of sectors. -/
set_option linter.unusedVariables false
set_option linter.unusedSimpArgs false
set_option maxRecDepth 100000
namespace Go.Proofs.YtbmmcaoifkboiaaGreatDoor
open Go.RowKit

set_option maxHeartbeats 4000000 in
theorem cloneS_any (w : World) (g cap n : Nat) (l : List UInt8) (h : Sects w g cap n l) (h1 : 1 ≤ n) (h2 : n ≤ 16384) :
    Calls Tryz.prog 50 #[.slice (some ⟨g, 0, none⟩) n cap] w fun e w' => ∃ g' cap', e = .returned (.slice (some ⟨g', 0, none⟩) n cap') ∧ Sects w' g' cap' n l ∧ w.heap.size ≤ g' ∧ Below w.heap.size w w' := by
  have hnl := fun (w : World) (a : Option Addr) (n c : Nat) => Lib.run_eql_slice_nil (P := Tryz.prog) w 61 95 a n c 0 0 Tryz.underlying61
  have hbs : ∀ w : World, (Instr.buildSlice 61 0 #[]).run Tryz.prog w = .ok (.slice (some ⟨w.heap.size, 0, none⟩) 0 0) (w.alloc (.cells #[] 95)) := fun w => by kernel_rfl
  obtain ⟨i, hi, hz, hs, hb⟩ : ∃ i, Tryz.prog.info? 95 = some i ∧ i.zero = some (.agg (List.replicate 128 (.int .u8 0)).toArray) ∧ i.size = 128 ∧ i.bytes = 128 := by
    have h : (Tryz.prog.info? 95).map (fun i => (i.zero, i.size, i.bytes)) = some (some (.agg (List.replicate 128 (.int .u8 0)).toArray), 128, 128) := by kernel_rfl
    cases hq : Tryz.prog.info? 95 with
    | none => rw [hq] at h; cases h
    | some i =>
      rw [hq, Option.map_some, Option.some.injEq, Prod.mk.injEq, Prod.mk.injEq] at h
      exact ⟨i, rfl, h⟩
  have hcl := h.cells
  obtain ⟨cur, hg, hn, hm, hsz, hl, ht⟩ := id h
  have hlt := lt_of_heap hg
  have W1 : ∃ W1, W1 = w.alloc (.cells #[] 95) := ⟨_, rfl⟩
  obtain ⟨W1, hW1⟩ := W1
  have hown : W1.ownsRow w.heap.size 95 128 (.slice (some ⟨w.heap.size, 0, none⟩) 0 0) 0 [] := by
    rw [hW1]
    exact ⟨rfl, .inr ⟨w.heap.size, 0, #[], rfl, Nat.le_refl _, heap_alloc_new w _, Nat.le_refl _, by simp [maxLen], rfl, rfl⟩⟩
  have hb1 : Below w.heap.size w W1 := by rw [hW1]; exact (Below.refl _ _).alloc (Nat.le_refl _) _
  have hcl1 : ∀ w' : World, w'.heap = W1.heap → ∀ j v, (bv l)[j]? = some v → w'.cell? ((⟨g, 0, none⟩ : Addr).add j) = some v := fun w' hw j v hj => by
    have e := hcl j v hj
    have hblk : ((⟨g, 0, none⟩ : Addr).add j).block = g := by rw [Addr.add_mid]
    have : w'.cell? ((⟨g, 0, none⟩ : Addr).add j) = W1.cell? ((⟨g, 0, none⟩ : Addr).add j) := by simp only [World.cell?, hw]
    rw [this, hb1.cell (by rw [hblk]; exact hlt)]
    exact e
  obtain ⟨v', W2, hr, ho2, hgr, hnil, hwhere⟩ := run_app (P := Tryz.prog) W1 w.heap.size 61 61 61 95 i _ 128 128 _ Tryz.underlying61 Tryz.underlying61 (.inl rfl) hi hz hs hb (by simp [Value.cells]) (by decide) _ 0 [] hown
    (.slice (some ⟨g, 0, none⟩) n cap) n (bv l) (fun w' => rfl) (by rw [bv_length, hl]) (fun w' hw => run_firstCells_some (P := Tryz.prog) w' 128 n ⟨g, 0, none⟩ n cap (bv l) (by rw [bv_length, hl]) (hcl1 w' hw)) (bv_oneCell l) (by simp [maxLen]; omega) (by omega) hb1.size
  rw [Nat.zero_add, List.nil_append] at ho2
  have hb2 : Below w.heap.size w W2 := hb1.grown hgr hb1.size (fun k hk => by simp only [Value.ownBlock, Option.some.injEq] at hk; omega)
  obtain ⟨ho2l, ho2r⟩ := ho2
  rcases ho2r with ⟨_, h0⟩ | ⟨g', cap', cur', rfl, hbg, hh, hnc, hcm, hcs, htk⟩
  · omega
  have hfin : Sects W2 g' cap' n l := ⟨cur', hh, hnc, hcm, hcs, hl, by rw [hl]; exact htk⟩
  clear hnil hwhere ho2l hh hcs htk hgr hown hcl1 hcl
  subst hW1
  go_enter Tryz.func50, Tryz.ntmps50
  go_wp2_with (at_builtin; refine wpList_append_run rfl (.tmp 5) (.tmp 6) 61 61 rfl _ _ _ rfl rfl hr ?_; clear hr)
  go_ret
  exact ⟨g', cap', rfl, hfin, hbg, hb2⟩
end Go.Proofs.YtbmmcaoifkboiaaGreatDoor

/- slices of ints, and slices.Contains over them. -/
set_option linter.unusedVariables false
set_option linter.unusedSimpArgs false
set_option maxRecDepth 100000
namespace Go.Proofs.YtbmmcaoifkboiaaGreatDoor
open Go.RowKit

theorem index_step (n : Int) (l : List Int) (k : Nat) (h : k < l.length) : (n ∉ l.take k ∧ l[k] ≠ n) ↔ n ∉ l.take (k + 1) := by
  rw [List.take_add_one, List.getElem?_eq_getElem h]
  simp only [Option.toList_some, List.mem_append, List.mem_singleton, not_or]
  exact ⟨fun ⟨a, b⟩ => ⟨a, fun e => b e.symm⟩, fun ⟨a, b⟩ => ⟨a, fun e => b e.symm⟩⟩

set_option maxHeartbeats 4000000 in
theorem index_any (w : World) (v : Value) (l : List Int) (hv : IsI w v l) (n : Int) (h1 : -9223372036854775808 ≤ n) (h2 : n ≤ 9223372036854775807) :
    Calls Tryz.prog 74 #[v, .int .i64 n] w fun e w' => ∃ r : Int, e = .returned (.int .i64 r) ∧ (0 ≤ r ↔ n ∈ l) ∧ -1 ≤ r ∧ r ≤ 9223372036854775807 ∧ w = w' := by
  obtain ⟨a, cap, rfl, hlc, hmx, hnil, hc⟩ := hv
  unfold maxLen at hmx
  cases l with
  | nil =>
    clear hc
    go_enter Tryz.func74, Tryz.ntmps74
    go_wp2
    go_loop [5, 8, 9, 10, 11, 12, 13, 14, 15, 16] (fun _ i _ _ _ _ _ _ _ _ => i = .int .i64 0) (fun _ i _ _ _ _ _ _ _ _ => 0)
    case atStart => rfl
    case round =>
      obtain rfl := hrel
      go_wp2
      go_ret
      exact ⟨-1, rfl, by simp, by omega, by omega, rfl⟩
  | cons z r =>
    generalize hl : z :: r = l at *
    have hpos : 0 < l.length := by rw [← hl]; simp
    clear hl
    obtain ⟨x, rfl⟩ : ∃ x, a = some x := by
      cases a with
      | none => have := hnil rfl; omega
      | some x => exact ⟨x, rfl⟩
    obtain ⟨hsp, hcl⟩ := hc x rfl
    obtain ⟨B, o, sp⟩ := x
    obtain rfl : sp = none := hsp hpos
    clear hc hnil hsp
    dsimp only at hcl
    have Hcl := Lib.hid hcl
    clear hcl
    go_enter Tryz.func74, Tryz.ntmps74
    go_wp2
    go_loop [5, 8, 9, 10, 11, 12, 13, 14, 15, 16, 18] (fun _ i _ _ _ _ _ _ _ _ _ => ∃ k : Nat, k ≤ l.length ∧ i = .int .i64 (k : Int) ∧ n ∉ l.take k) (fun _ i _ _ _ _ _ _ _ _ _ => l.length - (intOf i).toNat)
    case atStart => exact ⟨0, Nat.zero_le _, rfl, by simp⟩
    case round =>
      obtain ⟨k, hk, rfl, hno⟩ := hrel
      by_cases hlt : k < l.length
      · have hd : decide ((k : Int) < (l.length : Int)) = true := by simpa using hlt
        have i0 : (0 : Int) ≤ (k : Int) := by omega
        have i1 : (k : Int) < (l.length : Int) := by omega
        have hcell : w.cell? ⟨B, o + k, none⟩ = some (.int .i64 l[k]) := Hcl.out k hlt
        have hst := index_step n l k hlt
        have hmem : l[k] ∈ l := List.getElem_mem hlt
        generalize l[k] = c at *
        have Hst := Lib.hid hst
        have Hno := Lib.hid hno
        clear hst hno
        by_cases he : c = n
        · have hb : (n == c) = true := by simp [he]
          go_wp2
          go_ret
          exact ⟨k, rfl, by simp [← he, hmem], by omega, by omega, rfl⟩
        · have hb : (n == c) = false := by simpa using fun e => he e.symm
          go_wp2
          go_round
          case rel => exact ⟨k + 1, by omega, by simp, Hst.out.1 ⟨Hno.out, he⟩⟩
          case measure => simp [intOf]; omega
      · have hd : decide ((k : Int) < (l.length : Int)) = false := by simpa using hlt
        have hall : l.take k = l := List.take_of_length_le (by omega)
        rw [hall] at hno
        have Hno := Lib.hid hno
        clear hno hall
        go_wp2
        go_ret
        exact ⟨-1, rfl, by simp [Hno.out], by omega, by omega, rfl⟩
set_option maxHeartbeats 4000000 in
theorem contains_any (w : World) (v : Value) (l : List Int) (hv : IsI w v l) (n : Int) (h1 : -9223372036854775808 ≤ n) (h2 : n ≤ 9223372036854775807) :
    Calls Tryz.prog 51 #[v, .int .i64 n] w fun e w' => e = .returned (.bool (decide (n ∈ l))) ∧ w = w' := by
  go_enter Tryz.func51, Tryz.ntmps51
  go_wp2_with fail
  refine (index_any w v l hv n h1 h2).mono ?_
  rintro e w1 ⟨r, rfl, hr, b1, b2, rfl⟩
  have hd : decide ((0 : Int) ≤ r) = decide (n ∈ l) := by
    by_cases h : n ∈ l
    · rw [decide_eq_true h, decide_eq_true (hr.2 h)]
    · rw [decide_eq_false h, decide_eq_false fun e => h (hr.1 e)]
  go_wp2_with fail
  go_ret
  exact ⟨rfl, rfl⟩
end Go.Proofs.YtbmmcaoifkboiaaGreatDoor

/- The disk's Crash. -/
set_option linter.unusedVariables false
set_option linter.unusedSimpArgs false
set_option maxRecDepth 100000
namespace Go.Proofs.YtbmmcaoifkboiaaGreatDoor
open Go.RowKit

section
variable {ops : Array Oper} {w : World} {Q : Act → Prop} {a : Act} {o : Oper} {rest : List Oper}
theorem run_field0 (w : World) (k : Nat) (cs : List Value) : (Instr.field 98 (looseV k cs) 0).run Tryz.prog w = .ok (.int .i64 (k : Int)) w := by
  unfold Instr.field looseV
  simp only [Sem.run_bind, run_underlying Tryz.underlying98, Result.andThen_ok]
  rfl
theorem run_field1 (w : World) (k : Nat) (cs : List Value) (h : cs.length = 128) : (Instr.field 98 (looseV k cs) 1).run Tryz.prog w = .ok (.agg cs.toArray) w := by
  have hp : ∀ (C : Array Value) (w : World), (part 95 C 1).run Tryz.prog w = .ok (.agg (C.extract 1 (1 + 128))) w := fun C w => by rfl
  unfold Instr.field looseV
  simp only [Sem.run_bind, run_underlying Tryz.underlying98, Result.andThen_ok]
  refine (hp _ w).trans ?_
  congr 2
  simp [← h]
theorem still_field0 (x : Operand) (ho : o.op = .field 98 x 0) (k : Nat) (cs : List Value) (hx : a.eval x = looseV k cs) (hg : o.guard = none) (h : wpStill Tryz.prog ops w Q rest (a.put o.dst (.int .i64 (k : Int)))) : wpStill Tryz.prog ops w Q (o :: rest) a := by
  refine still_value _ (by simp [Region.wanted, hg]) ?_ h
  unfold execOp
  simp only [ho, hx, Sem.run_bind, run_field0 w k cs, Result.andThen_ok]
  rfl
theorem still_field1 (x : Operand) (ho : o.op = .field 98 x 1) (k : Nat) (cs : List Value) (hx : a.eval x = looseV k cs) (hg : o.guard = none) (hl : cs.length = 128) (h : wpStill Tryz.prog ops w Q rest (a.put o.dst (.agg cs.toArray))) : wpStill Tryz.prog ops w Q (o :: rest) a := by
  refine still_value _ (by simp [Region.wanted, hg]) ?_ h
  unfold execOp
  simp only [ho, hx, Sem.run_bind, run_field1 w k cs hl, Result.andThen_ok]
  rfl
theorem still_look (x y : Operand) (ho : o.op = .lookup 62 x y false) (M : Nat) (L : List (Nat × List UInt8)) (hH : Hung w M L) (i : Nat) (hi : i < L.length) (hx : a.eval x = .map (some M)) (hy : a.eval y = .int .i64 (i : Int)) (hg : o.guard = none)
    (h : wpStill Tryz.prog ops w Q rest (a.put o.dst (loose L[i]))) : wpStill Tryz.prog ops w Q (o :: rest) a := by
  refine still_value _ (by simp [Region.wanted, hg]) ?_ h
  unfold execOp
  simp only [ho, hx, hy, Sem.run_bind, run_look_hung hH i hi, Result.andThen_ok]
  rfl
end

/-- the disk that a crash makes, ahead of its second row -/
structure Half (w : World) (p S M cS n : Nat) (l : List UInt8) : Prop where
  head : w.heap[p]? = some (.cells #[.slice (some ⟨S, 0, none⟩) n cS, .slice none 0 0, .map (some M), .int .i64 0, .int .i64 (-1), .bool false] 64 (0, 0))
  safe : Sects w S cS n l
  map : w.heap[M]? = some (.map #[] 0)
theorem Half.keep {w w' : World} {p S M cS n : Nat} {l : List UInt8} (h : Half w p S M cS n l) (hw : ∀ k, k < w.heap.size → w'.heap[k]? = w.heap[k]?) : Half w' p S M cS n l := by
  obtain ⟨c, hc, r⟩ := h.safe
  exact ⟨(hw _ (lt_of_heap h.head)).trans h.head, ⟨c, (hw _ (lt_of_heap hc)).trans hc, r⟩, (hw _ (lt_of_heap h.map)).trans h.map⟩
theorem Half.put {w : World} {p S M cS n : Nat} {l b : List UInt8} (h : Half w p S M cS n l) (hpS : p ≠ S) (hSM : M ≠ S) (k : Nat) (hk : k < n) (hb : b.length = 128) : Half (w.setCells S (k * 128) (bv b)) p S M cS n (putS l k b) :=
  ⟨(setCells_other _ _ _ _ _ hpS).trans h.head, h.safe.put k hk hb, (setCells_other _ _ _ _ _ hSM).trans h.map⟩

set_option maxHeartbeats 8000000 in
theorem crash_any (w : World) (F : Ft) (D : Dk) (h : DkAt w F D) (v : Value) (stay : List Int) (hv : IsI w v stay) :
    Calls Tryz.prog 16 #[F.ptr, v] w fun e w' => ∃ F' : Ft, e = .returned F'.ptr ∧ DkAt w' F' (D.crash stay) ∧ F'.new w ∧ Below w.heap.size w w' := by
  obtain ⟨c0, c1, c2, c3, c4, c5⟩ := h.cells
  have hmm := fun w => run_makeMap (P := Tryz.prog) 62 w
  go_enter Tryz.func16, Tryz.ntmps16
  go_wp2_with fail
  refine (cloneS_any w F.S F.cS D.n D.safe h.safe h.ok.n1 h.ok.nm).mono ?_
  rintro e w1 ⟨S, cS, rfl, hS, hSb, hb1⟩
  obtain ⟨W2, hW2⟩ : ∃ W2, W2 = (w1.alloc (.map #[] 0)).alloc (.cells #[.slice (some ⟨S, 0, none⟩) D.n cS, .slice none 0 0, .map (some w1.heap.size), .int .i64 0, .int .i64 (-1), .bool false] 64) := ⟨_, rfl⟩
  have hsz := hb1.size
  have hb2 : Below w.heap.size w W2 := by rw [hW2]; exact (hb1.alloc hb1.size _).alloc (Nat.le_trans hb1.size (by simp)) _
  have hSlt : S < w1.heap.size := by obtain ⟨_, hc, _⟩ := hS; exact lt_of_heap hc
  have hh2 : Half W2 (w1.heap.size + 1) S w1.heap.size cS D.n (crashTo D stay 0) := by
    have q1 : W2.heap[w1.heap.size + 1]? = some (.cells #[.slice (some ⟨S, 0, none⟩) D.n cS, .slice none 0 0, .map (some w1.heap.size), .int .i64 0, .int .i64 (-1), .bool false] 64 (0, 0)) := by
      rw [hW2]; exact heap_alloc2_new _ _ _
    have q2 : W2.heap[w1.heap.size]? = some (.map #[] 0) := by rw [hW2]; exact heap_alloc2_old _ _ _
    obtain ⟨c, hc, r⟩ := hS
    exact ⟨q1, ⟨c, by rw [hW2, Below.heap_alloc _ _ _ (by simp; omega), Below.heap_alloc _ _ _ hSlt]; exact hc, r⟩, q2⟩
  have HW := Lib.hid hW2
  clear hW2 hS c0 c1 c3 c4 c5
  have hne1 : w1.heap.size + 1 ≠ S := by omega
  have hne2 : w1.heap.size ≠ S := by omega
  have hx : w.heap.size ≤ w1.heap.size + 1 := by omega
  go_upto_region 4 with fail
  rw [← HW.out]
  generalize w1.heap.size + 1 = p at *
  generalize w1.heap.size = M at *
  clear HW hb1 c2
  have h2 := h.below hb2
  have hlen := run_len_hung h2.hung 3
  obtain ⟨c0, c1, c2, c3, c4, c5⟩ := h2.cells
  have hloose := h.ok.loose
  have hopsb := h.ok.ops
  go_wp2_with fail
  clear c0 c1 c2 c3 c4 c5 hlen h2
  go_loopw [6, 22, 23, 24, 25, 26, 27, 28, 29, 30, 31, 32, 33, 34, 35, 36, 37, 38, 39, 40, 41, 42, 43, 44, 45, 46, 47] (fun _ i _ _ _ _ _ _ _ _ _ _ _ _ _ _ _ _ _ _ _ _ _ _ _ _ _ wr => ∃ k : Nat, k ≤ D.hung.length ∧ i = .int .i64 (k : Int) ∧ Half wr p S M cS D.n (crashTo D stay k) ∧ Below w.heap.size w wr) (fun _ i _ _ _ _ _ _ _ _ _ _ _ _ _ _ _ _ _ _ _ _ _ _ _ _ _ _ => D.hung.length - (intOf i).toNat)
  case atStart => exact ⟨0, Nat.zero_le _, rfl, hh2, hb2⟩
  case round =>
    obtain ⟨k, hk, rfl, hhr, hbr⟩ := hrel
    clear hh2 hb2
    by_cases hlt : k < D.hung.length
    · have hd : decide ((k : Int) < (D.hung.length : Int)) = true := by simpa using hlt
      go_wp2_with fail
      refine (contains_any wr v stay (hv.below hbr) k (by omega) (by omega)).mono ?_
      rintro e w3 ⟨rfl, rfl⟩
      by_cases hin : (k : Int) ∈ stay
      · rw [decide_eq_true hin]
        go_wp2_with fail
        refine wp_region_still_tail 19 (by kernel_rfl) (by kernel_rfl) ?_
        simp only [List.take_succ_cons, List.take_zero, List.drop_succ_cons, List.drop_zero]
        change wpStill _ _ wr.drew (fun a' => wpList _ _ _ _ a' wr.drew) _ _
        have hh3 : Half wr.drew p S M cS D.n (crashTo D stay k) := hhr.keep fun _ _ => rfl
        have hb3 := hbr.drew
        clear hhr hbr
        generalize wr.drew = W3 at *
        have h3 := h.below hb3
        obtain ⟨c0, c1, c2, c3, c4, c5⟩ := h3.cells
        have x0 : W3.cell? ⟨p, 0, none⟩ = some (.slice (some ⟨S, 0, none⟩) D.n cS) := by rw [cell_of_row _ _ _ _ _ _ hh3.head]; rfl
        obtain ⟨hxa, hxb⟩ := h.ok.hung D.hung[k] (List.getElem_mem hlt)
        have hbl : (bv D.hung[k].2).length = 128 := by rw [bv_length, hxb]
        have i0 : (0 : Int) ≤ (D.hung[k].1 : Int) := by omega
        have i1 : (D.hung[k].1 : Int) < (D.n : Int) := by omega
        have e1 : crashTo D stay (k + 1) = putS (crashTo D stay k) D.hung[k].1 D.hung[k].2 := by simp [crashTo, hin, List.getElem?_eq_getElem hlt]
        have hS3 := hh3.safe.there D.hung[k].1 hxa
        have hh4 := hh3.put hne1 hne2 D.hung[k].1 hxa hxb
        rw [← e1] at hh4
        have hb4 : Below w.heap.size w (W3.setCells S (D.hung[k].1 * 128) (bv D.hung[k].2)) := by
          obtain ⟨r1, r2, r3, r4⟩ := setCells_rest S (bv D.hung[k].2) (D.hung[k].1 * 128) W3
          exact hb3.trans ⟨r1, r2, r3, Nat.le_of_eq r4.symm, fun j hj => setCells_other _ _ _ _ _ (by omega)⟩
        have HH := Lib.hid (And.intro hh4 hb4)
        clear hh4 hb4 e1
        iterate 9 still_step
        refine still_look (.tmp 35) (.tmp 36) rfl F.M D.hung h3.hung k hlt rfl rfl rfl ?_
        simp only [Act.put, List.setIfInBounds_toArray, List.set_cons_zero, List.set_cons_succ]
        refine still_field0 (.tmp 37) rfl _ _ rfl rfl ?_
        simp only [Act.put, List.setIfInBounds_toArray, List.set_cons_zero, List.set_cons_succ]
        iterate 5 still_step
        refine still_look (.tmp 42) (.tmp 43) rfl F.M D.hung h3.hung k hlt rfl rfl rfl ?_
        simp only [Act.put, List.setIfInBounds_toArray, List.set_cons_zero, List.set_cons_succ]
        refine still_field1 (.tmp 44) rfl _ _ rfl rfl hbl ?_
        simp only [Act.put, List.setIfInBounds_toArray, List.set_cons_zero, List.set_cons_succ]
        generalize D.hung[k] = x at *
        obtain ⟨xa, xb⟩ := x
        dsimp only at *
        still_step
        refine wpStill_nil ?_
        refine wpList_store_mid rfl 95 (.tmp 46) (.tmp 45) rfl S (xa * 128) (bv xb).toArray rfl rfl (by rw [List.size_toArray, hbl]; exact hS3) (by rw [info_sector, List.size_toArray, hbl]) (all_oneCell_toArray (bv_oneCell xb)) ?_
        rw [List.toList_toArray]
        generalize W3.setCells S (xa * 128) (bv xb) = W4 at *
        clear hS3 c0 c1 c2 c3 c4 c5 x0 h3 hb3 hh3
        refine wpList_nil ?_
        go_wp2_with fail
        go_roundw
        case rel => exact ⟨k + 1, by omega, by go_num, HH.out.1, HH.out.2⟩
        case measure => simp [intOf]; omega
      · rw [decide_eq_false hin]
        have e1 : crashTo D stay (k + 1) = crashTo D stay k := by simp [crashTo, hin]
        rw [← e1] at hhr
        have HH := Lib.hid hhr
        clear hhr e1
        go_wp2_with fail
        go_roundw
        case rel => exact ⟨k + 1, by omega, by go_num, HH.out, hbr⟩
        case measure => simp [intOf]; omega
    · obtain rfl : k = D.hung.length := by omega
      have hd : decide ((D.hung.length : Int) < (D.hung.length : Int)) = false := by simp
      have x0 : wr.cell? ⟨p, 0, none⟩ = some (.slice (some ⟨S, 0, none⟩) D.n cS) := by rw [cell_of_row _ _ _ _ _ _ hhr.head]; rfl
      go_wp2_with fail
      refine (cloneS_any wr S cS D.n _ hhr.safe h.ok.n1 h.ok.nm).mono ?_
      rintro e w5 ⟨N, cN, rfl, hN, hNb, hb5⟩
      have hh5 := hhr.keep hb5.block
      have hpN : p < wr.heap.size := lt_of_heap hhr.head
      have hMN : M < wr.heap.size := lt_of_heap hhr.map
      have hSN : S < wr.heap.size := by obtain ⟨_, hc, _⟩ := hhr.safe; exact lt_of_heap hc
      have x1 : w5.cell? ⟨p, 1, none⟩ = some (.slice none 0 0) := by rw [cell_of_row _ _ _ _ _ _ hh5.head]; rfl
      have f1 := frozen_p hh5.head 1
      have hpM : p ≠ M := fun e => by
        have q := hhr.head
        rw [e, hhr.map] at q
        cases q
      have hfin : DkAt (w5.setCell ⟨p, 1, none⟩ (.slice (some ⟨N, 0, none⟩) D.n cN)) ⟨p, S, N, M, cS, cN⟩ (D.crash stay) := by
        have ho : ∀ j, j ≠ p → (w5.setCell ⟨p, 1, none⟩ (.slice (some ⟨N, 0, none⟩) D.n cN)).heap[j]? = w5.heap[j]? := fun j hj => Below.heap_setCell _ _ _ _ hj
        have q1 : p ≠ N := by omega
        have q2 : S ≠ N := by omega
        have q3 : N ≠ M := by omega
        refine ⟨⟨hne1, q1, hpM, q2, hne2.symm, q3⟩, Dk.crash_ok h.ok stay, head_setCell hh5.head _, ?_, ?_, ?_⟩
        · unfold Sects
          show ∃ cur, (w5.setCell ⟨p, 1, none⟩ (.slice (some ⟨N, 0, none⟩) D.n cN)).heap[S]? = _ ∧ _
          rw [ho S hne1.symm]
          exact hh5.safe
        · unfold Sects
          show ∃ cur, (w5.setCell ⟨p, 1, none⟩ (.slice (some ⟨N, 0, none⟩) D.n cN)).heap[N]? = _ ∧ _
          rw [ho N q1.symm]
          exact hN
        · refine ⟨[], 0, ?_, rfl, fun i hi => by simp [Dk.crash] at hi⟩
          show (w5.setCell ⟨p, 1, none⟩ (.slice (some ⟨N, 0, none⟩) D.n cN)).heap[M]? = _
          rw [ho M hpM.symm]
          exact hh5.map
      have hbf : Below w.heap.size w (w5.setCell ⟨p, 1, none⟩ (.slice (some ⟨N, 0, none⟩) D.n cN)) :=
        (hbr.trans (hb5.mono hbr.size)).setCell (p := ⟨p, 1, none⟩) hx _
      have hnew : Ft.new ⟨p, S, N, M, cS, cN⟩ w := by
        have := hbr.size
        rintro j (e | e | e | e)
        · rw [e]; exact hx
        · rw [e]; exact hSb
        · rw [e]; exact Nat.le_trans this hNb
        · rw [e]; exact hsz
      have HF := Lib.hid (And.intro hfin (And.intro hnew hbf))
      clear hfin hnew hbf hhr hh5 hN x0
      go_wp2_with fail
      go_ret
      exact ⟨⟨p, S, N, M, cS, cN⟩, rfl, HF.out⟩
end Go.Proofs.YtbmmcaoifkboiaaGreatDoor

/- PagerLasts: behind crashes a pager has all changes that were committed, and that whose Commit was under way wholly or not at all. -/
set_option linter.unusedVariables false
set_option linter.unusedSimpArgs false
set_option maxRecDepth 100000
namespace Go.Proofs.YtbmmcaoifkboiaaGreatDoor
open Go.RowKit

/-- the cells of lives[i] -/
theorem life_at8 {w : World} {a : Option Addr} {n cap : Nat} {xs : List LifeP} (h : IsRow rdLifeP w (.slice a n cap) xs) (i : Nat) (hi : i < xs.length) : ∃ b o vs vi, a = some ⟨b, o, none⟩ ∧
    w.cell? ⟨b, o + i * 3, none⟩ = some vs ∧ w.cell? ⟨b, o + i * 3 + 1, none⟩ = some (.int .i64 xs[i].cut) ∧ w.cell? ⟨b, o + i * 3 + 2, none⟩ = some vi ∧
    IsRow rdOpP w vs xs[i].script ∧ (-9223372036854775808 ≤ xs[i].cut ∧ xs[i].cut ≤ 9223372036854775807) ∧ IsI w vi xs[i].stay := by
  obtain ⟨a', cap', hv, hl, hm, hn, _, hc⟩ := h
  simp only [Value.slice.injEq] at hv
  obtain ⟨rfl, _, rfl⟩ := hv
  cases a with
  | none => have := hn rfl; omega
  | some x =>
    obtain ⟨b, o, s⟩ := x
    obtain ⟨hs, hc⟩ := hc _ rfl
    obtain rfl : s = none := hs (by omega)
    obtain ⟨cs, ⟨c0, c1, c2, he, ⟨u0, e0, g0⟩, ⟨e1, a1⟩, ⟨u2, e2, g2⟩⟩, h2⟩ := hc i hi
    simp only [List.cons.injEq, and_true] at e0 e1 e2
    subst e0 e1 e2 he
    exact ⟨b, o, c0, c2, rfl, h2 0 _ rfl, h2 1 _ rfl, h2 2 _ rfl, g0, a1, g2.isI.1⟩
/-- another disk under a pager -/
theorem PgAt.disk {w w' : World} {F : Ft} {p : Nat} {f : Pf} {P : Pg} {D : Dk} (h : PgAt w F p f P) (hd : DkAt w' F D) (ht : Turned (· = F.p) w w') (hDn : D.n = P.J.D.n) : PgAt w' F p f { P with J := { P.J with D := D } } := by
  have hj := h.jat.put_disk hd (ht.mono fun _ _ e => .inl e)
  have hT : ∀ k, PT f k → k ≠ F.p := fun k hk e => (h.apart k hk).1 (by rw [e]; exact .inl (.inl rfl))
  have hb : ∀ k, PT f k → w'.heap[k]? = w.heap[k]? := fun k hk => ht.block k (h.apart k hk).2.2 (hT k hk)
  have hn : Nib w' := h.nib.turnedD h.jat.disk (ht.mono fun _ _ e => .inl e)
  exact ⟨hj, hn, (hb _ (.inl rfl)).trans h.head, h.now.keep (hb _ (.inr (.inl rfl))), h.was.keep (hb _ (.inr (.inr (.inl rfl)))), h.tab.keep (hb _ (.inr (.inr (.inr (.inl rfl))))), h.pgs.keep fun x hx k hk => hb _ (.inr (.inr (.inr (.inr ⟨x, hx, hk⟩)))), (by obtain ⟨a1, a2, a3, a4, a5, a6, a7, a8, a9⟩ := h.ok; exact ⟨a1, a2, a3, a4, a5, a6, a7, a8, a9.trans (by show (P.J.D.blocks - 2) / 8 = (D.blocks - 2) / 8; rw [Dk.blocks, Dk.blocks, hDn])⟩), fun k hk => ⟨(h.apart k hk).1, (h.apart k hk).2.1, Nat.lt_of_lt_of_le (h.apart k hk).2.2 ht.size⟩, h.sep⟩
set_option maxHeartbeats 32000000 in
theorem lasts8_walk (w : World) (hn : Nib w) (sec_ : Int) (v : Value) (xs : List LifeP) (hv : IsRow rdLifeP w v xs) (h1 : -9223372036854775808 ≤ sec_) (h2 : sec_ ≤ 9223372036854775807) :
    Calls Tryz.prog 3 #[.int .i64 sec_, v] w fun e w' => e = .returned (.bool true) ∧ Below w.heap.size w w' := by
  obtain ⟨a, c, rfl, hc1, hc2⟩ := hv.form
  have hpk := pickN_lt sec_ (n := 300) (by omega)
  obtain ⟨n, hN⟩ : ∃ n, n = 32 + pickN sec_ 300 := ⟨_, rfl⟩
  have hn32 : 32 ≤ n := by omega
  have hn331 : n ≤ 331 := by omega
  have HV := Lib.hid hv
  have HNB := Lib.hid hn
  have HSH := Lib.hid (shown8_any w hn)
  have HN := Lib.hid hN
  obtain ⟨N, hNx⟩ : ∃ N, N = xs.length := ⟨_, rfl⟩
  rw [← hNx] at hc1 ⊢
  have HNX := Lib.hid hNx
  unfold maxLen at hc2
  clear hv hn hpk hN hNx
  go_enter Tryz.func3, Tryz.ntmps3
  go_wp2_with fail
  refine HSH.out.mono ?_
  rintro e w1 ⟨rfl, hb1⟩
  have HBG := Lib.hid (begun8_any w1 (HNB.out.below hb1) sec_ h1 h2)
  have HB1 := Lib.hid hb1
  clear hb1
  go_wp2_with fail
  refine HBG.out.mono ?_
  rintro e w2 ⟨F, p, f, g, P, R, rfl, hls, hb8⟩
  rw [← HN.out] at hb8
  have hst := hb8.st hn331
  have HST : Hid (StC n 0 P R) := Lib.hid ⟨hst.sim, hst.last, hst.ops⟩
  have HLS := Lib.hid hls
  clear hls hb8 hst HBG HSH
  go_wp2_with fail
  go_loopw [6, 8, 9, 10] (fun y6 y8 y9 y wr => ∃ (i : Nat) (F : Ft) (p : Nat) (f : Pf) (P : Pg) (g : Rf) (R : Rp), i ≤ N ∧ i ≤ 5 ∧ y = .int .i64 (i : Int) ∧ y6 = F.ptr ∧ y8 = qptr f.q ∧ y9 = qptr g.q ∧ LS w1 wr F p f P g R ∧ StC n (61 * i) P R) (fun _ _ _ y _ => N - (intOf y).toNat)
  case atStart => exact ⟨0, F, p, f, P, g, R, Nat.zero_le _, Nat.zero_le _, rfl, rfl, rfl, rfl, HLS.out, HST.out⟩
  case round =>
    clear HST HLS
    obtain ⟨i, F, p, f, P, g, R, hi, hi5, rfl, rfl, rfl, rfl, hls, hst⟩ := hrel
    rcases (show (i < N ∧ i < 5) ∨ (¬ i < N) ∨ (i < N ∧ ¬ i < 5) by omega) with ⟨hlt, hlt5⟩ | hlt | ⟨hlt, hlt5⟩
    rotate_left
    · have hd1 : decide ((i : Int) < (N : Int)) = false := decide_eq_false (by omega)
      have HB9 := Lib.hid (HB1.out.trans (hls.below.mono HB1.out.size))
      clear hls hst
      go_wp2_with fail
      go_ret
      exact ⟨rfl, HB9.out⟩
    · have hd1 : decide ((i : Int) < (N : Int)) = true := decide_eq_true (by omega)
      have hd2 : decide ((i : Int) < 5) = false := decide_eq_false (by omega)
      have HB9 := Lib.hid (HB1.out.trans (hls.below.mono HB1.out.size))
      clear hls hst
      go_wp2_with fail
      go_ret
      exact ⟨rfl, HB9.out⟩
    have hd1 : decide ((i : Int) < (N : Int)) = true := decide_eq_true (by omega)
    have hd2 : decide ((i : Int) < 5) = true := decide_eq_true (by omega)
    obtain ⟨bs_, os_, vs, vi, rfl, s0, s1, s2, hsc, ⟨b1, b2⟩, hst_⟩ := life_at8 HV.out i (by rw [← HNX.out]; exact hlt)
    generalize (xs[i]'(by rw [← HNX.out]; exact hlt)).script = scr at *
    generalize (xs[i]'(by rw [← HNX.out]; exact hlt)).cut = cut at *
    generalize (xs[i]'(by rw [← HNX.out]; exact hlt)).stay = stay at *
    obtain ⟨as_, cs_, hvs, hcs1, hcs2⟩ := hsc.form
    obtain ⟨ai_, ci_, hvi, _, _⟩ := hst_.form
    subst hvs hvi
    unfold maxLen at hcs2
    obtain ⟨M, hM⟩ : ∃ M, M = scr.length := ⟨_, rfl⟩
    rw [← hM] at s0 hcs1
    have HM := Lib.hid hM
    have HSC := Lib.hid hsc
    have HSY := Lib.hid hst_
    have HC0 := Lib.hid s0
    have HC1 := Lib.hid s1
    have HC2 := Lib.hid s2
    have HB := Lib.hid (HB1.out.trans (hls.below.mono HB1.out.size))
    have HLS := Lib.hid (hls.step (Below.refl wr.heap.size wr).drew)
    have HST := Lib.hid hst
    have hS0 : (fun W : World => W.cell? ⟨bs_, os_ + i * 3 + 1, none⟩ = some (.int .i64 cut)) wr.drew := cells_below HB.out _ _ s1
    have hops : P.J.D.ops ≤ 1048576 := by obtain ⟨_, _, hs, _⟩ := hst.sim; exact hs.live.dok.ops
    have HO := Lib.hid (ops_any wr.drew F P.J.D HLS.out.pg.jat.disk)
    have HP := Lib.hid (pick_any wr.drew cut 600 b1 b2 (by omega) (by omega))
    have hpl := pickN_lt cut (n := 600) (by omega)
    generalize pickN cut 600 = pk at *
    have HC := Lib.hid (cutAt_any wr.drew F P.J.D HLS.out.pg.jat.disk ((P.J.D.ops : Int) + (pk : Int)) (by omega) (by omega))
    have hwp : IntKind.i64.wrap ((P.J.D.ops : Int) + (pk : Int)) = (P.J.D.ops : Int) + (pk : Int) := IntWalk.i64_in _ (by omega)
    have HS3 := Lib.hid (hst.cutAt ((P.J.D.ops : Int) + (pk : Int)) (by omega) (by omega))
    clear hls hst hM hsc hst_ s0 s1 s2
    go_upto_region 8 with fail
    refine wp_region_noPanic ?_
    refine wp_region_held_drew (S := (fun W : World => W.cell? ⟨bs_, os_ + i * 3 + 1, none⟩ = some (.int .i64 cut))) (by kernel_rfl) hS0 (fun hH => ?_)
    refine take_at (i := 0) (v := ?_) rfl (by kernel_rfl) (by kernel_rfl) (by kernel_rfl) (fun _ _ _ h => h) (Or.inl ⟨by rfl, ?_⟩) hH ?_
    rotate_left
    · (intro w hSw; have q0 := hSw; go_simp; try with_reducible rfl)
    try simp only [Act.put, List.setIfInBounds_toArray, List.set_cons_zero, List.set_cons_succ]
    refine take_at (i := 1) (v := ?_) rfl (by kernel_rfl) (by kernel_rfl) (by kernel_rfl) (fun _ _ _ h => h) (Or.inl ⟨by rfl, ?_⟩) hH ?_
    rotate_left
    · (intro w hSw; have q0 := hSw; go_simp; try with_reducible rfl)
    try simp only [Act.put, List.setIfInBounds_toArray, List.set_cons_zero, List.set_cons_succ]
    refine take_at (i := 3) (v := ?_) rfl (by kernel_rfl) (by kernel_rfl) (by kernel_rfl) (fun _ _ _ h => h) (Or.inl ⟨by rfl, ?_⟩) hH ?_
    rotate_left
    · (intro w hSw; have q0 := hSw; go_simp; try with_reducible rfl)
    try simp only [Act.put, List.setIfInBounds_toArray, List.set_cons_zero, List.set_cons_succ]
    refine take_at (i := 4) (v := ?_) rfl (by kernel_rfl) (by kernel_rfl) (by kernel_rfl) (fun _ _ _ h => h) (Or.inl ⟨by rfl, ?_⟩) hH ?_
    rotate_left
    · (intro w hSw; have q0 := hSw; go_simp; try with_reducible rfl)
    try simp only [Act.put, List.setIfInBounds_toArray, List.set_cons_zero, List.set_cons_succ]
    refine take_at (i := 5) (v := ?_) rfl (by kernel_rfl) (by kernel_rfl) (by kernel_rfl) (fun _ _ _ h => h) (Or.inl ⟨by rfl, ?_⟩) hH ?_
    rotate_left
    · (intro w hSw; have q0 := hSw; go_simp; try with_reducible rfl)
    try simp only [Act.put, List.setIfInBounds_toArray, List.set_cons_zero, List.set_cons_succ]
    refine take_at (i := 6) (v := ?_) rfl (by kernel_rfl) (by kernel_rfl) (by kernel_rfl) (fun _ _ _ h => h) (Or.inl ⟨by rfl, ?_⟩) hH ?_
    rotate_left
    · (intro w hSw; have q0 := hSw; go_simp; try with_reducible rfl)
    try simp only [Act.put, List.setIfInBounds_toArray, List.set_cons_zero, List.set_cons_succ]
    refine take_at (i := 7) (v := ?_) rfl (by kernel_rfl) (by kernel_rfl) (by kernel_rfl) (fun _ _ _ h => h) (Or.inl ⟨by rfl, ?_⟩) hH ?_
    rotate_left
    · (intro w hSw; have q0 := hSw; go_simp; try with_reducible rfl)
    try simp only [Act.put, List.setIfInBounds_toArray, List.set_cons_zero, List.set_cons_succ]
    refine wpAnyH_ready (rs := [2]) (by kernel_rfl) (by simp) ?_
    refine ready_at rfl (fun K hK => ?_) AllReadyH.nil
    go_simp
    refine HO.out.mono ?_
    rintro e w' ⟨rfl, rfl⟩
    go_wp2_with fail
    refine hK.out _ _ hH (fun _ => ?_)
    clear hK K
    try simp only [Act.put, List.setIfInBounds_toArray, List.set_cons_zero, List.set_cons_succ]
    refine wpAnyH_ready (rs := [8]) (by kernel_rfl) (by simp) ?_
    refine ready_at rfl (fun K hK => ?_) AllReadyH.nil
    go_simp
    refine HP.out.mono ?_
    rintro e w' ⟨rfl, rfl⟩
    go_wp2_with fail
    refine hK.out _ _ hH (fun _ => ?_)
    clear hK K
    try simp only [Act.put, List.setIfInBounds_toArray, List.set_cons_zero, List.set_cons_succ]
    refine take_at (i := 9) (v := ?_) rfl (by kernel_rfl) (by kernel_rfl) (by kernel_rfl) (fun _ _ _ h => h) (Or.inl ⟨by rfl, ?_⟩) hH ?_
    rotate_left
    · (intro w hSw; have q0 := hSw; go_simp; try with_reducible rfl)
    try simp only [Act.put, List.setIfInBounds_toArray, List.set_cons_zero, List.set_cons_succ]
    refine wpAnyH_ready (rs := [10]) (by kernel_rfl) (by simp) ?_
    refine ready_at rfl (fun K hK => ?_) AllReadyH.nil
    go_simp
    refine HC.out.mono ?_
    rintro e W3 ⟨rfl, d3, t3⟩
    have hHn : W3.cell? ⟨bs_, os_ + i * 3 + 1, none⟩ = some (.int .i64 cut) := cells_below ((HB1.out.trans ((HLS.out.below.trans (t3.below HLS.out.below.size fun k hk => HLS.out.own k (by rw [hk]; exact .inl (.inl (.inl (.inl rfl)))))).mono HB1.out.size))) _ _ HC1.out
    have hp3 := PgAt.disk HLS.out.pg d3 t3 rfl
    have hl3 := HLS.out.stepT hp3 (fun k hk => .inl hk) (t3.mono fun _ _ e => .inl (.inl (.inl e)))
    have HL3 := Lib.hid hl3
    clear d3 t3 hp3 hl3 hH
    go_wp2_with fail
    refine hK.out _ _ hHn (fun hH => ?_)
    clear hHn
    clear hK K
    try simp only [Act.put, List.setIfInBounds_toArray, List.set_cons_zero, List.set_cons_succ]
    refine wpAnyH_done (by kernel_rfl) ?_ _
    refine NoPanic.normal ?_
    clear hH hS0 HO HP HC hwp
    generalize ({ P with J := { P.J with D := { P.J.D with cut := (P.J.D.ops : Int) + (pk : Int), off := false } } } : Pg) = P3 at *
    have HRC := Lib.hid (rall8_any W3 HL3.out.rf)
    clear hops hpl HLS HST HB
    go_wp2_with fail
    refine HRC.out.mono ?_
    rintro e w4 ⟨g4, rfl, r4, x4, y4, hb4⟩
    have hlt4 := HL3.out.copied r4 x4 y4 hb4
    have HLT := Lib.hid hlt4
    obtain ⟨NP, hNP⟩ : ∃ NP, NP = ((n - 2) / 2 - 2) / 8 := ⟨_, rfl⟩
    have hNP20 : NP ≤ 20 := by omega
    have HNP := Lib.hid hNP
    have hrl : R.pages.length = NP := by rw [hNP]; exact (HS3.out.len hn331).2
    have HRL := Lib.hid hrl
    obtain ⟨fq, hfq⟩ : ∃ q, q = f.q := ⟨_, rfl⟩
    obtain ⟨gq, hgq⟩ : ∃ q, q = g.q := ⟨_, rfl⟩
    rw [← hfq, ← hgq]
    have HFQ := Lib.hid hfq.symm
    have HGQ := Lib.hid hgq.symm
    clear hNP hrl r4 x4 y4 hb4 hlt4 HRC HL3 hfq hgq
    go_wp2_with fail
    go_loopw [11, 12] (fun y11 y wr => ∃ (k : Nat) (f : Pf) (P : Pg) (g : Rf) (R : Rp) (g2 : Rf) (T : Rp), k ≤ M ∧ k ≤ 60 ∧ y = .int .i64 (k : Int) ∧ y11 = qptr g2.q ∧ f.q = fq ∧ g.q = gq ∧ LT w1 wr F p f P g R g2 T ∧ StC n (61 * i + k) P R ∧ R.pages.length = NP ∧ T.pages.length = NP) (fun _ y _ => M - (intOf y).toNat)
    case atStart => exact ⟨0, f, P3, g, R, g4, R, Nat.zero_le _, Nat.zero_le _, rfl, rfl, HFQ.out, HGQ.out, HLT.out, HS3.out, HRL.out, HRL.out⟩
    case round =>
      clear HLT HS3 HRL HFQ HGQ
      obtain ⟨k, f, P, g, R, g2, T, hk, hk60, rfl, rfl, hfq, hgq, hlt_, hst, hrl, htl⟩ := hrel
      have HB := Lib.hid (HB1.out.trans (hlt_.ls.below.mono HB1.out.size))
      have z0 := cells_below HB.out _ _ HC0.out
      rcases (show (k < M ∧ k < 60) ∨ (¬ k < M) ∨ (k < M ∧ ¬ k < 60) by omega) with ⟨hkM, hk6⟩ | hkM | ⟨hkM, hk6⟩
      · have hd3 : decide ((k : Int) < (M : Int)) = true := decide_eq_true (by omega)
        have hd4 : decide ((k : Int) < 60) = true := decide_eq_true (by omega)
        obtain ⟨ga, o, hae, k0, k1, k2, ⟨b1, b2⟩, ⟨b3, b4⟩⟩ := op_at8 (HSC.out.below HB.out) k (by rw [← HM.out]; exact hkM)
        subst hae
        generalize (scr[k]'(by rw [← HM.out]; exact hkM)).kind = kind at *
        generalize (scr[k]'(by rw [← HM.out]; exact hkM)).page = page at *
        generalize (scr[k]'(by rw [← HM.out]; exact hkM)).by_ = y at *
        have HPO := Lib.hid (fun W => pick_any W kind 10 b1 b2 (by omega) (by omega))
        have hpl := pickN_lt kind (n := 10) (by omega)
        generalize pickN kind 10 = K at *
        have HLT := Lib.hid hlt_
        have HST := Lib.hid hst
        have HRL := Lib.hid (And.intro hrl htl)
        have HGQ := Lib.hid hgq
        have HFQ := Lib.hid hfq
        clear hlt_ hst hrl htl hgq hfq
        obtain ⟨w3, hw3⟩ : ∃ x, x = wr.alloc (opRow8 kind page y) := ⟨_, rfl⟩
        have hb3 : Below wr.heap.size wr w3 := by rw [hw3]; exact (Below.refl _ _).alloc (Nat.le_refl _) _
        have ho3 : w3.heap[wr.heap.size]? = some (opRow8 kind page y) := by rw [hw3]; exact heap_alloc_new wr _
        have HW3 := Lib.hid hw3
        have hl3 := HLT.out.step hb3
        obtain ⟨d0, d1, d2⟩ := op_cells8 ho3
        rw [hw3] at d0 d1 d2
        clear hw3 hb3
        have hcases : K = 7 ∨ K = 8 ∨ (K ≠ 7 ∧ K ≠ 8) := by omega
        go_wp2_with fail
        rw [← HW3.out]
        refine (HPO.out w3).mono ?_
        rintro e w9 ⟨rfl, hw9⟩
        rw [← hw9]
        clear hw9 w9 d0 d1 d2
        have f0 := frozen_p ho3 0
        have ho4 := head_setCell ho3 (i := 0) (.int .i64 (K : Int))
        have t4 := turned_one w3 wr.heap.size 0 (.int .i64 (K : Int))
        have HL4 := Lib.hid (hl3.other t4 (fun k hk => by have := HLT.out.ls.below.size; omega) (fun k hk => ⟨fun e => by have := HLT.out.ls.lt (.inl e); omega, fun e => by have := HLT.out.ls.lt (.inr e); omega, fun e => by have := HLT.out.t.lt k e; omega⟩))
        obtain ⟨e0, e1, e2⟩ := op_cells8 ho3
        clear ho4 t4 hl3
        rcases hcases with hK | hK | ⟨hK7, hK8⟩
        rotate_left 2
        · have hk7 : ((K : Int) == 7) = false := by rw [beq_eq_false_iff_ne]; omega
          have hk8 : ((K : Int) == 8) = false := by rw [beq_eq_false_iff_ne]; omega
          have hdo := does8c_any HL4.out.y HST.out (by omega) hn32 hn331 (K : Int) page y (by omega) (by omega) (by omega) (by omega) b3 b4
          rw [HGQ.out, HFQ.out] at hdo
          have HDO := Lib.hid hdo
          clear hdo
          go_wp2_with fail
          refine HDO.out.mono ?_
          rintro e w5 ⟨rfl, f5, g5, P5, R5, q5, r5, l5, s5⟩
          have HL5 := Lib.hid (HL4.out.back l5)
          have HS5 := Lib.hid s5
          have HR5 : Hid (R5.pages.length = NP) := Lib.hid (by rw [HNP.out]; exact (s5.len hn331).2)
          have HQ5 := Lib.hid (q5.trans HFQ.out)
          have HG5 := Lib.hid (r5.trans HGQ.out)
          clear l5 s5 q5 r5
          go_wp2_with fail
          go_roundw
          case rel => exact ⟨k + 1, f5, P5, g5, R5, g2, T, hkM, hk6, by go_num, rfl, HQ5.out, HG5.out, HL5.out, HS5.out, HR5.out, HRL.out.2⟩
          case measure => simp [intOf]; omega
        all_goals
          subst hK
          obtain ⟨sq, Bq, hsim, hsq1, hsq2⟩ := HST.out.sim
          have hjs := hsim.live.hseq
          have hlst := HST.out.last
          have hcm := commit_any HL4.out.ls.pg (by omega) (by omega) (by omega)
          have hcc := HST.out.commit (by omega) hn331 (by omega)
          clear hsim hjs hlst hsq1 hsq2
          rcases hcc with ⟨ec, st5⟩ | ⟨ec, eo, nr5⟩
          · rw [ec, HFQ.out] at hcm
            have HCM := Lib.hid hcm
            have HS5 := Lib.hid st5
            clear hcm ec st5
            go_wp2_with fail
            refine HCM.out.mono ?_
            rintro e w5 ⟨rfl, f5, a5, q5, c5, d5⟩
            have hl5 := HL4.out.stepT a5 c5 d5
            have hrc := rcommit8_any hl5.ls.rf
            rw [HGQ.out] at hrc
            have HRC := Lib.hid hrc
            have HL5 := Lib.hid hl5
            have HQ5 := Lib.hid (q5.trans HFQ.out)
            clear a5 q5 c5 d5 hl5 hrc HCM
            go_wp2_with fail
            refine HRC.out.mono ?_
            rintro e w6 ⟨rfl, ht6⟩
            obtain ⟨g6, l6, q6⟩ := HL5.out.stepR ht6
            have HL6 := Lib.hid l6
            have HG6 := Lib.hid (q6.trans HGQ.out)
            clear ht6 l6 q6 HRC
            go_wp2_with fail
            go_roundw
            case rel => exact ⟨k + 1, f5, _, g6, R.commit, g2, T, hkM, hk6, by go_num, rfl, HQ5.out, HG6.out, HL6.out, HS5.out, HRL.out.1, HRL.out.2⟩
            case measure => simp [intOf]; omega
          · rw [ec, HFQ.out] at hcm
            have HCM := Lib.hid hcm
            have HEO := Lib.hid eo
            have HNR := Lib.hid (nr5.mono (k := 61 * i + 61) (by omega) (by omega))
            clear hcm ec eo nr5
            go_wp2_with fail
            refine HCM.out.mono ?_
            rintro e w5 ⟨rfl, f5, a5, q5, c5, d5⟩
            have hl5 := HL4.out.stepT a5 c5 d5
            have hrc := rall8_any w5 hl5.ls.rf
            rw [HGQ.out] at hrc
            have HRC := Lib.hid hrc
            have HL5 := Lib.hid hl5
            have HQ5 := Lib.hid (q5.trans HFQ.out)
            clear a5 q5 c5 d5 hl5 hrc HCM
            go_wp2_with fail
            refine HRC.out.mono ?_
            rintro e w6 ⟨g6, rfl, r6, x6, y6, hb6⟩
            have hl6 := HL5.out.ls.copied r6 x6 y6 hb6
            obtain ⟨tq, htq⟩ : ∃ q, q = g6.q := ⟨_, rfl⟩
            have hrt := rcommit8_any hl6.t
            rw [← htq] at hrt ⊢
            have HRT := Lib.hid hrt
            have HL6 := Lib.hid hl6
            have HT6 := Lib.hid htq.symm
            clear r6 x6 y6 hb6 hl6 hrt htq HRC
            go_wp2_with fail
            refine HRT.out.mono ?_
            rintro e w7 ⟨rfl, ht7⟩
            obtain ⟨g7, l7, q7⟩ := HL6.out.stepS ht7
            have hal := alloc_any l7.ls.pg
            rw [alloc_off HEO.out, HQ5.out] at hal
            have HAL := Lib.hid hal
            have HL7 := Lib.hid l7
            have HTQ := Lib.hid (q7.trans HT6.out)
            clear ht7 l7 q7 hal HRT
            go_wp2_with fail
            refine HAL.out.mono ?_
            rintro e w8 ⟨rfl, f8, a8, q8, c8, d8⟩
            have hl8 := HL7.out.stepT a8 c8 d8
            have hrd := pread_any hl8.ls.pg 0 (by omega) (by omega)
            rw [read_off8 HEO.out, q8, HQ5.out] at hrd
            have HRD := Lib.hid hrd
            have HL8 := Lib.hid hl8
            have HQ8 := Lib.hid (q8.trans HQ5.out)
            clear a8 q8 c8 d8 hl8 hrd HAL
            go_wp2_with fail
            refine HRD.out.mono ?_
            rintro e w9 ⟨u9, rfl, hm9, p9, t9⟩
            obtain ⟨ua, uc, hue, _, _⟩ := hm9.isB.form
            subst hue
            have HLT := Lib.hid (HL8.out.read p9 t9)
            have HFQ := Lib.hid HQ8.out
            have HRL : Hid (R.pages.length = NP ∧ R.commit.pages.length = NP) := Lib.hid ⟨HRL.out.1, HRL.out.1⟩
            clear hm9 p9 t9 HRD HL8 HL7 HL6 HL5 HL4 HST HQ5 HQ8 HT6
            generalize P.commit.2 = PC at *
            generalize R.commit = T at *
            have hra := rabort8_any HLT.out.ls.rf
            rw [HGQ.out] at hra
            have HRA := Lib.hid hra
            clear hra
            go_wp2_with fail
            refine HRA.out.mono ?_
            rintro e u1 ⟨rfl, ht1⟩
            obtain ⟨ga1, l1, q1⟩ := HLT.out.stepR ht1
            have hta := rabort8_any l1.t
            rw [HTQ.out] at hta
            have HTA := Lib.hid hta
            have HL1 := Lib.hid l1
            have HG1 := Lib.hid (q1.trans HGQ.out)
            clear ht1 l1 q1 hta HRA
            go_wp2_with fail
            refine HTA.out.mono ?_
            rintro e u2 ⟨rfl, ht2⟩
            obtain ⟨gb1, l2, q2⟩ := HL1.out.stepS ht2
            have HBu := Lib.hid (HB1.out.trans (l2.ls.below.mono HB1.out.size))
            have z2 := cells_below HBu.out _ _ HC2.out
            have HCR := Lib.hid (crash_any u2 F _ l2.ls.pg.jat.disk _ stay (HSY.out.below HBu.out))
            have HL2 := Lib.hid l2
            have HG2 := Lib.hid (q2.trans HTQ.out)
            clear ht2 l2 q2 HTA HL1
            go_wp2_with fail
            refine HCR.out.mono ?_
            rintro e u3 ⟨F3, rfl, d3, n3, hb3⟩
            obtain ⟨Z, hZ, hZl, hZc⟩ : ∃ Z, Lies n (61 * i + 61) Z (PC.J.D.crash stay) ∧ Z.pages.length = NP ∧ (Z = R ∨ Z = T) := by
              rcases HNR.out.img stay with h | h
              · exact ⟨R, h, HRL.out.1, .inl rfl⟩
              · exact ⟨T, h, HRL.out.2, .inr rfl⟩
            obtain ⟨J, P', o1, o2, o3, o4, st9⟩ := hZ.open (by omega) (by omega) hn331
            have db3 : DB u2.heap.size u2 u3 F3 (PC.J.D.crash stay) := ⟨d3, HL2.out.ls.pg.nib.below hb3, hb3, n3, hb3.size⟩
            have HO3 := Lib.hid (open_good u3 F3 _ db3.dat db3.nib o1)
            have HD3 := Lib.hid db3
            have HZC := Lib.hid hZc
            have HO2 := Lib.hid o2
            have HO4 := Lib.hid (And.intro o3 o4)
            have HS9 := Lib.hid st9
            clear d3 n3 hb3 hZ hZl hZc o1 o2 o3 o4 st9 db3 HCR z2
            go_wp2_with fail
            refine HO3.out.mono ?_
            rintro e u4 ⟨p4, rfl, j4, hp4, t4⟩
            have jb4 := JB.of HD3.out j4 hp4 t4
            have HPO4 := Lib.hid (popen_any u4 F3 p4 J jb4.jat jb4.nib (by rw [HO4.out.2]; omega))
            have HJ4 := Lib.hid jb4
            clear j4 hp4 t4 jb4 HO3 HD3
            go_wp2_with fail
            refine HPO4.out.mono ?_
            rintro e u5 ⟨_, hsome, t5⟩
            obtain ⟨f5, rfl, hpg, hpf⟩ := hsome _ _ _ HO2.out
            have jb5 := HJ4.out.turn (by have := hpg.jat; rw [HO4.out.1] at this; exact this) t5
            have HL5 := Lib.hid (HL2.out.reborn hpg (fun k hk => hk.elim (fun e => jb5.own k e) fun e => Nat.le_trans HJ4.out.base (hpf k e)) jb5.below)
            obtain ⟨sq, Bq, hsim, _⟩ := HS9.out.sim
            have HSIM := Lib.hid hsim
            have hlz : Z.abort.pages.length = R.abort.pages.length := by
              have h1 := (HS9.out.len hn331).2
              have h2 : R.abort.pages.length = R.was.length := rfl
              have h3 := HLT.out.ls.rf.nw
              have h4 := HRL.out.1
              have h5 := HNP.out
              omega
            have hhs := has8_some w1 u5 u5 HL5.out.y hsim hlz
            rw [HG1.out] at hhs
            have HHS := Lib.hid hhs
            clear hsome hpg hpf t5 jb5 hsim hlz hhs HPO4 HJ4 HL2 HLT HRL HNR
            go_wp2_with fail
            refine HHS.out.mono ?_
            rintro e u6 ⟨b, rfl, hb, y6⟩
            have HL6 := Lib.hid (HL5.out.back y6)
            cases b with
            | true =>
              have hz := hb.1 rfl
              have HST6 : Hid (StC n (61 * (i + 1)) P' R.abort) := Lib.hid (by
                have h := HS9.out
                rw [abort_same hz.1 hz.2] at h
                exact h.mono (by omega))
              clear hz hb y6
              go_wp2_with fail
              go_roundw
              case rel => exact ⟨i + 1, F3, p4, f5, P', ga1, R.abort, hlt, hlt5, by go_num, rfl, rfl, by rw [HG1.out], HL6.out.ls, HST6.out⟩
              case measure => simp [intOf]; omega
            | false =>
              have hzt : Z = T := by
                rcases HZC.out with e | e
                · have := hb.2 ⟨by rw [e], by rw [e]⟩
                  cases this
                · exact e
              have HST6 : Hid (StC n (61 * (i + 1)) P' T.abort) := Lib.hid (by
                have h := HS9.out
                rw [hzt] at h
                exact h.mono (by omega))
              have hsm := HSIM.out
              rw [hzt] at hsm
              have hh2 := has8_some w1 u6 u6 HL6.out.swap.plain hsm rfl
              rw [HG2.out] at hh2
              have HH2 := Lib.hid hh2
              clear hzt hsm hh2 hb y6 HHS
              go_wp2_with fail
              refine HH2.out.mono ?_
              rintro e u7 ⟨b2, rfl, hb2, y7⟩
              obtain rfl : b2 = true := hb2.2 ⟨rfl, rfl⟩
              have HL7 := Lib.hid y7.ls
              clear hb2 y7
              go_wp2_with fail
              go_roundw
              case rel => exact ⟨i + 1, F3, p4, f5, P', gb1, T.abort, hlt, hlt5, by go_num, rfl, rfl, by rw [HG2.out], HL7.out, HST6.out⟩
              case measure => simp [intOf]; omega
      · have hd3 : decide ((k : Int) < (M : Int)) = false := decide_eq_false (by omega)
        have hnr := (hst.near (by omega) T).mono (k := 61 * i + 61) (by omega) (by omega)
        have HLT := Lib.hid hlt_
        have HNR := Lib.hid hnr
        have HRL := Lib.hid (And.intro hrl htl)
        have HFQ := Lib.hid hfq
        have HGQ := Lib.hid hgq
        obtain ⟨tq, htq⟩ : ∃ q, q = g2.q := ⟨_, rfl⟩
        have HTQ := Lib.hid htq.symm
        rw [← htq]
        clear hlt_ hst hrl htl hnr hfq hgq htq
        have hra := rabort8_any HLT.out.ls.rf
        rw [HGQ.out] at hra
        have HRA := Lib.hid hra
        clear hra
        go_wp2_with fail
        refine HRA.out.mono ?_
        rintro e u1 ⟨rfl, ht1⟩
        obtain ⟨ga1, l1, q1⟩ := HLT.out.stepR ht1
        have hta := rabort8_any l1.t
        rw [HTQ.out] at hta
        have HTA := Lib.hid hta
        have HL1 := Lib.hid l1
        have HG1 := Lib.hid (q1.trans HGQ.out)
        clear ht1 l1 q1 hta HRA
        go_wp2_with fail
        refine HTA.out.mono ?_
        rintro e u2 ⟨rfl, ht2⟩
        obtain ⟨gb1, l2, q2⟩ := HL1.out.stepS ht2
        have HBu := Lib.hid (HB1.out.trans (l2.ls.below.mono HB1.out.size))
        have z2 := cells_below HBu.out _ _ HC2.out
        have HCR := Lib.hid (crash_any u2 F _ l2.ls.pg.jat.disk _ stay (HSY.out.below HBu.out))
        have HL2 := Lib.hid l2
        have HG2 := Lib.hid (q2.trans HTQ.out)
        clear ht2 l2 q2 HTA HL1
        go_wp2_with fail
        refine HCR.out.mono ?_
        rintro e u3 ⟨F3, rfl, d3, n3, hb3⟩
        obtain ⟨Z, hZ, hZl, hZc⟩ : ∃ Z, Lies n (61 * i + 61) Z (P.J.D.crash stay) ∧ Z.pages.length = NP ∧ (Z = R ∨ Z = T) := by
          rcases HNR.out.img stay with h | h
          · exact ⟨R, h, HRL.out.1, .inl rfl⟩
          · exact ⟨T, h, HRL.out.2, .inr rfl⟩
        obtain ⟨J, P', o1, o2, o3, o4, st9⟩ := hZ.open (by omega) (by omega) hn331
        have db3 : DB u2.heap.size u2 u3 F3 (P.J.D.crash stay) := ⟨d3, HL2.out.ls.pg.nib.below hb3, hb3, n3, hb3.size⟩
        have HO3 := Lib.hid (open_good u3 F3 _ db3.dat db3.nib o1)
        have HD3 := Lib.hid db3
        have HZC := Lib.hid hZc
        have HO2 := Lib.hid o2
        have HO4 := Lib.hid (And.intro o3 o4)
        have HS9 := Lib.hid st9
        clear d3 n3 hb3 hZ hZl hZc o1 o2 o3 o4 st9 db3 HCR z2
        go_wp2_with fail
        refine HO3.out.mono ?_
        rintro e u4 ⟨p4, rfl, j4, hp4, t4⟩
        have jb4 := JB.of HD3.out j4 hp4 t4
        have HPO4 := Lib.hid (popen_any u4 F3 p4 J jb4.jat jb4.nib (by rw [HO4.out.2]; omega))
        have HJ4 := Lib.hid jb4
        clear j4 hp4 t4 jb4 HO3 HD3
        go_wp2_with fail
        refine HPO4.out.mono ?_
        rintro e u5 ⟨_, hsome, t5⟩
        obtain ⟨f5, rfl, hpg, hpf⟩ := hsome _ _ _ HO2.out
        have jb5 := HJ4.out.turn (by have := hpg.jat; rw [HO4.out.1] at this; exact this) t5
        have HL5 := Lib.hid (HL2.out.reborn hpg (fun k hk => hk.elim (fun e => jb5.own k e) fun e => Nat.le_trans HJ4.out.base (hpf k e)) jb5.below)
        obtain ⟨sq, Bq, hsim, _⟩ := HS9.out.sim
        have HSIM := Lib.hid hsim
        have hlz : Z.abort.pages.length = R.abort.pages.length := by
          have h1 := (HS9.out.len hn331).2
          have h2 : R.abort.pages.length = R.was.length := rfl
          have h3 := HLT.out.ls.rf.nw
          have h4 := HRL.out.1
          have h5 := HNP.out
          omega
        have hhs := has8_some w1 u5 u5 HL5.out.y hsim hlz
        rw [HG1.out] at hhs
        have HHS := Lib.hid hhs
        clear hsome hpg hpf t5 jb5 hsim hlz hhs HPO4 HJ4 HL2 HLT HRL HNR
        go_wp2_with fail
        refine HHS.out.mono ?_
        rintro e u6 ⟨b, rfl, hb, y6⟩
        have HL6 := Lib.hid (HL5.out.back y6)
        cases b with
        | true =>
          have hz := hb.1 rfl
          have HST6 : Hid (StC n (61 * (i + 1)) P' R.abort) := Lib.hid (by
            have h := HS9.out
            rw [abort_same hz.1 hz.2] at h
            exact h.mono (by omega))
          clear hz hb y6
          go_wp2_with fail
          go_roundw
          case rel => exact ⟨i + 1, F3, p4, f5, P', ga1, R.abort, hlt, hlt5, by go_num, rfl, rfl, by rw [HG1.out], HL6.out.ls, HST6.out⟩
          case measure => simp [intOf]; omega
        | false =>
          have hzt : Z = T := by
            rcases HZC.out with e | e
            · have := hb.2 ⟨by rw [e], by rw [e]⟩
              cases this
            · exact e
          have HST6 : Hid (StC n (61 * (i + 1)) P' T.abort) := Lib.hid (by
            have h := HS9.out
            rw [hzt] at h
            exact h.mono (by omega))
          have hsm := HSIM.out
          rw [hzt] at hsm
          have hh2 := has8_some w1 u6 u6 HL6.out.swap.plain hsm rfl
          rw [HG2.out] at hh2
          have HH2 := Lib.hid hh2
          clear hzt hsm hh2 hb y6 HHS
          go_wp2_with fail
          refine HH2.out.mono ?_
          rintro e u7 ⟨b2, rfl, hb2, y7⟩
          obtain rfl : b2 = true := hb2.2 ⟨rfl, rfl⟩
          have HL7 := Lib.hid y7.ls
          clear hb2 y7
          go_wp2_with fail
          go_roundw
          case rel => exact ⟨i + 1, F3, p4, f5, P', gb1, T.abort, hlt, hlt5, by go_num, rfl, rfl, by rw [HG2.out], HL7.out, HST6.out⟩
          case measure => simp [intOf]; omega
      · have hd3 : decide ((k : Int) < (M : Int)) = true := decide_eq_true (by omega)
        have hd4 : decide ((k : Int) < 60) = false := decide_eq_false (by omega)
        have hnr := (hst.near (by omega) T).mono (k := 61 * i + 61) (by omega) (by omega)
        have HLT := Lib.hid hlt_
        have HNR := Lib.hid hnr
        have HRL := Lib.hid (And.intro hrl htl)
        have HFQ := Lib.hid hfq
        have HGQ := Lib.hid hgq
        obtain ⟨tq, htq⟩ : ∃ q, q = g2.q := ⟨_, rfl⟩
        have HTQ := Lib.hid htq.symm
        rw [← htq]
        clear hlt_ hst hrl htl hnr hfq hgq htq
        have hra := rabort8_any HLT.out.ls.rf
        rw [HGQ.out] at hra
        have HRA := Lib.hid hra
        clear hra
        go_wp2_with fail
        refine HRA.out.mono ?_
        rintro e u1 ⟨rfl, ht1⟩
        obtain ⟨ga1, l1, q1⟩ := HLT.out.stepR ht1
        have hta := rabort8_any l1.t
        rw [HTQ.out] at hta
        have HTA := Lib.hid hta
        have HL1 := Lib.hid l1
        have HG1 := Lib.hid (q1.trans HGQ.out)
        clear ht1 l1 q1 hta HRA
        go_wp2_with fail
        refine HTA.out.mono ?_
        rintro e u2 ⟨rfl, ht2⟩
        obtain ⟨gb1, l2, q2⟩ := HL1.out.stepS ht2
        have HBu := Lib.hid (HB1.out.trans (l2.ls.below.mono HB1.out.size))
        have z2 := cells_below HBu.out _ _ HC2.out
        have HCR := Lib.hid (crash_any u2 F _ l2.ls.pg.jat.disk _ stay (HSY.out.below HBu.out))
        have HL2 := Lib.hid l2
        have HG2 := Lib.hid (q2.trans HTQ.out)
        clear ht2 l2 q2 HTA HL1
        go_wp2_with fail
        refine HCR.out.mono ?_
        rintro e u3 ⟨F3, rfl, d3, n3, hb3⟩
        obtain ⟨Z, hZ, hZl, hZc⟩ : ∃ Z, Lies n (61 * i + 61) Z (P.J.D.crash stay) ∧ Z.pages.length = NP ∧ (Z = R ∨ Z = T) := by
          rcases HNR.out.img stay with h | h
          · exact ⟨R, h, HRL.out.1, .inl rfl⟩
          · exact ⟨T, h, HRL.out.2, .inr rfl⟩
        obtain ⟨J, P', o1, o2, o3, o4, st9⟩ := hZ.open (by omega) (by omega) hn331
        have db3 : DB u2.heap.size u2 u3 F3 (P.J.D.crash stay) := ⟨d3, HL2.out.ls.pg.nib.below hb3, hb3, n3, hb3.size⟩
        have HO3 := Lib.hid (open_good u3 F3 _ db3.dat db3.nib o1)
        have HD3 := Lib.hid db3
        have HZC := Lib.hid hZc
        have HO2 := Lib.hid o2
        have HO4 := Lib.hid (And.intro o3 o4)
        have HS9 := Lib.hid st9
        clear d3 n3 hb3 hZ hZl hZc o1 o2 o3 o4 st9 db3 HCR z2
        go_wp2_with fail
        refine HO3.out.mono ?_
        rintro e u4 ⟨p4, rfl, j4, hp4, t4⟩
        have jb4 := JB.of HD3.out j4 hp4 t4
        have HPO4 := Lib.hid (popen_any u4 F3 p4 J jb4.jat jb4.nib (by rw [HO4.out.2]; omega))
        have HJ4 := Lib.hid jb4
        clear j4 hp4 t4 jb4 HO3 HD3
        go_wp2_with fail
        refine HPO4.out.mono ?_
        rintro e u5 ⟨_, hsome, t5⟩
        obtain ⟨f5, rfl, hpg, hpf⟩ := hsome _ _ _ HO2.out
        have jb5 := HJ4.out.turn (by have := hpg.jat; rw [HO4.out.1] at this; exact this) t5
        have HL5 := Lib.hid (HL2.out.reborn hpg (fun k hk => hk.elim (fun e => jb5.own k e) fun e => Nat.le_trans HJ4.out.base (hpf k e)) jb5.below)
        obtain ⟨sq, Bq, hsim, _⟩ := HS9.out.sim
        have HSIM := Lib.hid hsim
        have hlz : Z.abort.pages.length = R.abort.pages.length := by
          have h1 := (HS9.out.len hn331).2
          have h2 : R.abort.pages.length = R.was.length := rfl
          have h3 := HLT.out.ls.rf.nw
          have h4 := HRL.out.1
          have h5 := HNP.out
          omega
        have hhs := has8_some w1 u5 u5 HL5.out.y hsim hlz
        rw [HG1.out] at hhs
        have HHS := Lib.hid hhs
        clear hsome hpg hpf t5 jb5 hsim hlz hhs HPO4 HJ4 HL2 HLT HRL HNR
        go_wp2_with fail
        refine HHS.out.mono ?_
        rintro e u6 ⟨b, rfl, hb, y6⟩
        have HL6 := Lib.hid (HL5.out.back y6)
        cases b with
        | true =>
          have hz := hb.1 rfl
          have HST6 : Hid (StC n (61 * (i + 1)) P' R.abort) := Lib.hid (by
            have h := HS9.out
            rw [abort_same hz.1 hz.2] at h
            exact h.mono (by omega))
          clear hz hb y6
          go_wp2_with fail
          go_roundw
          case rel => exact ⟨i + 1, F3, p4, f5, P', ga1, R.abort, hlt, hlt5, by go_num, rfl, rfl, by rw [HG1.out], HL6.out.ls, HST6.out⟩
          case measure => simp [intOf]; omega
        | false =>
          have hzt : Z = T := by
            rcases HZC.out with e | e
            · have := hb.2 ⟨by rw [e], by rw [e]⟩
              cases this
            · exact e
          have HST6 : Hid (StC n (61 * (i + 1)) P' T.abort) := Lib.hid (by
            have h := HS9.out
            rw [hzt] at h
            exact h.mono (by omega))
          have hsm := HSIM.out
          rw [hzt] at hsm
          have hh2 := has8_some w1 u6 u6 HL6.out.swap.plain hsm rfl
          rw [HG2.out] at hh2
          have HH2 := Lib.hid hh2
          clear hzt hsm hh2 hb y6 HHS
          go_wp2_with fail
          refine HH2.out.mono ?_
          rintro e u7 ⟨b2, rfl, hb2, y7⟩
          obtain rfl : b2 = true := hb2.2 ⟨rfl, rfl⟩
          have HL7 := Lib.hid y7.ls
          clear hb2 y7
          go_wp2_with fail
          go_roundw
          case rel => exact ⟨i + 1, F3, p4, f5, P', gb1, T.abort, hlt, hlt5, by go_num, rfl, rfl, by rw [HG2.out], HL7.out, HST6.out⟩
          case measure => simp [intOf]; omega
end Go.Proofs.YtbmmcaoifkboiaaGreatDoor

/- The card of PagerLasts: for every input the law answers true, and what came in reads as it did. -/
set_option linter.unusedVariables false
set_option linter.unusedSimpArgs false
set_option maxRecDepth 100000
namespace Go.Proofs.YtbmmcaoifkboiaaGreatDoor.cardPagerLasts
open Go.ChangeShapes Go.WideShapes Go.ChangeAt Go.RowKit Go.Deep
open Go.ChangeMaps (open_string shut_string)

theorem gTab : Tryz.prog.globalNamed "usance/wire.nibbles" = some 0 := by kernel_rfl
theorem gTabType : (Tryz.prog.globals[0]?).map (·.type) = some 138 := by kernel_rfl
theorem cellsTab : Tryz.prog.cellsOf 138 = 16 := by kernel_rfl
theorem cellsU32 : Tryz.prog.cellsOf 131 = 1 := by kernel_rfl
/-- what the row lists: the table of the sum -/
theorem table {W : World} (h : laidMetH Tryz.prog Rows.pagerLastsRow.laid W) : Nib W := by
  have ht : Lib.TabIs Tryz.prog W "usance/wire.nibbles" .u32 [0, 498536548, 997073096, 651767980, 1994146192, 1802195444, 1303535960, 1342533948, 3988292384, 4027552580, 3604390888, 3412177804, 2607071920, 2262029012, 2685067896, 3183342108] :=
    Lib.tabIs_of_head (rest := []) gTab gTabType Tryz.underlying138 Tryz.underlying131 cellsU32 cellsTab h
  intro i hi
  rw [ht.cell gTab i (by simpa using hi)]
  have e : ∀ i : Fin 16, ([0, 498536548, 997073096, 651767980, 1994146192, 1802195444, 1303535960, 1342533948, 3988292384, 4027552580, 3604390888, 3412177804, 2607071920, 2262029012, 2685067896, 3183342108] : List Int).getD i.val 0 = ((UsCrc.nib.getD i.val 0 : Nat) : Int) := by decide
  rw [e ⟨i, hi⟩]

theorem contract (H : Type) (enc : TypeId × Value → H) (W : World) (base : Nat) (args : Array Value) (ds gs : List (DataW H)) (before : List MemPlace)
    (hval : ∀ (j : Nat) t v, Tryz.f3.params[j]? = some t → args[j]? = some v → Value.okWide Tryz.prog W .any base t v)
    (hW : DataW.Whole enc Tryz.prog Tryz.f3.params.toList Rows.pagerLastsSpec.vars false W args.toList ds gs before) (hL : laidMetH Tryz.prog Rows.pagerLastsRow.laid W)
    (hsz : (DataW.weightsEach Tryz.prog (Tryz.f3.params.toList ++ (OpenSpec.ofChange Rows.pagerLastsSpec).bare.plain.varTypes Tryz.prog) (ds ++ gs)).all (· ≤ reachBytes) = true) :
    Calls Tryz.prog 3 args W fun e W' => ∃ v, e = .returned v ∧ Rows.pagerLastsSpec.post enc Tryz.prog Tryz.f3 false true false false W args v W' := by
  have hW' := hW
  obtain ⟨p, q, hA0, hV, rfl, hfz, hnd⟩ := hW
  have hA : DataW.TrodAll enc Tryz.prog W 0 (fun _ => true) true Tryz.f3.params.toList args.toList ds p := hA0
  rw [Tryz.params3] at hA hval hsz
  obtain ⟨v0, vs0, d0, ds0, p0, q0, hargs, rfl, rfl, h0, r0⟩ := trodAll_cons hA
  obtain ⟨v1, vs1, d1, ds1, p1, q1, rfl, rfl, rfl, h1, r1⟩ := trodAll_cons r0
  obtain ⟨rfl, rfl, rfl⟩ := trodAll_nil r1
  obtain rfl : args = #[v0, v1] := by cases args; simp_all
  obtain ⟨rfl, rfl⟩ := trodVars_none hV
  have k0 := h0
  have lt0 : ∀ x ∈ p0, x.block < W.heap.size := by obtain ⟨m, hm⟩ := k0; exact DataW.trod_lt m _ _ _ hm
  have k1 := h1
  have lt1 : ∀ x ∈ p1, x.block < W.heap.size := by obtain ⟨m, hm⟩ := k1; exact DataW.trod_lt m _ _ _ hm
  simp only [List.append_nil, List.nil_append, List.cons_append] at hsz
  obtain ⟨x0, rfl, rfl, rfl, w0⟩ := open_int Tryz.underlying3 (hval 0 3 v0 rfl rfl) h0
  have b0 := wf_int64 w0
  obtain ⟨xs1, ir1⟩ := open_row rdLifeP (by decide) Tryz.underlying22 (hval 1 22 v1 rfl rfl) h1 (light_arg (j := 1) hsz rfl rfl)
  have hnib := table hL
  clear hA0
  refine (lasts8_walk W hnib x0 v1 xs1 ir1 b0.1 b0.2).mono fun e W' ⟨he, bel⟩ => ?_
  subst he
  exact ⟨_, rfl, _, _, _, [], _, [], hW', trodAll_mk1 (shut_bool Tryz.underlying4 _), (trodAll_cons_mk (Below.trod laidOut (by kernel_rfl) (of_decide_eq_true (by kernel_rfl)) k0 bel lt0) (trodAll_cons_mk (Below.trod laidOut (by kernel_rfl) (of_decide_eq_true (by kernel_rfl)) k1 bel lt1) trodAll_mk0)), rfl, bel.frame _, fun h => by cases h⟩

/-- a world for the witness: the table as its initialiser lays it -/
noncomputable def laidWorld (os : Os) : World :=
  { World.holding Tryz.prog os ⟨#[], #[], []⟩ with heap := (World.holding Tryz.prog os ⟨#[], #[], []⟩).heap.modify 0 fun
      | .cells _ t frozen => .cells #[.int .u32 0, .int .u32 498536548, .int .u32 997073096, .int .u32 651767980, .int .u32 1994146192, .int .u32 1802195444, .int .u32 1303535960, .int .u32 1342533948, .int .u32 3988292384, .int .u32 4027552580, .int .u32 3604390888, .int .u32 3412177804, .int .u32 2607071920, .int .u32 2262029012, .int .u32 2685067896, .int .u32 3183342108] t frozen
      | o => o }
theorem laid_met (os : Os) : laidMet Tryz.prog Rows.pagerLastsRow.laid ((laidWorld os).forCall (fun _ _ => 0) ⟨#[], #[.int .i64 0, .slice none 0 0], []⟩).memory :=
  laidMet_of_run' 8 (by kernel_rfl) (by kernel_rfl)
theorem reads (os : Os) {H : Type} (enc : TypeId × Value → H) : ∃ places, DataW.whole enc Tryz.prog ((laidWorld os).forCall (fun _ _ => 0) ⟨#[], #[.int .i64 0, .slice none 0 0], []⟩).memory Tryz.f3.params.toList Rows.pagerLastsSpec.vars false (#[.int .i64 0, .slice none 0 0] : Array Value).toList 8 = some ([.lit (.int .i64 0), .nil], [], places) :=
  ⟨[], by kernel_rfl⟩

theorem lifted (os : Os) (started : os.Started) (H : Type) (enc : TypeId × Value → H) (F : Stop.Interp) :
    ReturnsInHanded {} Tryz.checked os 3 .any ((OpenSpec.ofChange Rows.pagerLastsSpec).preRow enc Tryz.prog Tryz.f3 Rows.pagerLastsRow.domain false Rows.pagerLastsRow.laid) (((OpenSpec.ofChange Rows.pagerLastsSpec).at F).post enc Tryz.prog Tryz.f3 false true false false) := by
  obtain ⟨places, hx⟩ := reads os enc
  refine returnsInHanded_of_row (C := Tryz.checked) (s := OpenSpec.ofChange Rows.pagerLastsSpec) own started (by kernel_rfl) Tryz.func3
    (witness_row_at (enc := enc) (C := Tryz.checked) false (laidWorld os) #[.int .i64 0, .slice none 0 0] rfl (by kernel_rfl) (by kernel_rfl) (by kernel_rfl)
      (OpenSpec.preRow_of_cond 8 hx (by kernel_rfl) (fun k hk => by cases hk) (by kernel_rfl) (laid_met os))) ?_
  intro W base args ds gs before hval hW _ hcond hsz hL _ _
  exact contract H enc W base args ds gs before hval hW hL hsz

theorem said : Rows.PagerLastsSaid :=
  OpenClaim.holds_of_cond 3 Tryz.f3 rfl rfl rfl rfl rfl rfl rfl ⟨rfl, rfl, rfl, rfl, rfl⟩ rfl rfl rfl rfl rfl (by kernel_rfl) Tryz.func3 (by kernel_rfl)
    (of_decide_eq_true (by kernel_rfl)) (by unfold Func.isWrapper; first | (rw [if_pos (by decide +kernel)]; kernel_rfl) | (rw [if_neg (by decide +kernel)]; exact ⟨rfl, rfl⟩))
    (fun os started H enc _ F => by rw [OpenClaim.pre_eq_preRow]; exact lifted os started H enc F)

theorem plain (f : FuncId) (fn : Func) (hf : Tryz.pinned.checked.prog.funcNamed "usance/usancelaw08.PagerLasts" = some f) (hfn : Tryz.pinned.checked.prog.funcs[f]? = some fn) :
    false = Tryz.pinned.checked.prog.looks [] ∧ ∀ (j : Nat) t, fn.params[j]? = some t → Tryz.pinned.checked.prog.wantsStandIn t = false := by
  obtain rfl : f = 3 := Option.some.inj ((show Tryz.prog.funcNamed "usance/usancelaw08.PagerLasts" = some 3 by kernel_rfl).symm.trans hf) |>.symm
  obtain rfl : fn = Tryz.f3 := (Option.some.inj (Tryz.func3.symm.trans hfn)).symm
  refine ⟨by kernel_rfl, fun j t ht => ?_⟩
  rw [Tryz.params3] at ht
  have hm := Array.mem_of_getElem? ht
  simp only [List.mem_toArray, List.mem_cons, List.not_mem_nil, or_false] at hm
  rcases hm with rfl | rfl
  · exact (show Tryz.prog.wantsStandIn 3 = false by kernel_rfl)
  · exact (show Tryz.prog.wantsStandIn 22 = false by kernel_rfl)

/-- THE CARD -/
theorem proved : Rows.PagerLastsCardSaid :=
  Claim7.holds_tied_plain_at .later [] _ _ _ _ said (fun _ h => by cases h) (by kernel_rfl) (fun _ h => by cases h) pagerLasts_row_tie rfl ⟨rfl, rfl⟩ (by kernel_rfl) rfl plain (by kernel_rfl)
#print axioms proved
end Go.Proofs.YtbmmcaoifkboiaaGreatDoor.cardPagerLasts
