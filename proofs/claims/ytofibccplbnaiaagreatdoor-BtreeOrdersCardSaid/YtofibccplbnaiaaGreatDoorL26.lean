/- Contracts of the functions that the statements of this seat reach, part 26: each says what the call answers and what it leaves of the memory. -/
import Derived.Test.YtofibccplbnaiaaGreatDoorL23
import Derived.Test.YtofibccplbnaiaaGreatDoorL24
import Derived.Test.YtofibccplbnaiaaGreatDoorL25
set_option linter.unusedVariables false
set_option linter.unusedSimpArgs false
set_option maxRecDepth 100000
namespace Go.Proofs.YtofibccplbnaiaaGreatDoor
section
open Go.RowKit Go.Shelf Go.Lib
theorem root_tw {w : World} {m : Nat} {F : Ft} {p : Nat} {f : Pf} {tb : Nat} (h : TW w m F p f tb []) : Calls Tryz.prog 17 #[qptr f.q] w fun e w'=>e = .returned (.int .i64 (-1))∧w' = w:=by
 obtain ⟨⟨n,J,seq,B,R,h1,h2,h3⟩,h4,h5⟩:=h
 have e : R.root = -1:=by
  rcases h2 with ⟨e,_,_⟩ | ⟨h,P,hT⟩
  ·exact e
  ·exact absurd rfl (Sub.ne h1.lp.good hT.sub)
 rw [← e];exact lp_root h1.lp
structure TU (N : Nat) (w0 w : World) (F : Ft) (p : Nat) (f : Pf) (tb : Nat) (lt : List KV) (G : Ft) (q : Nat) (g : Pf) (ub : Nat) (lu : List KV) (v : Value) (l : List KV) : Prop where
 t : TB N w0 w 255 F p f tb lt
 u : TB N w0 w 255 G q g ub lu
 nib : 0 < N
 ap : ∀ k,PJ F p f k → ¬ PJ G q g k
 tu : ¬ PJ G q g tb
 ut : ¬ PJ F p f ub
 is : IsPv w v l
 off : ∀ k,v.ownBlock = some k → k < w.heap.size∧¬ PJ F p f k∧¬ PJ G q g k
section
variable {N : Nat} {w0 w w' : World} {F : Ft} {p : Nat} {f : Pf} {tb : Nat} {lt : List KV} {G : Ft} {q : Nat} {g : Pf} {ub : Nat} {lu : List KV} {v : Value} {l : List KV}
theorem TU.swap (h : TU N w0 w F p f tb lt G q g ub lu v l) : TU N w0 w G q g ub lu F p f tb lt v l :=
 ⟨h.u,h.t,h.nib,fun k a b=>h.ap k b a,h.ut,h.tu,h.is,fun k hk=>⟨(h.off k hk).1,(h.off k hk).2.2,(h.off k hk).2.1⟩⟩
theorem TU.step (h : TU N w0 w F p f tb lt G q g ub lu v l) (hb : Below w.heap.size w w') : TU N w0 w' F p f tb lt G q g ub lu v l :=
 ⟨h.t.step hb,h.u.step hb,h.nib,h.ap,h.tu,h.ut,h.is.below hb,fun k hk=>⟨Nat.lt_of_lt_of_le (h.off k hk).1 hb.size,(h.off k hk).2⟩⟩
theorem TU.row (h : TU N w0 w F p f tb lt G q g ub lu v l) {B : Nat} {v' : Value} {l' : List KV} (hB : B = w.heap.size) (hm : MineP2 B w' v' l') (hb : Below w.heap.size w w') : TU N w0 w' F p f tb lt G q g ub lu v' l' :=
 ⟨h.t.step hb,h.u.step hb,h.nib,h.ap,h.tu,h.ut,hm.isE,fun k hk=>⟨(hm.lt hk).2,fun e=>by have:=(hm.lt hk).1;have:=h.t.tw.lt e;omega,fun e=>by have:=(hm.lt hk).1;have:=h.u.tw.lt e;omega⟩⟩
theorem TU.other (h : TU N w0 w F p f tb lt G q g ub lu v l) (ht : Turned (PJ F p f) w w') : TB N w0 w' 255 G q g ub lu :=
 ⟨h.u.tw.turned ht (fun k hk=>hk.elim (fun e a=>h.ap k a e) fun e a=>by have:=h.t.own k a;have:=h.nib;omega) h.ut,h.u.own,h.u.tbN,h.u.below.trans (ht.below h.u.base h.t.own),Nat.le_trans h.u.base ht.size⟩
theorem TU.read (h : TU N w0 w F p f tb lt G q g ub lu v l) (h2 : TW w' 255 F p f tb lt) (ht : Turned (PJ F p f) w w') : TU N w0 w' F p f tb lt G q g ub lu v l :=
 ⟨h.t.read h2 ht,h.other ht,h.nib,h.ap,h.tu,h.ut,h.is.turned ht fun k hk=>(h.off k hk).2.1,fun k hk=>⟨Nat.lt_of_lt_of_le (h.off k hk).1 ht.size,(h.off k hk).2⟩⟩
theorem TU.to {lt' : List KV} (h : TU N w0 w F p f tb lt G q g ub lu v l) (h2 : TWto w 255 F p f tb lt' w') : ∃ f',TU N w0 w' F p f' tb lt' G q g ub lu v l∧f'.q = f.q:=by
 obtain ⟨f',a,b,c,d⟩:=h.t.to h2;have hlt:=h.u.tw.tlt.1
 refine ⟨f',⟨a,h.other d,h.nib,fun k hk e=>?_,h.tu,fun e=>?_,h.is.turned d fun k hk=>(h.off k hk).2.1,fun k hk=>⟨Nat.lt_of_lt_of_le (h.off k hk).1 d.size,fun e=>?_,(h.off k hk).2.2⟩⟩,b⟩
 ·rcases c k hk with h3 | h3
  ·exact h.ap k h3 e
  ·have:=h.u.tw.lt e;omega
 ·rcases c _ e with h3 | h3
  ·exact h.ut h3
  ·omega
 ·rcases c _ e with h3 | h3
  ·exact (h.off k hk).2.1 h3
  ·have:=(h.off k hk).1;omega
end
end
end Go.Proofs.YtofibccplbnaiaaGreatDoor
