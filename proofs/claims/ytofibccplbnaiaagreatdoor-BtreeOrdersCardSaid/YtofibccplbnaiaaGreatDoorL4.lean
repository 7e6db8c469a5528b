/- Contracts of the functions that the statements of this seat reach, part 4: each says what the call answers and what it leaves of the memory. -/
import Derived.Test.YtofibccplbnaiaaGreatDoorL2
import Derived.Test.YtofibccplbnaiaaGreatDoorL3
set_option linter.unusedVariables false
set_option linter.unusedSimpArgs false
set_option maxRecDepth 100000
namespace Go.Proofs.YtofibccplbnaiaaGreatDoor
section
open Go.RowKit
structure JB (B : Nat) (w0 w : World) (F : Ft) (p : Nat) (J : Jn) : Prop where
 jat : JAt w F p J
 nib : Nib w
 below : Below B w0 w
 own : ∀ k,JT F p k → B ≤ k
 base : B ≤ w.heap.size
theorem JB.turn {B : Nat} {w0 w w' : World} {F : Ft} {p : Nat} {J J' : Jn} (h : JB B w0 w F p J) (hj : JAt w' F p J') (ht : Turned (JT F p) w w') : JB B w0 w' F p J' :=
 ⟨hj,h.nib.turned h.jat ht,h.below.trans (ht.below h.base h.own),h.own,Nat.le_trans h.base ht.size⟩
structure DB (B : Nat) (w0 w : World) (F : Ft) (D : Dk) : Prop where
 dat : DkAt w F D
 nib : Nib w
 below : Below B w0 w
 own : ∀ k,F.has k → B ≤ k
 base : B ≤ w.heap.size
theorem DB.turn {B : Nat} {w0 w w' : World} {F : Ft} {D D' : Dk} (h : DB B w0 w F D) (hj : DkAt w' F D') (ht : Turned F.has w w') : DB B w0 w' F D' :=
 ⟨hj,h.nib.turnedD h.dat ht,h.below.trans (ht.below h.base h.own),h.own,Nat.le_trans h.base ht.size⟩
theorem open_good (w : World) (F : Ft) (D : Dk) (h : DkAt w F D) (hn : Nib w) {J : Jn} (he : D.openJ = (0,J)) : Calls Tryz.prog 34 #[F.ptr] w fun e w'=>∃ p,e = .returned (.tuple #[jptr p,.int .i64 0])∧JAt w' F p J∧w.heap.size ≤ p∧Turned F.has w w':=by refine (open_any w F D h hn).mono ?_;rintro e w' ⟨h1,h2⟩;rw [he,if_pos rfl] at h1;obtain ⟨p,e1,e2,e3⟩:=h1;exact ⟨p,e1,e2,e3,h2⟩
theorem JB.of {B : Nat} {w0 w w' : World} {F : Ft} {p : Nat} {D : Dk} {J : Jn} (h : DB B w0 w F D) (hj : JAt w' F p J) (hp : w.heap.size ≤ p) (ht : Turned F.has w w') : JB B w0 w' F p J :=
 ⟨hj,h.nib.turnedD h.dat ht,h.below.trans (ht.below h.base h.own),fun k hk=>by
  rcases hk with hk | hk
  ·exact h.own k hk
  ·have:=h.base;omega,Nat.le_trans h.base ht.size⟩
theorem begun_plain {n : Nat} (h1 : 32 ≤ n) (h2 : n ≤ 16384) : ∃ D1 J,(Dk.new n).format = (0,D1)∧D1.openJ = (0,J)∧Live n J 0 (zeroB n) AllOk∧J.last ≤ 1∧J.D.cut < 0∧J.D.ops ≤ 2 * n + 5:=by
 obtain ⟨D1,f⟩:=format_im (n:=n) (D:=Dk.new n) (Dk.new_ok (by omega) h2) rfl h1 rfl (by show (-1 : Int) < 0;decide) ⟨rfl,rfl⟩ (by show 0 + _ ≤ _;omega)
 have hops:=f.ops;have hops0 : (Dk.new n).ops = 0:=rfl;have hcut : D1.cut = -1:=f.cut;obtain ⟨c,J,o⟩:=open_im f.im f.flat f.ok f.hn f.off (by omega);have hJo:=o.ops;rcases o.ends with ⟨rfl,hl,_⟩ | ⟨_,h3,_⟩
 ·exact ⟨D1,J,f.eq,o.eq,hl,o.last,by rw [o.cut,hcut];decide,by omega⟩
 ·omega
end
end Go.Proofs.YtofibccplbnaiaaGreatDoor
