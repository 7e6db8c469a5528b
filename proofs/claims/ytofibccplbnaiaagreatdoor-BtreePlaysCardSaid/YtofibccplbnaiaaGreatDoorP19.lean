/- Contracts of the functions that the statements of this seat reach, part 19: each says what the call answers and what it leaves of the memory. -/
import Derived.Test.YtofibccplbnaiaaGreatDoorP18
import Derived.Laws.Concat
set_option linter.unusedVariables false
set_option linter.unusedSimpArgs false
set_option maxRecDepth 100000
set_option maxHeartbeats 64000000
namespace Go.Proofs.YtofibccplbnaiaaGreatDoor
section
open Go.RowKit Go.Shelf Go.Lib
attribute [local go_sem] Oper.semAt_some
section
variable {m : Nat} {F : Ft} {p : Nat} {f : Pf} {tb : Nat} {l : List KV} {from_ to_ : List UInt8}
theorem LowR.mono {N N' bt bf bq:Nat} (h:LowR F p f tb bt bf bq N) (hN:N≤N'):LowR F p f tb bt bf bq N' :=
 ⟨fun k hk=>Nat.lt_of_lt_of_le (h.pj k hk) hN,Nat.lt_of_lt_of_le h.nib hN,Nat.lt_of_lt_of_le h.htb hN,Nat.lt_of_lt_of_le h.hbt hN,Nat.lt_of_lt_of_le h.hbf hN,Nat.lt_of_lt_of_le h.hbq hN,h.at_,h.af,h.aq⟩
theorem Zcj.tw {n:Nat} {J:Jn} {seq:Int} {B:List (List UInt8)} {R:Rp} {bt bf bq:Nat} {W:World} (h:Zcj n J seq B F p f R tb bt bf bq from_ to_ W) (h2:Tre R l) (h3:R.pages.length=m) (h4:4≤m) (h5:m≤255):TW W m F p f tb l:=⟨⟨n,J,seq,B,R,h.tr,h2,h3⟩,h4,h5⟩
theorem range_begin {n:Nat} {J:Jn} {seq:Int} {B:List (List UInt8)} {R:Rp} {w w2:World} (h:Tr n J seq B w F p f R tb) (he:w2=((w.alloc (trpO tb)).alloc (Ql from_)).alloc (Ql to_)) :
  Below w.heap.size w w2∧w2.heap.size=w.heap.size+3∧Zcj n J seq B F p f R tb w.heap.size (w.heap.size+1) (w.heap.size+2) from_ to_ w2∧LowR F p f tb w.heap.size (w.heap.size+1) (w.heap.size+2) w2.heap.size:=by
 have hs:w2.heap.size=w.heap.size+3:=by rw[he];simp
 have hb:Below w.heap.size w w2:=by rw[he];exact((Zj w _).alloc (by simp) _).alloc (by simp;omega) _
 have h0:w2.heap[w.heap.size]?=some (trpO tb):=by rw[he];exact(Below.heap_alloc _ _ _ (by simp;omega)).trans ((Below.heap_alloc _ _ _ (by simp)).trans (heap_alloc_new w _))
 have h1:w2.heap[w.heap.size+1]?=some (Ql from_):=by
  rw[he];have:=heap_alloc_new (w.alloc (trpO tb)) (Ql from_)
  rw[World.size_alloc] at this;exact(Below.heap_alloc _ _ _ (by simp)).trans this
 have h2:w2.heap[w.heap.size+2]?=some (Ql to_):=by
  rw[he];have:=heap_alloc_new ((w.alloc (trpO tb)).alloc (Ql from_)) (Ql to_)
  rw[World.size_alloc,World.size_alloc] at this;exact this
 refine⟨hb,hs,⟨h.step hb,h0,h1,h2⟩,⟨fun k hk=>by have:=h.lp.lt hk;omega,by have:=h.lp.nib_lt;omega,by have:=Za h.head;omega,by omega,by omega,by omega,fun e=>by have:=h.lp.lt e;omega,fun e=>by have:=h.lp.lt e;omega,fun e=>by have:=h.lp.lt e;omega⟩⟩
end
end
end Go.Proofs.YtofibccplbnaiaaGreatDoor
