/- Contracts of the functions that the statements of this seat reach, part 16: each says what the call answers and what it leaves of the memory. -/
import Derived.Test.YtfaobkmojlhbnaaGreatDoorZR15
import Derived.Test.YtfaobkmojlhbnaaGreatDoorZR13
import Derived.Laws.EntriesVeiled
set_option linter.unusedVariables false
set_option linter.unusedSimpArgs false
set_option maxRecDepth 100000
set_option maxHeartbeats 64000000
namespace Go.Proofs.YtfaobkmojlhbnaaGreatDoor
section
open Go.RowKit Go.Shelf Go.Lib
attribute [local go_sem] Oper.semAt_some
abbrev rngF (bt bf bq:Nat):Value:=.func (.func 95) #[] #[Qf bt,Qf bf,Qf bq]
section
variable {n : Nat} {J : Jn} {seq : Int} {B : List (List UInt8)} {F : Ft} {p : Nat} {f : Pf} {R : Rp} {tb : Nat} {bt bf bq : Nat} {from_ to_ : List UInt8}
theorem range_seq (m:Nat) (hm:1<=m):SeqX Fence.wide m Tryz.prog 95 #[Qf bt,Qf bf,Qf bq] kvA (PJ F p f) (LiveR n J seq B F p f R tb bt bf bq from_ to_) (λ_=>True) (R.rangeN from_ to_) (λW=>LiveR n J seq B F p f R tb bt bf bq from_ to_ W/\LowR F p f tb bt bf bq W.heap.size):=λO l M JX W hG i _ j w hJ N hY h0=>by
 obtain⟨y,u⟩:=hG;have hgood:=y.tr.lp.good
 have a8:=y.tr.lp.root_le;have hpg:=hgood.few;have P:∀(m':Nat) pre x W1,M pre W1->pre++[x] <+: R.rangeN from_ to_->W.heap.size<=W1.heap.size->YieldAt Fence.wide m' Tryz.prog l (kvA x) W1 λe W'=>TO O (λk=>k<W.heap.size) W1 W'/\((e=.returned (.bool true)/\M (pre++[x]) W')\/(e=.returned (.bool false)/\JX (pre++[x]) W')):=λm' pre x W1 a b c=>by obtain⟨fn,Q,o,S,hy,hR⟩:=hY pre x W1 a b c;exact⟨fn,Q,o,S,hy,Zgd hR⟩
 obtain⟨W1,g⟩:∃x,x=W.alloc (.cells #[.func (.yield l) #[] #[]] 123):=⟨_,rfl⟩;have z:Below W.heap.size W W1:=by rw[g];exact Zl W _
 have A:W1.heap.size=W.heap.size+1:=by rw[g];simp
 have hr:Rng O n J seq B F p f R tb bt bf bq (W1.heap.size) W.heap.size (W1.heap.size+1) l W.heap.size from_ to_ (R.rangeN from_ to_) M JX:=⟨i,hJ,N,j,w,P,u,hgood,by omega,by omega,by omega,by omega,by omega⟩;have C:W1.heap[W.heap.size]?=some (yldO l):=by rw[g];exact Vg W _
 have D:=hr.far h0 (Zb.of_below (T:=λ_=>False) z) λk e=>e.elim;have U:∀k,W.heap.size<=k->¬O W1 k:=λk hk e=>by have:=(w _ _ h0 k (j _ _ (Va _) (Zb.of_below z) k e)).2;omega
 have r:=i _ _ D;have V:W1.cell? ⟨bt,0,none⟩=some (trp tb):=by rw[Vc _ _ _ _ _ _ r.hbt];rfl
 have X:W1.cell? ⟨tb,0,none⟩=some (Qs f.q):=by rw[Vc _ _ _ _ _ _ r.tr.head];rfl
 have a3:=Hd (lp_pages r.tr.lp);obtain⟨W2,h⟩:∃x,x=(W1.alloc (.cells #[.int .i64 (R.pages.length:Int)] 3)).alloc (.cells #[walkF bt W1.heap.size bf bq W.heap.size (W1.heap.size+1)] 183):=⟨_,rfl⟩;have s:Below W1.heap.size W1 W2:=by rw[h];exact(Zl W1 _).alloc (by simp) _
 have Y:W2.heap.size=W.heap.size+3:=by rw[h];simp[A]
 have Z:=(s.block _ (Za C)).trans C;have a0:W2.heap[W1.heap.size]?=some (izO (R.pages.length:Int)):=by rw[h];exact(Vv _ _ _ (by simp)).trans (Vg W1 _)
 have E:W2.heap[W1.heap.size+1]?=some (wlkO bt W1.heap.size bf bq W.heap.size (W1.heap.size+1)):=by
  rw[h];have:=Vg (W1.alloc (.cells #[.int .i64 (R.pages.length:Int)] 3)) (.cells #[walkF bt W1.heap.size bf bq W.heap.size (W1.heap.size+1)] 183)
  rw[World.size_alloc] at this;exact this
 have G:=hr.far D (Zb.of_below (T:=λ_=>False) s) λk e=>e.elim;have d:∀k,W.heap.size<=k->¬O W2 k:=λk hk e=>U k hk (j _ _ (by omega) (Zb.of_below s) k e);have a1:OwnR O bt (W1.heap.size) bf bq W.heap.size (W1.heap.size+1) l W2 (R.pages.length:Int):=⟨a0,Z,E,d _ (by omega),d _ (Va _),d _ (by omega)⟩;have hlv2:=i _ _ G;have H:W2.cell? ⟨bt,0,none⟩=some (trp tb):=by rw[Vc _ _ _ _ _ _ hlv2.hbt];rfl
 have I:W2.cell? ⟨tb,0,none⟩=some (Qs f.q):=by rw[Vc _ _ _ _ _ _ hlv2.tr.head];rfl
 have t:W2.cell? ⟨W1.heap.size+1,0,none⟩=some (walkF bt (W1.heap.size) bf bq W.heap.size (W1.heap.size+1)):=by rw[Vc _ _ _ _ _ _ E];rfl
 have a4:=Hd (lp_root hlv2.tr.lp);have HR:=Hd hr;have HJ2:=Hd G;have HO2:=Hd a1;have HW1:=Hd g;have HW2:=Hd h;have HSS:=Hd A;have HS2:=Hd Y;have a5:Hid (R.pages.length<=1023):=Hd hpg;rw[g] at V X;clear A y u hgood hpg P hr z C D r s Y Z a0 E G a1 hlv2 i hJ N hY h0 g h U d j w;refine callsIn_of_wp Tryz.func95 rfl trivial ?_ rfl;simp only[Tryz.ntmps95,List.size_toArray,List.length_cons,List.length_nil,Nat.reduceAdd,Nat.reduceSub,Array.replicate_succ,Array.replicate_zero,List.push_toArray,List.append_toArray,List.nil_append,List.cons_append];gi_wp2_with fail;rw[<-HW1.out];refine⟨trivial,?_⟩;refine(callsIn_wide.2 a3.out).mono ?_;rintro e w1 ⟨rfl,e1⟩;obtain rfl:W1=w1:=e1.symm;clear V X;rw[HW2.out] at H I t;gi_wp2_with fail;rw[<-HW2.out];refine⟨trivial,?_⟩;refine(callsIn_wide.2 a4.out).mono ?_;rintro e w2 ⟨rfl,e2⟩;obtain rfl:W2=w2:=e2.symm;rw[<-HW2.out] at t;by_cases L:0<=R.root
 .have hd:decide (0<=R.root)=true:=Vd L
  have hw:=rwalk_any HR.out 41 (Va _) R.root (R.pages.length:Int) [] W2 (by omega) (by omega) (by omega) (by have:=a5.out;omega) HJ2.out HO2.out (by have:=HS2.out;omega) (by
   rw[List.nil_append];unfold Rp.rangeN;rw[if_pos L]
   exact List.prefix_rfl)
  have hx:R.rangeN from_ to_=(R.walkN from_ to_ (41+1) R.root (R.pages.length:Int)).1.1:=by unfold Rp.rangeN;rw[if_pos L]
  rw[show (41:Int) - ((41:Nat):Int)=0 by decide] at hw
  have a6:=Hd hw;have HX:=Hd hx;clear hw hx H I L;gi_wp2_with fail;refine⟨trivial,?_⟩;refine(callsIn_wide.2 a6.out).mono ?_;rintro e w3 ⟨ok,a9,rfl,a2,a7,v⟩
  have HE:Hid (W.heap.size<=w3.heap.size/\(M (R.rangeN from_ to_) w3\/∃pre,pre <+: R.rangeN from_ to_/\JX pre w3)):=Hd ⟨by have:=a2.size;have:=HS2.out;omega,by
   rcases v with ⟨_,_,_,_,h5⟩ | ⟨_,q⟩
   .left;rw[HX.out];rw[List.nil_append] at h5;exact h5
   .exact .inr q⟩
  clear v a2 a7 t;gi_wp2_with fail;go_end0;exact⟨⟨_,rfl⟩,HE.out⟩
 .have hd:decide (0<=R.root)=false:=Vb L
  have HE:Hid (W.heap.size<=W2.heap.size/\(M (R.rangeN from_ to_) W2\/∃pre,pre <+: R.rangeN from_ to_/\JX pre W2)):=Hd ⟨by have:=HS2.out;omega,.inl (by
   unfold Rp.rangeN;rw[if_neg L]
   exact HJ2.out)⟩
  clear L H I t;gi_wp2_with fail;go_end0;exact⟨⟨_,rfl⟩,HE.out⟩
theorem trange_any (w:World) (a:Value) (ht:a=.pointer none\/∃b,a=trp b) (from_ to_:List UInt8):Calls Tryz.prog 57 #[a,.string ⟨from_.toArray⟩,.string ⟨to_.toArray⟩] w λe c=>e=.returned (rngF w.heap.size (w.heap.size+1) (w.heap.size+2))/\c=((w.alloc (.cells #[a] 95)).alloc (Zar from_)).alloc (Zar to_):=by
 rcases ht with rfl | ⟨b,rfl⟩
 .go_enter Tryz.func57,Tryz.ntmps57;go_wp2_with fail;go_ret;exact⟨rfl,rfl⟩
 .go_enter Tryz.func57,Tryz.ntmps57;go_wp2_with fail;go_ret;exact⟨rfl,rfl⟩
end
end
section
open Go.RowKit
section
variable {n : Nat} {J : Jn} {seq : Int} {B : List (List UInt8)} {F : Ft} {p : Nat}
theorem topen_any {w:World} {f:Pf} {R:Rp} (h:LP n J seq B w F p f R):Calls Tryz.prog 51 #[Qs f.q] w λe b=>e=.returned (.tuple #[trp w.heap.size,.int .i64 0])/\Below w.heap.size w b/\Tr n J seq B b F p f R w.heap.size:=by have a:Below w.heap.size w (w.alloc (trO f.q)):=Zl w _;have c:Hid (Tr n J seq B (w.alloc (trO f.q)) F p f R w.heap.size):=Hd ⟨h.step a,Vg w _,λe=>by have:=h.lt e;omega⟩;have HB:=Hd a;clear h a;go_enter Tryz.func51,Tryz.ntmps51;go_wp2_with fail;go_ret2;exact⟨rfl,HB.out,c.out⟩
end
end
section
open Go.RowKit Go.Shelf Go.Lib
def Roomy (m:Nat) (l:List KV):Prop:=∀R:Rp,R.good->R.pages.length=m->∀h P,TreH R h l P->h<=39/\h+3<=Xw R.pages
section
variable {w w' : World} {m : Nat} {F : Ft} {p : Nat} {f : Pf} {tb : Nat} {l : List KV}
theorem TreH.low39 {R:Rp} (hg:R.good) (hm:R.pages.length<=255):∀h P,TreH R h l P->h<=39:=λh P a=>by have:=a.low hg hm;omega
end
end
end Go.Proofs.YtfaobkmojlhbnaaGreatDoor
