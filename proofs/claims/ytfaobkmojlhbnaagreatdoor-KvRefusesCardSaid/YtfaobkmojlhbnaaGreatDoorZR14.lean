/- Contracts of the functions that the statements of this seat reach, part 14: each says what the call answers and what it leaves of the memory. -/
import Derived.Test.YtfaobkmojlhbnaaGreatDoorZR1
import Derived.RangeFuncNested
import Derived.RangeFuncBound
import Derived.RangeFuncCalls
import Derived.RangeFuncLeaves
import Derived.OwnWalkIn
import Derived.Test.YtfaobkmojlhbnaaGreatDoorZR6
import Derived.Shelf.Abstract
import Derived.TacticsInMore
import Derived.LoopNIn
import Derived.LoopIn
set_option linter.unusedVariables false
set_option linter.unusedSimpArgs false
set_option maxRecDepth 100000
set_option maxHeartbeats 64000000
namespace Go.Proofs.YtfaobkmojlhbnaaGreatDoor
section
open Go.RowKit
variable {N k:Nat}
theorem Qi {T:Nat->Prop} (W:World) (l:Nat) (o:Obj) (h:T l):Zb T W (W.putObj l o) :=
 ⟨rfl,rfl,rfl,by simp,λk _ a=>World.putObj_heap_other (λe=>a (by rw[e];exact h))⟩
theorem Zcb (T:Nat->Prop) (W:World) (o:Obj):Zb T W (W.alloc o) :=
 ⟨rfl,rfl,rfl,by simp,λk a _=>Vv W o k a⟩
section
variable {O : World → Nat → Prop} {T T' : Nat → Prop} {A B C : World}
def TO (O:World->Nat->Prop) (T:Nat->Prop) (A B:World):Prop:=Zb (λk=>T k\/O A k) A B/\∀k,O B k->O A k\/A.heap.size<=k
def Stays (O:World->Nat->Prop) (N:Nat) (T:Nat->Prop):Prop:=∀A B,N<=A.heap.size->Zb T A B->∀k,O B k->O A k
theorem TO.refl:TO O T A A:=⟨Zb.refl _ _,λ_ h=>.inl h⟩
theorem TO.then (h:TO O T A B) (k:TO O T' B C) (b:∀i,i<A.heap.size->T' i->T i):TO O T A C :=
 ⟨h.1.then k.1 λi a e=>e.elim (λe=>.inl (b i a e)) λe=>(h.2 i e).elim .inr λe=>absurd a (by omega),λi e=>(k.2 i e).elim (λe=>h.2 i e) λe=>.inr (Vk h.1.size e)⟩
theorem TO.trans (h:TO O T A B) (k:TO O T B C):TO O T A C:=h.then k λ_ _ e=>e
theorem TO.mono (h:TO O T A B) (a:∀k,k<A.heap.size->T k->T' k):TO O T' A B:=⟨h.1.mono λk b e=>e.imp (a k b) id,h.2⟩
theorem Stays.mono {N':Nat} (h:Stays O N T) (hN:N<=N') (a:∀k,T' k->T k):Stays O N' T':=λA B b c k e=>h A B (Vk hN b) (c.mono λk _ e=>a k e) k e
theorem Stays.own (hs:Stays O N T') (hA:N<=A.heap.size) (ht:Zb T A B) (a:∀k,T k->T' k):TO O T A B:=⟨ht.mono λ_ _ e=>.inl e,λk e=>.inl (hs _ _ hA (ht.mono λk _ e=>a k e) k e)⟩
theorem TO.keep (h:TO O T A B) {o:Obj} (hk:¬T k) (a:¬O A k) (h1:A.heap[k]?=some o):B.heap[k]?=some o:=(h.1.block _ (Za h1) λe=>e.elim hk a).trans h1
theorem TO.off (h:TO O T A B) (hk:k<A.heap.size) (a:¬O A k):¬O B k:=λe=>(h.2 k e).elim a λe=>by omega
theorem TO.size (h:TO O T A B):A.heap.size<=B.heap.size:=h.1.size
abbrev noO:World->Nat->Prop:=λ_ _=>False
theorem TO.none (h:Zb T A B):TO noO T A B:=⟨h.mono λ_ _ e=>.inl e,λ_ e=>e.elim⟩
theorem Stays.none:Stays noO N T:=λ_ _ _ _ _ e=>e
end
end
section
open Go.RowKit
def SeqX {α:Type} (F:Fence) (n:Nat) (P:Program) (g:Nat) (lb:Array Value) (encs:α->Array Value) (U:Nat->Prop) (Live LX:World->Prop) (xs:List α) (G:World->Prop):Prop :=
 ∀(O:World->Nat->Prop) (l:Nat) (J Jx:List α->World->Prop) (W:World),G W->(∀s A,J s A->Live A)->(∀s A,Jx s A->LX A) ->
  Stays O W.heap.size (λk=>U k\/W.heap.size<=k)->(∀s A,J s A->∀k,O A k->¬U k/\k<A.heap.size) ->
  (∀s A B,J s A->Zb (λk=>(U k\/W.heap.size<=k)/\¬O A k) A B->Live B->J s B)->(∀s A B,Jx s A->Zb (λk=>W.heap.size<=k/\¬O A k) A B->Jx s B) ->
  (∀pre x W1,J pre W1->pre++[x] <+: xs->W.heap.size<=W1.heap.size->YieldAt F (n - 1) P l (encs x) W1 λe W' =>
   TO O (λk=>k<W.heap.size) W1 W'/\((e=.returned (.bool true)/\J (pre++[x]) W')\/(e=.returned (.bool false)/\Jx (pre++[x]) W'))) ->
  J [] W ->
  CallsIn F n P g (#[.func (.yield l) #[] #[]]++lb) W λe W'=>(∃v,e=.returned v)/\W.heap.size<=W'.heap.size/\(J xs W'\/∃pre,pre <+: xs/\Jx pre W')
def postT {α:Type} (O:World->Nat->Prop) (B:Nat) (I:List α->World->Prop) (Ix:Code->List α->World->Prop) (xs:List α) (W:World):Exit->Act->World->Prop
 | .normal,_,W'=>TO O (λk=>k<B) W W'/\I xs W'
 | .ret,_,W'=>TO O (λk=>k<B) W W'/\Ix .ret xs W'
 | .exit id,_,W'=>TO O (λk=>k<B) W W'/\Ix (.exit id) xs W'
 | .goto t,_,W'=>TO O (λk=>k<B) W W'/\Ix (.goto t) xs W'
 | .panic _,_,_=>False
 | .outgrown,_,_=>False
variable {F : Fence} {n : Nat} {P : Program}
theorem rangeX {α:Type} {g:Operand} {ps:Array Tmp} {assign body:Code} {Q:Exit→Act→World→Prop} {a:Act} {w:World}
  (hro:F.round=none) (h1:1≤n) {gf:Nat} {lb:Array Value} (hg:a.eval g=.func (.func gf) #[] lb) (hFg:F.fn gf) (eg:∀args w,(callFunc gf args).run P w=.ok (.enter gf args) w)
  {encs:α→Array Value} {U:Nat→Prop} {Live LX:World→Prop} {xs:List α} {G:World→Prop} (hseq:SeqX F (n - 1) P gf lb encs U Live LX xs G) (hps:∀x,(encs x).size=ps.size)
  (I:List α→World→Prop) (Ix:Code→List α→World→Prop) (hG:∀W,Below w.heap.size w W→G W) (hL:∀s A,I s A→Live A) (hLX:∀c s A,Ix c s A→LX A) (hLp:∀A B,Live A→Zb (fun k=>w.heap.size≤k) A B→Live B)
  (O:World→Nat→Prop) (hSt:Stays O w.heap.size (fun k=>U k∨w.heap.size≤k)) (hOl:∀s A,I s A→∀k,O A k→¬U k∧k<A.heap.size)
  (hI:∀s A B,I s A→Zb (fun k=>(U k∨w.heap.size≤k)∧¬O A k) A B→Live B→I s B) (hU:∀k,U k→k<w.heap.size) (hIx:∀c s A B,Ix c s A→Zb (fun k=>w.heap.size≤k∧¬O A k) A B→Ix c s B) (h0:I [] w)
  (Ax:α→Act→World→Prop) (hAx:∀x a' A o,Ax x a' A→Ax x a' (A.putObj (w.heap.size+1) o))
  (hassign:∀(l:Nat) (pre:List α) (x:α) (W:World) (K:Act→World→Prop),I pre W→pre++[x] <+: xs→w.heap.size+2≤W.heap.size→(∀a' W',Zb (fun _=>False) W W'→I pre W'→Ax x a' W'→K a' W') →
   assign.wpIn (F.inRound l) (n - 1 - 1) P (Exit.then K (fun _ _ _=>False)) { tmps:=(ps.zip (encs x)).foldl (fun t (p,v)=>t.setIfInBounds p v) a.tmps,defers:=[] } W)
  (hbody:∀(l:Nat) (pre:List α) (x:α) (a':Act) (W:World),w.heap.size≤l→(∃r,W.heap[l]?=some (.loop r))→I pre W→Ax x a' W→pre++[x] <+: xs→w.heap.size+2≤W.heap.size→body.wpIn (F.inRound l) (n - 1 - 1) P (postT O w.heap.size I Ix (pre++[x]) W) a' W)
  (hdone:∀(D:Nat) (W:World),w.heap.size≤D→¬O W D→w.heap.size≤W.heap.size→I xs W→W.heap[D]?=some (.deferred (some []))→Q .normal { a with defers:={ target:=.collected D,args:=#[] }::a.defers } W)
  (hstop:∀(D:Nat) (c:Code) (pre:List α) (W:World),w.heap.size≤D→¬O W D→w.heap.size≤W.heap.size→pre <+: xs→Ix c pre W→W.heap[D]?=some (.deferred (some []))→c.wpIn F n P Q { a with defers:={ target:=.collected D,args:=#[] }::a.defers } W) :
  (Code.rangeFunc g ps assign body).wpIn F n P Q a w:=by
 refine wpIn_rangeFunc ?_;intro fn hfn;rw[hro];obtain⟨rec,hrec⟩:∃rec:LoopState→Option Code→Loop,rec=fun st pe=>{ state:=st,pending:=pe,fn,tmps:=a.tmps,params:=ps,assign,body,defers:=w.heap.size }:=⟨_,rfl⟩;obtain⟨W1,hW1⟩:∃W1,(w.alloc (.deferred (some []))).alloc (.loop (rec .ready none))=W1:=⟨_,rfl⟩;have hs1:W1.heap.size=w.heap.size+2:=by rw[←hW1];simp
 have hL1:W1.heap[w.heap.size+1]?=some (.loop (rec .ready none)):=by rw[←hW1];have:=World.alloc_heap_new (w.alloc (.deferred (some []))) (.loop (rec .ready none));rwa[World.size_alloc] at this
 have hK1:W1.heap[w.heap.size]?=some (.deferred (some [])):=by rw[←hW1];exact(Below.heap_alloc _ _ _ (by simp)).trans (World.alloc_heap_new w _)
 have hb1:Below w.heap.size w W1:=by rw[←hW1];exact(((Below.refl _ w).alloc (Nat.le_refl _) _).alloc (by simp) _)
 have hlive:Live W1:=hLp _ _ (hL _ _ h0) (Zb.of_below hb1);have hI1:I [] W1:=hI _ _ _ h0 (Zb.of_below hb1) hlive;have hO1:∀k,O W1 k→k<w.heap.size:=fun k e=>(hOl _ _ h0 k (hSt _ _ (Nat.le_refl _) (Zb.of_below hb1) k e)).2;have put:∀{s:List α} {A:World} (o:Obj),I s A→¬O A (w.heap.size+1)→I s (A.putObj (w.heap.size+1) o):=fun o hi hn=>hI _ _ _ hi (Qi _ _ o ⟨.inr (by omega),hn⟩) (hLp _ _ (hL _ _ hi) (Qi _ _ o (by omega)));have putx:∀{c:Code} {s:List α} {A:World} (o:Obj),Ix c s A→¬O A (w.heap.size+1)→Ix c s (A.putObj (w.heap.size+1) o):=fun o hi hn=>hIx _ _ _ _ hi (Qi _ _ o ⟨by omega,hn⟩);have own:∀{A:World} (o:Obj),w.heap.size≤A.heap.size→TO O (fun k=>k=w.heap.size+1) A (A.putObj (w.heap.size+1) o):=fun o hA=>hSt.own hA (Qi _ _ o rfl) fun k e=>.inr (by omega)
 refine⟨w.heap.size+1,[{ target:=.collected w.heap.size,args:=#[] }],W1,{ target:=.fn (.func gf) lb,args:=#[.func (.yield (w.heap.size+1)) #[] #[]] },W1,gf,
  #[.func (.yield (w.heap.size+1)) #[] #[]]++lb,W1,?_,?_,?_,?_,fun _=>h1,?_⟩
 ·rw[←hW1,hrec];exact run_enterLoop_outer _ _ _ _ _
 ·simp only[resolve,hg];simp[go_sem]
 ·intro f' hf';simp[Target.leads] at hf';subst hf';exact hFg
 ·simp[invoke,go_sem,eg]
 ·have keep:∀{A B:World} {T:Nat→Prop} {k:Nat} {o:Obj},Zb T A B→¬T k→A.heap[k]?=some o→B.heap[k]?=some o:=fun ht hk h=>(ht.block _ (Array.getElem?_eq_some_iff.1 h).1 hk).trans h
  have un0:¬(U w.heap.size∨W1.heap.size≤w.heap.size):=fun e=>e.elim (fun e=>absurd (hU _ e) (Nat.lt_irrefl _)) fun e=>by omega
  have un1:¬(U (w.heap.size+1)∨W1.heap.size≤w.heap.size+1):=fun e=>e.elim (fun e=>by have:=hU _ e;omega) fun e=>by omega
  have stay:∀{A B:World} {k:Nat},w.heap.size+1<A.heap.size→Zb (fun k=>U k∨w.heap.size≤k) A B→¬O A k→¬O B k:=fun hA ht hk e=>hk (hSt _ _ (by omega) ht _ e)
  refine(hseq O (w.heap.size+1)
   (fun pre W=>I pre W∧W.heap[w.heap.size+1]?=some (.loop (rec .ready none))∧W.heap[w.heap.size]?=some (.deferred (some []))∧¬O W (w.heap.size+1)∧¬O W w.heap.size)
   (fun pre W=>∃c,Ix c pre W∧W.heap[w.heap.size+1]?=some (.loop (rec .done (some c)))∧W.heap[w.heap.size]?=some (.deferred (some []))∧¬O W (w.heap.size+1)∧¬O W w.heap.size)
   W1 (hG W1 hb1) (fun s A h=>hL s A h.1) (fun s A h=>by obtain⟨c,hc,_⟩:=h;exact hLX c s A hc)
   (hSt.mono (by omega) fun k e=>e.imp id fun e=>by omega) (fun s A h k e=>hOl _ _ h.1 k e)
   (fun s A B hs ht hl=>⟨hI s A B hs.1 (ht.mono fun k _ e=>⟨e.1.imp id fun e=>by omega,e.2⟩) hl,keep ht (fun e=>un1 e.1) hs.2.1,keep ht (fun e=>un0 e.1) hs.2.2.1,stay (Za hs.2.1) (ht.mono fun k _ e=>e.1.imp id fun e=>by omega) hs.2.2.2.1,stay (Za hs.2.1) (ht.mono fun k _ e=>e.1.imp id fun e=>by omega) hs.2.2.2.2⟩)
   (fun s A B hs ht=>by
    obtain⟨c,hc,hl,hk,n1,n0⟩:=hs;have htm:=ht.mono (T':=fun k=>U k∨w.heap.size≤k) fun k _ e=>.inr (by omega)
    exact⟨c,hIx c s A B hc (ht.mono fun k _ e=>⟨by omega,e.2⟩),keep ht (fun e=>by omega) hl,keep ht (fun e=>by omega) hk,stay (Za hl) htm n1,stay (Za hl) htm n0⟩)
   ?_ ⟨hI1,hL1,hK1,fun e=>by have:=hO1 _ e;omega,fun e=>by have:=hO1 _ e;omega⟩).mono ?_
  ·-- one round
   rintro pre x W ⟨hi,hl,hk,no1,no0⟩ hpre hsz;have hy:=run_yield (P:=P) (args:=encs x) hl (by rw[hrec];exact hps x)
   rw[hrec] at hy;refine⟨fn,_,assign,body,hy,roundIn_of_wpIn hfn (hassign _ pre x W _ hi hpre (by omega) ?_)⟩;clear hy;intro a' Wa hta hia hax;replace hl:=keep hta (fun e=>e) hl;replace hk:=keep hta (fun e=>e) hk;have hlt:w.heap.size+1<Wa.heap.size:=(Array.getElem?_eq_some_iff.1 hl).1
   refine⟨_,run_beginRound hl (by rw[hrec]),?_⟩;have hl2:(Wa.putObj (w.heap.size+1) (.loop { rec .ready none with state:=.busy })).heap[w.heap.size+1]?=some (.loop { rec .ready none with state:=.busy }):=World.putObj_heap_same hlt
   have hk2:(Wa.putObj (w.heap.size+1) (.loop { rec .ready none with state:=.busy })).heap[w.heap.size]?=some (.deferred (some [])):=(World.putObj_heap_other (by omega)).trans hk;replace no1:=stay (by omega) (hta.mono fun _ _ e=>e.elim) no1;replace no0:=stay (by omega) (hta.mono fun _ _ e=>e.elim) no0;have htw:TO O (fun k=>k<W1.heap.size) W (Wa.putObj (w.heap.size+1) (.loop { rec .ready none with state:=.busy })):=((hSt.own (by omega) hta fun _ e=>e.elim).mono fun _ _ e=>e.elim).then (own _ (by have:=hta.size;omega)) fun k _ e=>by omega
   have hib:=put (.loop { rec .ready none with state:=.busy }) hia no1;have nb1:=(own (.loop { rec .ready none with state:=.busy }) (by omega)).off hlt no1;have nb0:=(own (.loop { rec .ready none with state:=.busy }) (by omega)).off (by omega) no0;refine wpIn_mono (hbody _ pre x a' _ (by omega) ⟨_,hl2⟩ hib (hAx x a' _ _ hax) hpre (by simp;omega)) ?_
   have fin:∀(jump:Option Code) (W3:World),TO O (fun k=>k<w.heap.size) (Wa.putObj (w.heap.size+1) (.loop { rec .ready none with state:=.busy })) W3 →
     (Instr.endRound (w.heap.size+1) jump).run P W3=.ok (.bool jump.isNone) (W3.putObj (w.heap.size+1) (.loop (rec (if jump.isNone then .ready else .done) jump))) ∧
     (W3.putObj (w.heap.size+1) (.loop (rec (if jump.isNone then .ready else .done) jump))).heap[w.heap.size+1]?=some (.loop (rec (if jump.isNone then .ready else .done) jump)) ∧
     (W3.putObj (w.heap.size+1) (.loop (rec (if jump.isNone then .ready else .done) jump))).heap[w.heap.size]?=some (.deferred (some [])) ∧
     TO O (fun k=>k<W1.heap.size) W (W3.putObj (w.heap.size+1) (.loop (rec (if jump.isNone then .ready else .done) jump)))∧¬O W3 (w.heap.size+1)∧¬O (W3.putObj (w.heap.size+1) (.loop (rec (if jump.isNone then .ready else .done) jump))) (w.heap.size+1)∧¬O (W3.putObj (w.heap.size+1) (.loop (rec (if jump.isNone then .ready else .done) jump))) w.heap.size:=fun jump W3 hk3=>by
    have hl3:=hk3.keep (by omega) nb1 hl2
    have hs3:Wa.heap.size≤W3.heap.size:=by simpa using hk3.size
    have m1:=hk3.off (by simpa using hlt) nb1
    have m0:=hk3.off (by simp;omega) nb0
    have ho4:∀o,TO O (fun k=>k=w.heap.size+1) W3 (W3.putObj (w.heap.size+1) o):=fun o=>own o (by omega)
    have:=run_endRound (P:=P) jump hl3
    rw[hrec] at this ⊢
    exact⟨this,World.putObj_heap_same (Array.getElem?_eq_some_iff.1 hl3).1,(World.putObj_heap_other (by omega)).trans (hk3.keep (by omega) nb0 hk2),(htw.then hk3 fun k _ e=>by omega).then (ho4 _) fun k _ e=>by omega,m1,(ho4 _).off (by omega) m1,(ho4 _).off (by omega) m0⟩
   rintro e a3 W3 hp
   cases e with
   | normal =>
    obtain⟨hk3,hi3⟩:=hp;obtain⟨hr,hl4,hk4,ht4,q1,q2,q3⟩:=fin none W3 hk3;exact⟨_,_,hr,ht4,.inl ⟨rfl,put _ hi3 q1,hl4,hk4,q2,q3⟩⟩
   | ret =>
    obtain⟨hk3,hi3⟩:=hp;obtain⟨hr,hl4,hk4,ht4,q1,q2,q3⟩:=fin (some .ret) W3 hk3;exact⟨_,_,hr,ht4,.inr ⟨rfl,.ret,putx _ hi3 q1,hl4,hk4,q2,q3⟩⟩
   | exit id =>
    obtain⟨hk3,hi3⟩:=hp;obtain⟨hr,hl4,hk4,ht4,q1,q2,q3⟩:=fin (some (.exit id)) W3 hk3;exact⟨_,_,hr,ht4,.inr ⟨rfl,.exit id,putx _ hi3 q1,hl4,hk4,q2,q3⟩⟩
   | goto t =>
    obtain⟨hk3,hi3⟩:=hp;obtain⟨hr,hl4,hk4,ht4,q1,q2,q3⟩:=fin (some (.goto t)) W3 hk3;exact⟨_,_,hr,ht4,.inr ⟨rfl,.goto t,putx _ hi3 q1,hl4,hk4,q2,q3⟩⟩
   | panic ch=>exact hp.elim
   | outgrown=>exact hp.elim
  ·-- behind the iterator
   rintro e W2 ⟨⟨v,rfl⟩,hsz,(⟨hi,hl,hk,n1,n0⟩ | ⟨pre,hpre,c,hi,hl,hk,n1,n0⟩)⟩
   ·exact⟨none,_,by have:=run_endLoop (P:=P) hl (by rw[hrec];simp);rw[hrec] at this;exact this,hdone _ _ (Nat.le_refl _) ((own _ (by omega)).off (by omega) n0) (by simp;omega) (put _ hi n1) ((World.putObj_heap_other (by omega)).trans hk)⟩
   ·exact⟨some c,_,by have:=run_endLoop (P:=P) hl (by rw[hrec];simp);rw[hrec] at this;exact this,hstop _ c pre _ (Nat.le_refl _) ((own _ (by omega)).off (by omega) n0) (by simp;omega) hpre (putx _ hi n1) ((World.putObj_heap_other (by omega)).trans hk)⟩
end
section
open Go.RowKit Go.Shelf
attribute [local go_sem] Oper.semAt_some
abbrev enA (e:En):Value:=.agg #[.string ⟨e.key.toArray⟩,.string ⟨e.val.toArray⟩,.int .i64 e.kid]
theorem values_seq (n:Nat) (hn:1<=n) (C:Nat) (v:Value) (L:List En) (hL:L.length<=1000000) :
  SeqX Fence.wide n Tryz.prog 144 #[.pointer (some ⟨C,0,none⟩)] (λe:En=>#[enA e]) (λ_=>False) (λW=>IsE W v L) (λ_=>True) L (λW=>W.cell? ⟨C,0,none⟩=some v/\IsE W v L):=λO l J X W N m _ w x D z E F=>by
 obtain⟨Y,b⟩:=N;obtain⟨a,P,rfl,Q,A⟩:=b.form;unfold maxLen at A;have HROW:=Hd b
 have R:=Hd E;have HJ:=Hd D;have H0:=Hd F;have HLV:=Hd m;clear E D F z m b w x;refine callsIn_of_wp Tryz.func144 rfl trivial ?_ rfl;simp only[Tryz.ntmps144,List.size_toArray,List.length_cons,List.length_nil,Nat.reduceAdd,Nat.reduceSub,Array.replicate_succ,Array.replicate_zero,List.push_toArray,List.append_toArray,List.nil_append,List.cons_append];gi_wp2_with fail;gi_loopw [4,7,8,9,10,11,12,13,14,15] (λ_ i _ _ _ _ _ _ _ _ wr=>∃k:Nat,k<=L.length/\i=.int .i64 (k:Int)/\J (L.take k) wr/\W.heap.size<=wr.heap.size) (λ_ i _ _ _ _ _ _ _ _ _=>L.length - (intOf i).toNat)
 case atStart=>exact⟨0,Vl _,rfl,H0.out,Va _⟩
 case round =>
  obtain⟨k,Z,rfl,p,B⟩:=hrel;have HJs:=Hd p
  clear p;by_cases f:k<L.length
  .have S:decide ((k:Int)<(L.length:Int))=true:=by simpa using f
   obtain⟨i0,i1⟩:(0:Int)<=(k:Int)/\(k:Int)<(L.length:Int):=by omega
   obtain⟨Ba,o,rfl,T,U,V⟩:=(HLV.out _ _ HJs.out).at k f;obtain⟨y,t⟩:∃y,y=L[k]:=⟨_,rfl⟩;rw[<-t] at T U V;have q:L.take k++[y]=L.take (k+1):=by rw[t,List.take_add_one,List.getElem?_eq_getElem f];rfl
   have g:=Hd q;clear q t;have r:J (L.take k) (wr.alloc (.cells #[.string ⟨y.key.toArray⟩,.string ⟨y.val.toArray⟩,.int .i64 y.kid] 179)):=HJ.out _ _ _ HJs.out (Zcb _ _ _) ((HLV.out _ _ HJs.out).below ((Ve _ _).alloc (Va _) _));obtain⟨fn,G,u,H,t,I⟩:=R.out (L.take k) y _ r ⟨L.drop (k+1),by rw[g.out,List.take_append_drop]⟩ (by simp;omega);have HHR:=Hd I;clear I r;gi_wp2_with fail;refine HHR.out.mono ?_;rintro e M ⟨c,(⟨rfl,s⟩ | ⟨rfl,d⟩)⟩
   .have HJ5:=Hd s
    have h:W.heap.size<=M.heap.size:=by have:=c.size;simp at this;omega
    clear s c;gi_wp2_with fail;go_roundw
    case rel=>exact⟨k+1,by omega,by go_num,by rw[<-g.out];exact HJ5.out,h⟩
    case measure=>simp[intOf];omega
   .have HJX:=Hd d
    have h:W.heap.size<=M.heap.size:=by have:=c.size;simp at this;omega
    clear d c;gi_wp2_with fail;refine Vn (results_none rfl _ _ _) rfl ?_;exact⟨⟨_,rfl⟩,h,.inr ⟨_,⟨L.drop (k+1),by rw[g.out,List.take_append_drop]⟩,HJX.out⟩⟩
  .obtain rfl:k=L.length:=by omega
   have S:decide ((L.length:Int)<(L.length:Int))=false:=by simp
   have j:=HJs.out;rw[List.take_length] at j;have HJL:=Hd j;clear j;gi_wp2_with fail;go_end0;exact⟨⟨_,rfl⟩,B,.inl HJL.out⟩
end
end Go.Proofs.YtfaobkmojlhbnaaGreatDoor
