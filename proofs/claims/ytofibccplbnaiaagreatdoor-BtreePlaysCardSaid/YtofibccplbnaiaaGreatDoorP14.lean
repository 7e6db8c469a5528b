/- Contracts of the functions that the statements of this seat reach, part 14: each says what the call answers and what it leaves of the memory. -/
import Derived.Test.YtofibccplbnaiaaGreatDoorP1
import Derived.RangeFuncNested
import Derived.RangeFuncBound
import Derived.RangeFuncCalls
import Derived.RangeFuncLeaves
import Derived.OwnWalkIn
import Derived.Test.YtofibccplbnaiaaGreatDoorP6
import Derived.Shelf.Abstract
import Derived.TacticsInMore
import Derived.LoopNIn
import Derived.LoopIn
set_option linter.unusedVariables false
set_option linter.unusedSimpArgs false
set_option maxRecDepth 100000
set_option maxHeartbeats 64000000
namespace Go.Proofs.YtofibccplbnaiaaGreatDoor
section
open Go.RowKit
theorem Zak {T:Nat→Prop} (W:World) (l:Nat) (o:Obj) (h:T l):Zb T W (W.putObj l o) :=
 ⟨rfl,rfl,rfl,by simp,fun k _ hk=>World.putObj_heap_other (fun e=>hk (by rw[e];exact h))⟩
theorem Zdy (T:Nat→Prop) (W:World) (o:Obj):Zb T W (W.alloc o) :=
 ⟨rfl,rfl,rfl,by simp,fun k hk _=>Below.heap_alloc W o k hk⟩
def SeqT {α:Type} (F:Fence) (n:Nat) (P:Program) (g:Nat) (lb:Array Value) (encs:α→Array Value) (U:Nat→Prop) (Live:World→Prop) (xs:List α) (G:World→Prop):Prop :=
 ∀(l:Nat) (J Jx:List α→World→Prop) (W:World),G W→(∀s A,J s A→Live A) →
  (∀s A B,J s A→Zb (fun k=>U k∨W.heap.size≤k) A B→Live B→J s B)→(∀s A B,Jx s A→Zb (fun k=>W.heap.size≤k) A B→Jx s B) →
  (∀pre x W1,J pre W1→pre++[x] <+: xs→W.heap.size≤W1.heap.size→YieldAt F (n - 1) P l (encs x) W1 fun e W' =>
   Zb (fun k=>k<W.heap.size) W1 W'∧((e=.returned (.bool true)∧J (pre++[x]) W')∨(e=.returned (.bool false)∧Jx (pre++[x]) W'))) →
  J [] W →
  CallsIn F n P g (#[.func (.yield l) #[] #[]]++lb) W fun e W'=>(∃v,e=.returned v)∧W.heap.size≤W'.heap.size∧(J xs W'∨∃pre,pre <+: xs∧Jx pre W')
def postT {α:Type} (B:Nat) (I:List α→World→Prop) (Ix:Code→List α→World→Prop) (xs:List α) (W:World):Exit→Act→World→Prop
 | .normal,_,W'=>Zb (fun k=>k<B) W W'∧I xs W'
 | .ret,_,W'=>Zb (fun k=>k<B) W W'∧Ix .ret xs W'
 | .exit id,_,W'=>Zb (fun k=>k<B) W W'∧Ix (.exit id) xs W'
 | .goto t,_,W'=>Zb (fun k=>k<B) W W'∧Ix (.goto t) xs W'
 | .panic _,_,_=>False
 | .outgrown,_,_=>False
variable {F : Fence} {n : Nat} {P : Program}
theorem rangeT {α:Type} {g:Operand} {ps:Array Tmp} {assign body:Code} {Q:Exit→Act→World→Prop} {a:Act} {w:World}
  (hro:F.round=none) (h1:1≤n) {gf:Nat} {lb:Array Value} (hg:a.eval g=.func (.func gf) #[] lb) (hFg:F.fn gf) (eg:∀args w,(callFunc gf args).run P w=.ok (.enter gf args) w)
  {encs:α→Array Value} {U:Nat→Prop} {Live:World→Prop} {xs:List α} {G:World→Prop} (hseq:SeqT F (n - 1) P gf lb encs U Live xs G) (hps:∀x,(encs x).size=ps.size)
  (I:List α→World→Prop) (Ix:Code→List α→World→Prop) (hG:∀W,Below w.heap.size w W→G W) (hL:∀s A,I s A→Live A) (hLp:∀A B,Live A→Zb (fun k=>w.heap.size≤k) A B→Live B)
  (hI:∀s A B,I s A→Zb (fun k=>U k∨w.heap.size≤k) A B→Live B→I s B) (hU:∀k,U k→k<w.heap.size) (hIx:∀c s A B,Ix c s A→Zb (fun k=>w.heap.size≤k) A B→Ix c s B) (h0:I [] w)
  (Ax:α→Act→World→Prop) (hAx:∀x a' A o,Ax x a' A→Ax x a' (A.putObj (w.heap.size+1) o))
  (hassign:∀(l:Nat) (pre:List α) (x:α) (W:World) (K:Act→World→Prop),I pre W→pre++[x] <+: xs→w.heap.size+2≤W.heap.size→(∀a' W',Zb (fun _=>False) W W'→I pre W'→Ax x a' W'→K a' W') →
   assign.wpIn (F.inRound l) (n - 1 - 1) P (Exit.then K (fun _ _ _=>False)) { tmps:=(ps.zip (encs x)).foldl (fun t (p,v)=>t.setIfInBounds p v) a.tmps,defers:=[] } W)
  (hbody:∀(l:Nat) (pre:List α) (x:α) (a':Act) (W:World),w.heap.size≤l→(∃r,W.heap[l]?=some (.loop r))→I pre W→Ax x a' W→pre++[x] <+: xs→w.heap.size+2≤W.heap.size→body.wpIn (F.inRound l) (n - 1 - 1) P (postT w.heap.size I Ix (pre++[x]) W) a' W)
  (hdone:∀(D:Nat) (W:World),w.heap.size≤D→w.heap.size≤W.heap.size→I xs W→W.heap[D]?=some (.deferred (some []))→Q .normal { a with defers:={ target:=.collected D,args:=#[] }::a.defers } W)
  (hstop:∀(D:Nat) (c:Code) (pre:List α) (W:World),w.heap.size≤D→w.heap.size≤W.heap.size→pre <+: xs→Ix c pre W→W.heap[D]?=some (.deferred (some []))→c.wpIn F n P Q { a with defers:={ target:=.collected D,args:=#[] }::a.defers } W) :
  (Code.rangeFunc g ps assign body).wpIn F n P Q a w:=by
 refine wpIn_rangeFunc ?_;intro fn hfn;rw[hro];obtain⟨rec,hrec⟩:∃rec:LoopState→Option Code→Loop,rec=fun st pe=>{ state:=st,pending:=pe,fn,tmps:=a.tmps,params:=ps,assign,body,defers:=w.heap.size }:=⟨_,rfl⟩;obtain⟨W1,hW1⟩:∃W1,(w.alloc (.deferred (some []))).alloc (.loop (rec .ready none))=W1:=⟨_,rfl⟩;have hs1:W1.heap.size=w.heap.size+2:=by rw[←hW1];simp
 have hL1:W1.heap[w.heap.size+1]?=some (.loop (rec .ready none)):=by rw[←hW1];have:=World.alloc_heap_new (w.alloc (.deferred (some []))) (.loop (rec .ready none));rwa[World.size_alloc] at this
 have hK1:W1.heap[w.heap.size]?=some (.deferred (some [])):=by rw[←hW1];exact(Below.heap_alloc _ _ _ (by simp)).trans (World.alloc_heap_new w _)
 have hb1:Below w.heap.size w W1:=by rw[←hW1];exact(((Below.refl _ w).alloc (Nat.le_refl _) _).alloc (by simp) _)
 have ht1:Zb (fun k=>U k∨w.heap.size≤k) w W1:=Zb.of_below hb1;have hlive:Live W1:=hLp _ _ (hL _ _ h0) (Zb.of_below hb1);have hI1:I [] W1:=hI _ _ _ h0 ht1 hlive;have put:∀{s:List α} {A:World} (l:Nat) (o:Obj),w.heap.size≤l→I s A→I s (A.putObj l o):=fun l o hl hi=>hI _ _ _ hi (Zak _ l o (.inr hl)) (hLp _ _ (hL _ _ hi) (Zak _ l o hl));have putx:∀{c:Code} {s:List α} {A:World} (l:Nat) (o:Obj),w.heap.size≤l→Ix c s A→Ix c s (A.putObj l o):=fun l o hl hi=>hIx _ _ _ _ hi (Zak _ l o hl)
 refine⟨w.heap.size+1,[{ target:=.collected w.heap.size,args:=#[] }],W1,{ target:=.fn (.func gf) lb,args:=#[.func (.yield (w.heap.size+1)) #[] #[]] },W1,gf,
  #[.func (.yield (w.heap.size+1)) #[] #[]]++lb,W1,?_,?_,?_,?_,fun _=>h1,?_⟩
 ·rw[←hW1,hrec];exact run_enterLoop_outer _ _ _ _ _
 ·simp only[resolve,hg];simp[go_sem]
 ·intro f' hf';simp[Target.leads] at hf';subst hf';exact hFg
 ·simp[invoke,go_sem,eg]
 ·have keep:∀{A B:World} {T:Nat→Prop} {k:Nat} {o:Obj},Zb T A B→¬T k→A.heap[k]?=some o→B.heap[k]?=some o:=fun ht hk h=>(ht.block _ (Array.getElem?_eq_some_iff.1 h).1 hk).trans h
  have un0:¬(U w.heap.size∨W1.heap.size≤w.heap.size):=fun e=>e.elim (fun e=>absurd (hU _ e) (Nat.lt_irrefl _)) fun e=>by omega
  have un1:¬(U (w.heap.size+1)∨W1.heap.size≤w.heap.size+1):=fun e=>e.elim (fun e=>by have:=hU _ e;omega) fun e=>by omega
  refine(hseq (w.heap.size+1)
   (fun pre W=>I pre W∧W.heap[w.heap.size+1]?=some (.loop (rec .ready none))∧W.heap[w.heap.size]?=some (.deferred (some [])))
   (fun pre W=>∃c,Ix c pre W∧W.heap[w.heap.size+1]?=some (.loop (rec .done (some c)))∧W.heap[w.heap.size]?=some (.deferred (some [])))
   W1 (hG W1 hb1) (fun s A h=>hL s A h.1)
   (fun s A B hs ht hl=>⟨hI s A B hs.1 (ht.mono fun k _ e=>e.imp id fun e=>by omega) hl,keep ht un1 hs.2.1,keep ht un0 hs.2.2⟩)
   (fun s A B hs ht=>by
    obtain⟨c,hc,hl,hk⟩:=hs
    exact⟨c,hIx c s A B hc (ht.mono fun k _ e=>by omega),keep ht (by omega) hl,keep ht (by omega) hk⟩)
   ?_ ⟨hI1,hL1,hK1⟩).mono ?_
  ·-- one round
   rintro pre x W ⟨hi,hl,hk⟩ hpre hsz;have hy:=run_yield (P:=P) (args:=encs x) hl (by rw[hrec];exact hps x)
   rw[hrec] at hy;refine⟨fn,_,assign,body,hy,roundIn_of_wpIn hfn (hassign _ pre x W _ hi hpre (by omega) ?_)⟩;clear hy;intro a' Wa hta hia hax;replace hl:=keep hta (fun e=>e) hl;replace hk:=keep hta (fun e=>e) hk;have hlt:w.heap.size+1<Wa.heap.size:=(Array.getElem?_eq_some_iff.1 hl).1
   refine⟨_,run_beginRound hl (by rw[hrec]),?_⟩;have hl2:(Wa.putObj (w.heap.size+1) (.loop { rec .ready none with state:=.busy })).heap[w.heap.size+1]?=some (.loop { rec .ready none with state:=.busy }):=World.putObj_heap_same hlt
   have hk2:(Wa.putObj (w.heap.size+1) (.loop { rec .ready none with state:=.busy })).heap[w.heap.size]?=some (.deferred (some [])):=(World.putObj_heap_other (by omega)).trans hk;have htw:Zb (fun k=>k<W1.heap.size) W (Wa.putObj (w.heap.size+1) (.loop { rec .ready none with state:=.busy })):=(hta.mono fun _ _ e=>e.elim).trans (Zak _ _ _ (by omega));refine wpIn_mono (hbody _ pre x a' _ (by omega) ⟨_,hl2⟩ (put _ _ (by omega) hia) (hAx x a' _ _ hax) hpre (by simp;omega)) ?_
   have fin:∀(jump:Option Code) (W3:World),Zb (fun k=>k<w.heap.size) (Wa.putObj (w.heap.size+1) (.loop { rec .ready none with state:=.busy })) W3 →
     (Instr.endRound (w.heap.size+1) jump).run P W3=.ok (.bool jump.isNone) (W3.putObj (w.heap.size+1) (.loop (rec (if jump.isNone then .ready else .done) jump))) ∧
     (W3.putObj (w.heap.size+1) (.loop (rec (if jump.isNone then .ready else .done) jump))).heap[w.heap.size+1]?=some (.loop (rec (if jump.isNone then .ready else .done) jump)) ∧
     (W3.putObj (w.heap.size+1) (.loop (rec (if jump.isNone then .ready else .done) jump))).heap[w.heap.size]?=some (.deferred (some [])) ∧
     Zb (fun k=>k<W1.heap.size) W (W3.putObj (w.heap.size+1) (.loop (rec (if jump.isNone then .ready else .done) jump))):=fun jump W3 hk3=>by
    have hl3:=keep hk3 (by omega) hl2
    have:=run_endRound (P:=P) jump hl3
    rw[hrec] at this ⊢
    exact⟨this,World.putObj_heap_same (Array.getElem?_eq_some_iff.1 hl3).1,(World.putObj_heap_other (by omega)).trans (keep hk3 (by omega) hk2),(htw.trans (hk3.mono fun k _ e=>by omega)).trans (Zak _ _ _ (by omega))⟩
   rintro e a3 W3 hp
   cases e with
   | normal =>
    obtain⟨hk3,hi3⟩:=hp;obtain⟨hr,hl4,hk4,ht4⟩:=fin none W3 hk3;exact⟨_,_,hr,ht4,.inl ⟨rfl,put _ _ (by omega) hi3,hl4,hk4⟩⟩
   | ret =>
    obtain⟨hk3,hi3⟩:=hp;obtain⟨hr,hl4,hk4,ht4⟩:=fin (some .ret) W3 hk3;exact⟨_,_,hr,ht4,.inr ⟨rfl,.ret,putx _ _ (by omega) hi3,hl4,hk4⟩⟩
   | exit id =>
    obtain⟨hk3,hi3⟩:=hp;obtain⟨hr,hl4,hk4,ht4⟩:=fin (some (.exit id)) W3 hk3;exact⟨_,_,hr,ht4,.inr ⟨rfl,.exit id,putx _ _ (by omega) hi3,hl4,hk4⟩⟩
   | goto t =>
    obtain⟨hk3,hi3⟩:=hp;obtain⟨hr,hl4,hk4,ht4⟩:=fin (some (.goto t)) W3 hk3;exact⟨_,_,hr,ht4,.inr ⟨rfl,.goto t,putx _ _ (by omega) hi3,hl4,hk4⟩⟩
   | panic ch=>exact hp.elim
   | outgrown=>exact hp.elim
  ·-- behind the iterator
   rintro e W2 ⟨⟨v,rfl⟩,hsz,(⟨hi,hl,hk⟩ | ⟨pre,hpre,c,hi,hl,hk⟩)⟩
   ·exact⟨none,_,by have:=run_endLoop (P:=P) hl (by rw[hrec];simp);rw[hrec] at this;exact this,hdone _ _ (Nat.le_refl _) (by simp;omega) (put _ _ (by omega) hi) ((World.putObj_heap_other (by omega)).trans hk)⟩
   ·exact⟨some c,_,by have:=run_endLoop (P:=P) hl (by rw[hrec];simp);rw[hrec] at this;exact this,hstop _ c pre _ (Nat.le_refl _) (by simp;omega) hpre (putx _ _ (by omega) hi) ((World.putObj_heap_other (by omega)).trans hk)⟩
end
section
open Go.RowKit Go.Shelf
attribute [local go_sem] Oper.semAt_some
abbrev enA (e:En):Value:=.agg #[.string ⟨e.key.toArray⟩,.string ⟨e.val.toArray⟩,.int .i64 e.kid]
theorem values_seq (n:Nat) (hn:1≤n) (bx:Nat) (sv:Value) (L:List En) (hL:L.length≤1000000) :
  SeqT Fence.wide n Tryz.prog 111 #[.pointer (some ⟨bx,0,none⟩)] (fun e:En=>#[enA e]) (fun _=>False) (fun W=>IsE W sv L) L (fun W=>W.cell? ⟨bx,0,none⟩=some sv∧IsE W sv L):=fun l J Jx W hG hLv hJ hJx hY h0=>by
 obtain⟨cx,hrow⟩:=hG;obtain⟨a,cap,rfl,hlc,hmx⟩:=hrow.form;unfold maxLen at hmx;have HROW:=Hd hrow
 have HY:=Hd hY;have HJ:=Hd hJ;have H0:=Hd h0;have HLV:=Hd hLv;clear hY hJ h0 hJx hLv hrow;refine callsIn_of_wp Tryz.func111 rfl trivial ?_ rfl;simp only[Tryz.ntmps111,List.size_toArray,List.length_cons,List.length_nil,Nat.reduceAdd,Nat.reduceSub,Array.replicate_succ,Array.replicate_zero,List.push_toArray,List.append_toArray,List.nil_append,List.cons_append];gi_wp2_with fail;gi_loopw [4,7,8,9,10,11,12,13,14,15] (fun _ i _ _ _ _ _ _ _ _ wr=>∃k:Nat,k≤L.length∧i=.int .i64 (k:Int)∧J (L.take k) wr∧W.heap.size≤wr.heap.size) (fun _ i _ _ _ _ _ _ _ _ _=>L.length - (intOf i).toNat)
 case atStart=>exact⟨0,Nat.zero_le _,rfl,H0.out,Nat.le_refl _⟩
 case round =>
  obtain⟨k,hk,rfl,hJs,hsz⟩:=hrel;have HJs:=Hd hJs
  clear hJs;by_cases hlt:k<L.length
  ·have hd:decide ((k:Int)<(L.length:Int))=true:=by simpa using hlt
   have i0:(0:Int)≤(k:Int):=by omega
   have i1:(k:Int)<(L.length:Int):=by omega
   obtain⟨Ba,o,rfl,c0,c1,c2⟩:=(HLV.out _ _ HJs.out).at k hlt;obtain⟨y,hy⟩:∃y,y=L[k]:=⟨_,rfl⟩;rw[←hy] at c0 c1 c2;have htk:L.take k++[y]=L.take (k+1):=by rw[hy,List.take_add_one,List.getElem?_eq_getElem hlt];rfl
   have HTK:=Hd htk;clear htk hy;have hJ3:J (L.take k) (wr.alloc (.cells #[.string ⟨y.key.toArray⟩,.string ⟨y.val.toArray⟩,.int .i64 y.kid] 82)):=HJ.out _ _ _ HJs.out (Zdy _ _ _) ((HLV.out _ _ HJs.out).below ((Below.refl _ _).alloc (Nat.le_refl _) _));obtain⟨fn,tmps,assign,body,hy,hR⟩:=HY.out (L.take k) y _ hJ3 ⟨L.drop (k+1),by rw[HTK.out,List.take_append_drop]⟩ (by simp;omega);have HHR:=Hd hR;clear hR hJ3;gi_wp2_with fail;refine HHR.out.mono ?_;rintro e w5 ⟨ht5,(⟨rfl,hJ5⟩ | ⟨rfl,hJx5⟩)⟩
   ·have HJ5:=Hd hJ5
    have hs5:W.heap.size≤w5.heap.size:=by have:=ht5.size;simp at this;omega
    clear hJ5 ht5;gi_wp2_with fail;go_roundw
    case rel=>exact⟨k+1,by omega,by go_num,by rw[←HTK.out];exact HJ5.out,hs5⟩
    case measure=>simp[intOf];omega
   ·have HJX:=Hd hJx5
    have hs5:W.heap.size≤w5.heap.size:=by have:=ht5.size;simp at this;omega
    clear hJx5 ht5;gi_wp2_with fail;refine bodyPost_ret (results_none rfl _ _ _) rfl ?_;exact⟨⟨_,rfl⟩,hs5,.inr ⟨_,⟨L.drop (k+1),by rw[HTK.out,List.take_append_drop]⟩,HJX.out⟩⟩
  ·obtain rfl:k=L.length:=by omega
   have hd:decide ((L.length:Int)<(L.length:Int))=false:=by simp
   have hJL:=HJs.out;rw[List.take_length] at hJL;have HJL:=Hd hJL;clear hJL;gi_wp2_with fail;go_end0;exact⟨⟨_,rfl⟩,hsz,.inl HJL.out⟩
end
end Go.Proofs.YtofibccplbnaiaaGreatDoor
