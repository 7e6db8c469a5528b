/- Contracts of the functions that the statements of this seat reach, part 15: each says what the call answers and what it leaves of the memory. -/
import Derived.Test.YtofibccplbnaiaaGreatDoorP14
import Derived.Test.YtofibccplbnaiaaGreatDoorP9
import Derived.Test.YtofibccplbnaiaaGreatDoorP12
import Derived.Test.YtofibccplbnaiaaGreatDoorP8
set_option linter.unusedVariables false
set_option linter.unusedSimpArgs false
set_option maxRecDepth 100000
set_option maxHeartbeats 64000000
namespace Go.Proofs.YtofibccplbnaiaaGreatDoor
section
open Go.RowKit Go.Shelf Go.Lib
abbrev valsF (bx:Nat):Value:=.func (.func 111) #[] #[.pointer (some ⟨bx,0,none⟩)]
abbrev slO (v:Value):Obj:=.cells #[v] 78 (0,0)
theorem vals_any (w:World) (a:Option Addr) (n cap:Nat):Calls Tryz.prog 87 #[.slice a n cap] w fun e w'=>e=.returned (valsF w.heap.size)∧w'=w.alloc (slO (.slice a n cap)):=by go_enter Tryz.func87,Tryz.ntmps87;go_wp2_with fail;go_ret;exact⟨rfl,rfl⟩
theorem from_any (w:World) (leaf:Bool) (b o n cap:Nat) {l:List En} (h:IsE w (.slice (some ⟨b,o,none⟩) n cap) l) (hnl:n=l.length) (hn0:0<n) (hm:l.length≤1000000) (hs:Srt ⟨leaf,l⟩) (key:List UInt8) {i:Nat} (hi:((Nd.mk leaf l).behind key).1=i) (hil:i≤l.length) :
  Calls Tryz.prog 51 #[ndV leaf (.slice (some ⟨b,o,none⟩) n cap),.string ⟨key.toArray⟩] w fun e w'=>∃bx o',e=.returned (valsF bx)∧Below w.heap.size w w'∧w.heap.size≤bx∧w'.heap[bx]?=some (slO (.slice (some ⟨b,o',none⟩) (l.length - i) (cap - i)))∧IsE w' (.slice (some ⟨b,o',none⟩) (l.length - i) (cap - i)) (l.drop i):=by
 obtain⟨W1,hW1⟩:∃x,x=w.alloc (.cells #[.bool leaf,.slice (some ⟨b,o,none⟩) n cap] 84):=⟨_,rfl⟩;have hb1:Below w.heap.size w W1:=by rw[hW1];exact Zj w _
 have hn1:W1.heap[w.heap.size]?=some (ndO leaf (.slice (some ⟨b,o,none⟩) n cap)):=by rw[hW1];exact heap_alloc_new w _
 have hE1:=h.below hb1;have HBE:=Hd (behind_any W1 leaf (some ⟨b,o,none⟩) n cap hE1 hnl hn0 hm hs key);have n0:=(Zc hn1).1;have n1:=(Zc hn1).2;obtain⟨_,hcap,hmx⟩:∃cap',cap'=cap∧l.length≤cap∧cap≤maxLen:=by obtain⟨a',cap',hv,hl,hmm,_⟩:=h;simp only[Value.slice.injEq] at hv;obtain⟨_,_,rfl⟩:=hv;exact⟨_,rfl,hl,hmm⟩
 obtain⟨hcap,hmx⟩:=hmx;unfold maxLen at hmx;have HW1:=Hd hW1
 have HB1:=Hd hb1;have HN1:=Hd hn1;have HE1:=Hd hE1;have hs1:W1.heap.size=w.heap.size+1:=by rw[hW1];simp
 have HS1:=Hd hs1;rw[hi] at HBE;generalize ((Nd.mk leaf l).behind key).2=is at *;rw[hW1] at n0 n1;have HNL:=Hd hnl;clear h hW1 hb1 hn1 hE1 hs hm hs1 hnl hi;have i1:i≤n:=by have:=HNL.out;omega
 have i2:n≤cap:=by have:=HNL.out;omega
 clear hil hcap;go_enter Tryz.func51,Tryz.ntmps51;go_wp2_with fail;rw[←HW1.out];refine HBE.out.mono ?_;rintro e w2 ⟨rfl,hb2⟩;have hn2:=(hb2.block _ (Za HN1.out)).trans HN1.out
 have m0:=(Zc hn2).1;have m1:=(Zc hn2).2;have HE2:=Hd (HE1.out.below hb2);have HB2:=Hd (HB1.out.trans (hb2.mono (by have:=HS1.out;omega)));clear hn2 hb2 n0 n1;have hdr:∀o',IsE w2 (.slice (some ⟨b,o',none⟩) (n - i) (cap - i)) (l.drop i)→∃bx o1,(Ending.returned (valsF w2.heap.size))=.returned (valsF bx)∧Below w.heap.size w (w2.alloc (slO (.slice (some ⟨b,o',none⟩) (n - i) (cap - i))))∧w.heap.size≤bx∧(w2.alloc (slO (.slice (some ⟨b,o',none⟩) (n - i) (cap - i)))).heap[bx]?=some (slO (.slice (some ⟨b,o1,none⟩) (l.length - i) (cap - i)))∧IsE (w2.alloc (slO (.slice (some ⟨b,o',none⟩) (n - i) (cap - i)))) (.slice (some ⟨b,o1,none⟩) (l.length - i) (cap - i)) (l.drop i):=fun o' hE=>by have hnl:=HNL.out;rw[←hnl];exact⟨w2.heap.size,o',rfl,HB2.out.trans ((Zj w2 _).mono HB2.out.size),HB2.out.size,heap_alloc_new _ _,hE.below (Zj w2 _)⟩
 have HDR:=Hd hdr;clear hdr;by_cases hci:cap=i
 ·have hVA:=Hd (vals_any w2 (some ⟨b,o,none⟩) (n - i) 0)
  have hEE:Hid (IsE w2 (.slice (some ⟨b,o,none⟩) (n - i) (cap - i)) (l.drop i)):=Hd (by
   have hnl:=HNL.out;have h0:l.drop i=[]:=List.drop_eq_nil_of_le (by omega);rw[h0]
   exact⟨_,_,by rw[show n - i=([]:List En).length from by simp;omega],by simp,by unfold maxLen;omega,fun e=>(by cases e),fun x hx=>⟨fun hp=>absurd hp (by simp),fun j hj=>absurd hj (by simp)⟩⟩)
  have hd1:decide (i≤n)=true:=decide_eq_true i1;go_wp2_with fail;refine hVA.out.mono ?_;rintro e w3 ⟨rfl,rfl⟩;go_wp2_with fail;go_ret;have hx:=HDR.out o hEE.out;rw[show cap - i=0 by omega] at hx ⊢
  exact hx
 ·have hVA:=Hd (vals_any w2 (some ⟨b,o+i*3,none⟩) (n - i) (cap - i))
  have hEE:Hid (IsE w2 (.slice (some ⟨b,o+i*3,none⟩) (n - i) (cap - i)) (l.drop i)):=Hd (by
   have:=HE2.out.drop i (by have:=HNL.out;omega);rw[←HNL.out] at this
   exact this)
  go_wp2_with fail;refine hVA.out.mono ?_;rintro e w3 ⟨rfl,rfl⟩;go_wp2_with fail;go_ret;exact HDR.out _ hEE.out
end
section
open Go.RowKit Go.Shelf Go.Lib
abbrev trpO (tb:Nat):Obj:=.cells #[trp tb] 25 (0,0)
abbrev izO (i:Int):Obj:=.cells #[.int .i64 i] 3 (0,0)
abbrev bolO (b:Bool):Obj:=.cells #[.bool b] 4 (0,0)
abbrev yldO (lo:Nat):Obj:=.cells #[.func (.yield lo) #[] #[]] 101 (0,0)
abbrev Xc (b:Nat):Value:=.pointer (some ⟨b,0,none⟩)
abbrev walkF (bt bl bf bq by_ bw:Nat):Value:=.func (.func 50) #[] #[Xc bt,Xc bl,Xc bf,Xc bq,Xc by_,Xc bw]
abbrev wlkO (bt bl bf bq by_ bw:Nat):Obj:=.cells #[walkF bt bl bf bq by_ bw] 102 (0,0)
abbrev kvA (x:KV):Array Value:=#[.string ⟨x.1.toArray⟩,.string ⟨x.2.toArray⟩]
section
variable (n : Nat) (J : Jn) (seq : Int) (B : List (List UInt8)) (F : Ft) (p : Nat) (f : Pf) (R : Rp) (tb : Nat) (bt bf bq : Nat) (from_ to_ : List UInt8)
structure Zcj (W:World):Prop where
 tr:Tr n J seq B W F p f R tb
 hbt:W.heap[bt]?=some (trpO tb)
 hbf:W.heap[bf]?=some (Ql from_)
 hbq:W.heap[bq]?=some (Ql to_)
structure LowR (N:Nat):Prop where
 pj:∀k,PJ F p f k→k<N
 nib:0<N
 htb:tb<N
 hbt:bt<N
 hbf:bf<N
 hbq:bq<N
 at_:¬PJ F p f bt
 af:¬PJ F p f bf
 aq:¬PJ F p f bq
end
section
variable {n : Nat} {J : Jn} {seq : Int} {B : List (List UInt8)} {F : Ft} {p : Nat} {f : Pf} {R : Rp} {tb : Nat} {bt bf bq : Nat} {from_ to_ : List UInt8} {W W' : World} {N : Nat}
theorem Yg {T:Nat→Prop} {k:Nat} {o:Obj} (ht:Zb T W W') (hk:¬T k) (h:W.heap[k]?=some o):W'.heap[k]?=some o:=(ht.block _ (Za h) hk).trans h
theorem Tr.turned {T:Nat→Prop} (h:Tr n J seq B W F p f R tb) (ht:Zb T W W') (hT:∀k,PJ F p f k∨k=0→¬T k) (hb:¬T tb):Tr n J seq B W' F p f R tb:=⟨h.lp.turned ht hT,Yg ht hb h.head,h.apart⟩
theorem Zcj.far {T:Nat→Prop} (h:Zcj n J seq B F p f R tb bt bf bq from_ to_ W) (hN:LowR F p f tb bt bf bq N) (ht:Zb T W W') (hT:∀k,k<N→¬T k):Zcj n J seq B F p f R tb bt bf bq from_ to_ W' :=
 ⟨h.tr.turned ht (fun k hk=>hT k (hk.elim (hN.pj k) fun e=>by rw[e];exact hN.nib)) (hT _ hN.htb),Yg ht (hT _ hN.hbt) h.hbt,Yg ht (hT _ hN.hbf) h.hbf,Yg ht (hT _ hN.hbq) h.hbq⟩
theorem Zcj.read (h:Zcj n J seq B F p f R tb bt bf bq from_ to_ W) (hN:LowR F p f tb bt bf bq N) (ht:Zb (PJ F p f) W W') (hT:Tr n J seq B W' F p f R tb):Zcj n J seq B F p f R tb bt bf bq from_ to_ W' :=
 ⟨hT,Yg ht hN.at_ h.hbt,Yg ht hN.af h.hbf,Yg ht hN.aq h.hbq⟩
structure OwnR (bt bl bf bq by_ bw lo:Nat) (W:World) (lf:Int):Prop where
 left:W.heap[bl]?=some (izO lf)
 yld:W.heap[by_]?=some (yldO lo)
 wlk:W.heap[bw]?=some (wlkO bt bl bf bq by_ bw)
theorem OwnR.keep {T:Nat→Prop} {bl by_ bw lo:Nat} {lf:Int} (h:OwnR bt bl bf bq by_ bw lo W lf) (ht:Zb T W W') (h1:¬T bl) (h2:¬T by_) (h3:¬T bw):OwnR bt bl bf bq by_ bw lo W' lf:=⟨Yg ht h1 h.left,Yg ht h2 h.yld,Yg ht h3 h.wlk⟩
theorem OwnR.move {T:Nat→Prop} {bl by_ bw lo:Nat} {lf lf':Int} (h:OwnR bt bl bf bq by_ bw lo W lf) (ht:Zb T W W') (h1:W'.heap[bl]?=some (izO lf')) (h2:¬T by_) (h3:¬T bw):OwnR bt bl bf bq by_ bw lo W' lf':=⟨h1,Yg ht h2 h.yld,Yg ht h3 h.wlk⟩
theorem roundIn_any {m m':Nat} {P:Program} {l fn:Nat} {tmps:Array Value} {assign body:Code} {w:World} {Q:Ending→World→Prop} (h:RoundIn Fence.wide m P l fn tmps assign body w Q):RoundIn Fence.wide m' P l fn tmps assign body w Q:=⟨h.1,fun c cs _=>h.2 c cs (room_wide _)⟩
theorem roundIn_in {F:Fence} {m:Nat} {P:Program} {l l2 fn:Nat} {tmps:Array Value} {assign body:Code} {w:World} {Q:Ending→World→Prop} (h:RoundIn F m P l fn tmps assign body w Q):RoundIn (F.inRound l2) m P l fn tmps assign body w Q:=h
end
def Zax (leaf:Bool) (to_:List UInt8) (rec:Int→Int→(List KV × Bool) × Int) (L:List En) (lf0:Int) (rest:List En) (out:List KV) (lf:Int):Prop :=
 rowN leaf to_ rec L lf0=((out++(rowN leaf to_ rec rest lf).1.1,(rowN leaf to_ rec rest lf).1.2),(rowN leaf to_ rec rest lf).2)
section
variable {leaf : Bool} {to_ : List UInt8} {rec : Int → Int → (List KV × Bool) × Int} {L : List En} {lf0 : Int} {rest : List En} {out : List KV} {lf : Int} {x : En} {r : List En}
theorem Zax.start:Zax leaf to_ rec L lf0 L [] lf0:=by unfold Zax;simp
theorem Zax.over (h:Zax true to_ rec L lf0 (x::r) out lf) (hc:to_≠[]∧¬x.key<to_):rowN true to_ rec L lf0=((out,false),lf):=by rw[h,rowN,if_pos rfl,if_pos hc];simp
theorem Zax.leafGo (h:Zax true to_ rec L lf0 (x::r) out lf) (hc:¬(to_≠[]∧¬x.key<to_)):Zax true to_ rec L lf0 r (out++[(x.key,x.val)]) lf:=by unfold Zax at *;rw[h,rowN,if_pos rfl,if_neg hc];simp
theorem Zax.leafOut (h:Zax true to_ rec L lf0 (x::r) out lf) (hc:¬(to_≠[]∧¬x.key<to_)):out++[(x.key,x.val)] <+: (rowN true to_ rec L lf0).1.1:=by rw[h.leafGo hc];exact List.prefix_append _ _
theorem Zax.stop (h:Zax false to_ rec L lf0 (x::r) out lf) (hc:(rec x.kid lf).1.2=false):rowN false to_ rec L lf0=((out++(rec x.kid lf).1.1,false),(rec x.kid lf).2):=by rw[h,rowN,if_neg (by simp),if_pos hc,hc]
theorem Zax.inner (h:Zax false to_ rec L lf0 (x::r) out lf) (hc:(rec x.kid lf).1.2=true):Zax false to_ rec L lf0 r (out++(rec x.kid lf).1.1) (rec x.kid lf).2:=by unfold Zax at *;rw[h,rowN,if_neg (by simp),if_neg (by simp[hc])];simp
theorem Zax.innerOut (h:Zax false to_ rec L lf0 (x::r) out lf):out++(rec x.kid lf).1.1 <+: (rowN false to_ rec L lf0).1.1:=by
 cases hc:(rec x.kid lf).1.2 with
 | false=>rw[h.stop hc];exact List.prefix_rfl
 | true=>rw[h.inner hc];exact List.prefix_append _ _
theorem Zax.done (h:Zax leaf to_ rec L lf0 [] out lf):rowN leaf to_ rec L lf0=((out,true),lf):=by rw[h];simp[rowN]
end
end
section
open Go.RowKit Go.Shelf Go.Lib
attribute [local go_sem] Oper.semAt_some
section
variable {n : Nat} {J : Jn} {seq : Int} {B : List (List UInt8)} {F : Ft} {p : Nat} {f : Pf} {R : Rp} {tb : Nat} {bt bf bq bl by_ bw lo N : Nat} {from_ to_ : List UInt8} {xs : List KV} {JJ JX : List KV → World → Prop}
structure Rng (n:Nat) (J:Jn) (seq:Int) (B:List (List UInt8)) (F:Ft) (p:Nat) (f:Pf) (R:Rp) (tb bt bf bq bl by_ bw lo N:Nat) (from_ to_:List UInt8) (xs:List KV) (JJ JX:List KV→World→Prop):Prop where
 live:∀s A,JJ s A→Zcj n J seq B F p f R tb bt bf bq from_ to_ A
 keep:∀s A A',JJ s A→Zb (fun k=>PJ F p f k∨N≤k) A A'→Zcj n J seq B F p f R tb bt bf bq from_ to_ A'→JJ s A'
 keepX:∀s A A',JX s A→Zb (fun k=>N≤k) A A'→JX s A'
 round:∀(m:Nat) pre x W1,JJ pre W1→pre++[x] <+: xs→N≤W1.heap.size→YieldAt Fence.wide m Tryz.prog lo (kvA x) W1 fun e W'=>Zb (fun k=>k<N) W1 W'∧((e=.returned (.bool true)∧JJ (pre++[x]) W')∨(e=.returned (.bool false)∧JX (pre++[x]) W'))
 low:LowR F p f tb bt bf bq N
 good:R.good
 hbl:N≤bl
 hby:N≤by_
 hbw:N≤bw
 n1:bl≠by_
 n2:bl≠bw
theorem Rng.far (h:Rng n J seq B F p f R tb bt bf bq bl by_ bw lo N from_ to_ xs JJ JX) {s:List KV} {A A':World} {T:Nat→Prop} (hj:JJ s A) (ht:Zb T A A') (hT:∀k,T k→N≤k):JJ s A' :=
 h.keep _ _ _ hj (ht.mono fun k _ e=>.inr (hT k e)) ((h.live _ _ hj).far h.low ht fun k hk e=>by have:=hT k e;omega)
theorem Rng.read (h:Rng n J seq B F p f R tb bt bf bq bl by_ bw lo N from_ to_ xs JJ JX) {s:List KV} {A A':World} (hj:JJ s A) (ht:Zb (PJ F p f) A A') (hT:Tr n J seq B A' F p f R tb):JJ s A' :=
 h.keep _ _ _ hj (ht.mono fun k _ e=>.inl e) ((h.live _ _ hj).read h.low ht hT)
theorem Qd {P:Program} {fn:Func} {tmps:Array Value} {a:Tmp} {t:TypeId} {p:Addr} {v:Value} {w:World} (hr:fn.results=#[.cell a t]) (ha:tmps.getD a undef=.pointer (some p)) (hv:(loadVar t p).run P w=.ok v w):(results fn tmps).run P w=.ok v w:=by unfold results;simp only[hr,List.mapM_toArray,List.mapM_cons,List.mapM_nil,ha,asAddr,Sem.run_bind,Sem.run_pure,Result.andThen_ok,hv,bind_assoc,pure_bind,Sem.run_map];rfl
theorem Zbs {w:World} {g:Nat} {b:Bool} (h:w.heap[g]?=some (bolO b)):(loadVar 4 ⟨g,0,none⟩).run Tryz.prog w=.ok (.bool b) w:=by
 have hc:w.cell? ⟨g,0,none⟩=some (.bool b):=by rw[cell_of_row _ _ _ _ _ _ h];rfl
 have hagg:(isAgg 4).run Tryz.prog w=.ok false w:=by unfold isAgg;rw[Sem.run_bind,run_underlying Tryz.underlying4 w];rfl
 simp[loadVar,Sem.run_bind,hagg,go_sem,hc,Result.andThen]
def WalkEnd (bt bf bq bl by_ bw lo N:Nat) (xs:List KV) (JJ JX:List KV→World→Prop) (W:World) (pre:List KV) (lf:Int) (r:(List KV × Bool) × Int) (e:Ending) (W':World):Prop :=
 ∃ok lf',e=.returned (.bool ok)∧Zb (fun k=>k<N∨k=bl) W W'∧OwnR bt bl bf bq by_ bw lo W' lf'∧((ok=r.1.2∧lf'=r.2∧lf'≤lf∧(ok=true→0≤lf')∧JJ (pre++r.1.1) W')∨(ok=false∧∃q,q <+: xs∧JX q W'))
def RowI (leaf:Bool) (to_:List UInt8) (rec:Int→Int→(List KV × Bool) × Int) (L:List En) (lf:Int) (JJ:List KV→World→Prop) (pre:List KV) (bl N:Nat) (w5:World) (pre':List En) (Wn:World):Prop :=
 ∃rest out lf',L=pre'++rest∧Zax leaf to_ rec L (lf - 1) rest out lf'∧JJ (pre++out) Wn∧Wn.heap[bl]?=some (izO lf')∧0≤lf'∧lf'≤lf - 1∧Zb (fun k=>k<N∨k=bl) w5 Wn
def RowX (leaf:Bool) (to_:List UInt8) (rec:Int→Int→(List KV × Bool) × Int) (L:List En) (lf:Int) (xs:List KV) (JJ JX:List KV→World→Prop) (pre:List KV) (bl rb N:Nat) (w5:World) (c:Code) (pre':List En) (Wn:World):Prop :=
 c=.ret∧Wn.heap[rb]?=some (bolO false)∧Zb (fun k=>k<N∨k=bl∨k=rb) w5 Wn∧∃lf',Wn.heap[bl]?=some (izO lf')∧(((rowN leaf to_ rec L (lf - 1)).1.2=false∧lf'=(rowN leaf to_ rec L (lf - 1)).2∧lf'≤lf - 1∧JJ (pre++(rowN leaf to_ rec L (lf - 1)).1.1) Wn)∨∃q,q <+: xs∧JX q Wn)
theorem rwalk_any (h:Rng n J seq B F p f R tb bt bf bq bl by_ bw lo N from_ to_ xs JJ JX):∀g:Nat,g≤41→∀(page lf:Int) (pre:List KV) (W:World),-9223372036854775808≤page→page≤9223372036854775807→0≤lf→lf≤1000000→JJ pre W→OwnR bt bl bf bq by_ bw lo W lf→N≤W.heap.size→pre++(R.walkN from_ to_ (g+1) page lf).1.1 <+: xs →
  Calls Tryz.prog 50 #[.int .i64 page,.int .i64 (41 - (g:Int)),Xc bt,Xc bl,Xc bf,Xc bq,Xc by_,Xc bw] W (WalkEnd bt bf bq bl by_ bw lo N xs JJ JX W pre lf (R.walkN from_ to_ (g+1) page lf)):=by
 intro g
 induction g using Nat.strongRecOn with
 | _ g ih =>
 intro hg page lf pre W p0 p1 l0 l1 hj0 ho0 hN hpre;obtain⟨W1,hW1⟩:∃x,x=(W.alloc (.cells #[.int .i64 (41 - (g:Int))] 3)).alloc (.cells #[.bool false] 4):=⟨_,rfl⟩;have hb1:Below W.heap.size W W1:=by rw[hW1];exact(Zj W _).alloc (by simp) _
 have hs1:W1.heap.size=W.heap.size+2:=by rw[hW1];simp
 have hd1:W1.heap[W.heap.size]?=some (izO (41 - (g:Int))):=by rw[hW1];exact(Below.heap_alloc _ _ _ (by simp)).trans (heap_alloc_new W _)
 have hr1:W1.heap[W.heap.size+1]?=some (bolO false):=by
  rw[hW1];have:=heap_alloc_new (W.alloc (.cells #[.int .i64 (41 - (g:Int))] 3)) (.cells #[.bool false] 4)
  simpa using this
 have ht1:Zb (fun k=>N≤k) W W1:=Zb.of_below hb1;have hj1:=h.far hj0 ht1 fun k e=>e;have ho1:=ho0.keep (Zb.of_below (T:=fun _=>False) hb1) id id id;have hl1:=h.live _ _ hj1;have HLD:=Hd (Zcm hl1.tr page p0 p1);have ct:W1.cell? ⟨bt,0,none⟩=some (trp tb):=by rw[cell_of_row _ _ _ _ _ _ hl1.hbt];rfl
 have hblW:bl<W.heap.size:=Za ho0.left;have hbyW:by_<W.heap.size:=Za ho0.yld;have hbwW:bw<W.heap.size:=Za ho0.wlk;have HBY:=Hd hbyW;have HBW:=Hd hbwW;have HW1:=Hd hW1;have HB1:=Hd hb1;have HS1:=Hd hs1;have HD1:=Hd hd1;have HR1:=Hd hr1;have HJ1:=Hd hj1;have HO1:=Hd ho1;have HPRE:=Hd hpre;have H:=Hd h;have HN:=Hd hN;have HIH:=Hd ih;have HL0:=Hd l0;have HL1:=Hd l1;rw[hW1] at ct;clear hb1 hs1 hd1 hr1 ht1 hj1 ho1 hl1 hj0 ho0 hpre hN ih l0 l1 hW1;clear h;refine callsIn_wide (n:=3).1 ?_;refine callsIn_of_wp_marks Tryz.func50 rfl trivial ?_ rfl;simp only[Tryz.ntmps50,List.size_toArray,List.length_cons,List.length_nil,Nat.reduceAdd,Nat.reduceSub,Array.replicate_succ,Array.replicate_zero,List.push_toArray,List.append_toArray,List.nil_append,List.cons_append];gi_wp2_with fail;rw[←HW1.out];refine⟨trivial,?_⟩;refine(callsIn_wide.2 HLD.out).mono ?_;rintro e w2 ⟨leaf,va,vk,vc,rfl,hT2,ht2,hnd⟩;obtain⟨hb3,hbx,hs3⟩:=nd_box w2 leaf (.slice va vk vc);obtain⟨W3,hW3⟩:∃W3,W3=w2.alloc (.cells #[.bool leaf,.slice va vk vc] 84):=⟨_,rfl⟩;rw[←hW3] at hb3 hbx hs3;have hpjb:∀k,N≤k→¬PJ F p f k:=fun k hk e=>by have:=H.out.low.pj k e;omega
 have nbl:¬PJ F p f bl:=hpjb _ H.out.hbl;have nby:¬PJ F p f by_:=hpjb _ H.out.hby;have nbw:¬PJ F p f bw:=hpjb _ H.out.hbw;have hj2:=H.out.read HJ1.out ht2 hT2;have hj3:=H.out.far hj2 (Zb.of_below (T:=fun k=>N≤k) hb3) fun k e=>e;have ho2:=HO1.out.keep ht2 nbl nby nbw;have ho3:=ho2.keep (Zb.of_below (T:=fun _=>False) hb3) id id id;have hd2:=Yg ht2 (hpjb _ (by have:=HN.out;omega)) HD1.out;have hr2:=Yg ht2 (hpjb _ (by have:=HN.out;omega)) HR1.out;have hd3:=(hb3.block _ (Za hd2)).trans hd2;have hr3:=(hb3.block _ (Za hr2)).trans hr2;have cl3:W3.cell? ⟨bl,0,none⟩=some (.int .i64 lf):=by rw[cell_of_row _ _ _ _ _ _ ho3.left];rfl
 obtain⟨W4,hW4⟩:∃W4,W4=W3.setCell ⟨bl,0,none⟩ (.int .i64 (lf - 1)):=⟨_,rfl⟩;have ht4:Zb (·=bl) W3 W4:=by rw[hW4];exact Zd W3 bl 0 _
 have hl4:W4.heap[bl]?=some (izO (lf - 1)):=by rw[hW4];exact Ze ho3.left _
 have ho4:=ho3.move ht4 hl4 (fun e=>H.out.n1 e.symm) (fun e=>H.out.n2 e.symm);have hd4:=Yg ht4 (by omega) hd3;have hr4:=Yg ht4 (by omega) hr3;have hn4:=Yg ht4 (by have:=HB1.out.size;have:=ht2.size;omega) hbx;have hj4:=H.out.far hj3 ht4 fun k e=>by rw[e];exact H.out.hbl
 have hT4:Zb (fun k=>k<N∨k=bl) W W4:=(((Zb.of_below HB1.out).trans (ht2.mono fun k _ e=>.inl (H.out.low.pj k e))).trans (Zb.of_below hb3)).trans (ht4.mono fun k _ e=>.inr e);have hwr:IntKind.i64.wrap (lf - 1)=lf - 1:=IntWalk.i64_in _ (by have:=HL0.out;have:=HL1.out;omega);have HW3:=Hd hW3;have HW4:=Hd hW4;have HJ4:=Hd hj4;have HO4:=Hd ho4;have HT4:=Hd hT4;have HD4:=Hd hd4;have HR4:=Hd hr4;have HN4:=Hd hn4;have HND:=Hd hnd;have HS3:=Hd hs3;have HBL:=Hd hblW;have hrs:W.heap.size+1<W4.heap.size:=Za hr4
 have HFAIL:(R.walkN from_ to_ (g+1) page lf=(([],false),lf - 1))→WalkEnd bt bf bq bl by_ bw lo N xs JJ JX W pre lf (R.walkN from_ to_ (g+1) page lf) (.returned (.bool false)) (W4.setCell ⟨W.heap.size+1,0,none⟩ (.bool false)):=fun e=>by
  have ht5:=Zd W4 (W.heap.size+1) 0 (.bool false);refine⟨false,lf - 1,rfl,HT4.out.then ht5 fun i hi e=>by omega,HO4.out.keep ht5 (by have:=HBL.out;omega) (by have:=HBY.out;omega) (by have:=HBW.out;omega),.inl ⟨by rw[e],by rw[e],by omega,by simp,?_⟩⟩
  ·rw[e];simp only[List.append_nil];exact H.out.far HJ4.out ht5 fun k e=>by have:=HN.out;omega
 have HF:=Hd HFAIL;have fl3:=Zf ho3.left 0;have fr4:=Zf hr4 0;rw[hW3] at cl3 fl3;have cd4:W4.cell? ⟨W.heap.size,0,none⟩=some (.int .i64 (41 - (g:Int))):=by rw[cell_of_row _ _ _ _ _ _ hd4];rfl
 have cl4:W4.cell? ⟨bl,0,none⟩=some (.int .i64 (lf - 1)):=by rw[cell_of_row _ _ _ _ _ _ hl4];rfl
 have cr4:W4.cell? ⟨W.heap.size+1,0,none⟩=some (.bool false):=by rw[cell_of_row _ _ _ _ _ _ hr4];rfl
 rw[hW4,hW3] at cd4 cl4 cr4 fr4;clear hb3 hbx hs3 hj2 hj3 ho2 ho3 hd2 hr2 hd3 hr3 ht4 hl4 ho4 hd4 hr4 hn4 hj4 hT4 hnd ht2 hT2 hblW hW3 hW4 hrs HFAIL hpjb nbl nby nbw ct hbyW hbwW
 cases hl:(R.load page).1 with
 | none =>
  have hne:=Rp.load_none hl;have hne2:((R.load page).2 != 0)=true:=by rw[bne_iff_ne];exact hne
  have HE:Hid (R.walkN from_ to_ (g+1) page lf=(([],false),lf - 1)):=Hd (by
   have:R.load page=(none,(R.load page).2):=by rw[←hl]
   rw[Rp.walkN,this])
  clear hl hne;gi_wp2_with fail;rw[←HW3.out,←HW4.out];exact⟨_,Qd rfl rfl (Zbs (Ze HR4.out _)),HF.out HE.out⟩
 | some nd =>
  obtain⟨hleaf,hm⟩:=HND.out nd hl;obtain⟨hfit,he0⟩:=(H.out.live _ _ HJ1.out).tr.lp.load_fit hl;have hne2:((R.load page).2 != 0)=false:=by rw[he0];rfl
  have hld:R.load page=(some nd,0):=by rw[←hl,←he0]
  by_cases hg0:g=0
  ·have hd9:decide (40<41 - (g:Int))=true:=decide_eq_true (by omega)
   have HE:Hid (R.walkN from_ to_ (g+1) page lf=(([],false),lf - 1)):=Hd (by
    rw[Rp.walkN,hld];dsimp only
    rw[if_pos (.inl hg0)])
   clear hl hleaf hm hfit he0 hld;gi_wp2_with fail;rw[←HW3.out,←HW4.out];exact⟨_,Qd rfl rfl (Zbs (Ze HR4.out _)),HF.out HE.out⟩
  ·have hd9:decide (40<41 - (g:Int))=false:=decide_eq_false (by omega)
   by_cases hlf:lf - 1<0
   ·have hd8:decide (lf - 1<0)=true:=decide_eq_true hlf
    have HE:Hid (R.walkN from_ to_ (g+1) page lf=(([],false),lf - 1)):=Hd (by
     rw[Rp.walkN,hld];dsimp only
     rw[if_pos (.inr hlf)])
    clear hl hleaf hm hfit he0 hld hg0 hlf;gi_wp2_with fail;rw[←HW3.out,←HW4.out];exact⟨_,Qd rfl rfl (Zbs (Ze HR4.out _)),HF.out HE.out⟩
   ·have hd8:decide (lf - 1<0)=false:=decide_eq_false hlf
    obtain rfl:nd.leaf=leaf:=hleaf;obtain⟨g2,cap,hvs,hc1,hc2,hg2,hg2'⟩:=hm.form.resolve_left fun e=>hfit.some e.2;simp only[Value.slice.injEq] at hvs;obtain⟨rfl,rfl,rfl⟩:=hvs;obtain⟨hn1,hn2⟩:=hfit.len;obtain⟨i,hi⟩:∃i,i=((Nd.mk nd.leaf nd.l).behind from_).1:=⟨_,rfl⟩
    have hil:i≤nd.l.length:=by
     rw[hi]
     cases hb:nd.leaf with
     | true=>exact(Zbh (n:=⟨true,nd.l⟩) rfl from_).1
     | false=>exact Nat.le_of_lt (Zdz (n:=⟨false,nd.l⟩) hfit.some rfl from_)
    have hsz2:w2.heap.size≤W4.heap.size:=by rw[HW4.out,HW3.out];simp[World.setCell]
    have hE4:IsE W4 (.slice (some ⟨g2,0,none⟩) nd.l.length vc) nd.l:=by
     have h1:IsE W3 (.slice (some ⟨g2,0,none⟩) nd.l.length vc) nd.l:=by rw[HW3.out];exact hm.isE.below (Zj w2 _)
     refine h1.turned (T:=(·=bl)) (by rw[HW4.out];exact Zd W3 bl 0 _) ?_;rintro k ⟨x,n',c',e,rfl⟩;simp only[Value.slice.injEq,Option.some.injEq] at e;obtain⟨rfl,_⟩:=e;show ¬g2=bl
     have:=HBL.out;have:=HB1.out.size;omega
    obtain⟨rec,hrec⟩:∃rec,rec=R.walkN from_ to_ g:=⟨_,rfl⟩;obtain⟨L,hL⟩:∃L,L=nd.l.drop i:=⟨_,rfl⟩
    have HX:Hid (R.walkN from_ to_ (g+1) page lf=rowN nd.leaf to_ rec L (lf - 1)):=Hd (by
     rw[Rp.walkN,hld];dsimp only
     rw[if_neg (fun h=>h.elim hg0 hlf),hrec,hL,hi])
    have HFR:=Hd (from_any W4 nd.leaf g2 0 nd.l.length vc hE4 rfl hn1 (by omega) hfit.srt from_ hi.symm hil);rw[←hL] at HFR;have HLV4:=Hd (H.out.live _ _ HJ4.out);have cf4:W4.cell? ⟨bf,0,none⟩=some (.string ⟨from_.toArray⟩):=by rw[cell_of_row _ _ _ _ _ _ HLV4.out.hbf];rfl
    have n40:=(Zc HN4.out).1;have n41:=(Zc HN4.out).2;have HI:=Hd hi;have HLL:=Hd hL;have HREC:=Hd hrec;have HLF:=Hd hlf;have HG0:=Hd hg0;have HFIT:=Hd hfit;have HHG:Hid (W1.heap.size≤g2):=Hd hg2;have HGL:Hid (g2<w2.heap.size):=Hd hg2';have HSZ2:=Hd hsz2;rw[HW4.out,HW3.out] at cf4 n40 n41;clear hl hm hfit he0 hld hg0 hlf hi hL hrec hc1 hc2 hg2 hg2' hE4 hsz2 hil;gi_wp2_with fail;rw[←HW3.out,←HW4.out];refine⟨trivial,?_⟩;refine(callsIn_wide.2 HFR.out).mono ?_;rintro e w5 ⟨bx,o',rfl,hb5,hbx5,hbo5,hE5⟩;have hlN:∀k,W4.heap.size≤k→N≤k:=fun k hk=>by have:=HN.out;have:=HB1.out.size;have:=HT4.out.size;omega
    have hj5:=H.out.far HJ4.out (Zb.of_below (T:=fun k=>N≤k) hb5) fun k e=>e;have ho5:=HO4.out.keep (Zb.of_below (T:=fun _=>False) hb5) id id id;have hd5:=(hb5.block _ (Za HD4.out)).trans HD4.out;have hr5:=(hb5.block _ (Za HR4.out)).trans HR4.out;have hn5:=(hb5.block _ (Za HN4.out)).trans HN4.out;have hT5:Zb (fun k=>k<N∨k=bl) W w5:=HT4.out.trans (Zb.of_below hb5);have hbo:w5.cell? ⟨bx,0,none⟩=some (.slice (some ⟨g2,o',none⟩) (nd.l.length - i) (vc - i)):=by rw[cell_of_row _ _ _ _ _ _ hbo5];rfl
    have HJ5:=Hd hj5;have HO5:=Hd ho5;have HD5:=Hd hd5;have HR5:=Hd hr5;have HN5:=Hd hn5;have HT5:=Hd hT5;have HBO:=Hd hbo;have HE5:=Hd hE5;have HB5:=Hd hb5;have HSZ5:Hid (W4.heap.size≤w5.heap.size):=Hd hb5.size;have HSV:Hid (W.heap.size+2≤w5.heap.size∧w2.heap.size<w5.heap.size):=Hd ⟨by have:=Za hr5;omega,Za hn5⟩;clear hlN hj5 ho5 hd5 hr5 hn5 hT5 hbo hE5 hb5 hbx5 hbo5 n40 n41 cf4 cd4 cl4 cr4 fr4 fl3 cl3;have hLm:L.length≤1000000:=by rw[HLL.out,List.length_drop];have:=HFIT.out.len.2;omega
    gi_wp2_with fail
    refine rangeT (F:=Fence.wide) rfl (by omega) (gf:=111) (lb:=#[Xc bx]) rfl trivial (enters_of Tryz.func111 (by kernel_rfl) rfl)
     (values_seq 2 (by omega) bx (.slice (some ⟨g2,o',none⟩) (nd.l.length - i) (vc - i)) L hLm) (fun _=>rfl)
     (RowI nd.leaf to_ rec L lf JJ pre bl N w5)
     (RowX nd.leaf to_ rec L lf xs JJ JX pre bl (W.heap.size+1) N w5)
     ?hG ?hL ?hLp ?hI (fun k e=>e.elim) ?hIx ?h0 (fun x a' A=>∃Bx,w5.heap.size+2≤Bx∧A.heap[Bx]?=some (enO x)∧a'={ tmps:=#[.int .i64 page,.int .i64 (41 - (g:Int)),Xc bt,Xc bl,Xc bf,Xc bq,Xc by_,Xc bw,undef,Xc W.heap.size,Xc (W.heap.size+1),Xc w2.heap.size,.int .i64 (R.load page).2,Xc Bx,.tuple #[ndV nd.leaf (.slice (some ⟨g2,0,none⟩) nd.l.length vc),.int .i64 (R.load page).2],trp tb,.int .i64 page,.tuple #[ndV nd.leaf (.slice (some ⟨g2,0,none⟩) nd.l.length vc),.int .i64 (R.load page).2],ndV nd.leaf (.slice (some ⟨g2,0,none⟩) nd.l.length vc),.int .i64 (R.load page).2,.int .i64 lf,.int .i64 (lf - 1),.int .i64 (R.load page).2,.bool false,.bool false,.int .i64 (41 - (g:Int)),.bool false,.bool false,.bool false,.int .i64 (lf - 1),.bool false,.bool false,ndV nd.leaf (.slice (some ⟨g2,0,none⟩) nd.l.length vc),.string ⟨from_.toArray⟩,valsF bx,enA x,undef,undef,undef,undef,undef,undef,undef,undef,undef,undef,undef,undef,undef,undef,undef,undef,undef,undef,undef,undef,undef,undef,undef,undef,undef,undef,undef,undef,undef,undef,undef,undef,undef,undef,undef,undef,undef,undef],defers:=[] }) ?hAx ?assign ?body ?done ?stop
    case assign =>
     rintro l pre' x Wn K ⟨rest,out,lf',hLr,hra,hjn,hbn,h0n,h1n,htn⟩ hpx hsz hK;gi_wp2_with fail;have hNn:N≤Wn.heap.size:=by have:=HN.out;have:=HSV.out;omega
     exact hK _ _ (Zdy _ _ _) ⟨rest,out,lf',hLr,hra,H.out.far hjn (Zb.of_below (T:=fun k=>N≤k) (Zj Wn _)) fun k e=>e,Yg (Zdy (fun _=>False) _ _) id hbn,h0n,h1n,htn.trans (Zdy _ _ _)⟩ ⟨Wn.heap.size,hsz,heap_alloc_new _ _,rfl⟩
    case hAx =>
     rintro x a' A o ⟨Bx,h1,h2,h3⟩;exact⟨Bx,h1,(World.putObj_heap_other (by omega)).trans h2,h3⟩
    case h0 =>
     exact⟨L,[],lf - 1,rfl,Zax.start,by rw[List.append_nil];exact HJ5.out,HO5.out.left,by have:=HLF.out;omega,Int.le_refl _,Zb.refl _ _⟩
    case hG =>
     intro Wn hb;exact⟨(hb.cell (p:=⟨bx,0,none⟩) (World.block_lt_of_cell? w5 _ HBO.out)).trans HBO.out,HE5.out.below hb⟩
    case hL =>
     rintro s A ⟨rest,out,lf',hLr,hra,hjn,hbn,h0n,h1n,htn⟩;refine HE5.out.turned htn ?_;rintro k ⟨y,n',c',e,rfl⟩;simp only[Value.slice.injEq,Option.some.injEq] at e;obtain⟨rfl,_⟩:=e;show ¬(g2<N∨g2=bl)
     have:=HHG.out;have:=HBL.out;have:=HN.out;have:=HB1.out.size;omega
    case hLp =>
     intro A A' hA ht;refine hA.turned ht ?_;rintro k ⟨y,n',c',e,rfl⟩;simp only[Value.slice.injEq,Option.some.injEq] at e;obtain⟨rfl,_⟩:=e;show ¬(w5.heap.size≤g2)
     have:=HGL.out;have:=HSV.out.2;omega
    case hI =>
     rintro s A A' ⟨rest,out,lf',hLr,hra,hjn,hbn,h0n,h1n,htn⟩ ht _;have ht':Zb (fun k=>w5.heap.size≤k) A A':=ht.mono fun k _ e=>e.elim (fun e=>e.elim) id
     refine⟨rest,out,lf',hLr,hra,H.out.far hjn ht' fun k e=>?_,Yg ht' ?_ hbn,h0n,h1n,htn.then ht' fun i hi e=>?_⟩
     ·have:=HN.out;have:=HSV.out;omega
     ·have:=HBL.out;have:=HSV.out;omega
     ·exact absurd e (by omega)
    case hIx =>
     rintro c s A A' ⟨rfl,hr,ht,lf',hbn,hend⟩ ht';refine⟨rfl,Yg ht' ?_ hr,ht.then ht' fun i hi e=>absurd e (by omega),lf',Yg ht' ?_ hbn,?_⟩
     ·have:=HSV.out;omega
     ·have:=HBL.out;have:=HSV.out;omega
     ·rcases hend with ⟨e1,e2,e3,e4⟩ | ⟨q,q1,q2⟩
      ·exact .inl ⟨e1,e2,e3,H.out.far e4 ht' fun k e=>by have:=HN.out;have:=HSV.out;omega⟩
      ·exact .inr ⟨q,q1,H.out.keepX _ _ _ q2 (ht'.mono fun k _ e=>by have:=HN.out;have:=HSV.out;omega)⟩
    case done =>
     rintro D Wn hD hsz ⟨rest,out,lf',hLr,hra,hjn,hbn,h0n,h1n,htn⟩ hK;obtain rfl:rest=[]:=by simpa using hLr
     have hdn:=hra.done;have hrn:=Yg htn (by have:=HBL.out;have:=HN.out;omega) HR5.out;have cr:Wn.cell? ⟨W.heap.size+1,0,none⟩=some (.bool false):=by rw[cell_of_row _ _ _ _ _ _ hrn];rfl
     have fr:=Zf hrn 0;have ht6:=Zd Wn (W.heap.size+1) 0 (.bool true)
     have HE:Hid (∀o,WalkEnd bt bf bq bl by_ bw lo N xs JJ JX W pre lf (R.walkN from_ to_ (g+1) page lf) (.returned (.bool true)) ((Wn.setCell ⟨W.heap.size+1,0,none⟩ (.bool true)).putObj D o)):=Hd fun o=>by
      have hDN:N≤D:=by have:=HN.out;have:=HSV.out;omega
      have ht7:Zb (fun k=>k=W.heap.size+1∨k=D) Wn ((Wn.setCell ⟨W.heap.size+1,0,none⟩ (.bool true)).putObj D o):=(ht6.mono fun k _ e=>.inl e).trans (Zak _ D o (.inr rfl));have hlN:∀k,(k=W.heap.size+1∨k=D)→N≤k:=fun k e=>by have:=HN.out;omega
      have hnW:∀k,k<W.heap.size→¬(k=W.heap.size+1∨k=D):=fun k hk e=>by have:=HSV.out;omega
      have own:=(HO5.out.move htn hbn (by have:=H.out.hby;have:=H.out.n1;omega) (by have:=H.out.hbw;have:=H.out.n2;omega)).keep ht7 (hnW _ HBL.out) (hnW _ HBY.out) (hnW _ HBW.out);refine⟨true,lf',rfl,(HT5.out.trans htn).then ht7 fun i hi e=>absurd e (hnW i hi),own,.inl ⟨by rw[HX.out,hdn],by rw[HX.out,hdn],by omega,fun _=>h0n,?_⟩⟩;rw[HX.out,hdn];exact H.out.far hjn ht7 hlN
     have hrt:=Ze hrn (.bool true) (i:=0);have HRT:=Hd hrt;have HK6:Hid ((Wn.setCell ⟨W.heap.size+1,0,none⟩ (.bool true)).heap[D]?=some (.deferred (some []))):=Hd (Yg ht6 (by have:=HSV.out;omega) hK);have hDr:W.heap.size+1≠D:=by have:=HSV.out;omega
     clear hra hjn hbn h0n h1n htn hK hdn hrn ht6 hrt hLr;gi_wp2_with fail;refine⟨by simp,.inl ⟨_,_,rfl,run_takeDeferred HK6.out,?_⟩⟩;exact⟨_,Qd rfl rfl (Zbs ((World.putObj_heap_other hDr).trans HRT.out)),HE.out _⟩
    case stop =>
     rintro D c pre' Wn hD hsz hp ⟨rfl,hr,ht,lf',hbn,hend⟩ hK
     have HE:Hid (∀o,WalkEnd bt bf bq bl by_ bw lo N xs JJ JX W pre lf (R.walkN from_ to_ (g+1) page lf) (.returned (.bool false)) (Wn.putObj D o)):=Hd fun o=>by
      have hDN:N≤D:=by have:=HN.out;have:=HSV.out;omega
      have ht7:=Zak (T:=(·=D)) Wn D o rfl;have hnW:∀k,k<W.heap.size→¬k=D:=fun k hk e=>by have:=HSV.out;omega
      have own:=(HO5.out.move ht hbn (by have:=H.out.hby;have:=H.out.n1;have:=HBY.out;omega) (by have:=H.out.hbw;have:=H.out.n2;have:=HBW.out;omega)).keep ht7 (hnW _ HBL.out) (hnW _ HBY.out) (hnW _ HBW.out);refine⟨false,lf',rfl,((HT5.out.then ht fun i hi e=>by have:=HSV.out;omega)).then ht7 fun i hi e=>absurd e (hnW i hi),own,?_⟩;rcases hend with ⟨e1,e2,e3,e4⟩ | ⟨q,q1,q2⟩
      ·exact .inl ⟨by rw[HX.out,e1],by rw[HX.out,e2],by omega,by simp,by rw[HX.out];exact H.out.far e4 ht7 fun k e=>by omega⟩
      ·exact .inr ⟨rfl,q,q1,H.out.keepX _ _ _ q2 (ht7.mono fun k _ e=>by omega)⟩
     have HRT:=Hd hr;have HK6:=Hd hK;have hDr:W.heap.size+1≠D:=by have:=HSV.out;omega
     clear hend ht hr hK hbn;gi_wp2_with fail;refine⟨by simp,.inl ⟨_,_,rfl,run_takeDeferred HK6.out,?_⟩⟩;exact⟨_,Qd rfl rfl (Zbs ((World.putObj_heap_other hDr).trans HRT.out)),HE.out _⟩
    case body =>
     rintro l pre' x a' Wn hl ⟨r,hr⟩ ⟨rest,out,lf',hLr,hra,hjn,hbn,h0n,h1n,htn⟩ ⟨Bx,hBx,hx,rfl⟩ hpx hsz;obtain⟨rest,rfl⟩:∃r',rest=x::r':=by obtain⟨t,ht⟩:=hpx;rw[hLr,List.append_assoc] at ht;exact⟨t,(List.append_cancel_left ht).symm⟩
     have hNW:=HN.out;have hSV:=HSV.out;have hlow:∀k,N≤k→k≠bl→¬(k<N∨k=bl):=fun k h1 h2=>by omega
     have hNn:=Yg htn (hlow _ (by have:=HB1.out.size;have:=HGL.out;have:=HHG.out;omega) (by have:=HBL.out;have:=HB1.out.size;have:=HGL.out;have:=HHG.out;omega)) HN5.out;have hDn:=Yg htn (hlow _ hNW (by have:=HBL.out;omega)) HD5.out;have hRn:=Yg htn (hlow _ (by omega) (by have:=HBL.out;omega)) HR5.out;have hOn:=HO5.out.move htn hbn (hlow _ H.out.hby fun e=>H.out.n1 e.symm) (hlow _ H.out.hbw fun e=>H.out.n2 e.symm);have hlv:=H.out.live _ _ hjn;obtain⟨x0,x1,x2⟩:=Zv hx;have n0:=(Zc hNn).1;have cq:Wn.cell? ⟨bq,0,none⟩=some (.string ⟨to_.toArray⟩):=by rw[cell_of_row _ _ _ _ _ _ hlv.hbq];rfl
     have cr:Wn.cell? ⟨W.heap.size+1,0,none⟩=some (.bool false):=by rw[cell_of_row _ _ _ _ _ _ hRn];rfl
     have fr:=Zf hRn 0;have cd:Wn.cell? ⟨W.heap.size,0,none⟩=some (.int .i64 (41 - (g:Int))):=by rw[cell_of_row _ _ _ _ _ _ hDn];rfl
     have cy:Wn.cell? ⟨by_,0,none⟩=some (.func (.yield lo) #[] #[]):=by rw[cell_of_row _ _ _ _ _ _ hOn.yld];rfl
     have cw:Wn.cell? ⟨bw,0,none⟩=some (walkF bt bl bf bq by_ bw):=by rw[cell_of_row _ _ _ _ _ _ hOn.wlk];rfl
     have HJN:=Hd hjn;have HRA:=Hd hra;have HTN:=Hd htn;have HBN:=Hd hbn;have HON:=Hd hOn;have HRN:=Hd hRn;have HLR:=Hd hLr;have H0N:=Hd h0n;have H1N:=Hd h1n;have HSZN:=Hd hsz;have HNN:=Hd hNn;have hNsz:N≤Wn.heap.size:=by omega
     have hpr:∀o2:List KV,out++o2 <+: (rowN nd.leaf to_ rec L (lf - 1)).1.1→pre++out++o2 <+: xs:=fun o2 ho=>by have h1:=HPRE.out;rw[HX.out] at h1;rw[List.append_assoc];exact((List.prefix_append_right_inj pre).2 ho).trans h1
     have HPR:=Hd hpr
     have hxin:x∈nd.l:=by
      have:x∈L:=by rw[hLr];simp
      rw[HLL.out] at this;exact List.mem_of_mem_drop this
     have hxf:=HFIT.out.few x hxin;have HXF:=Hd hxf;have HBS:Hid (bl<w5.heap.size∧N≤w5.heap.size∧W.heap.size+1<w5.heap.size):=Hd ⟨by have:=HBL.out;omega,by omega,by omega⟩
     have HOUT:Hid (∀W6 lf6,Zb (fun k=>k<N∨k=bl) Wn W6→W6.heap[bl]?=some (izO lf6)→(((rowN nd.leaf to_ rec L (lf - 1)).1.2=false∧lf6=(rowN nd.leaf to_ rec L (lf - 1)).2∧lf6≤lf - 1∧JJ (pre++(rowN nd.leaf to_ rec L (lf - 1)).1.1) W6)∨∃q,q <+: xs∧JX q W6) →
       W6.heap[W.heap.size+1]?=some (bolO false)∧(Zb (fun k=>k<w5.heap.size) Wn (W6.setCell ⟨W.heap.size+1,0,none⟩ (.bool false))∧RowX nd.leaf to_ rec L lf xs JJ JX pre bl (W.heap.size+1) N w5 .ret (pre'++[x]) (W6.setCell ⟨W.heap.size+1,0,none⟩ (.bool false)))):=Hd (by
      intro W6 lf6 ht6 hb6 hend
      have hbs:=HBS.out
      have hr6:=Yg ht6 (by have:=HBL.out;omega) hRn
      have ht7:=Zd W6 (W.heap.size+1) 0 (.bool false)
      refine⟨hr6,(ht6.mono fun k _ e=>by omega).trans (ht7.mono fun k _ e=>by omega),rfl,Ze hr6 _,((htn.trans ht6).mono fun k _ e=>e.elim .inl fun e=>.inr (.inl e)).trans (ht7.mono fun k _ e=>.inr (.inr e)),lf6,Yg ht7 (by have:=HBL.out;omega) hb6,?_⟩
      rcases hend with ⟨e1,e2,e3,e4⟩ | ⟨q,q1,q2⟩
      ·exact .inl ⟨e1,e2,e3,H.out.far e4 ht7 fun k e=>by omega⟩
      ·exact .inr ⟨q,q1,H.out.keepX _ _ _ q2 (ht7.mono fun k _ e=>by omega)⟩)
     clear hjn hra htn hbn hOn hRn hLr h0n h1n hlv hNn hDn hlow hsz hpx hx hSV hNW hpr hxin hxf;rcases Bool.eq_false_or_eq_true nd.leaf with hlf | hlf
     ·have hra1:Zax true to_ rec L (lf - 1) (x::rest) out lf':=hlf▸HRA.out
      rw[hlf] at n0;by_cases hc:to_≠[]∧¬x.key<to_
      ·have hto1:to_.isEmpty=false:=by simpa using hc.1
       have hkey:Op.bytesLess x.key to_=false:=by rw[Yt];exact decide_eq_false hc.2
       have hov:rowN nd.leaf to_ rec L (lf - 1)=((out,false),lf'):=by rw[hlf];exact hra1.over hc
       have HO:=Hd (HOUT.out Wn lf' (Zb.refl _ _) HBN.out (.inl ⟨by rw[hov],by rw[hov],H1N.out,by rw[hov];exact HJN.out⟩));have HLX:=Hd hlf;clear hc hra1 hov hlf;gi_wp2_with fail;exact HO.out.2
      ·have hgo:=hra1.leafGo hc
       have hpo:=HPR.out [(x.key,x.val)] (by rw[hlf];exact hra1.leafOut hc)
       have hcb:to_.isEmpty=true∨(to_.isEmpty=false∧Op.bytesLess x.key to_=true):=by
        rw[Yt]
        cases hto:to_ with
        | nil=>exact .inl rfl
        | cons a r =>
         have:x.key<to_:=Classical.byContradiction fun h=>hc ⟨by rw[hto];simp,h⟩;rw[hto] at this;exact .inr ⟨rfl,decide_eq_true this⟩
       obtain⟨fn,tmps,assign,body,hy,hR⟩:=H.out.round 1 (pre++out) (x.key,x.val) Wn HJN.out hpo hNsz;have HGO:=Hd hgo
       have HRR:=Hd hR;have hpo':=hpo;dsimp only[kvA] at hy;clear hc hra1 hgo hpo hR;have HPO:=Hd hpo';have HLX:=Hd hlf;clear hpo' hlf;rcases hcb with hto1 | ⟨hto1,hkey⟩
       all_goals
        gi_wp2_with fail
        refine(roundIn_in (l2:=l) (roundIn_any HRR.out)).mono ?_
        rintro e W6 ⟨ht6,(⟨rfl,hj6⟩ | ⟨rfl,hjx6⟩)⟩
        ·have ht6':Zb (fun k=>k<N∨k=bl) Wn W6:=ht6.mono fun k _ e=>.inl e;have hn6:=Yg ht6 (by have:=HB1.out.size;have:=HGL.out;have:=HHG.out;have:=HN.out;omega) HNN.out;have n06:=(Zc hn6).1;rw[HLX.out] at n06;have HE:Hid (Zb (fun k=>k<w5.heap.size) Wn W6∧RowI nd.leaf to_ rec L lf JJ pre bl N w5 (pre'++[x]) W6):=Hd ⟨ht6.mono fun k _ e=>by have:=HBS.out;omega,rest,out++[(x.key,x.val)],lf',by rw[HLR.out];simp,by rw[HLX.out];exact HGO.out,by rw[←List.append_assoc];exact hj6,Yg ht6 (by have:=H.out.hbl;omega) HBN.out,H0N.out,H1N.out,HTN.out.trans ht6'⟩;clear ht6 hj6 ht6' hn6 n0 cq cr fr cd cy cw;gi_wp2_with fail;refine⟨fun _ h=>(by cases h),?_⟩;gi_wp2_with fail;exact HE.out
        ·have HO:=Hd (HOUT.out W6 lf' (ht6.mono fun k _ e=>.inl e) (Yg ht6 (by have:=H.out.hbl;omega) HBN.out) (.inr ⟨_,HPO.out,hjx6⟩))
         have cr6:W6.cell? ⟨W.heap.size+1,0,none⟩=some (.bool false):=by rw[cell_of_row _ _ _ _ _ _ HO.out.1];rfl
         have fr6:=Zf HO.out.1 0;clear ht6 hjx6 n0 cq cr fr cd cy cw;gi_wp2_with fail;exact HO.out.2
     ·have hra1:Zax false to_ rec L (lf - 1) (x::rest) out lf':=hlf▸HRA.out
      rw[hlf] at n0;obtain⟨g',hg'⟩:∃g',g'+1=g:=⟨g - 1,by have:=HG0.out;omega⟩;have hpo:=HPR.out _ (by rw[hlf];exact hra1.innerOut)
      rw[HREC.out,←hg'] at hpo;have hw:=HIH.out g' (by omega) (by omega) x.kid lf' (pre++out) Wn (by have:=HXF.out.k0;omega) (by have:=HXF.out.k1;omega) H0N.out (by have:=H1N.out;have:=HL1.out;omega) HJN.out HON.out hNsz hpo
      rw[hg',←HREC.out] at hw;have hwr:IntKind.i64.wrap (41 - (g:Int)+1)=41 - (g':Int):=by rw[IntWalk.i64_in _ (by omega)];omega
      have HWW:=Hd hw;have HRA1:=Hd hra1;have HLX:=Hd hlf;clear hw hpo hra1 hg' hlf;gi_wp2_with fail;refine⟨fun _ h=>(by cases h),?_⟩;gi_wp2_with fail;refine⟨trivial,?_⟩;refine(CallsIn.inRound l (callsIn_wide.2 HWW.out)).mono ?_;rintro e W6 ⟨ok,lf6,rfl,ht6,ho6,hend⟩
      cases ok with
      | true =>
       have HE:Hid (Zb (fun k=>k<w5.heap.size) Wn W6∧RowI nd.leaf to_ rec L lf JJ pre bl N w5 (pre'++[x]) W6):=Hd (by
        rcases hend with ⟨e1,e2,e3,e4,e5⟩ | ⟨e1,_⟩
        ·have hin:=HRA1.out.inner e1.symm;rw[←e2] at hin;exact⟨ht6.mono fun k _ e=>by have:=HBS.out;omega,rest,_,lf6,by rw[HLR.out];simp,by rw[HLX.out];exact hin,by rw[←List.append_assoc];exact e5,ho6.left,e4 rfl,by have:=H1N.out;omega,HTN.out.trans ht6⟩
        ·cases e1)
       clear hend ht6 ho6 n0 cq cr fr cd cy cw;gi_wp2_with fail;exact HE.out
      | false =>
       have HO:=Hd (HOUT.out W6 lf6 ht6 ho6.left (by
        rcases hend with ⟨e1,e2,e3,e4,e5⟩ | ⟨_,q⟩
        ·have hst:rowN nd.leaf to_ rec L (lf - 1)=((out++(rec x.kid lf').1.1,false),(rec x.kid lf').2):=by
          rw[HLX.out];exact HRA1.out.stop e1.symm
         exact .inl ⟨by rw[hst],by rw[hst];exact e2,by have:=H1N.out;omega,by rw[hst,←List.append_assoc];exact e5⟩
        ·exact .inr q))
       have cr6:W6.cell? ⟨W.heap.size+1,0,none⟩=some (.bool false):=by rw[cell_of_row _ _ _ _ _ _ HO.out.1];rfl
       have fr6:=Zf HO.out.1 0;clear hend ht6 ho6 n0 cq cr fr cd cy cw;gi_wp2_with fail;exact HO.out.2
end
end
end Go.Proofs.YtofibccplbnaiaaGreatDoor
