/- Contracts of the functions that the statements of this seat reach, part 15: each says what the call answers and what it leaves of the memory. -/
import Derived.Test.YtfaobkmojlhbnaaGreatDoorZR14
import Derived.Test.YtfaobkmojlhbnaaGreatDoorZR9
import Derived.Test.YtfaobkmojlhbnaaGreatDoorZR12
import Derived.Test.YtfaobkmojlhbnaaGreatDoorZR7
set_option linter.unusedVariables false
set_option linter.unusedSimpArgs false
set_option maxRecDepth 100000
set_option maxHeartbeats 64000000
namespace Go.Proofs.YtfaobkmojlhbnaaGreatDoor
section
open Go.RowKit Go.Shelf Go.Lib
abbrev valsF (bx:Nat):Value:=.func (.func 144) #[] #[.pointer (some ⟨bx,0,none⟩)]
abbrev slO (v:Value):Obj:=.cells #[v] 172 (0,0)
theorem vals_any (w:World) (a:Option Addr) (n cap:Nat):Calls Tryz.prog 125 #[.slice a n cap] w λe b=>e=.returned (valsF w.heap.size)/\b=w.alloc (slO (.slice a n cap)):=by go_enter Tryz.func125,Tryz.ntmps125;go_wp2_with fail;go_ret;exact⟨rfl,rfl⟩
theorem from_any (w:World) (leaf:Bool) (b o n cap:Nat) {l:List En} (h:IsE w (.slice (some ⟨b,o,none⟩) n cap) l) (hnl:n=l.length) (z:0<n) (hm:l.length<=1000000) (hs:Srt ⟨leaf,l⟩) (key:List UInt8) {i:Nat} (F:((Nd.mk leaf l).behind key).1=i) (A:i<=l.length) :
  Calls Tryz.prog 98 #[ndV leaf (.slice (some ⟨b,o,none⟩) n cap),.string ⟨key.toArray⟩] w λe B=>∃p d,e=.returned (valsF p)/\Below w.heap.size w B/\w.heap.size<=p/\B.heap[p]?=some (slO (.slice (some ⟨b,d,none⟩) (l.length - i) (cap - i)))/\IsE B (.slice (some ⟨b,d,none⟩) (l.length - i) (cap - i)) (l.drop i):=by
 obtain⟨W1,a⟩:∃x,x=w.alloc (.cells #[.bool leaf,.slice (some ⟨b,o,none⟩) n cap] 174):=⟨_,rfl⟩;have q:Below w.heap.size w W1:=by rw[a];exact Zl w _
 have f:W1.heap[w.heap.size]?=some (ndO leaf (.slice (some ⟨b,o,none⟩) n cap)):=by rw[a];exact Vg w _
 have r:=h.below q;have HBE:=Hd (behind_any W1 leaf (some ⟨b,o,none⟩) n cap r hnl z hm hs key);have n0:=(Zd f).1;have n1:=(Zd f).2;obtain⟨_,k,s⟩:∃m,m=cap/\l.length<=cap/\cap<=maxLen:=by obtain⟨S,m,G,I,C,_⟩:=h;simp only[Value.slice.injEq] at G;obtain⟨_,_,rfl⟩:=G;exact⟨_,rfl,I,C⟩
 obtain⟨k,s⟩:=s;unfold maxLen at s;have HW1:=Hd a
 have D:=Hd q;have HN1:=Hd f;have HE1:=Hd r;have u:W1.heap.size=w.heap.size+1:=by rw[a];simp
 have E:=Hd u;rw[F] at HBE;generalize ((Nd.mk leaf l).behind key).2=T at *;rw[a] at n0 n1;have HNL:=Hd hnl;clear h a q f r hs hm u hnl F;have J:i<=n:=by have:=HNL.out;omega
 have U:n<=cap:=by have:=HNL.out;omega
 clear A k;go_enter Tryz.func98,Tryz.ntmps98;go_wp2_with fail;rw[<-HW1.out];refine HBE.out.mono ?_;rintro e c ⟨rfl,g⟩;have hn2:=(g.block _ (Za HN1.out)).trans HN1.out
 have V:=(Zd hn2).1;have m1:=(Zd hn2).2;have HE2:=Hd (HE1.out.below g);have HB2:=Hd (D.out.trans (g.mono (by have:=E.out;omega)));clear hn2 g n0 n1;have v:∀d,IsE c (.slice (some ⟨b,d,none⟩) (n - i) (cap - i)) (l.drop i)->∃p H,(Ending.returned (valsF c.heap.size))=.returned (valsF p)/\Below w.heap.size w (c.alloc (slO (.slice (some ⟨b,d,none⟩) (n - i) (cap - i))))/\w.heap.size<=p/\(c.alloc (slO (.slice (some ⟨b,d,none⟩) (n - i) (cap - i)))).heap[p]?=some (slO (.slice (some ⟨b,H,none⟩) (l.length - i) (cap - i)))/\IsE (c.alloc (slO (.slice (some ⟨b,d,none⟩) (n - i) (cap - i)))) (.slice (some ⟨b,H,none⟩) (l.length - i) (cap - i)) (l.drop i):=λd L=>by have hnl:=HNL.out;rw[<-hnl];exact⟨c.heap.size,d,rfl,HB2.out.trans ((Zl c _).mono HB2.out.size),HB2.out.size,Vg _ _,L.below (Zl c _)⟩
 have y:=Hd v;clear v;by_cases M:cap=i
 .have hVA:=Hd (vals_any c (some ⟨b,o,none⟩) (n - i) 0)
  have t:Hid (IsE c (.slice (some ⟨b,o,none⟩) (n - i) (cap - i)) (l.drop i)):=Hd (by
   have hnl:=HNL.out;have N:l.drop i=[]:=List.drop_eq_nil_of_le (by omega);rw[N]
   exact⟨_,_,by rw[show n - i=([]:List En).length from by simp;omega],by simp,by unfold maxLen;omega,λe=>(by cases e),λx hx=>⟨λO=>absurd O (by simp),λj P=>absurd P (by simp)⟩⟩)
  have Q:decide (i<=n)=true:=Vd J;go_wp2_with fail;refine hVA.out.mono ?_;rintro e R ⟨rfl,rfl⟩;go_wp2_with fail;go_ret;have hx:=y.out o t.out;rw[show cap - i=0 by omega] at hx ⊢
  exact hx
 .have hVA:=Hd (vals_any c (some ⟨b,o+i*3,none⟩) (n - i) (cap - i))
  have t:Hid (IsE c (.slice (some ⟨b,o+i*3,none⟩) (n - i) (cap - i)) (l.drop i)):=Hd (by
   have:=HE2.out.drop i (by have:=HNL.out;omega);rw[<-HNL.out] at this
   exact this)
  go_wp2_with fail;refine hVA.out.mono ?_;rintro e R ⟨rfl,rfl⟩;go_wp2_with fail;go_ret;exact y.out _ t.out
end
section
open Go.RowKit Go.Shelf Go.Lib
variable {assign body:Code}{T:Nat→Prop}{tmps:Array Value}{by_ bl bw lo fn m l:Nat}{O:World→Nat→Prop}{P:Program}{w:World}{Q:Ending→World→Prop}
abbrev trpO (tb:Nat):Obj:=.cells #[trp tb] 95 (0,0)
abbrev izO (i:Int):Obj:=.cells #[.int .i64 i] 3 (0,0)
abbrev bolO (b:Bool):Obj:=.cells #[.bool b] 4 (0,0)
abbrev yldO (lo:Nat):Obj:=.cells #[.func (.yield lo) #[] #[]] 123 (0,0)
abbrev Qf (b:Nat):Value:=.pointer (some ⟨b,0,none⟩)
abbrev walkF (bt bl bf bq by_ bw:Nat):Value:=.func (.func 97) #[] #[Qf bt,Qf bl,Qf bf,Qf bq,Qf by_,Qf bw]
abbrev wlkO (bt bl bf bq by_ bw:Nat):Obj:=.cells #[walkF bt bl bf bq by_ bw] 183 (0,0)
abbrev kvA (x:KV):Array Value:=#[.string ⟨x.1.toArray⟩,.string ⟨x.2.toArray⟩]
section
variable (n : Nat) (J : Jn) (seq : Int) (B : List (List UInt8)) (F : Ft) (p : Nat) (f : Pf) (R : Rp) (tb : Nat) (bt bf bq : Nat) (from_ to_ : List UInt8)
structure LiveR (W:World):Prop where
 tr:Tr n J seq B W F p f R tb
 hbt:W.heap[bt]?=some (trpO tb)
 hbf:W.heap[bf]?=some (Zar from_)
 hbq:W.heap[bq]?=some (Zar to_)
structure LowR (N:Nat):Prop where
 pj:∀k,PJ F p f k->k<N
 nib:0<N
 htb:tb<N
 hbt:bt<N
 hbf:bf<N
 hbq:bq<N
 at_:¬PJ F p f bt
 af:¬PJ F p f bf
 aq:¬PJ F p f bq
end
section
variable {n : Nat} {J : Jn} {seq : Int} {B : List (List UInt8)} {F : Ft} {p : Nat} {f : Pf} {R : Rp} {tb : Nat} {bt bf bq : Nat} {from_ to_ : List UInt8} {W W' : World} {N : Nat}
theorem Yk {k:Nat} {o:Obj} (ht:Zb T W W') (hk:¬T k) (h:W.heap[k]?=some o):W'.heap[k]?=some o:=(ht.block _ (Za h) hk).trans h
theorem Tr.turned (h:Tr n J seq B W F p f R tb) (ht:Zb T W W') (a:∀k,PJ F p f k\/k=0->¬T k) (hb:¬T tb):Tr n J seq B W' F p f R tb:=⟨h.lp.turned ht a,Yk ht hb h.head,h.apart⟩
theorem LiveR.far (h:LiveR n J seq B F p f R tb bt bf bq from_ to_ W) (hN:LowR F p f tb bt bf bq N) (ht:Zb T W W') (a:∀k,k<N->¬T k):LiveR n J seq B F p f R tb bt bf bq from_ to_ W' :=
 ⟨h.tr.turned ht (λk b=>a k (b.elim (hN.pj k) λe=>by rw[e];exact hN.nib)) (a _ hN.htb),Yk ht (a _ hN.hbt) h.hbt,Yk ht (a _ hN.hbf) h.hbf,Yk ht (a _ hN.hbq) h.hbq⟩
theorem LiveR.read (h:LiveR n J seq B F p f R tb bt bf bq from_ to_ W) (hN:LowR F p f tb bt bf bq N) (ht:Zb (PJ F p f) W W') (a:Tr n J seq B W' F p f R tb):LiveR n J seq B F p f R tb bt bf bq from_ to_ W' :=
 ⟨a,Yk ht hN.at_ h.hbt,Yk ht hN.af h.hbf,Yk ht hN.aq h.hbq⟩
structure OwnR (O:World->Nat->Prop) (bt bl bf bq by_ bw lo:Nat) (W:World) (lf:Int):Prop where
 left:W.heap[bl]?=some (izO lf)
 yld:W.heap[by_]?=some (yldO lo)
 wlk:W.heap[bw]?=some (wlkO bt bl bf bq by_ bw)
 nl:¬O W bl
 ny:¬O W by_
 nw:¬O W bw
theorem OwnR.move {lf lf':Int} (h:OwnR O bt bl bf bq by_ bw lo W lf) (ht:TO O T W W') (h1:W'.heap[bl]?=some (izO lf')) (h2:¬T by_) (h3:¬T bw):OwnR O bt bl bf bq by_ bw lo W' lf':=⟨h1,ht.keep h2 h.ny h.yld,ht.keep h3 h.nw h.wlk,ht.off (Za h.left) h.nl,ht.off (Za h.yld) h.ny,ht.off (Za h.wlk) h.nw⟩
theorem OwnR.keep {lf:Int} (h:OwnR O bt bl bf bq by_ bw lo W lf) (ht:TO O T W W') (h1:¬T bl) (h2:¬T by_) (h3:¬T bw):OwnR O bt bl bf bq by_ bw lo W' lf:=h.move ht (ht.keep h1 h.nl h.left) h2 h3
theorem Zgd {m':Nat} (h:RoundIn Fence.wide m P l fn tmps assign body w Q):RoundIn Fence.wide m' P l fn tmps assign body w Q:=⟨h.1,λc a _=>h.2 c a (room_wide _)⟩
theorem roundIn_in {F:Fence} {l2:Nat} (h:RoundIn F m P l fn tmps assign body w Q):RoundIn (F.inRound l2) m P l fn tmps assign body w Q:=h
end
def Zbc (leaf:Bool) (to_:List UInt8) (rec:Int->Int->(List KV × Bool) × Int) (L:List En) (lf0:Int) (rest:List En) (out:List KV) (lf:Int):Prop :=
 rowN leaf to_ rec L lf0=((out++(rowN leaf to_ rec rest lf).1.1,(rowN leaf to_ rec rest lf).1.2),(rowN leaf to_ rec rest lf).2)
section
variable {leaf : Bool} {to_ : List UInt8} {rec : Int → Int → (List KV × Bool) × Int} {L : List En} {lf0 : Int} {rest : List En} {out : List KV} {lf : Int} {x : En} {r : List En}
theorem Zbc.start:Zbc leaf to_ rec L lf0 L [] lf0:=by unfold Zbc;simp
theorem Zbc.over (h:Zbc true to_ rec L lf0 (x::r) out lf) (hc:to_≠[]/\¬x.key<to_):rowN true to_ rec L lf0=((out,false),lf):=by rw[h,rowN,if_pos rfl,if_pos hc];simp
theorem Zbc.leafGo (h:Zbc true to_ rec L lf0 (x::r) out lf) (hc:¬(to_≠[]/\¬x.key<to_)):Zbc true to_ rec L lf0 r (out++[(x.key,x.val)]) lf:=by unfold Zbc at *;rw[h,rowN,if_pos rfl,if_neg hc];simp
theorem Zbc.leafOut (h:Zbc true to_ rec L lf0 (x::r) out lf) (hc:¬(to_≠[]/\¬x.key<to_)):out++[(x.key,x.val)] <+: (rowN true to_ rec L lf0).1.1:=by rw[h.leafGo hc];exact List.prefix_append _ _
theorem Zbc.stop (h:Zbc false to_ rec L lf0 (x::r) out lf) (hc:(rec x.kid lf).1.2=false):rowN false to_ rec L lf0=((out++(rec x.kid lf).1.1,false),(rec x.kid lf).2):=by rw[h,rowN,if_neg (by simp),if_pos hc,hc]
theorem Zbc.inner (h:Zbc false to_ rec L lf0 (x::r) out lf) (hc:(rec x.kid lf).1.2=true):Zbc false to_ rec L lf0 r (out++(rec x.kid lf).1.1) (rec x.kid lf).2:=by unfold Zbc at *;rw[h,rowN,if_neg (by simp),if_neg (by simp[hc])];simp
theorem Zbc.innerOut (h:Zbc false to_ rec L lf0 (x::r) out lf):out++(rec x.kid lf).1.1 <+: (rowN false to_ rec L lf0).1.1:=by
 cases a:(rec x.kid lf).1.2 with
 | false=>rw[h.stop a];exact List.prefix_rfl
 | true=>rw[h.inner a];exact List.prefix_append _ _
theorem Zbc.done (h:Zbc leaf to_ rec L lf0 [] out lf):rowN leaf to_ rec L lf0=((out,true),lf):=by rw[h];simp[rowN]
end
end
section
open Go.RowKit Go.Shelf Go.Lib
variable {A w:World}{s:List KV}{T:Nat→Prop}
attribute [local go_sem] Oper.semAt_some
section
variable {O : World → Nat → Prop} {n : Nat} {J : Jn} {seq : Int} {B : List (List UInt8)} {F : Ft} {p : Nat} {f : Pf} {R : Rp} {tb : Nat} {bt bf bq bl by_ bw lo N : Nat} {from_ to_ : List UInt8} {xs : List KV} {JJ JX : List KV → World → Prop}
structure Rng (O:World->Nat->Prop) (n:Nat) (J:Jn) (seq:Int) (B:List (List UInt8)) (F:Ft) (p:Nat) (f:Pf) (R:Rp) (tb bt bf bq bl by_ bw lo N:Nat) (from_ to_:List UInt8) (xs:List KV) (JJ JX:List KV->World->Prop):Prop where
 live:∀s A,JJ s A->LiveR n J seq B F p f R tb bt bf bq from_ to_ A
 keep:∀s A A',JJ s A->Zb (λk=>(PJ F p f k\/N<=k)/\¬O A k) A A'->LiveR n J seq B F p f R tb bt bf bq from_ to_ A'->JJ s A'
 keepX:∀s A A',JX s A->Zb (λk=>N<=k/\¬O A k) A A'->JX s A'
 st:Stays O N (λk=>PJ F p f k\/N<=k)
 olt:∀s A,JJ s A->∀k,O A k->¬PJ F p f k/\k<A.heap.size
 round:∀(m:Nat) pre x W1,JJ pre W1->pre++[x] <+: xs->N<=W1.heap.size->YieldAt Fence.wide m Tryz.prog lo (kvA x) W1 λe W'=>TO O (λk=>k<N) W1 W'/\((e=.returned (.bool true)/\JJ (pre++[x]) W')\/(e=.returned (.bool false)/\JX (pre++[x]) W'))
 low:LowR F p f tb bt bf bq N
 good:R.good
 hbl:N<=bl
 hby:N<=by_
 hbw:N<=bw
 n1:bl≠by_
 n2:bl≠bw
theorem Rng.far (h:Rng O n J seq B F p f R tb bt bf bq bl by_ bw lo N from_ to_ xs JJ JX) {A':World} (hj:JJ s A) (ht:Zb T A A') (a:∀k,T k->N<=k/\¬O A k):JJ s A' :=
 h.keep _ _ _ hj (ht.mono λk _ e=>⟨.inr (a k e).1,(a k e).2⟩) ((h.live _ _ hj).far h.low ht λk b e=>by have:=(a k e).1;omega)
theorem Rng.own (h:Rng O n J seq B F p f R tb bt bf bq bl by_ bw lo N from_ to_ xs JJ JX) {A':World} (hA:N<=A.heap.size) (ht:Zb T A A') (a:∀k,T k->N<=k):TO O T A A':=h.st.own hA ht λk e=>.inr (a k e)
theorem Rng.read (h:Rng O n J seq B F p f R tb bt bf bq bl by_ bw lo N from_ to_ xs JJ JX) {A':World} (hj:JJ s A) (ht:Zb (PJ F p f) A A') (a:Tr n J seq B A' F p f R tb):JJ s A' :=
 h.keep _ _ _ hj (ht.mono λk _ e=>⟨.inl e,λo=>(h.olt _ _ hj k o).1 e⟩) ((h.live _ _ hj).read h.low ht a)
theorem Qn {P:Program} {fn:Func} {tmps:Array Value} {a:Tmp} {t:TypeId} {p:Addr} {v:Value} (hr:fn.results=#[.cell a t]) (b:tmps.getD a undef=.pointer (some p)) (hv:(loadVar t p).run P w=.ok v w):(results fn tmps).run P w=.ok v w:=by unfold results;simp only[hr,List.mapM_toArray,List.mapM_cons,List.mapM_nil,b,asAddr,Sem.run_bind,Sem.run_pure,Result.andThen_ok,hv,bind_assoc,pure_bind,Sem.run_map];rfl
theorem Zcx {g:Nat} {b:Bool} (h:w.heap[g]?=some (bolO b)):(loadVar 4 ⟨g,0,none⟩).run Tryz.prog w=.ok (.bool b) w:=by
 have c:w.cell? ⟨g,0,none⟩=some (.bool b):=by rw[Vc _ _ _ _ _ _ h];rfl
 have a:(isAgg 4).run Tryz.prog w=.ok false w:=by unfold isAgg;rw[Sem.run_bind,run_underlying Tryz.underlying4 w];rfl
 simp[loadVar,Sem.run_bind,a,go_sem,c,Result.andThen]
def WalkEnd (O:World->Nat->Prop) (bt bf bq bl by_ bw lo N:Nat) (xs:List KV) (JJ JX:List KV->World->Prop) (W:World) (pre:List KV) (lf:Int) (r:(List KV × Bool) × Int) (e:Ending) (W':World):Prop :=
 ∃ok lf',e=.returned (.bool ok)/\TO O (λk=>k<N\/k=bl) W W'/\OwnR O bt bl bf bq by_ bw lo W' lf'/\((ok=r.1.2/\lf'=r.2/\lf'<=lf/\(ok=true->0<=lf')/\JJ (pre++r.1.1) W')\/(ok=false/\∃q,q <+: xs/\JX q W'))
def RowI (O:World->Nat->Prop) (leaf:Bool) (to_:List UInt8) (rec:Int->Int->(List KV × Bool) × Int) (L:List En) (lf:Int) (JJ:List KV->World->Prop) (pre:List KV) (bl N:Nat) (w5:World) (pre':List En) (Wn:World):Prop :=
 ∃rest out lf',L=pre'++rest/\Zbc leaf to_ rec L (lf - 1) rest out lf'/\JJ (pre++out) Wn/\Wn.heap[bl]?=some (izO lf')/\0<=lf'/\lf'<=lf - 1/\TO O (λk=>k<N\/k=bl) w5 Wn
def RowX (O:World->Nat->Prop) (leaf:Bool) (to_:List UInt8) (rec:Int->Int->(List KV × Bool) × Int) (L:List En) (lf:Int) (xs:List KV) (JJ JX:List KV->World->Prop) (pre:List KV) (bl rb N:Nat) (w5:World) (c:Code) (pre':List En) (Wn:World):Prop :=
 c=.ret/\Wn.heap[rb]?=some (bolO false)/\TO O (λk=>k<N\/k=bl\/k=rb) w5 Wn/\∃lf',Wn.heap[bl]?=some (izO lf')/\(((rowN leaf to_ rec L (lf - 1)).1.2=false/\lf'=(rowN leaf to_ rec L (lf - 1)).2/\lf'<=lf - 1/\JJ (pre++(rowN leaf to_ rec L (lf - 1)).1.1) Wn)\/∃q,q <+: xs/\JX q Wn)
theorem rwalk_any (h:Rng O n J seq B F p f R tb bt bf bq bl by_ bw lo N from_ to_ xs JJ JX):∀g:Nat,g<=41->∀(b d:Int) (pre:List KV) (W:World),-9223372036854775808<=b->b<=9223372036854775807->0<=d->d<=1000000->JJ pre W->OwnR O bt bl bf bq by_ bw lo W d->N<=W.heap.size->pre++(R.walkN from_ to_ (g+1) b d).1.1 <+: xs ->
  Calls Tryz.prog 97 #[.int .i64 b,.int .i64 (41 - (g:Int)),Qf bt,Qf bl,Qf bf,Qf bq,Qf by_,Qf bw] W (WalkEnd O bt bf bq bl by_ bw lo N xs JJ JX W pre d (R.walkN from_ to_ (g+1) b d)):=by
 intro g
 induction g using Nat.strongRecOn with
 | _ g ih =>
 intro hg b d pre W p0 p1 l0 l1 aU am hN aH;obtain⟨W1,ab⟩:∃x,x=(W.alloc (.cells #[.int .i64 (41 - (g:Int))] 3)).alloc (.cells #[.bool false] 4):=⟨_,rfl⟩;have aV:Below W.heap.size W W1:=by rw[ab];exact(Zl W _).alloc (by simp) _
 have b7:W1.heap.size=W.heap.size+2:=by rw[ab];simp
 have b8:W1.heap[W.heap.size]?=some (izO (41 - (g:Int))):=by rw[ab];exact(Vv _ _ _ (by simp)).trans (Vg W _)
 have b9:W1.heap[W.heap.size+1]?=some (bolO false):=by
  rw[ab];have:=Vg (W.alloc (.cells #[.int .i64 (41 - (g:Int))] 3)) (.cells #[.bool false] 4)
  simpa using this
 have aB:Zb (λ_=>False) W W1:=Zb.of_below aV;have hto1:=h.own hN aB λ_ e=>e.elim;have hj1:=h.far aU aB λk e=>e.elim;have ho1:=am.keep hto1 id id id;have bS:Hid (∀k,O W1 k->k<W.heap.size):=Hd λk e=>(h.olt _ _ aU k (h.st _ _ hN (aB.mono λ_ _ e=>e.elim) k e)).2;have HTO1:=Hd hto1;have hl1:=h.live _ _ hj1;have HLD:=Hd (Zep hl1.tr b p0 p1);have ct:W1.cell? ⟨bt,0,none⟩=some (trp tb):=by rw[Vc _ _ _ _ _ _ hl1.hbt];rfl
 have aI:bl<W.heap.size:=Za am.left;have aJ:by_<W.heap.size:=Za am.yld;have aK:bw<W.heap.size:=Za am.wlk;have HBY:=Hd aJ;have HBW:=Hd aK;have HW1:=Hd ab;have HB1:=Hd aV;have HS1:=Hd b7;have HD1:=Hd b8;have HR1:=Hd b9;have HJ1:=Hd hj1;have HO1:=Hd ho1;have HPRE:=Hd aH;have H:=Hd h;have HN:=Hd hN;have HIH:=Hd ih;have HL0:=Hd l0;have HL1:=Hd l1;rw[ab] at ct;clear aV b7 b8 b9 aB hto1 hj1 ho1 hl1 aU am aH hN ih l0 l1 ab;clear h;refine Un (n:=3).1 ?_;refine callsIn_of_wp_marks Tryz.func97 rfl trivial ?_ rfl;simp only[Tryz.ntmps97,List.size_toArray,List.length_cons,List.length_nil,Nat.reduceAdd,Nat.reduceSub,Array.replicate_succ,Array.replicate_zero,List.push_toArray,List.append_toArray,List.nil_append,List.cons_append];gi_wp2_with fail;rw[<-HW1.out];refine⟨trivial,?_⟩;refine(callsIn_wide.2 HLD.out).mono ?_;rintro e w2 ⟨an,va,vk,vc,rfl,ba,a6,bb⟩;obtain⟨a7,aW,hs3⟩:=nd_box w2 an (.slice va vk vc);obtain⟨W3,ao⟩:∃W3,W3=w2.alloc (.cells #[.bool an,.slice va vk vc] 174):=⟨_,rfl⟩;rw[<-ao] at a7 aW hs3;have a0:∀k,N<=k->¬PJ F p f k:=λk hk e=>by have:=H.out.low.pj k e;omega
 have bc:¬PJ F p f bl:=a0 _ H.out.hbl;have bd:¬PJ F p f by_:=a0 _ H.out.hby;have be:¬PJ F p f bw:=a0 _ H.out.hbw;have hj2:=H.out.read HJ1.out a6 ba;have hj3:=H.out.far hj2 (Zb.of_below (T:=λ_=>False) a7) λk e=>e.elim;have aX:N<=W1.heap.size:=by have:=HN.out;have:=HB1.out.size;omega
 have aY:N<=w2.heap.size:=by have:=a6.size;omega
 have aZ:N<=W3.heap.size:=by have:=a7.size;omega
 have ap:=H.out.st.own aX a6 λk e=>.inl e;have hto3:=H.out.own aY (Zb.of_below (T:=λ_=>False) a7) λ_ e=>e.elim;have ho2:=HO1.out.keep ap bc bd be;have ho3:=ho2.keep hto3 id id id;have hd2:=Yk a6 (a0 _ (by have:=HN.out;omega)) HD1.out;have hr2:=Yk a6 (a0 _ (by have:=HN.out;omega)) HR1.out;have hd3:=(a7.block _ (Za hd2)).trans hd2;have hr3:=(a7.block _ (Za hr2)).trans hr2;have bg:W3.cell? ⟨bl,0,none⟩=some (.int .i64 d):=by rw[Vc _ _ _ _ _ _ ho3.left];rfl
 obtain⟨W4,aq⟩:∃W4,W4=W3.setCell ⟨bl,0,none⟩ (.int .i64 (d - 1)):=⟨_,rfl⟩;have a8:Zb (·=bl) W3 W4:=by rw[aq];exact Zc W3 bl 0 _
 have b0:W4.heap[bl]?=some (izO (d - 1)):=by rw[aq];exact Ze ho3.left _
 have ar:=H.out.own aZ a8 λk e=>by rw[e];exact H.out.hbl
 have bh:=ho3.move ar b0 (λe=>H.out.n1 e.symm) (λe=>H.out.n2 e.symm);have hd4:=Yk a8 (by omega) hd3;have hr4:=Yk a8 (by omega) hr3;have hn4:=Yk a8 (by have:=HB1.out.size;have:=a6.size;omega) aW;have hj4:=H.out.far hj3 a8 λk e=>by rw[e];exact⟨H.out.hbl,ho3.nl⟩
 have bi:TO O (λk=>k<N\/k=bl) W W4:=(((HTO1.out.mono λ_ _ e=>e.elim).trans (ap.mono λk _ e=>.inl (H.out.low.pj k e))).trans (hto3.mono λ_ _ e=>e.elim)).trans (ar.mono λk _ e=>.inr e);have aL:Hid (∀k,O W4 k->k<W.heap.size):=Hd λk e=>bS.out k (H.out.st _ _ aX (a6.mono λ_ _ e=>.inl e) k (H.out.st _ _ aY (Zb.of_below a7) k (H.out.st _ _ aZ (a8.mono λk _ e=>.inr (by rw[e];exact H.out.hbl)) k e)));have af:Hid (N<=W4.heap.size):=Hd (by have:=a8.size;omega);have bT:IntKind.i64.wrap (d - 1)=d - 1:=Vf _ (by have:=HL0.out;have:=HL1.out;omega);have HW3:=Hd ao;have HW4:=Hd aq;have HJ4:=Hd hj4;have HO4:=Hd bh;have HT4:=Hd bi;have HD4:=Hd hd4;have HR4:=Hd hr4;have HN4:=Hd hn4;have HND:=Hd bb;have HS3:=Hd hs3;have HBL:=Hd aI;have bU:W.heap.size+1<W4.heap.size:=Za hr4
 have au:(R.walkN from_ to_ (g+1) b d=(([],false),d - 1))->WalkEnd O bt bf bq bl by_ bw lo N xs JJ JX W pre d (R.walkN from_ to_ (g+1) b d) (.returned (.bool false)) (W4.setCell ⟨W.heap.size+1,0,none⟩ (.bool false)):=λe=>by
  have bj:=Zc W4 (W.heap.size+1) 0 (.bool false);have hto5:=H.out.own af.out bj λk e=>by have:=HN.out;omega
  refine⟨false,d - 1,rfl,HT4.out.then hto5 λi hi e=>by omega,HO4.out.keep hto5 (by have:=HBL.out;omega) (by have:=HBY.out;omega) (by have:=HBW.out;omega),.inl ⟨by rw[e],by rw[e],by omega,by simp,?_⟩⟩
  .rw[e];simp only[List.append_nil];exact H.out.far HJ4.out bj λk e=>⟨by have:=HN.out;omega,λo=>by have:=aL.out k o;omega⟩
 have HF:=Hd au;have fl3:=Zf ho3.left 0;have fr4:=Zf hr4 0;rw[ao] at bg fl3;have bk:W4.cell? ⟨W.heap.size,0,none⟩=some (.int .i64 (41 - (g:Int))):=by rw[Vc _ _ _ _ _ _ hd4];rfl
 have bm:W4.cell? ⟨bl,0,none⟩=some (.int .i64 (d - 1)):=by rw[Vc _ _ _ _ _ _ b0];rfl
 have bn:W4.cell? ⟨W.heap.size+1,0,none⟩=some (.bool false):=by rw[Vc _ _ _ _ _ _ hr4];rfl
 rw[aq,ao] at bk bm bn fr4;clear ap hto3 ar aX aY aZ a7 aW hs3 hj2 hj3 ho2 ho3 hd2 hr2 hd3 hr3 a8 b0 bh hd4 hr4 hn4 hj4 bi bb a6 ba aI ao aq bU au a0 bc bd be ct aJ aK
 cases hl:(R.load b).1 with
 | none =>
  have bo:=Rp.load_none hl;have bp:((R.load b).2 != 0)=true:=by rw[bne_iff_ne];exact bo
  have HE:Hid (R.walkN from_ to_ (g+1) b d=(([],false),d - 1)):=Hd (by
   have:R.load b=(none,(R.load b).2):=by rw[<-hl]
   rw[Rp.walkN,this])
  clear hl bo;gi_wp2_with fail;rw[<-HW3.out,<-HW4.out];exact⟨_,Qn rfl rfl (Zcx (Ze HR4.out _)),HF.out HE.out⟩
 | some v =>
  obtain⟨ad,hm⟩:=HND.out v hl;obtain⟨S,av⟩:=(H.out.live _ _ HJ1.out).tr.lp.load_fit hl;have bp:((R.load b).2 != 0)=false:=by rw[av];rfl
  have ah:R.load b=(some v,0):=by rw[<-hl,<-av]
  by_cases aw:g=0
  .have bV:decide (40<41 - (g:Int))=true:=Vd (by omega)
   have HE:Hid (R.walkN from_ to_ (g+1) b d=(([],false),d - 1)):=Hd (by
    rw[Rp.walkN,ah];dsimp only
    rw[if_pos (.inl aw)])
   clear hl ad hm S av ah;gi_wp2_with fail;rw[<-HW3.out,<-HW4.out];exact⟨_,Qn rfl rfl (Zcx (Ze HR4.out _)),HF.out HE.out⟩
  .have bV:decide (40<41 - (g:Int))=false:=Vb (by omega)
   by_cases m:d - 1<0
   .have bW:decide (d - 1<0)=true:=Vd m
    have HE:Hid (R.walkN from_ to_ (g+1) b d=(([],false),d - 1)):=Hd (by
     rw[Rp.walkN,ah];dsimp only
     rw[if_pos (.inr m)])
    clear hl ad hm S av ah aw m;gi_wp2_with fail;rw[<-HW3.out,<-HW4.out];exact⟨_,Qn rfl rfl (Zcx (Ze HR4.out _)),HF.out HE.out⟩
   .have bW:decide (d - 1<0)=false:=Vb m
    obtain rfl:v.leaf=an:=ad;obtain⟨g2,cc,br,bX,bY,bs,aM⟩:=hm.form.resolve_left λe=>S.some e.2;simp only[Value.slice.injEq] at br;obtain⟨rfl,rfl,rfl⟩:=br;obtain⟨bZ,ce⟩:=S.len;obtain⟨i,hi⟩:∃i,i=((Nd.mk v.leaf v.l).behind from_).1:=⟨_,rfl⟩
    have bu:i<=v.l.length:=by
     rw[hi]
     cases hb:v.leaf with
     | true=>exact(Zbo (n:=⟨true,v.l⟩) rfl from_).1
     | false=>exact Nat.le_of_lt (Zff (n:=⟨false,v.l⟩) S.some rfl from_)
    have aN:w2.heap.size<=W4.heap.size:=by rw[HW4.out,HW3.out];simp[World.setCell]
    have bz:IsE W4 (.slice (some ⟨g2,0,none⟩) v.l.length vc) v.l:=by
     have h1:IsE W3 (.slice (some ⟨g2,0,none⟩) v.l.length vc) v.l:=by rw[HW3.out];exact hm.isE.below (Zl w2 _)
     refine h1.turned (T:=(·=bl)) (by rw[HW4.out];exact Zc W3 bl 0 _) ?_;rintro k ⟨x,n',c',e,rfl⟩;simp only[Value.slice.injEq,Option.some.injEq] at e;obtain⟨rfl,_⟩:=e;show ¬g2=bl
     have:=HBL.out;have:=HB1.out.size;omega
    obtain⟨z,ax⟩:∃z,z=R.walkN from_ to_ g:=⟨_,rfl⟩;obtain⟨L,hL⟩:∃L,L=v.l.drop i:=⟨_,rfl⟩
    have HX:Hid (R.walkN from_ to_ (g+1) b d=rowN v.leaf to_ z L (d - 1)):=Hd (by
     rw[Rp.walkN,ah];dsimp only
     rw[if_neg (λh=>h.elim aw m),ax,hL,hi])
    have bA:=Hd (from_any W4 v.leaf g2 0 v.l.length vc bz rfl bZ (by omega) S.srt from_ hi.symm bu);rw[<-hL] at bA;have HLV4:=Hd (H.out.live _ _ HJ4.out);have bB:W4.cell? ⟨bf,0,none⟩=some (.string ⟨from_.toArray⟩):=by rw[Vc _ _ _ _ _ _ HLV4.out.hbf];rfl
    have bC:=(Zd HN4.out).1;have n41:=(Zd HN4.out).2;have HI:=Hd hi;have HLL:=Hd hL;have HREC:=Hd ax;have HLF:=Hd m;have HG0:=Hd aw;have HFIT:=Hd S;have ae:Hid (W1.heap.size<=g2):=Hd bs;have ai:Hid (g2<w2.heap.size):=Hd aM;have HSZ2:=Hd aN;rw[HW4.out,HW3.out] at bB bC n41;clear hl hm S av ah aw m hi hL ax bX bY bs aM bz aN bu;gi_wp2_with fail;rw[<-HW3.out,<-HW4.out];refine⟨trivial,?_⟩;refine(callsIn_wide.2 bA.out).mono ?_;rintro e w5 ⟨bx,o',rfl,X,bD,aO,bE⟩;have aC:∀k,W4.heap.size<=k->N<=k:=λk hk=>by have:=HN.out;have:=HB1.out.size;have:=HT4.out.size;omega
    have bF:=H.out.far HJ4.out (Zb.of_below (T:=λ_=>False) X) λk e=>e.elim;have hto5:=H.out.own af.out (Zb.of_below (T:=λ_=>False) X) λ_ e=>e.elim;have ho5:=HO4.out.keep hto5 id id id;have ay:Hid (∀k,O w5 k->k<W.heap.size):=Hd λk e=>aL.out k (H.out.st _ _ af.out (Zb.of_below X) k e);have V:Hid (N<=w5.heap.size):=Hd (by have:=af.out;have:=X.size;omega);have hd5:=(X.block _ (Za HD4.out)).trans HD4.out;have hr5:=(X.block _ (Za HR4.out)).trans HR4.out;have hn5:=(X.block _ (Za HN4.out)).trans HN4.out;have bG:TO O (λk=>k<N\/k=bl) W w5:=HT4.out.trans (hto5.mono λ_ _ e=>e.elim);have bH:w5.cell? ⟨bx,0,none⟩=some (.slice (some ⟨g2,o',none⟩) (v.l.length - i) (vc - i)):=by rw[Vc _ _ _ _ _ _ aO];rfl
    have c0:=Hd bF;have HO5:=Hd ho5;have HD5:=Hd hd5;have HR5:=Hd hr5;have HN5:=Hd hn5;have HT5:=Hd bG;have HBO:=Hd bH;have HE5:=Hd bE;have HB5:=Hd X;have cb:Hid (W4.heap.size<=w5.heap.size):=Hd X.size;have I:Hid (W.heap.size+2<=w5.heap.size/\w2.heap.size<w5.heap.size):=Hd ⟨by have:=Za hr5;omega,Za hn5⟩;clear aC hto5 bF ho5 hd5 hr5 hn5 bG bH bE X bD aO bC n41 bB bk bm bn fr4 fl3 bg;have c1:L.length<=1000000:=by rw[HLL.out,List.length_drop];have:=HFIT.out.len.2;omega
    gi_wp2_with fail
    refine rangeX (F:=Fence.wide) rfl (by omega) (gf:=144) (lb:=#[Qf bx]) rfl trivial (enters_of Tryz.func144 (by kernel_rfl) rfl)
     (values_seq 2 (by omega) bx (.slice (some ⟨g2,o',none⟩) (v.l.length - i) (vc - i)) L c1) (λ_=>rfl)
     (RowI O v.leaf to_ z L d JJ pre bl N w5)
     (RowX O v.leaf to_ z L d xs JJ JX pre bl (W.heap.size+1) N w5)
     ?hG ?hL (λ_ _ _ _=>trivial) ?hLp O (H.out.st.mono V.out λk e=>e.elim (λe=>e.elim) λe=>.inr (by have:=V.out;omega)) (λs A h k e=>⟨id,by obtain⟨_,_,_,_,_,Q,_⟩:=h;exact(H.out.olt _ _ Q k e).2⟩) ?hI (λk e=>e.elim) ?hIx ?h0 (λx a' A=>∃Bx,w5.heap.size+2<=Bx/\A.heap[Bx]?=some (enO x)/\a'={ tmps:=#[.int .i64 b,.int .i64 (41 - (g:Int)),Qf bt,Qf bl,Qf bf,Qf bq,Qf by_,Qf bw,undef,Qf W.heap.size,Qf (W.heap.size+1),Qf w2.heap.size,.int .i64 (R.load b).2,Qf Bx,.tuple #[ndV v.leaf (.slice (some ⟨g2,0,none⟩) v.l.length vc),.int .i64 (R.load b).2],trp tb,.int .i64 b,.tuple #[ndV v.leaf (.slice (some ⟨g2,0,none⟩) v.l.length vc),.int .i64 (R.load b).2],ndV v.leaf (.slice (some ⟨g2,0,none⟩) v.l.length vc),.int .i64 (R.load b).2,.int .i64 d,.int .i64 (d - 1),.int .i64 (R.load b).2,.bool false,.bool false,.int .i64 (41 - (g:Int)),.bool false,.bool false,.bool false,.int .i64 (d - 1),.bool false,.bool false,ndV v.leaf (.slice (some ⟨g2,0,none⟩) v.l.length vc),.string ⟨from_.toArray⟩,valsF bx,enA x,undef,undef,undef,undef,undef,undef,undef,undef,undef,undef,undef,undef,undef,undef,undef,undef,undef,undef,undef,undef,undef,undef,undef,undef,undef,undef,undef,undef,undef,undef,undef,undef,undef,undef,undef,undef,undef,undef],defers:=[] }) ?hAx ?assign ?body ?done ?stop
    case assign =>
     rintro l a9 x G K ⟨u,M,lf',U,Y,Q,E,Z,a2,j⟩ b1 aj hK;gi_wp2_with fail;have hNn:N<=G.heap.size:=by have:=HN.out;have:=I.out;omega
     exact hK _ _ (Zcb _ _ _) ⟨u,M,lf',U,Y,H.out.far Q (Zb.of_below (T:=λ_=>False) (Zl G _)) λk e=>e.elim,Yk (Zcb (λ_=>False) _ _) id E,Z,a2,j.then (H.out.own hNn (Zcb (λ_=>False) _ _) λ_ e=>e.elim) λ_ _ e=>e.elim⟩ ⟨G.heap.size,aj,Vg _ _,rfl⟩
    case hAx =>
     rintro x a' A o ⟨Bx,h1,h2,h3⟩;exact⟨Bx,h1,(World.putObj_heap_other (by omega)).trans h2,h3⟩
    case h0 =>
     exact⟨L,[],d - 1,rfl,Zbc.start,by rw[List.append_nil];exact c0.out,HO5.out.left,by have:=HLF.out;omega,Int.le_refl _,TO.refl⟩
    case hG =>
     intro G hb;exact⟨(hb.cell (p:=⟨bx,0,none⟩) (World.block_lt_of_cell? w5 _ HBO.out)).trans HBO.out,HE5.out.below hb⟩
    case hL =>
     rintro s A ⟨u,M,lf',U,Y,Q,E,Z,a2,j⟩;refine HE5.out.turned j.1 ?_;rintro k ⟨y,n',c',e,rfl⟩;simp only[Value.slice.injEq,Option.some.injEq] at e;obtain⟨rfl,_⟩:=e;show ¬((g2<N\/g2=bl)\/O w5 g2)
     rintro(e | e);rotate_left
     .have:=ay.out _ e;have:=ae.out;have:=HB1.out.size;omega
     have:=ae.out;have:=HBL.out;have:=HN.out;have:=HB1.out.size;omega
    case hLp =>
     intro A A' hA ht;refine hA.turned ht ?_;rintro k ⟨y,n',c',e,rfl⟩;simp only[Value.slice.injEq,Option.some.injEq] at e;obtain⟨rfl,_⟩:=e;show ¬(w5.heap.size<=g2)
     have:=ai.out;have:=I.out.2;omega
    case hI =>
     rintro s A A' ⟨u,M,lf',U,Y,Q,E,Z,a2,j⟩ ht _;have a3:Zb (λk=>w5.heap.size<=k/\¬O A k) A A':=ht.mono λk _ e=>⟨e.1.elim (λe=>e.elim) id,e.2⟩
     have hNw:=V.out;refine⟨u,M,lf',U,Y,H.out.far Q a3 λk e=>⟨by omega,e.2⟩,Yk a3 ?_ E,Z,a2,j.then (H.out.own (by have:=j.size;omega) a3 λk e=>by omega) λi hi e=>?_⟩
     .have:=HBL.out;have:=I.out;omega
     .exact absurd e.1 (by omega)
    case hIx =>
     rintro c s A A' ⟨rfl,hr,ht,lf',E,C⟩ a3;have hNw:=V.out
     refine⟨rfl,Yk a3 ?_ hr,ht.then (H.out.own (by have:=ht.size;omega) a3 λk e=>by omega) λi hi e=>absurd e.1 (by omega),lf',Yk a3 ?_ E,?_⟩
     .have:=I.out;omega
     .have:=HBL.out;have:=I.out;omega
     .rcases C with ⟨e1,e2,e3,e4⟩ | ⟨q,q1,q2⟩
      .exact .inl ⟨e1,e2,e3,H.out.far e4 a3 λk e=>⟨by omega,e.2⟩⟩
      .exact .inr ⟨q,q1,H.out.keepX _ _ _ q2 (a3.mono λk _ e=>⟨by omega,e.2⟩)⟩
    case done =>
     rintro D G hD ak aj ⟨u,M,lf',U,Y,Q,E,Z,a2,j⟩ hK;obtain rfl:u=[]:=by simpa using U
     have aD:=Y.done;have al:¬O w5 (W.heap.size+1):=λe=>by have:=ay.out _ e;omega
     have aE:=j.keep (by have:=HBL.out;have:=HN.out;omega) al HR5.out;have hnrn:=j.off (Za HR5.out) al;have cr:G.cell? ⟨W.heap.size+1,0,none⟩=some (.bool false):=by rw[Vc _ _ _ _ _ _ aE];rfl
     have fr:=Zf aE 0;have ht6:=Zc G (W.heap.size+1) 0 (.bool true)
     have HE:Hid (∀o,WalkEnd O bt bf bq bl by_ bw lo N xs JJ JX W pre d (R.walkN from_ to_ (g+1) b d) (.returned (.bool true)) ((G.setCell ⟨W.heap.size+1,0,none⟩ (.bool true)).putObj D o)):=Hd λo=>by
      have c2:N<=D:=by have:=HN.out;have:=I.out;omega
      have a4:Zb (λk=>k=W.heap.size+1\/k=D) G ((G.setCell ⟨W.heap.size+1,0,none⟩ (.bool true)).putObj D o):=(ht6.mono λk _ e=>.inl e).trans (Qi _ D o (.inr rfl));have aC:∀k,(k=W.heap.size+1\/k=D)->N<=k/\¬O G k:=λk e=>⟨by have:=HN.out;omega,by rcases e with rfl | rfl;exact hnrn;exact ak⟩;have hto7:=H.out.own (by have:=V.out;have:=j.size;omega) a4 λk e=>(aC k e).1;have a5:∀k,k<W.heap.size->¬(k=W.heap.size+1\/k=D):=λk hk e=>by have:=I.out;omega
      have own:=(HO5.out.move j E (by have:=H.out.hby;have:=H.out.n1;omega) (by have:=H.out.hbw;have:=H.out.n2;omega)).keep hto7 (a5 _ HBL.out) (a5 _ HBY.out) (a5 _ HBW.out);refine⟨true,lf',rfl,(HT5.out.trans j).then hto7 λi hi e=>absurd e (a5 i hi),own,.inl ⟨by rw[HX.out,aD],by rw[HX.out,aD],by omega,λ_=>Z,?_⟩⟩;rw[HX.out,aD];exact H.out.far Q a4 aC
     have bI:=Ze aE (.bool true) (i:=0);have HRT:=Hd bI;have HK6:Hid ((G.setCell ⟨W.heap.size+1,0,none⟩ (.bool true)).heap[D]?=some (.deferred (some []))):=Hd (Yk ht6 (by have:=I.out;omega) hK);have b2:W.heap.size+1≠D:=by have:=I.out;omega
     clear Y Q E Z a2 j hK aD al hnrn ak aE ht6 bI U;gi_wp2_with fail;refine⟨by simp,.inl ⟨_,_,rfl,run_takeDeferred HK6.out,?_⟩⟩;exact⟨_,Qn rfl rfl (Zcx ((World.putObj_heap_other b2).trans HRT.out)),HE.out _⟩
    case stop =>
     rintro D c a9 G hD ak aj hp ⟨rfl,hr,ht,lf',E,C⟩ hK
     have HE:Hid (∀o,WalkEnd O bt bf bq bl by_ bw lo N xs JJ JX W pre d (R.walkN from_ to_ (g+1) b d) (.returned (.bool false)) (G.putObj D o)):=Hd λo=>by
      have c2:N<=D:=by have:=HN.out;have:=I.out;omega
      have a4:=Qi (T:=(·=D)) G D o rfl;have hto7:=H.out.own (by have:=V.out;have:=ht.size;omega) a4 λk e=>by omega
      have a5:∀k,k<W.heap.size->¬k=D:=λk hk e=>by have:=I.out;omega
      have own:=(HO5.out.move ht E (by have:=H.out.hby;have:=H.out.n1;have:=HBY.out;omega) (by have:=H.out.hbw;have:=H.out.n2;have:=HBW.out;omega)).keep hto7 (a5 _ HBL.out) (a5 _ HBY.out) (a5 _ HBW.out);refine⟨false,lf',rfl,((HT5.out.then ht λi hi e=>by have:=I.out;omega)).then hto7 λi hi e=>absurd e (a5 i hi),own,?_⟩;rcases C with ⟨e1,e2,e3,e4⟩ | ⟨q,q1,q2⟩
      .exact .inl ⟨by rw[HX.out,e1],by rw[HX.out,e2],by omega,by simp,by rw[HX.out];exact H.out.far e4 a4 λk e=>⟨by omega,by rw[e];exact ak⟩⟩
      .exact .inr ⟨rfl,q,q1,H.out.keepX _ _ _ q2 (a4.mono λk _ e=>⟨by omega,by rw[e];exact ak⟩)⟩
     have HRT:=Hd hr;have HK6:=Hd hK;have b2:W.heap.size+1≠D:=by have:=I.out;omega
     clear C ht hr hK E ak;gi_wp2_with fail;refine⟨by simp,.inl ⟨_,_,rfl,run_takeDeferred HK6.out,?_⟩⟩;exact⟨_,Qn rfl rfl (Zcx ((World.putObj_heap_other b2).trans HRT.out)),HE.out _⟩
    case body =>
     rintro l a9 x a' G hl ⟨r,hr⟩ ⟨u,M,lf',U,Y,Q,E,Z,a2,j⟩ ⟨Bx,cf,hx,rfl⟩ b1 aj;obtain⟨u,rfl⟩:∃r',u=x::r':=by obtain⟨t,ht⟩:=b1;rw[U,List.append_assoc] at ht;exact⟨t,(List.append_cancel_left ht).symm⟩
     have bJ:=HN.out;have hSV:=I.out;have a1:∀k,N<=k->k≠bl->¬(k<N\/k=bl):=λk h1 h2=>by omega
     have az:∀k,W.heap.size<=k->¬O w5 k:=λk hk e=>by have:=ay.out _ e;omega
     have bK:Hid (∀k,W.heap.size<=k->k<w5.heap.size->¬O G k):=Hd λk h1 h2=>j.off h2 (az k h1);have c3:Hid (N<=G.heap.size):=Hd (by have:=V.out;have:=j.size;omega);have hNn:=j.keep (a1 _ (by have:=HB1.out.size;have:=ai.out;have:=ae.out;omega) (by have:=HBL.out;have:=HB1.out.size;have:=ai.out;have:=ae.out;omega)) (az _ (by have:=HB1.out.size;have:=ai.out;have:=ae.out;omega)) HN5.out;have hDn:=j.keep (a1 _ bJ (by have:=HBL.out;omega)) (az _ (Va _)) HD5.out;have hRn:=j.keep (a1 _ (by omega) (by have:=HBL.out;omega)) (az _ (by omega)) HR5.out;have hOn:=HO5.out.move j E (a1 _ H.out.hby λe=>H.out.n1 e.symm) (a1 _ H.out.hbw λe=>H.out.n2 e.symm);have hlv:=H.out.live _ _ Q;obtain⟨x0,x1,x2⟩:=Yy hx;have n0:=(Zd hNn).1;have cq:G.cell? ⟨bq,0,none⟩=some (.string ⟨to_.toArray⟩):=by rw[Vc _ _ _ _ _ _ hlv.hbq];rfl
     have cr:G.cell? ⟨W.heap.size+1,0,none⟩=some (.bool false):=by rw[Vc _ _ _ _ _ _ hRn];rfl
     have fr:=Zf hRn 0;have cd:G.cell? ⟨W.heap.size,0,none⟩=some (.int .i64 (41 - (g:Int))):=by rw[Vc _ _ _ _ _ _ hDn];rfl
     have cy:G.cell? ⟨by_,0,none⟩=some (.func (.yield lo) #[] #[]):=by rw[Vc _ _ _ _ _ _ hOn.yld];rfl
     have cw:G.cell? ⟨bw,0,none⟩=some (walkF bt bl bf bq by_ bw):=by rw[Vc _ _ _ _ _ _ hOn.wlk];rfl
     have b3:=Hd Q;have HRA:=Hd Y;have HTN:=Hd j;have HBN:=Hd E;have HON:=Hd hOn;have HRN:=Hd hRn;have HLR:=Hd U;have H0N:=Hd Z;have H1N:=Hd a2;have HSZN:=Hd aj;have HNN:=Hd hNn;have aP:N<=G.heap.size:=by omega
     have bL:∀o2:List KV,M++o2 <+: (rowN v.leaf to_ z L (d - 1)).1.1->pre++M++o2 <+: xs:=λo2 ho=>by have h1:=HPRE.out;rw[HX.out] at h1;rw[List.append_assoc];exact((List.prefix_append_right_inj pre).2 ho).trans h1
     have bM:=Hd bL
     have aQ:x∈v.l:=by
      have:x∈L:=by rw[U];simp
      rw[HLL.out] at this;exact Vt this
     have bN:=HFIT.out.few x aQ;have HXF:=Hd bN;have b4:Hid (bl<w5.heap.size/\N<=w5.heap.size/\W.heap.size+1<w5.heap.size):=Hd ⟨by have:=HBL.out;omega,by omega,by omega⟩
     have aA:Hid (∀W6 aa,TO O (λk=>k<N\/k=bl) G W6->W6.heap[bl]?=some (izO aa)->(((rowN v.leaf to_ z L (d - 1)).1.2=false/\aa=(rowN v.leaf to_ z L (d - 1)).2/\aa<=d - 1/\JJ (pre++(rowN v.leaf to_ z L (d - 1)).1.1) W6)\/∃q,q <+: xs/\JX q W6) ->
       W6.heap[W.heap.size+1]?=some (bolO false)/\(TO O (λk=>k<w5.heap.size) G (W6.setCell ⟨W.heap.size+1,0,none⟩ (.bool false))/\RowX O v.leaf to_ z L d xs JJ JX pre bl (W.heap.size+1) N w5 .ret (a9++[x]) (W6.setCell ⟨W.heap.size+1,0,none⟩ (.bool false)))):=Hd (by
      intro W6 aa ht6 c4 C
      have c5:=b4.out
      have al:=bK.out (W.heap.size+1) (by omega) c5.2.2
      have bO:=ht6.keep (by have:=HBL.out;omega) al hRn
      have aR:=ht6.off (Za hRn) al
      have ag:=Zc W6 (W.heap.size+1) 0 (.bool false)
      have a4:=H.out.own (by have:=c3.out;have:=ht6.size;omega) ag λk e=>by omega
      refine⟨bO,(ht6.mono λk _ e=>by omega).trans (a4.mono λk _ e=>by omega),rfl,Ze bO _,((j.trans ht6).mono λk _ e=>e.elim .inl λe=>.inr (.inl e)).trans (a4.mono λk _ e=>.inr (.inr e)),aa,Yk ag (by have:=HBL.out;omega) c4,?_⟩
      rcases C with ⟨e1,e2,e3,e4⟩ | ⟨q,q1,q2⟩
      .exact .inl ⟨e1,e2,e3,H.out.far e4 ag λk e=>⟨by omega,by rw[e];exact aR⟩⟩
      .exact .inr ⟨q,q1,H.out.keepX _ _ _ q2 (ag.mono λk _ e=>⟨by omega,by rw[e];exact aR⟩)⟩)
     clear az Q Y j E hOn hRn U Z a2 hlv hNn hDn a1 aj b1 hx hSV bJ bL aQ bN;rcases Bool.eq_false_or_eq_true v.leaf with m | m
     .have P:Zbc true to_ z L (d - 1) (x::u) M lf':=m▸HRA.out
      rw[m] at n0;by_cases hc:to_≠[]/\¬x.key<to_
      .have hto1:to_.isEmpty=false:=by simpa using hc.1
       have bP:Op.bytesLess x.key to_=false:=by rw[Zcf];exact Vb hc.2
       have aF:rowN v.leaf to_ z L (d - 1)=((M,false),lf'):=by rw[m];exact P.over hc
       have HO:=Hd (aA.out G lf' TO.refl HBN.out (.inl ⟨by rw[aF],by rw[aF],H1N.out,by rw[aF];exact b3.out⟩));have HLX:=Hd m;clear hc P aF m;gi_wp2_with fail;exact HO.out.2
      .have hgo:=P.leafGo hc
       have hpo:=bM.out [(x.key,x.val)] (by rw[m];exact P.leafOut hc)
       have c6:to_.isEmpty=true\/(to_.isEmpty=false/\Op.bytesLess x.key to_=true):=by
        rw[Zcf]
        cases bQ:to_ with
        | nil=>exact .inl rfl
        | cons a r =>
         have:x.key<to_:=Vu λh=>hc ⟨by rw[bQ];simp,h⟩;rw[bQ] at this;exact .inr ⟨rfl,Vd this⟩
       obtain⟨fn,tmps,assign,body,hy,hR⟩:=H.out.round 1 (pre++M) (x.key,x.val) G b3.out hpo aP;have HGO:=Hd hgo
       have c7:=Hd hR;have hpo':=hpo;dsimp only[kvA] at hy;clear hc P hgo hpo hR;have HPO:=Hd hpo';have HLX:=Hd m;clear hpo' m;rcases c6 with hto1 | ⟨hto1,bP⟩
       all_goals
        gi_wp2_with fail
        refine(roundIn_in (l2:=l) (Zgd c7.out)).mono ?_
        rintro e W6 ⟨ht6,(⟨rfl,bR⟩ | ⟨rfl,aS⟩)⟩
        .have aT:TO O (λk=>k<N\/k=bl) G W6:=ht6.mono λk _ e=>.inl e;have hn6:=ht6.keep (by have:=HB1.out.size;have:=ai.out;have:=ae.out;have:=HN.out;omega) (bK.out _ (by have:=HB1.out.size;have:=ai.out;have:=ae.out;omega) (I.out.2)) HNN.out;have n06:=(Zd hn6).1;rw[HLX.out] at n06;have HE:Hid (TO O (λk=>k<w5.heap.size) G W6/\RowI O v.leaf to_ z L d JJ pre bl N w5 (a9++[x]) W6):=Hd ⟨ht6.mono λk _ e=>by have:=b4.out;omega,u,M++[(x.key,x.val)],lf',by rw[HLR.out];simp,by rw[HLX.out];exact HGO.out,by rw[<-List.append_assoc];exact bR,ht6.keep (by have:=H.out.hbl;omega) HON.out.nl HBN.out,H0N.out,H1N.out,HTN.out.trans aT⟩;clear ht6 bR aT hn6 n0 cq cr fr cd cy cw;gi_wp2_with fail;refine⟨λ_ h=>(by cases h),?_⟩;gi_wp2_with fail;exact HE.out
        .have HO:=Hd (aA.out W6 lf' (ht6.mono λk _ e=>.inl e) (ht6.keep (by have:=H.out.hbl;omega) HON.out.nl HBN.out) (.inr ⟨_,HPO.out,aS⟩))
         have c8:W6.cell? ⟨W.heap.size+1,0,none⟩=some (.bool false):=by rw[Vc _ _ _ _ _ _ HO.out.1];rfl
         have c9:=Zf HO.out.1 0;clear ht6 aS n0 cq cr fr cd cy cw;gi_wp2_with fail;exact HO.out.2
     .have P:Zbc false to_ z L (d - 1) (x::u) M lf':=m▸HRA.out
      rw[m] at n0;obtain⟨g',b5⟩:∃g',g'+1=g:=⟨g - 1,by have:=HG0.out;omega⟩;have hpo:=bM.out _ (by rw[m];exact P.innerOut)
      rw[HREC.out,<-b5] at hpo;have hw:=HIH.out g' (by omega) (by omega) x.kid lf' (pre++M) G (by have:=HXF.out.k0;omega) (by have:=HXF.out.k1;omega) H0N.out (by have:=H1N.out;have:=HL1.out;omega) b3.out HON.out aP hpo
      rw[b5,<-HREC.out] at hw;have bT:IntKind.i64.wrap (41 - (g:Int)+1)=41 - (g':Int):=by rw[Vf _ (by omega)];omega
      have ca:=Hd hw;have HRA1:=Hd P;have HLX:=Hd m;clear hw hpo P b5 m;gi_wp2_with fail;refine⟨λ_ h=>(by cases h),?_⟩;gi_wp2_with fail;refine⟨trivial,?_⟩;refine(CallsIn.inRound l (callsIn_wide.2 ca.out)).mono ?_;rintro e W6 ⟨ok,aa,rfl,ht6,aG,C⟩
      cases ok with
      | true =>
       have HE:Hid (TO O (λk=>k<w5.heap.size) G W6/\RowI O v.leaf to_ z L d JJ pre bl N w5 (a9++[x]) W6):=Hd (by
        rcases C with ⟨e1,e2,e3,e4,e5⟩ | ⟨e1,_⟩
        .have hin:=HRA1.out.inner e1.symm;rw[<-e2] at hin;exact⟨ht6.mono λk _ e=>by have:=b4.out;omega,u,_,aa,by rw[HLR.out];simp,by rw[HLX.out];exact hin,by rw[<-List.append_assoc];exact e5,aG.left,e4 rfl,by have:=H1N.out;omega,HTN.out.trans ht6⟩
        .cases e1)
       clear C ht6 aG n0 cq cr fr cd cy cw;gi_wp2_with fail;exact HE.out
      | false =>
       have HO:=Hd (aA.out W6 aa ht6 aG.left (by
        rcases C with ⟨e1,e2,e3,e4,e5⟩ | ⟨_,q⟩
        .have b6:rowN v.leaf to_ z L (d - 1)=((M++(z x.kid lf').1.1,false),(z x.kid lf').2):=by
          rw[HLX.out];exact HRA1.out.stop e1.symm
         exact .inl ⟨by rw[b6],by rw[b6];exact e2,by have:=H1N.out;omega,by rw[b6,<-List.append_assoc];exact e5⟩
        .exact .inr q))
       have c8:W6.cell? ⟨W.heap.size+1,0,none⟩=some (.bool false):=by rw[Vc _ _ _ _ _ _ HO.out.1];rfl
       have c9:=Zf HO.out.1 0;clear C ht6 aG n0 cq cr fr cd cy cw;gi_wp2_with fail;exact HO.out.2
end
end
end Go.Proofs.YtfaobkmojlhbnaaGreatDoor
