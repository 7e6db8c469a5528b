/- Contracts of the functions that the statements of this seat reach, part 17: each says what the call answers and what it leaves of the memory. -/
import Derived.Test.YtfaobkmojlhbnaaGreatDoorZR13
import Derived.Test.YtfaobkmojlhbnaaGreatDoorZR16
import Derived.Test.YtfaobkmojlhbnaaGreatDoorZR5
import Derived.Laws.Concat
import Derived.Test.YtfaobkmojlhbnaaGreatDoorRows
import Derived.Test.YtfaobkmojlhbnaaGreatDoorZR1
import Derived.Test.YtfaobkmojlhbnaaGreatDoorZR2
import Derived.Deep.Matrix
import Derived.Deep.Slices
import Derived.Deep.Fields
import Derived.ProofKit
import Derived.OpenShut
import Derived.Deep.DeepHandedRow
import Derived.Lib.LaidTab
import Derived.SizedLaws
import Derived.Laws.Cover1
set_option linter.unusedVariables false
set_option linter.unusedSimpArgs false
set_option maxRecDepth 100000
set_option maxHeartbeats 64000000
namespace Go.Proofs.YtfaobkmojlhbnaaGreatDoor
section
open Go.RowKit Go.Shelf Go.Lib
variable {key:List UInt8}
structure PK (n m k:Nat) (c:Int) (o:Nat) (F:Ft) (p:Nat) (a b:List KV) (w:World) (f:Pf) (tb:Nat):Prop where
 ex:∃J seq B R,Tr n J seq B w F p f R tb/\Tre R a/\Tre R.abort b/\R.pages.length=m/\J.D.cut=c/\J.last<=2+k/\J.D.ops=o
 n6:6<=n
 m4:4<=m
 m255:m<=255
def PKto (n m k:Nat) (c:Int) (o:Nat) (F:Ft) (p:Nat) (a b:List KV) (w:World) (f:Pf) (tb:Nat) (w':World):Prop:=∃f',PK n m k c o F p a b w' f' tb/\f'.q=f.q/\(∀i,PT f' i->PT f i\/w.heap.size<=i)/\Zb (PJ F p f) w w'
section
variable {n m k : Nat} {c : Int} {o : Nat} {w w' : World} {F : Ft} {p : Nat} {f : Pf} {tb : Nat} {a b : List KV}
theorem PK.step (h:PK n m k c o F p a b w f tb) (hb:Below w.heap.size w w'):PK n m k c o F p a b w' f tb:=by obtain⟨J,d,B,R,t,x⟩:=h.ex;exact⟨⟨J,d,B,R,t.step hb,x⟩,h.n6,h.m4,h.m255⟩
theorem PK.lt (h:PK n m k c o F p a b w f tb) {i:Nat} (d:PJ F p f i):i<w.heap.size:=by obtain⟨J,e,B,R,t,x⟩:=h.ex;exact t.lp.lt d
theorem put_pk (h:PK n m k c o F p a b w f tb) (hr:Roomy m a) {val:List UInt8} (hk:key.length<=80) (hv:val.length<=200):
  Calls Tryz.prog 65 #[trp tb,.string ⟨key.toArray⟩,.string ⟨val.toArray⟩] w λe w'=>e=.returned (.int .i64 0)/\PKto n m k c o F p (Zcd a key val) b w f tb w':=by
 obtain⟨J,i,B,R,t,j,l,g,q⟩:=h.ex;obtain⟨r,s,d⟩:=j.put t.lp.good (by have:=h.m4;omega) (hr R t.lp.good g) hk hv;refine(tput_any t key val (by omega) (by omega)).mono ?_;rintro e w' ⟨rfl,u,v,x,y,z⟩;exact⟨by rw[r],u,⟨⟨_,_,_,_,v,s,Tre.congr (R:=R.abort) d.was d.wroot l,d.len.trans g,q⟩,h.n6,h.m4,h.m255⟩,x,y,z⟩
theorem del_pk (h:PK n m k c o F p a b w f tb) (hr:Roomy m a) (hk:key.length<=80):
  Calls Tryz.prog 100 #[trp tb,.string ⟨key.toArray⟩] w λe w'=>e=.returned (.tuple #[.bool (Zv a key).2,.int .i64 0])/\PKto n m k c o F p (Zbi a key) b w f tb w':=by
 obtain⟨J,i,B,R,t,j,l,g,q⟩:=h.ex;obtain⟨r,s,d⟩:=j.del t.lp.good (hr R t.lp.good g) hk;refine(tdel_any t key (by omega)).mono ?_;rintro e w' ⟨rfl,u,v,x,y,z⟩;exact⟨by rw[r],u,⟨⟨_,_,_,_,v,s,Tre.congr (R:=R.abort) d.was d.wroot l,d.len.trans g,q⟩,h.n6,h.m4,h.m255⟩,x,y,z⟩
theorem get_pk (h:PK n m k c o F p a b w f tb) (hk:key.length<=80):
  Calls Tryz.prog 52 #[trp tb,.string ⟨key.toArray⟩] w λe w'=>e=.returned (.tuple #[.string ⟨(Zv a key).1.toArray⟩,.bool (Zv a key).2,.int .i64 0])/\PK n m k c o F p a b w' f tb/\Zb (PJ F p f) w w':=by
 obtain⟨J,i,B,R,t,d,j,g,l⟩:=h.ex;have hrb:=t.lp.root_le
 have q:=d.get t.lp.good (TreH.low39 t.lp.good (by rw[g];exact h.m255)) hk;refine(tget_any t key (by omega) (by omega)).mono ?_;rw[q];rintro e w' ⟨rfl,r,s⟩;exact⟨rfl,⟨⟨_,_,_,_,r,d,j,g,l⟩,h.n6,h.m4,h.m255⟩,s⟩
theorem commit_pk (h:PK n m k c o F p a b w f tb) (hc:c<0) (L:o+(8+16*m)<=1048576) (z:k<=1000000):Calls Tryz.prog 44 #[Qs f.q] w λe w'=>e=.returned (.int .i64 0)/\∃s,s<=o+(8+16*m)/\PKto n m (k+1) c s F p a a w f tb w':=by
 obtain⟨J,d,B,R,t,u,M,l,A,N,O⟩:=h.ex;obtain⟨P,C,E,j⟩:=t.lp;subst C;obtain⟨g,G,i⟩:=j.commit h.n6 (by omega) (by omega) (by rw[l];omega);have Q:0<=d/\d<=P.J.last:=by obtain⟨S,T,r⟩:=j.live.im;exact⟨r.s0,by have:=r.s1;have:=r.wt;omega⟩
 refine(commit_any E (by omega) (by rw[j.live.hseq];omega) (by rw[j.live.hseq];omega)).mono ?_;rintro e w' ⟨rfl,H,I,v,x,y⟩;have hlt:=Za t.head
 refine⟨by rw[i.err],P.commit.2.J.D.ops,by have:=i.ops;rw[l] at this;omega,H,⟨⟨_,g,G,R.commit,⟨⟨P.commit.2,rfl,I,i.sim⟩,by rw[v];exact Yk y t.apart t.head,λe=>?_⟩,Tre.congr (R:=R) rfl rfl u,Tre.congr (R:=R) rfl rfl u,l,by rw[i.cut];exact A,by have:=i.last;omega,rfl⟩,h.n6,h.m4,h.m255⟩,v,x,y⟩
 rcases e with e | e
 .exact t.apart (.inl e)
 .rcases x _ e with e | e
  .exact t.apart (.inr e)
  .omega
end
end
section
open Go.RowKit Go.Shelf Go.Lib
attribute [local go_sem] Oper.semAt_some
section
variable {m : Nat} {F : Ft} {p : Nat} {f : Pf} {tb : Nat} {l : List KV} {from_ to_ : List UInt8}
theorem LowR.mono {N N' bt bf bq:Nat} (h:LowR F p f tb bt bf bq N) (hN:N<=N'):LowR F p f tb bt bf bq N' :=
 ⟨λk a=>Vm (h.pj k a) hN,Vm h.nib hN,Vm h.htb hN,Vm h.hbt hN,Vm h.hbf hN,Vm h.hbq hN,h.at_,h.af,h.aq⟩
theorem range_begin {n:Nat} {J:Jn} {seq:Int} {B:List (List UInt8)} {R:Rp} {w w2:World} (h:Tr n J seq B w F p f R tb) (a:w2=((w.alloc (trpO tb)).alloc (Zar from_)).alloc (Zar to_)) :
  Below w.heap.size w w2/\w2.heap.size=w.heap.size+3/\LiveR n J seq B F p f R tb w.heap.size (w.heap.size+1) (w.heap.size+2) from_ to_ w2/\LowR F p f tb w.heap.size (w.heap.size+1) (w.heap.size+2) w2.heap.size:=by
 have c:w2.heap.size=w.heap.size+3:=by rw[a];simp
 have b:Below w.heap.size w w2:=by rw[a];exact((Zl w _).alloc (by simp) _).alloc (by simp;omega) _
 have d:w2.heap[w.heap.size]?=some (trpO tb):=by rw[a];exact(Vv _ _ _ (by simp;omega)).trans ((Vv _ _ _ (by simp)).trans (Vg w _))
 have g:w2.heap[w.heap.size+1]?=some (Zar from_):=by
  rw[a];have:=Vg (w.alloc (trpO tb)) (Zar from_)
  rw[World.size_alloc] at this;exact(Vv _ _ _ (by simp)).trans this
 have i:w2.heap[w.heap.size+2]?=some (Zar to_):=by
  rw[a];have:=Vg ((w.alloc (trpO tb)).alloc (Zar from_)) (Zar to_)
  rw[World.size_alloc,World.size_alloc] at this;exact this
 refine⟨b,c,⟨h.step b,d,g,i⟩,⟨λk j=>by have:=h.lp.lt j;omega,by have:=h.lp.nib_lt;omega,by have:=Za h.head;omega,by omega,by omega,by omega,λe=>by have:=h.lp.lt e;omega,λe=>by have:=h.lp.lt e;omega,λe=>by have:=h.lp.lt e;omega⟩⟩
end
end
section
open Go.ChangeShapes Go.WideShapes Go.ChangeAt Go.RowKit Go.Deep
variable {H:Type}{v:Value}{W w w':World}{m:Nat}{fs:Array Field}{cs:List Value}{S T:TypeId}
theorem own:ownKnob Tryz.prog.godebug=none:=by kernel_rfl
theorem laidOut:laidOutB Tryz.prog=true:=by kernel_rfl
theorem cells_int:Tryz.prog.cellsOf 3=1:=by kernel_rfl
theorem wf_int64 {n:Int} (h:(Lit.int .i64 n).wf=true):-9223372036854775808<=n/\n<=9223372036854775807:=by simp only[Lit.wf,IntKind.min,IntKind.max,IntKind.signed,IntKind.bits,Bool.and_eq_true,decide_eq_true_eq] at h;exact⟨by simpa using h.1,by simpa using h.2⟩
def I64 (n:Int):Prop:=-9223372036854775808<=n/\n<=9223372036854775807
def Light {H:Type} (t:TypeId) (d:DataW H):Prop:=∀n∈d.weights Tryz.prog t,n<=reachBytes
theorem light_arg {ts:List TypeId} {a:List (DataW H)} {j:Nat} {t:TypeId} {d:DataW H} (h:(DataW.weightsEach Tryz.prog ts a).all (·<=reachBytes)=true) (ht:ts[j]?=some t) (hj:a[j]?=some d):Light t d:=λn b=>by have:=List.all_eq_true.1 h n (DataW.weights_mem_each ht hj n b);simpa using this
theorem light_all {P:Program} {e:TypeId} {D:List (DataW H)} {i:Nat} {d:DataW H} (a:D[i]?=some d) (k:Nat) (hk:k∈d.weights P e):k∈DataW.weightsAll P e D:=by
 induction D generalizing i with
 | nil=>cases a
 | cons x r b =>
  simp only[DataW.weightsAll,List.mem_append]
  cases i with
  | zero =>
   simp only[List.getElem?_cons_zero,Option.some.injEq] at a;subst a;exact .inl hk
  | succ i=>exact .inr (b (by simpa using a))
structure Rd (α:Type) where
 T:TypeId
 n:Nat
 R:World->List Value->α->Prop
 size:Tryz.prog.cellsOf T=n
 len:∀{w:World} {cs:List Value} {x:α},R w cs x->cs.length=n
 keep:∀{w w':World} {cs:List Value} {x:α},R w cs x->(∀a u,w.cell? a=some u->w'.cell? a=some u)->R w' cs x
 trod:∀{H:Type} {enc:TypeId × Value->H} {W:World} {m:Nat} {cs:List Value} {y:DataW H × List MemPlace},
  DataW.trod enc Tryz.prog W 0 (λ_=>true) true m T cs=some y->Light T y.1->∃x,R W cs x
def rdInt:Rd Int where
 T:=3
 n:=1
 R:=λ_ cs x=>cs=[.int .i64 x]/\I64 x
 size:=cells_int
 len:=λh=>by rw[h.1];rfl
 keep:=λh _=>h
 trod:=λh _=>by
  obtain⟨n,h1,_,w⟩:=DataW.trod_int Tryz.underlying3 h
  exact⟨n,h1,wf_int64 w⟩
def Zei {α:Type} (r:Rd α) (w:World) (v:Value) (xs:List α):Prop :=
 ∃a cap,v=.slice a xs.length cap/\xs.length<=cap/\cap<=maxLen/\(a=none->cap=0)/\xs.length*Tryz.prog.bytesOf r.T<=140737488351232 /\
  ∀x,a=some x->(0<xs.length->x.spot=none)/\∀i,(h:i<xs.length)->∃cs,r.R w cs xs[i]/\∀j c,cs[j]?=some c->w.cell? ⟨x.block,x.off+i*r.n+j,none⟩=some c
theorem Zei.keep {α:Type} {r:Rd α} {xs:List α} (h:Zei r w v xs) (hw:∀a u,w.cell? a=some u->w'.cell? a=some u):Zei r w' v xs:=by obtain⟨a,b,f,g,k,l,n,d⟩:=h;refine⟨a,b,f,g,k,l,n,λx e=>⟨(d x e).1,λi o=>?_⟩⟩;obtain⟨cs,p,q⟩:=(d x e).2 i o;exact⟨cs,r.keep p hw,λj c s=>hw _ _ (q j c s)⟩
theorem Zei.below {α:Type} {r:Rd α} {xs:List α} (h:Zei r w v xs) (hb:Below w.heap.size w w'):Zei r w' v xs:=h.keep (Zi hb)
theorem Zei.form {α:Type} {r:Rd α} {xs:List α} (h:Zei r w v xs):∃a b,v=.slice a xs.length b/\xs.length<=b/\b<=maxLen:=by obtain⟨a,b,c,d,e,_⟩:=h;exact⟨a,b,c,d,e⟩
theorem isRow_of_trod {α:Type} (r:Rd α) (hn:0<r.n) (hu:Tryz.prog.underlying S=some (.slice r.T)) {enc:TypeId × Value->H} {y:DataW H × List MemPlace}
 (h:DataW.trod enc Tryz.prog W 0 (λ_=>true) true m S [v]=some y) (hl:Light S y.1):∃xs,Zei r W v xs:=by
 rcases open_slice hu h with ⟨e,_⟩ | ⟨a,b,p,m,n,D,Pl,e,hb,Q,M,u,o,s⟩
 .simp only[List.cons.injEq,and_true] at e;exact⟨[],none,0,by rw[e];rfl,Va _,by simp[maxLen],λ_=>rfl,by simp,λx h=>by cases h⟩
 .simp only[List.cons.injEq,and_true] at e
  subst e;simp only[if_true] at u;rw[r.size] at s
  have A:∀i,i<m->Light r.T (D i):=λi U k N=>hl k (by
   rw[o];simp only[DataW.weights,hu];refine Vj _ ?_;by_cases B:i<b
   .exact Vq _ (light_all (i:=i) (d:=D i) (by simp[B]) k N)
   .exact Vp _ (light_all (i:=i - b) (d:=D i) (by
     rw[List.getElem?_map,List.getElem?_range (by omega)];simp only[Option.map_some,Option.some.injEq];congr 1
     omega) k N))
  have l:b*Tryz.prog.bytesOf r.T<=140737488351232:=by
   have V:=hl (((List.range b).map D).length*Tryz.prog.bytesOf r.T+((List.range (m - b)).map λj=>D (b+j)).length*Tryz.prog.bytesOf r.T) (by
    rw[o];simp only[DataW.weights,hu,<-Nat.add_mul]
    exact Vi)
   have e2:reachBytes=140737488351232:=rfl;simp only[List.length_map,List.length_range] at V;omega
  have C:∀i:Nat,∃x:Option α,i<b->∃z,x=some z/\∃cs,r.R W cs z/\∀j c,cs[j]?=some c->W.cell? (a.add (i*r.n+j))=some c:=by
   intro i;by_cases h:i<b
   .obtain⟨cs,E,X⟩:=s i (by omega)
    obtain⟨x,o⟩:=r.trod X (A i (by omega));obtain⟨_,Y,F⟩:=World.cells?_some E;refine⟨some x,λ_=>⟨x,rfl,cs,o,λj c t=>?_⟩⟩;have G:j<r.n:=by have:=(List.getElem?_eq_some_iff.1 t).1;rw[r.len o] at this;exact this
    have:=F j G;rw[Go.Deep.add_add] at this;exact this.trans t
   .exact⟨none,λZ=>absurd Z h⟩
  obtain⟨f,I⟩:=Classical.axiomOfChoice C;by_cases h0:b=0
  .subst h0;refine⟨[],some a,p,rfl,Vl _,M,(λh=>(by cases h)),by simp,λx o=>⟨λh=>absurd h (by simp),λi s=>absurd s (by simp)⟩⟩
  .obtain⟨O,_⟩:=I 0 (by omega)
   have g:((List.range b).map λi=>(f i).getD O).length=b:=by simp
   refine⟨(List.range b).map λi=>(f i).getD O,some a,p,by rw[g],by omega,M,(λh=>(by cases h)),by rw[g];exact l,?_⟩;intro y hy;obtain rfl:=Ud hy
   have P:a.spot=none:=by
    obtain⟨z,_,cs,J,h⟩:=I 0 (by omega);obtain⟨c,E⟩:∃c,cs[0]?=some c:=⟨_,List.getElem?_eq_getElem (by rw[r.len J];exact hn)⟩;have h:=h 0 c E
    rw[show a.add (0*r.n+0)=a by simp[Addr.add]] at h
    exact World.cell?_spot h
   refine⟨λ_=>P,λi q=>?_⟩;have L:i<b:=by rw[g] at q;exact q
   obtain⟨xb,xo,xs⟩:=a;obtain rfl:xs=none:=P;simp only[List.getElem_map,List.getElem_range];obtain⟨z,hz,cs,J,h⟩:=I i L;rw[hz];refine⟨cs,J,λj c t=>?_⟩;have:=h j c t
   rw[Addr.add_lit] at this;rw[Nat.add_assoc];exact this
def Rd.slice {α:Type} (r:Rd α) (hn:0<r.n) (S:TypeId) (hu:Tryz.prog.underlying S=some (.slice r.T)) (hs:Tryz.prog.cellsOf S=1):Rd (List α) where
 T:=S
 n:=1
 R:=λw cs xs=>∃v,cs=[v]/\Zei r w v xs
 size:=hs
 len:=λh=>by
  obtain⟨v,h1,_⟩:=h
  rw[h1];rfl
 keep:=λh hw=>by
  obtain⟨v,h1,h2⟩:=h
  exact⟨v,h1,h2.keep hw⟩
 trod:=λ{H enc W m cs y} h hl=>by
  have hc:cs.length=1:=by
   rcases open_slice hu h with ⟨hcs,_⟩ | ⟨a,len,cap,m,n,D,Pl,hcs,_⟩<;>rw[hcs]<;>rfl
  match cs,hc with
  | [v],_ =>
   obtain⟨xs,hx⟩:=isRow_of_trod r hn hu h hl
   exact⟨xs,v,rfl,hx⟩
theorem open_row {α:Type} (r:Rd α) (hn:0<r.n) (hu:Tryz.prog.underlying S=some (.slice r.T)) {enc:TypeId × Value->H} {k:Reach} {f:Nat} {d:DataW H} {p:List MemPlace}
 (a:Value.okWide Tryz.prog W k f S v) (g:DataW.Trod enc Tryz.prog W 0 (λ_=>true) true S v d p) (hl:Light S d):∃xs,Zei r W v xs:=by
 obtain⟨i,c,e,rfl⟩:=okWide_slice hu a;obtain⟨b,h⟩:=g;exact isRow_of_trod r hn hu (m:=b) (y:=(d,p)) h hl
theorem Zft {enc:TypeId × Value->H} (hu:Tryz.prog.underlying T=some (.struct fs)) {y:DataW H × List MemPlace}
 (h:DataW.trod enc Tryz.prog W 0 (λ_=>true) true m T cs=some y) (hl:Light T y.1) (j:Nat) (f:Field) (hf:fs[j]?=some f):
  ∃n z,DataW.trod enc Tryz.prog W 0 (λ_=>true) true n f.type ((cs.drop f.offset).take (Tryz.prog.cellsOf f.type))=some z/\Light f.type z.1:=by
 obtain⟨a,n,_,rfl,_,b,c⟩:=DataW.trod_struct hu h;have g:j<fs.size:=(Array.getElem?_eq_some_iff.1 hf).1
 have e:a[j]?=some (a[j]'(by omega)):=List.getElem?_eq_getElem _;refine⟨n,a[j]'(by omega),(c j f hf).trans e,λk d=>hl k ?_⟩;simp only[DataW.weights,hu];exact DataW.weights_mem_each (j:=j) (t:=f.type) (by simp[hf]) (by rw[List.getElem?_map,e];rfl) k d
theorem trod_cells {enc:TypeId × Value->H} (hu:Tryz.prog.underlying T=some (.struct fs)) {y:DataW H × List MemPlace}
 (h:DataW.trod enc Tryz.prog W 0 (λ_=>true) true m T cs=some y):cs.length=Tryz.prog.cellsOf T:=by
 obtain⟨b,n,_,_,a,_⟩:=DataW.trod_struct hu h;exact a
end
section
open Go.RowKit Go.Shelf Go.Lib
section
variable {N : Nat} {w0 w w' : World} {m : Nat} {F : Ft} {p : Nat} {f : Pf} {tb : Nat} {l l' : List KV}
end
theorem tre_begun (m:Nat):Tre (Rp.begun m) []:=by
 refine .inl ⟨rfl,rfl,λp=>?_⟩;unfold Rp.taken Rp.begun;simp only[List.length_replicate]
 have:((List.replicate ((m - 2) / 8) (none:Option (List UInt8))).getD p.toNat none).isSome=false:=by
  rw[List.getD_eq_getElem?_getD,List.getElem?_replicate]
  split<;>rfl
 rw[this];simp
end
section
theorem getL_in {l:List KV} {key:List UInt8} (hr:Xb l):(Zv l key).2=true↔∃x∈l,x.1=key:=by
 have b:Xb (l.dropWhile λx=>decide (x.1<key)):=hr.sublist (List.dropWhile_sublist _);unfold Zv
 cases c:l.dropWhile (λx=>decide (x.1<key)) with
 | nil =>
  refine⟨λh=>(by cases h),?_⟩;rintro⟨x,a,rfl⟩;have g:∀y∈l,y.1<x.1:=λy d=>by have h2:=List.takeWhile_append_dropWhile (p:=λz:KV=>decide (z.1<x.1)) (l:=l);rw[c,List.append_nil] at h2;rw[<-h2] at d;have:=Zcm d;simpa using this
  exact absurd (g x a) (Vw _)
 | cons y r =>
  rw[c] at b;have d:¬y.1<key:=by have:=Zdg c;simpa using this
  have f:y∈l:=(List.dropWhile_sublist _).mem (by rw[c];exact Vi ..);dsimp only;by_cases e:y.1=key
  .rw[if_pos e];exact⟨λ_=>⟨y,f,e⟩,λ_=>rfl⟩
  .rw[if_neg e]
   refine⟨λh=>(by cases h),?_⟩;rintro⟨x,a,rfl⟩;exfalso;have h2:=List.takeWhile_append_dropWhile (p:=λz:KV=>decide (z.1<x.1)) (l:=l)
   rw[<-h2,c] at a;rcases List.mem_append.1 a with a | a
   .have:=Zcm a;exact Vw x.1 (by simpa using this)
   .rcases List.mem_cons.1 a with rfl | a
    .exact e rfl
    .exact d ((List.pairwise_cons.1 b).1 x a)
end
section
theorem rise_one {l:List KV} (h:Xb l) {x y:KV} (hx:x∈l) (hy:y∈l) (e:x.1=y.1):x=y:=by
 induction l with
 | nil=>cases hx
 | cons z r f =>
  obtain⟨d,g⟩:=List.pairwise_cons.1 h;rcases List.mem_cons.1 hx with i | b
  .subst i
   rcases List.mem_cons.1 hy with c | a
   .exact c.symm
   .have:=d y a;rw[e] at this;exact absurd this (Vw _)
  .rcases List.mem_cons.1 hy with c | a
   .subst c;have:=d x b;rw[e] at this;exact absurd this (Vw _)
   .exact f g b a
theorem Zgz:∀{l U:List KV},Xb U->Xb l->(∀x∈U,x∈l)->U.Sublist l
 | [],U,_,_,d=>by
  cases U with
  | nil=>exact List.Sublist.refl _
  | cons y s=>exact absurd (d y (Vi ..)) (by simp)
 | x::r,[],_,_,_=>List.nil_sublist _
 | x::r,y::s,e,h,d=>by
  obtain⟨i,f⟩:=List.pairwise_cons.1 h;obtain⟨g,j⟩:=List.pairwise_cons.1 e;rcases List.mem_cons.1 (d y (Vi ..)) with rfl | k
  .refine List.Sublist.cons_cons _ (Zgz j f λz b=>?_)
   rcases List.mem_cons.1 (d z (Vj _ b)) with rfl | c
   .exact absurd (g _ b) (Vw _)
   .exact c
  .refine List.Sublist.cons _ (Zgz e f λz b=>?_)
   rcases List.mem_cons.1 (d z b) with rfl | c
   .have a:=i y k
    rcases List.mem_cons.1 b with rfl | b
    .exact absurd a (Vw _)
    .exact absurd (Vy a (g _ b)) (Vw _)
   .exact c
theorem mem_split {U:List KV} {key:List UInt8} {x:KV} (hx:x∈U) (hk:x.1≠key):x∈Zel U key\/x∈Zcz U key:=by
 have b:=List.takeWhile_append_dropWhile (p:=λz:KV=>decide (z.1<key)) (l:=U);rw[<-b] at hx;rcases List.mem_append.1 hx with hx | hx
 .exact .inl hx
 .unfold Zcz
  cases a:U.dropWhile (λx=>decide (x.1<key)) with
  | nil=>rw[a] at hx;cases hx
  | cons y r =>
   rw[a] at hx;dsimp only;split
   .rename_i c
    rcases List.mem_cons.1 hx with rfl | hx
    .exact absurd c hk
    .exact .inr hx
   .exact .inr hx
end
section
variable {l:List KV}{k v:List UInt8}{x:KV}
theorem get_none (h:(Zv l k).2=false):Zv l k=([],false):=(Zcr h).2
theorem Zcu (h:(Zv l k).2=true):(k,(Zv l k).1)∈l:=by
 unfold Zv at h ⊢;have hs:=List.dropWhile_sublist (p:=λx:KV=>decide (x.1<k)) (l:=l)
 cases a:l.dropWhile (λx=>decide (x.1<k)) with
 | nil=>rw[a] at h;cases h
 | cons x r =>
  rw[a] at h hs;dsimp only at h ⊢;by_cases e:x.1=k
  .rw[if_pos e];have:=hs.mem (Vi ..);rw[<-e];exact this
  .rw[if_neg e] at h;cases h
theorem Zcs (hr:Xb l) (h:(k,v)∈l):Zv l k=(v,true):=by have a:(Zv l k).2=true:=(getL_in hr).2 ⟨_,h,rfl⟩;have h3:=rise_one hr (Zcu a) h rfl;have b:(Zv l k).1=v:=Vs Prod.snd h3;rw[<-b,<-a]
theorem get_not (hr:Xb l) (h:∀x∈l,x.1≠k):Zv l k=([],false):=by
 refine get_none ?_
 cases a:(Zv l k).2 with
 | false=>rfl
 | true =>
  obtain⟨x,b,e⟩:=(getL_in hr).1 a;exact absurd e (h x b)
theorem del_mem (hr:Xb l):x∈Zbi l k↔x∈l/\x.1≠k:=by
 constructor
 .intro h
  rcases List.mem_append.1 h with h | h
  .exact⟨(Ui _).mem h,λe=>by have:=headL_lt x h;rw[e] at this;exact Vw _ this⟩
  .exact⟨restL_sub x h,λe=>by have:=(restL_gt (key:=k) hr).1 x h;rw[e] at this;exact Vw _ this⟩
 .rintro⟨a,b⟩;exact List.mem_append.2 (mem_split a b)
theorem put_mem (hr:Xb l):x∈Zcd l k v↔x=(k,v)\/(x∈l/\x.1≠k):=by
 rw[<-del_mem hr];unfold Zcd Zbi;simp only[List.mem_append,List.mem_cons];constructor
 .rintro(h | h | h)
  .exact .inr (.inl h)
  .exact .inl h
  .exact .inr (.inr h)
 .rintro(h | h | h)
  .exact .inr (.inl h)
  .exact .inl h
  .exact .inr (.inr h)
theorem Zef (hr:Xb l) (k v k2:List UInt8):Zv (Zcd l k v) k2=if k2=k then (v,true) else Zv l k2:=by
 have a:=Zat (key:=k) (val:=v) hr;by_cases e:k2=k
 .rw[if_pos e,e];exact Zcs a ((put_mem hr).2 (.inl rfl))
 .rw[if_neg e]
  cases b:(Zv l k2).2 with
  | true =>
   have h:=Zcu b;rw[Zcs a ((put_mem hr).2 (.inr ⟨h,e⟩)),<-b]
  | false =>
   rw[get_none b];refine get_not a λx c d=>?_;rcases(put_mem hr).1 c with rfl | ⟨c,_⟩
   .exact e d.symm
   .have:=(getL_in hr).2 ⟨x,c,d⟩;rw[b] at this;cases this
theorem Zfx (hr:Xb l) (k k2:List UInt8):Zv (Zbi l k) k2=if k2=k then ([],false) else Zv l k2:=by
 have a:Xb (Zbi l k):=Zac hr;by_cases e:k2=k
 .rw[if_pos e,e];exact get_not a λx c=>((del_mem hr).1 c).2
 .rw[if_neg e]
  cases b:(Zv l k2).2 with
  | true =>
   have h:=Zcu b;rw[Zcs a ((del_mem hr).2 ⟨h,e⟩),<-b]
  | false =>
   rw[get_none b];refine get_not a λx c d=>?_;have:=(getL_in hr).2 ⟨x,((del_mem hr).1 c).1,d⟩
   rw[b] at this;cases this
theorem get_ext {l2:List KV} (hr:Xb l) (hr2:Xb l2) (h:∀k,Zv l k=Zv l2 k):l=l2:=by
 have d:∀{a b:List KV},Xb a->Xb b->(∀k,Zv a k=Zv b k)->∀x∈a,x∈b:=λ{a b} f i h x g=>by have c:=Zcs f (k:=x.1) (v:=x.2) g;rw[h] at c;have h2:=Zcu (l:=b) (k:=x.1) (by rw[c]);rw[c] at h2;exact h2
 have e:=Zgz hr hr2 (d hr hr2 h);have s2:=Zgz hr2 hr (d hr2 hr λk=>(h k).symm);exact e.eq_of_length (Nat.le_antisymm e.length_le s2.length_le)
theorem wgtB_del (hr:Xb l) (h:Zv l k=(v,true)):Zab (Zbi l k)+(2+k.length+v.length)=Zab l:=by
 have b:Zab l=Zab (Zel l k)+Zab (l.dropWhile λx=>decide (x.1<k)):=by rw[<-Zda];unfold Zel;rw[List.takeWhile_append_dropWhile]
 unfold Zbi Zcz;unfold Zv at h;rw[Zda,b]
 cases a:l.dropWhile (λx=>decide (x.1<k)) with
 | nil=>rw[a] at h;cases h
 | cons x r =>
  rw[a] at h;dsimp only at h ⊢;by_cases e:x.1=k
  .rw[if_pos e] at h ⊢;have c:x.2=v:=Vs Prod.fst h;rw[Zab,e,c];omega
  .rw[if_neg e] at h;cases h
theorem wgtB_put (h:(Zv l k).2=false) (v:List UInt8):Zab (Zcd l k v)=Zab l+(2+k.length+v.length):=by have a:=(Zcr h).1;have b:Zab (Zbi l k)=Zab (Zel l k)+Zab (Zcz l k):=Zda _ _;rw[a] at b;unfold Zcd;rw[Zda,Zab];dsimp only;omega
end
section
open Go.RowKit
def Qm (e:Int):Int:=if e=0\/(40<=e/\e<=44) then e else 122
theorem Zfz (w:World) (e:Int):Calls Tryz.prog 49 #[.int .i64 e] w λr b=>r=.returned (.int .i64 (Qm e))/\b=w:=by
 by_cases c:e=0
 .subst c;go_enter Tryz.func49,Tryz.ntmps49;go_wp2_with fail;go_ret;exact⟨rfl,rfl⟩
 .by_cases d:40<=e
  .by_cases f:e<=44
   .have a:Hid (Qm e=e):=Hd (by rw[Qm,if_pos (.inr ⟨d,f⟩)]);rw[a.out];go_enter Tryz.func49,Tryz.ntmps49;go_wp2_with fail;go_ret;exact⟨rfl,rfl⟩
   .have a:Hid (Qm e=122):=Hd (by rw[Qm,if_neg (by omega)]);rw[a.out];go_enter Tryz.func49,Tryz.ntmps49;go_wp2_with fail;go_ret;exact⟨rfl,rfl⟩
  .have a:Hid (Qm e=122):=Hd (by rw[Qm,if_neg (by omega)]);rw[a.out];go_enter Tryz.func49,Tryz.ntmps49;go_wp2_with fail;go_ret;exact⟨rfl,rfl⟩
def Zea (sp:Int) (key:List UInt8):Bool:=decide (0<=sp)&&(decide (sp<=255)&&decide (key.length<=64))
theorem kright_any (w:World) (sp:Int) (key:List UInt8):Calls Tryz.prog 38 #[.int .i64 sp,.string ⟨key.toArray⟩] w λr d=>r=.returned (.bool (Zea sp key))/\d=w:=by
 by_cases b:0<=sp
 .by_cases c:sp<=255
  .have a:Hid (Zea sp key=decide ((key.length:Int)<=64)):=Hd (by
    rw[Zea,Vd b,Vd c,Bool.true_and,Bool.true_and]
    exact decide_eq_decide.2 (by omega))
   rw[a.out];go_enter Tryz.func38,Tryz.ntmps38;go_wp2_with fail;go_ret;exact⟨rfl,rfl⟩
  .have a:Hid (Zea sp key=false):=Hd (by rw[Zea,Vb c,Bool.false_and,Bool.and_false]);rw[a.out];go_enter Tryz.func38,Tryz.ntmps38;go_wp2_with fail;go_ret;exact⟨rfl,rfl⟩
 .have a:Hid (Zea sp key=false):=Hd (by rw[Zea,Vb b,Bool.false_and]);rw[a.out];go_enter Tryz.func38,Tryz.ntmps38;go_wp2_with fail;go_ret;exact⟨rfl,rfl⟩
def wK (key:List UInt8) (n:Nat):Nat:=(12+key.length)*(1+n / 190)+n
theorem Zic (w:World) (key:List UInt8) (n:Nat) (hk:key.length<=64) (hn:n<=4096):Calls Tryz.prog 62 #[.string ⟨key.toArray⟩,.int .i64 (n:Int)] w λr d=>r=.returned (.int .i64 (wK key n:Int))/\d=w:=by
 obtain⟨q,c⟩:∃q,q=n / 190:=⟨_,rfl⟩;have e:q<=21:=by omega
 obtain⟨t,b⟩:∃t,t=(12+key.length)*(1+q):=⟨_,rfl⟩;have g:t<=76*22:=by rw[b];exact Nat.mul_le_mul (by omega) (by omega)
 have f:Hid (wK key n=t+n):=Hd (by rw[wK,b,c]);have h:(n:Int).tdiv 190=(q:Int):=by rw[Int.tdiv_eq_ediv_of_nonneg (by omega)];omega
 have i:IntKind.i64.wrap (12+(key.length:Int))=12+(key.length:Int):=Vf _ (by omega);have j:IntKind.i64.wrap (1+(q:Int))=1+(q:Int):=Vf _ (by omega);have a:(12+(key.length:Int))*(1+(q:Int))=(t:Int):=by rw[b];push_cast;rfl
 have k:IntKind.i64.wrap ((12+(key.length:Int))*(1+(q:Int)))=(t:Int):=by rw[a];exact Vf _ (by omega)
 have l:IntKind.i64.wrap ((t:Int)+(n:Int))=(t:Int)+(n:Int):=Vf _ (by omega);rw[f.out,show ((t+n:Nat):Int)=(t:Int)+(n:Int) by omega]
 clear c b a;go_enter Tryz.func62,Tryz.ntmps62;go_wp2_with fail;go_ret;exact⟨rfl,rfl⟩
abbrev Ye (s:UInt8) (j:Nat) (k:List UInt8):List UInt8:=s::UInt8.ofNat j::k
theorem Zct (w:World) (sp j:Nat) (key:List UInt8) (h1:sp<=255) (h2:j<=255) (hk:key.length<=64):Calls Tryz.prog 58 #[.int .i64 (sp:Int),.int .i64 (j:Int),.string ⟨key.toArray⟩] w λr w'=>r=.returned (.string ⟨(Ye (UInt8.ofNat sp) j key).toArray⟩)/\Below w.heap.size w w':=by
 obtain⟨x,b⟩:∃x,x=UInt8.ofNat sp:=⟨_,rfl⟩;obtain⟨y,c⟩:∃y,y=UInt8.ofNat j:=⟨_,rfl⟩;have e:(sp:Int)=((x.toNat:Nat):Int):=by rw[b,UInt8.toNat_ofNat'];omega
 have f:(j:Int)=((y.toNat:Nat):Int):=by rw[c,UInt8.toNat_ofNat'];omega
 have h:IntKind.u8.wrap (sp:Int)=(x.toNat:Int):=by rw[e];exact IntWalk.u8_in _ (by have:=x.toNat_lt;omega)
 have i:IntKind.u8.wrap (j:Int)=(y.toNat:Int):=by rw[f];exact IntWalk.u8_in _ (by have:=y.toNat_lt;omega)
 have g:Hid (Ye (UInt8.ofNat sp) j key=[x,y]++key):=Hd (by rw[<-b,Ye,<-c];rfl);have a:IsB (w.alloc (.cells #[.int .u8 (x.toNat:Int),.int .u8 (y.toNat:Int)] 5)) (.slice (some ⟨w.heap.size,0,none⟩) 2 2) [x,y]:=isB_lit 5 [x,y] (by simp[maxLen]);have hst:=run_str (P:=Tryz.prog) a 77 9 5 Tryz.underlying77 Tryz.underlying5 Tryz.underlying9;have k:¬(9223372036854775807<2+key.length):=by omega
 have d:Hid (Below w.heap.size w (w.alloc (.cells #[.int .u8 (x.toNat:Int),.int .u8 (y.toNat:Int)] 5))):=Hd ((Ve _ _).alloc (Va _) _);rw[g.out];clear b c e f a;go_enter Tryz.func58,Tryz.ntmps58;go_wp2_with fail;go_ret;exact⟨rfl,d.out⟩
end
end Go.Proofs.YtfaobkmojlhbnaaGreatDoor
