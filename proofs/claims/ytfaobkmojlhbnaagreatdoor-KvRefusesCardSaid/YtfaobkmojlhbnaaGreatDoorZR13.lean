/- Contracts of the functions that the statements of this seat reach, part 13: each says what the call answers and what it leaves of the memory. -/
import Derived.Test.YtfaobkmojlhbnaaGreatDoorZR12
import Derived.Shelf.Abstract
import Derived.Test.YtfaobkmojlhbnaaGreatDoorZR8
set_option linter.unusedVariables false
set_option linter.unusedSimpArgs false
set_option maxRecDepth 100000
set_option maxHeartbeats 64000000
namespace Go.Proofs.YtfaobkmojlhbnaaGreatDoor
section
open Go.RowKit Go.Shelf Go.Lib
variable {w:World}{f:Pf}
def Rp.put (R:Rp) (key val:List UInt8):Int × Rp :=
 if Zan key val≠0 then (Zan key val,R)
 else if R.root<0 then (if (R.layL ⟨true,[⟨key,val,0⟩]⟩).1.2≠0 then ((R.layL ⟨true,[⟨key,val,0⟩]⟩).1.2,(R.layL ⟨true,[⟨key,val,0⟩]⟩).2) else (R.layL ⟨true,[⟨key,val,0⟩]⟩).2.setRoot (Zn (R.layL ⟨true,[⟨key,val,0⟩]⟩).1.1 0))
 else R.growN (putC key val) key
def Rp.del (R:Rp) (key:List UInt8):(Bool × Int) × Rp :=
 if (R.get key).2≠0\/(R.get key).1.2=false then ((false,(R.get key).2),R) else ((decide ((R.growN delC key).1=0),(R.growN delC key).1),(R.growN delC key).2)
theorem putEnters (args:Array Value) (w:World):(callFunc 104 args).run Tryz.prog w=.ok (.enter 104 args) w:=enters_of Tryz.func104 (by kernel_rfl) rfl args w
theorem delEnters (args:Array Value) (w:World):(callFunc 126 args).run Tryz.prog w=.ok (.enter 126 args) w:=enters_of Tryz.func126 (by kernel_rfl) rfl args w
section
variable {n : Nat} {J : Jn} {seq : Int} {B : List (List UInt8)} {F : Ft} {p : Nat} {tb : Nat}
theorem LP.root_le {R:Rp} (h:LP n J seq B w F p f R):-1<=R.root/\R.root<=1023:=by have g:=h.n1;obtain⟨P,_,d,e⟩:=h;have a:=d.ok.r0;have b:=d.ok.r1;have c:=e.nlen;rw[<-e.root];omega
theorem tdel_any {R:Rp} (l:Tr n J seq B w F p f R tb) (key:List UInt8) (hk:key.length<=9223372036854775807):
  Calls Tryz.prog 100 #[trp tb,.string ⟨key.toArray⟩] w λe t=>e=.returned (.tuple #[.bool (R.del key).1.1,.int .i64 (R.del key).1.2])/\Qa n J seq B w F p f t (R.del key).2 tb:=by
 obtain⟨X,m⟩:∃X,X=R.del key:=⟨_,rfl⟩;rw[<-m];have hrb:=l.lp.root_le
 have i:=Hd (tget_any l key hk (by omega));obtain⟨G,o⟩:∃G,G=R.get key:=⟨_,rfl⟩;rw[<-o] at i;have q:Hid (X=if G.2≠0\/G.1.2=false then ((false,G.2),R) else ((decide ((R.growN delC key).1=0),(R.growN delC key).1),(R.growN delC key).2)):=Hd (by rw[m,Rp.del,<-o])
 have y:=Hd l;clear m o l;go_enter Tryz.func100,Tryz.ntmps100;go_wp2_with fail;refine i.out.mono ?_;rintro e u ⟨rfl,a,b⟩;have HT1:=Hd a;have HTT1:=Hd b;by_cases d:G.2≠0\/G.1.2=false
 .have c:Hid (X=((false,G.2),R)):=Hd (by rw[q.out,if_pos d])
  have HEE:Hid (Qa n J seq B w F p f u R tb):=Hd ⟨f,a,rfl,λ_ h=>.inl h,b⟩;by_cases g:G.2=0
  .have v:G.1.2=false:=d.resolve_left (λh=>h g)
   have r:(G.2 != 0)=false:=by rw[g];rfl
   have j:Hid (X=((false,0),R)):=Hd (by rw[c.out,g]);clear d a b;go_wp2_with fail;rw[j.out];go_ret2;exact⟨rfl,HEE.out⟩
  .have r:(G.2 != 0)=true:=by rw[bne_iff_ne];exact g
   clear d a b;go_wp2_with fail;rw[c.out];go_ret2;exact⟨rfl,HEE.out⟩
 .have g:G.2=0:=by
   rcases Int.decEq G.2 0 with h | h
   .exact absurd (.inl h) d
   .exact h
  have v:G.1.2=true:=by
   cases h:G.1.2 with
   | true=>rfl
   | false=>exact absurd (.inr h) d
  have r:(G.2 != 0)=false:=by rw[g];rfl
  have c:Hid (X=((decide ((R.growN delC key).1=0),(R.growN delC key).1),(R.growN delC key).2)):=Hd (by rw[q.out,if_neg d]);obtain⟨Y,s⟩:∃Y,Y=R.growN delC key:=⟨_,rfl⟩;have HGR:=Hd (tgrow_any (key:=key) del_chr delEnters a trivial (λ_ h=>h.elim) (by omega));rw[<-s] at HGR c;clear d a b s;go_wp2_with fail;refine HGR.out.mono ?_;rintro e z ⟨rfl,k⟩;have HEE:=Hd (Qa.then (f1:=f) rfl (λ_ h=>.inl h) HTT1.out k);have x:(Y.1==0)=decide (Y.1=0):=by rfl
  clear k;go_wp2_with fail;rw[c.out];go_ret2;exact⟨by simp[x],HEE.out⟩
theorem tput_any {R:Rp} (M:Tr n J seq B w F p f R tb) (key val:List UInt8) (hk:key.length<=9223372036854775807) (hv:val.length<=9223372036854775807):
  Calls Tryz.prog 65 #[trp tb,.string ⟨key.toArray⟩,.string ⟨val.toArray⟩] w λe w'=>e=.returned (.int .i64 (R.put key val).1)/\Qa n J seq B w F p f w' (R.put key val).2 tb:=by
 obtain⟨X,Q⟩:∃X,X=R.put key val:=⟨_,rfl⟩;rw[<-Q];have hrb:=M.lp.root_le
 obtain⟨W1,c⟩:∃x,x=w.alloc (.cells #[.string ⟨key.toArray⟩] 9):=⟨_,rfl⟩;have v:Below w.heap.size w W1:=by rw[c];exact Zl w _
 have y:W1.heap[w.heap.size]?=some (Zar key):=by rw[c];exact Vg w _
 have z:W1.heap.size=w.heap.size+1:=by rw[c];simp
 obtain⟨W2,d⟩:∃x,x=W1.alloc (.cells #[.string ⟨val.toArray⟩] 9):=⟨_,rfl⟩;have A:Below W1.heap.size W1 W2:=by rw[d];exact Zl W1 _
 have r:W2.heap[w.heap.size]?=some (Zar key):=(A.block _ (Za y)).trans y;have s:W2.heap[w.heap.size+1]?=some (Zar val):=by rw[d,<-z];exact Vg W1 _
 have t:Below w.heap.size w W2:=v.trans (A.mono v.size);have hT2:=M.step t;have HFL:=Hd (tfails_any W2 tb key val hk hv);have HT2:=Hd hT2;have HB2:=Hd t;have HCS:=Hd (And.intro r s);have HW1:=Hd c;have HW2:=Hd d;have kc:=Zen r;have vc:=Zen s;have C:W2.cell? ⟨tb,0,none⟩=some (Qs f.q):=by rw[Vc _ _ _ _ _ _ hT2.head];rfl
 have ag:Hid (∀k,w.heap.size<=k->¬PJ F p f k):=Hd λk h e=>by have:=M.lp.lt e;omega
 have S:Hid (W2.cell? ⟨w.heap.size,0,none⟩=some (.string ⟨key.toArray⟩)/\W2.cell? ⟨w.heap.size+1,0,none⟩=some (.string ⟨val.toArray⟩)/\W2.cell? ⟨tb,0,none⟩=some (Qs f.q)):=Hd ⟨kc,vc,C⟩;have HS1:=Hd z;by_cases j:Zan key val=0
 .have hz:(Zan key val != 0)=false:=by rw[j];rfl
  obtain⟨N,D⟩:key.length<=80/\val.length<=200:=by
   unfold Zan at j;split at j
   .cases j
   .split at j
    .cases j
    .omega
  have a5:=Hd (lp_root hT2.lp);by_cases a:R.root<0
  .have hd:decide (R.root<0)=true:=Vd a
   obtain⟨W3,I⟩:∃W3,W3=W2.alloc (.cells #[.string ⟨key.toArray⟩,.string ⟨val.toArray⟩,.int .i64 0] 179):=⟨_,rfl⟩;have T:Below W2.heap.size W2 W3:=by rw[I];exact Zl W2 _
   have U:Zq W2.heap.size W3 (.slice (some ⟨W2.heap.size,0,none⟩) 1 1) [⟨key,val,0⟩]:=by rw[I];exact Zq.lit ⟨key,val,0⟩ (Va _)
   have a6:=hT2.step T;obtain⟨Y,hY⟩:∃Y,Y=R.layL ⟨true,[⟨key,val,0⟩]⟩:=⟨_,rfl⟩;have l:∀e∈([⟨key,val,0⟩]:List En),e.few:=λe he=>by rw[List.mem_singleton.1 he];exact⟨N,D,Int.le_refl _,by show (0:Int)<65536;decide⟩
   have V:=Zdm true a6 U.isE (by simp) l (λk hk e=>by
    have:=(U.isE_blk hk).1;have:=hT2.lp.lt e
    omega)
   rw[<-hY] at V;have HLY:=Hd V
   have HX:Hid (X=if Y.1.2≠0 then (Y.1.2,Y.2) else Y.2.setRoot (Zn Y.1.1 0)):=Hd (by rw[Q,Rp.put,if_neg (λh=>h j),if_pos a,<-hY])
   have ah:Hid (Y.1.2=0->Y.1.1≠[]):=Hd λh=>by rw[hY] at h ⊢;exact layN_ne _ _ _ (Uf _) (by simp) l h
   have ai:Hid (∀e∈Y.1.1,e.few):=Hd (by rw[hY];exact(Zgt _ R _ M.lp.good.few l).1);have HW3:=Hd I;have HB3:=Hd T;rw[j] at HFL;clear Q M hT2 v y z A r s t j a T U a6 hY l V I;rw[d,c] at kc vc C;clear c d;go_enter Tryz.func65,Tryz.ntmps65;go_wp2_with fail;rw[<-HW1.out,<-HW2.out];refine HFL.out.mono ?_;rintro e L ⟨rfl,m⟩;obtain rfl:W2=L:=m.symm;clear kc vc C m;obtain⟨kc,vc,C⟩:=S.out;go_wp2_with fail;refine a5.out.mono ?_;rintro e L ⟨rfl,m⟩;obtain rfl:W2=L:=m.symm;clear m;go_wp2_with fail;rw[<-HW3.out];refine HLY.out.mono ?_;rintro e O ⟨v4,rfl,u,aj⟩;obtain⟨f4,E,G,W,H,a7⟩:=aj;have HT4:=Hd E;have g:Hid (f4.q=f.q/\(∀k,PT f4 k->PT f k\/w.heap.size<=k)/\Zb (PJ F p f) w O):=Hd ⟨G,λk h=>(W k h).imp id λe=>by have:=HB2.out.size;have:=HB3.out.size;omega,(Zb.of_below (HB2.out.trans (HB3.out.mono HB2.out.size))).trans (H.mono λ_ _ h=>h)⟩;have HM4:=Hd u;by_cases Z:Y.1.2=0
   .have ak:(Y.1.2 != 0)=false:=by rw[Z];rfl
    have a0:=ah.out Z;have a1:Hid (X=Y.2.setRoot (Zn Y.1.1 0)):=Hd (by rw[HX.out,if_neg (λh=>h Z)]);have hln:=List.length_pos_iff.2 a0
    obtain⟨b,o,c4,al,x2⟩:∃b o c4,v4=.slice (some ⟨b,o,none⟩) Y.1.1.length c4/\O.drew.cell? ⟨b,o+2,none⟩=some (.int .i64 (Zn Y.1.1 0)):=by
     rcases u.form with ⟨_,e⟩ | ⟨g4,c4,rfl,_⟩
     .exact absurd e a0
     .obtain⟨b,o,e,_,_,x2⟩:=u.isE.at 0 hln
      simp only[Option.some.injEq,Addr.mk.injEq,and_true] at e;obtain⟨rfl,rfl⟩:=e;refine⟨g4,0,c4,rfl,?_⟩;rw[Nat.zero_mul,Nat.add_zero] at x2;rw[show Zn Y.1.1 0=Y.1.1[0].kid by rw[Zn,List.getElem?_eq_getElem hln];rfl]
      exact x2
    have am:=Zfg ai.out 0;obtain⟨KD,a8⟩:∃KD,KD=Zn Y.1.1 0:=⟨_,rfl⟩;rw[<-a8] at a1 x2 am;generalize an:Y.1.1.length=N4 at *;have q0:(0:Int)<(N4:Int):=by omega
    have a2:=Hd (Zdv (E.step (Ve _ _).drew).lp KD (by omega) (by omega));rw[G] at a2
    have t0:O.drew.cell? ⟨tb,0,none⟩=some (Qs f.q):=by
     rw[<-G];show O.cell? _=_
     rw[Vc _ _ _ _ _ _ E.head];rfl
    subst al;clear u E G W H a7 Z a0 hln an a8 kc vc C;go_upto_region 8 with fail;go_region_with (go_at_call 102;refine a2.out.mono ?_;clear a2;rintro e w6 ⟨rfl,P⟩;have HTO6:=Hd P;clear P)
    all_goals
     obtain⟨f6,a9,aa,ab,ad⟩:=(HT4.out.step (Ve _ _).drew).to HTO6.out
     have HEE:Hid (Qa n J seq B w F p f w6 X.2 tb):=Hd (by
      rw[a1.out]
      exact⟨f6,a9,aa.trans g.out.1,λk h=>(ab k h).elim (g.out.2.1 k) λe=>.inr (by have:=g.out.2.2.size;have h9:O.drew.heap.size=O.heap.size:=rfl;omega),g.out.2.2.then ad.undrew λi hi e=>by
       rcases e with e | e
       .exact .inl e
       .rcases g.out.2.1 i e with e | e
        .exact .inr e
        .omega⟩)
     rw[<-a1.out]
     clear a9 aa ab ad
     go_wp2_with fail
     go_ret
     exact⟨rfl,HEE.out⟩
   .have ak:(Y.1.2 != 0)=true:=by rw[bne_iff_ne];exact Z
    have a3:Hid (X=(Y.1.2,Y.2)):=Hd (by rw[HX.out,if_pos Z]);have HEE:Hid (Qa n J seq B w F p f O Y.2 tb):=Hd ⟨f4,HT4.out,g.out.1,g.out.2.1,g.out.2.2⟩;obtain⟨a4,c4,ao,_,_⟩:=u.isE.form;subst ao;clear u E G W H a7 Z;go_wp2_with fail;rw[a3.out];go_ret;exact⟨rfl,HEE.out⟩
  .have hd:decide (R.root<0)=false:=Vb a
   have ae:=tgrow_any (key:=key) (put_chr key val N D (w.heap.size+1) w.heap.size) putEnters hT2 (And.intro r s) (λk hk=>ag.out k (by rcases hk with e | e<;>omega)) (by omega)
   have HX:Hid (X=R.growN (putC key val) key):=Hd (by rw[Q,Rp.put,if_neg (λh=>h j),if_neg a]);have HGR:=Hd ae;rw[<-HX.out] at HGR;rw[j] at HFL;clear Q M hT2 v y z A r s t j a ae;rw[d,c] at kc vc C;clear c d;go_enter Tryz.func65,Tryz.ntmps65;go_wp2_with fail;rw[<-HW1.out,<-HW2.out];refine HFL.out.mono ?_;rintro e L ⟨rfl,m⟩;obtain rfl:W2=L:=m.symm;clear kc vc C m;obtain⟨kc,vc,C⟩:=S.out;go_wp2_with fail;refine a5.out.mono ?_;rintro e L ⟨rfl,m⟩;obtain rfl:W2=L:=m.symm;clear m;go_wp2_with fail;refine HGR.out.mono ?_;rintro e O ⟨rfl,af⟩;have HEE:=Hd (Qa.then (f1:=f) rfl (λ_ h=>.inl h) (Zb.of_below HB2.out) af);clear af;go_wp2_with fail;go_ret;exact⟨rfl,HEE.out⟩
 .have hz:(Zan key val != 0)=true:=by rw[bne_iff_ne];exact j
  have a3:Hid (X=(Zan key val,R)):=Hd (by rw[Q,Rp.put,if_pos j]);have HEE:Hid (Qa n J seq B w F p f W2 R tb):=Hd (Qa.below M t);clear Q M hT2 v y z A r s t j;rw[d,c] at kc vc C;clear c d;go_enter Tryz.func65,Tryz.ntmps65;go_wp2_with fail;rw[<-HW1.out,<-HW2.out];refine HFL.out.mono ?_;rintro e L ⟨rfl,m⟩;obtain rfl:W2=L:=m.symm;clear kc vc C m;obtain⟨kc,vc,C⟩:=S.out;go_wp2_with fail;rw[a3.out];go_ret;exact⟨rfl,HEE.out⟩
end
end
section
variable {key val:List UInt8}{l:List KV}{R R':Rp}{page p:Int}{h:Nat}{P:List Int}
structure TreH (R:Rp) (h:Nat) (l:List KV) (P:List Int):Prop where
 sub:Sub R h R.root l P
 nd:P.Nodup
 all:∀p,R.taken p=true->p∈P
 two:1<=h->Two R R.root
def Tre (R:Rp) (l:List KV):Prop:=(R.root=-1/\l=[]/\∀p,R.taken p=false)\/∃h P,TreH R h l P
theorem Sub.load (hs:Sub R h page l P):∃n,R.load page=(some n,0):=by
 cases h with
 | zero=>obtain⟨n,a,_⟩:=hs;exact⟨n,a⟩
 | succ h=>obtain⟨n,T,a,_⟩:=hs;exact⟨n,a⟩
theorem Zgm (h:R.taken p=true):R.setRoot p=(0,{ R with root:=p,change:=true }):=by unfold Rp.setRoot;rw[if_neg (by rw[h];simp)]
theorem Sub.pages (e:R'.pages=R.pages) {P:List Int} (hs:Sub R h page l P):Sub R' h page l P:=Sub.same h hs λp _=>Zdy e p
theorem Zfe (h:R.taken p=true):0<=p:=(Zca h).1
structure Stay (R R':Rp):Prop where
 len:R'.pages.length=R.pages.length
 was:R'.was=R.was
 wroot:R'.wroot=R.wroot
 good:R.good->R'.good
theorem Stay.refl (R:Rp):Stay R R:=⟨rfl,rfl,rfl,id⟩
theorem Stay.trans {R1 R2:Rp} (a:Stay R R1) (b:Stay R1 R2):Stay R R2:=⟨b.len.trans a.len,b.was.trans a.was,b.wroot.trans a.wroot,λg=>b.good (a.good g)⟩
theorem Fr.stay {X X':List Int} (h:Fr R R' X X'):Stay R R':=⟨h.len,h.was,h.wroot,h.good⟩
theorem Zha (R:Rp) (x:Int):Stay R { R with root:=x,change:=true }:=⟨rfl,rfl,rfl,λg=>g.of_pages rfl⟩
theorem stay_unroot (R:Rp) (page:Int):Stay R (R.unroot page):=by
 unfold Rp.unroot;split
 .rw[Qr];exact Zha R _
 .exact Stay.refl R
theorem drop_tre (hg:R.good) (hs:Sub R h R.root l P) (hnd:P.Nodup) (hall:∀p,R.taken p=true->p∈P) (f:Nat):(R.dropN (f+2) R.root).1=0/\Tre (R.dropN (f+2) R.root).2 l/\Stay R (R.dropN (f+2) R.root).2:=by
 obtain⟨n,q⟩:=hs.load;have ht:=Yj q
 have h0:=Zfe ht;rw[Rp.dropN,if_neg (by omega),q];dsimp only;by_cases x:n.leaf=true\/1<n.l.length
 .rw[if_pos x]
  refine⟨rfl,.inr ⟨h,P,hs,hnd,hall,λN m H=>?_⟩,Stay.refl R⟩;rw[q] at H;cases H;rcases x with e | e
  .cases h with
   | zero=>omega
   | succ h =>
    obtain⟨m,T,k,y,_⟩:=hs;rw[q] at k;cases k;rw[e] at y;cases y
  .exact e
 .rw[if_neg x]
  have O:=Sub.srt hg q
  cases h with
  | zero =>
   obtain⟨m,k,y,_⟩:=hs;rw[q] at k;cases k;exact absurd (.inl y) x
  | succ h =>
   obtain⟨m,T,k,y,I,Q,S,U,V⟩:=hs;rw[q] at k;cases k;have z:n.l.length=1:=by have:=O.len.1;have:¬1<n.l.length:=λe=>x (.inr e);omega
   obtain⟨t,rfl⟩:∃t,T=[t]:=by rw[I,List.length_map] at z;exact List.length_eq_one_iff.1 z
   have W:Zn n.l 0=t.e.kid:=by rw[Zn,I];rfl
   have v:=U.kid t (by simp);obtain⟨m,J⟩:=v.load;have ht2:=Yj J;have X:P=R.root::t.P:=by rw[S];simp
   rw[X] at hnd hall;have C:R.root≠t.e.kid:=λe=>(List.nodup_cons.1 hnd).1 (by rw[e];exact Sub.page h v)
   rw[W,Zgm ht2];dsimp only;obtain⟨R1,i⟩:∃R1,R1=({ R with root:=t.e.kid,change:=true }:Rp):=⟨_,rfl⟩;have g:R1.pages=R.pages:=by rw[i]
   have A:R1.root=t.e.kid:=by rw[i]
   have D:Stay R R1:=by rw[i];exact Zha R _
   rw[<-i];obtain⟨Y,w⟩:=fr_free (R:=R1) (p:=R.root) (by rw[Yp g];exact ht) (by rw[A];exact λe=>C e.symm);rw[if_neg (by simp),if_neg (by rw[Y];simp)];obtain⟨j,E⟩:∃j,j=(R1.free R.root).2:=⟨_,rfl⟩;rw[<-E] at w ⊢
   have L:∀p∈t.P,R1.taken p=true/\p∉[R.root]:=λp r=>⟨by rw[Yp g];exact Sub.taken h v p r,by
    rw[List.mem_singleton];rintro rfl
    exact(List.nodup_cons.1 hnd).1 r⟩
   have c:∀p∈t.P,j.read p=R.read p:=λp r=>by rw[(w.keep p (L p r).1 (L p r).2).2.2,Zdy g]
   have s:Sub j h t.e.kid t.l t.P:=Sub.same h v c;have F:j.load t.e.kid=(some m,0):=by rw[Rp.load_read (c _ (Sub.page h v))];exact J
   have d:j.root=t.e.kid:=by rw[w.root,A]
   have G:j.good:=w.good (hg.of_pages g);have Z:l=t.l:=by rw[Q];simp
   have B:Big j t.e.kid:=(V t (by simp)).same (c _ (Sub.page h v))
   have o:1<=h->Two j t.e.kid:=λN=>by
    cases h with
    | zero=>omega
    | succ h=>exact B.two G s
   have u:m.leaf=true\/1<m.l.length:=by
    cases h with
    | zero =>
     obtain⟨m',M,q2,_⟩:=s;rw[F] at M;cases M;exact .inl q2
    | succ h=>exact .inr (o (by omega) m (by rw[F]))
   have a0:=Zfe ht2;rw[Rp.dropN,if_neg (by omega),F];dsimp only;rw[if_pos u];refine⟨rfl,.inr ⟨h,t.P,by rw[d,Z];exact s,(List.nodup_cons.1 hnd).2,λp r=>?_,by rw[d];exact o⟩,D.trans w.stay⟩;obtain⟨a,b⟩:=w.back p r (by simp);rw[Yp g] at a;rcases List.mem_cons.1 (hall p a) with e | e
   .exact absurd (by rw[e];simp) b
   .exact e
theorem grow_tre {c:Chg} {key:List UInt8} {o:List KV->List KV} (hc:ChgL c key o) (hk:key.length<=80) {R:Rp} {h:Nat} {l:List KV} {P:List Int} (hg:R.good) (C:TreH R h l P) (hh:h<41) (L:h+3<=Xw R.pages):(R.growN c key).1=0/\Tre (R.growN c key).2 (o l)/\Stay R (R.growN c key).2:=by
 obtain⟨n,h1⟩:=C.sub.load;have ht:=Yj h1
 obtain⟨M,N,i,m3⟩:=anew_sub hc h 41 hg C.sub C.nd (.inl rfl) ht hh (by omega) C.two;obtain⟨r1,O⟩:∃r,r=R.anewN c key 41 R.root:=⟨_,rfl⟩;unfold Rp.growN;rw[<-O] at N i ⊢;obtain⟨q1,f⟩:=r1;dsimp only at N i ⊢;subst N;dsimp only;rw[if_neg (by simp)];have hu:=stay_unroot R R.root
 have j:=hu.trans i.fr.stay;have D:f.good:=j.good hg
 have d:∀p,f.taken p=true->p∈M.flatMap (·.P):=λp q=>by
  by_cases t:p∈M.flatMap (·.P)
  .exact t
  .obtain⟨a,b⟩:=i.fr.back p q t;rw[Yp (Xs R R.root)] at a;exact absurd (C.all p a) b
 have E:=i.fr.count;rw[Xs] at E
 have one:∀(g:Rp) (h2:Nat) (m:Kid),g.good->Stay R g->Sub g h2 m.e.kid m.l m.P->m.P.Nodup->(∀p,g.taken p=true->p∈m.P)->m.l=o l ->
   (g.setRoot m.e.kid).1=0/\((g.setRoot m.e.kid).2.dropN 1024 m.e.kid).1=0/\Tre ((g.setRoot m.e.kid).2.dropN 1024 m.e.kid).2 (o l)/\Stay R ((g.setRoot m.e.kid).2.dropN 1024 m.e.kid).2:=λg h2 m g2 s2 u Q F S=>by
  obtain⟨m',e1⟩:=u.load
  rw[Zgm (Yj e1)]
  dsimp only
  obtain⟨R3,s⟩:∃R3,R3=({ g with root:=m.e.kid,change:=true }:Rp):=⟨_,rfl⟩
  have x:R3.pages=g.pages:=by rw[s]
  have G:R3.root=m.e.kid:=by rw[s]
  have hs3:Stay g R3:=by rw[s];exact Zha g _
  rw[<-s]
  have:=drop_tre (R:=R3) (g2.of_pages x) (h:=h2) (l:=m.l) (P:=m.P) (by rw[G];exact u.pages x) Q (λp q=>F p (by rw[Yp x] at q;exact q)) 1022
  rw[G] at this
  rw[S] at this
  exact⟨rfl,this.1,this.2.1,s2.trans (hs3.trans this.2.2)⟩
 by_cases I:M.length<=1
 .have y:f.topN 4 (M.map (·.e))=((M.map (·.e),0),f):=by rw[Rp.topN,if_pos (by rw[List.length_map];exact I)]
  rw[y];dsimp only;rw[if_neg (by simp)]
  match M,I,i,d with
  | [],_,i,d =>
   have hl:o l=[]:=by rw[<-i.fl];rfl
   show (if (f.setRoot (-1)).1≠0 then f.setRoot (-1) else (f.setRoot (-1)).2.dropN 1024 (-1)).1=0/\Tre (if (f.setRoot (-1)).1≠0 then f.setRoot (-1) else (f.setRoot (-1)).2.dropN 1024 (-1)).2 (o l)/\Stay R (if (f.setRoot (-1)).1≠0 then f.setRoot (-1) else (f.setRoot (-1)).2.dropN 1024 (-1)).2
   rw[Qr,if_neg (by simp),Rp.dropN,if_pos (by decide)];refine⟨rfl,.inl ⟨rfl,hl,λp=>?_⟩,j.trans (Zha f _)⟩;rcases q:f.taken p with _ | _
   .exact q
   .exact absurd (d p q) (by simp)
  | [m],_,i,d =>
   have k:[m].flatMap (·.P)=m.P:=by simp
   have z:m.l=o l:=by rw[<-i.fl];simp
   rw[k] at d;obtain⟨T,U,V,W⟩:=one f h m D j (i.row.kid m (by simp)) (by have:=i.fr.nd';rw[k] at this;exact this) d z
   show (if (f.setRoot m.e.kid).1≠0 then f.setRoot m.e.kid else (f.setRoot m.e.kid).2.dropN 1024 m.e.kid).1=0/\Tre (if (f.setRoot m.e.kid).1≠0 then f.setRoot m.e.kid else (f.setRoot m.e.kid).2.dropN 1024 m.e.kid).2 (o l)/\Stay R (if (f.setRoot m.e.kid).1≠0 then f.setRoot m.e.kid else (f.setRoot m.e.kid).2.dropN 1024 m.e.kid).2
   rw[if_neg (by rw[T];simp)];exact⟨U,V,W⟩
  | _::_::_,I,_,_=>simp at I
 .have h2:=i.two
  have A:M.length=2:=by omega
  have v:∀e∈(Nd.mk false (M.map (·.e))).l,e.few:=λe he=>by obtain⟨m,t,rfl⟩:=List.mem_map.1 he;exact i.few m t
  have Z:(Nd.mk false (M.map (·.e))).sum<=166:=by have:=Zeb (M.map (·.e)) 0 v;rw[List.length_map,A] at this;exact this
  obtain⟨J,X,B,t3,t4,t5⟩:=laid_inner (R:=f) D i.few i.val i.row (i.big (by omega)) i.fr.nd' (by omega) (by omega);have a0:J.length<=1:=by have:=(Zdu ((Nd.mk false (M.map (·.e))).l.length+1) f _ v).1 (by omega);have h3:(f.layN ((Nd.mk false (M.map (·.e))).l.length+1) ⟨false,M.map (·.e)⟩).1=(J.map (·.e),0):=X;rw[h3] at this;simpa using this
  have Y:J≠[]:=t5 (by intro e;rw[e] at A;simp at A)
  obtain⟨m,rfl⟩:∃m,J=[m]:=List.length_eq_one_iff.1 (by
   have:=List.length_pos_iff.2 Y
   omega)
  obtain⟨g,H⟩:∃g,g=(f.layL ⟨false,M.map (·.e)⟩).2:=⟨_,rfl⟩;have y:f.topN 4 (M.map (·.e))=(([m].map (·.e),0),g):=by rw[Rp.topN,if_neg (by rw[List.length_map];omega),if_neg (by rw[X];simp),X,<-H,Rp.topN,if_pos (by simp)]
  rw[y];dsimp only;rw[if_neg (by simp)];rw[<-H] at B;have k:[m].flatMap (·.P)=m.P:=by simp
  have z:m.l=o l:=by have:=B.fl;rw[i.fl] at this;rw[<-this];simp
  have w:=j.trans B.fr.stay
  obtain⟨T,U,V,W⟩:=one g (h+1) m (w.good hg) w (B.row.kid m (by simp)) (by have:=B.fr.nd';rw[k] at this;exact this) (λp q=>by
   by_cases t:p∈[m].flatMap (·.P)
   .rw[k] at t;exact t
   .obtain⟨a,b⟩:=B.fr.back p q t
    exact absurd (d p a) b) z
  show (if (g.setRoot m.e.kid).1≠0 then g.setRoot m.e.kid else (g.setRoot m.e.kid).2.dropN 1024 m.e.kid).1=0/\Tre (if (g.setRoot m.e.kid).1≠0 then g.setRoot m.e.kid else (g.setRoot m.e.kid).2.dropN 1024 m.e.kid).2 (o l)/\Stay R (if (g.setRoot m.e.kid).1≠0 then g.setRoot m.e.kid else (g.setRoot m.e.kid).2.dropN 1024 m.e.kid).2
  rw[if_neg (by rw[T];simp)];exact⟨U,V,W⟩
theorem headL_lt:∀x∈Zel l key,x.1<key:=λx a=>by have:=Zcm a;simpa using this
theorem restL_sub:∀x∈Zcz l key,x∈l:=λx a=>by
 unfold Zcz at a
 cases b:l.dropWhile (λx=>decide (x.1<key)) with
 | nil=>rw[b] at a;cases a
 | cons y r =>
  rw[b] at a;have c:∀z∈y::r,z∈l:=λz d=>(List.dropWhile_sublist _).mem (by rw[b];exact d)
  dsimp only at a;split at a
  .exact c x (Vj _ a)
  .exact c x a
theorem restL_gt (hr:Xb l):(∀x∈Zcz l key,key<x.1)/\Xb (Zcz l key):=by
 have a:Xb (l.dropWhile λx=>decide (x.1<key)):=hr.sublist (List.dropWhile_sublist _);unfold Zcz
 cases d:l.dropWhile (λx=>decide (x.1<key)) with
 | nil=>exact⟨by simp,List.Pairwise.nil⟩
 | cons y r =>
  rw[d] at a;have g:¬y.1<key:=by have:=Zdg d;simpa using this
  obtain⟨f,i⟩:=List.pairwise_cons.1 a;dsimp only;split
  .rename_i e;exact⟨λx b=>by rw[<-e];exact f x b,i⟩
  .rename_i e
   have c:key<y.1:=by exact Vu λh=>e (List.le_antisymm (List.not_lt.1 h) (List.not_lt.1 g))
   refine⟨λx b=>?_,a⟩;rcases List.mem_cons.1 b with rfl | b
   .exact c
   .exact Vy c (f x b)
theorem Zat (hr:Xb l):Xb (Zcd l key val):=by
 obtain⟨a,b⟩:=restL_gt (key:=key) hr;refine List.pairwise_append.2 ⟨hr.sublist (Ui _),List.pairwise_cons.2 ⟨a,b⟩,λx d y c=>?_⟩;rcases List.mem_cons.1 c with rfl | c
 .exact headL_lt x d
 .exact Vy (headL_lt x d) (a y c)
theorem Zac (hr:Xb l):Xb (Zbi l key):=by obtain⟨a,b⟩:=restL_gt (key:=key) hr;exact List.pairwise_append.2 ⟨hr.sublist (Ui _),b,λx c y d=>Vy (headL_lt x c) (a y d)⟩
theorem put_chgL (hk:key.length<=80) (hv:val.length<=200):ChgL (putC key val) key (λl=>Zcd l key val):=by
 refine⟨putC_ok key val hk hv,λn d=>leaf_put d key val,λl i f h e a=>?_,λA L C g k=>putL_mid g k,λL x b=>?_,λL m=>Zat m⟩
 .unfold putC at a
  cases f with
  | true =>
   simp only[if_true] at a;obtain⟨j,o,rfl⟩:=List.mem_iff_getElem.1 a;have c:j<l.length:=by simpa using o
   rw[List.getElem_modify];split
   .exact h l[j] (Vo c)
   .exact h l[j] (Vo c)
  | false =>
   simp only[Bool.false_eq_true,if_false] at a;rcases List.mem_append.1 a with a | a
   .exact h e (Vr a)
   .rcases List.mem_cons.1 a with rfl | a
    .rfl
    .exact h e (Vt a)
 .rcases List.mem_append.1 b with b | b
  .exact .inr ((Ui _).mem b)
  .rcases List.mem_cons.1 b with rfl | b
   .exact .inl rfl
   .exact .inr (restL_sub x b)
theorem del_chgL:ChgL delC key (λl=>Zbi l key):=by
 refine⟨delC_ok,λn c=>leaf_del c key,λl i d h e a=>?_,λA L C f g=>delL_mid f g,λL x b=>?_,λL j=>Zac j⟩
 .unfold delC at a
  cases d with
  | true =>
   simp only[if_true] at a;rcases List.mem_append.1 a with a | a
   .exact h e (Vr a)
   .exact h e (Vt a)
  | false=>exact h e a
 .rcases List.mem_append.1 b with b | b
  .exact .inr ((Ui _).mem b)
  .exact .inr (restL_sub x b)
end
section
variable {R:Rp}{l:List KV}{h:Nat}{P:List Int}
def rngL (from_ to_:List UInt8) (l:List KV):List KV:=l.filter λx=>!decide (x.1<from_)&&(decide (to_=[])||decide (x.1<to_))
section
variable {from_ to_ : List UInt8}
theorem Zgc (A C:List KV):rngL from_ to_ (A++C)=rngL from_ to_ A++rngL from_ to_ C:=List.filter_append ..
theorem rngL_low (h:∀x∈l,x.1<from_):rngL from_ to_ l=[]:=by unfold rngL;rw[List.filter_eq_nil_iff];intro x a;simp[h x a]
theorem rngL_high (ht:to_≠[]) (h:∀x∈l,¬x.1<to_):rngL from_ to_ l=[]:=by
 unfold rngL;rw[List.filter_eq_nil_iff];intro x a;have:=h x a
 simp[ht,this]
structure Walked (from_ to_:List UInt8) (l:List KV) (k:Nat) (left:Int) (r:(List KV × Bool) × Int):Prop where
 eq:r.1.1=rngL from_ to_ l
 stop:r.1.2=false->∃x∈l,to_≠[]/\¬x.1<to_
 left:left - k<=r.2
theorem leaf_walk (a:Int->Int->(List KV × Bool) × Int) (left:Int):∀l:List En,Xb (l.map Qu)->(∀x∈l.map Qu,¬x.1<from_)->Walked from_ to_ (l.map Qu) 0 left (rowN true to_ a l left)
 | [],_,_=>⟨rfl,by simp[rowN],by simp[rowN]⟩
 | e::r,j,d=>by
  rw[List.map_cons] at j d;obtain⟨m,n⟩:=List.pairwise_cons.1 j;have ih:=leaf_walk a left r n λx b=>d x (Vj _ b)
  rw[rowN,if_pos rfl];have f:(Qu e).1=e.key:=rfl
  by_cases c:to_≠[]/\¬e.key<to_
  .rw[if_pos c]
   refine⟨?_,λ_=>⟨Qu e,by simp,c⟩,by simp⟩;rw[List.map_cons];refine(rngL_high c.1 λx b=>?_).symm;rcases List.mem_cons.1 b with rfl | b
   .exact c.2
   .exact λg=>c.2 (Vy (m x b) g)
  .rw[if_neg c]
   refine⟨?_,λh=>?_,ih.left⟩
   .show (e.key,e.val)::(rowN true to_ a r left).1.1=_
    rw[ih.eq,List.map_cons];unfold rngL;rw[List.filter_cons,if_pos]
    .rfl
    .have h3:=d (Qu e) (Vi ..)
     rw[f] at h3 ⊢;by_cases k:to_=[]
     .simp[h3,k]
     .have:e.key<to_:=Vu λh=>c ⟨k,h⟩;simp[h3,this]
   .obtain⟨x,b,i⟩:=ih.stop h;exact⟨x,Vj _ b,i⟩
theorem inner_walk (a:Int->Int->(List KV × Bool) × Int):∀(T:List Kid) (left:Int),Xh (Sub R h) T->(∀t∈T,∀left:Int,(t.P.length:Int)<=left->Walked from_ to_ t.l t.P.length left (a t.e.kid left))->((T.flatMap (·.P)).length:Int)<=left ->
  Walked from_ to_ (T.flatMap (·.l)) (T.flatMap (·.P)).length left (rowN false to_ a (T.map (·.e)) left)
 | [],left,_,_,_=>⟨rfl,by simp[rowN],by simp[rowN]⟩
 | t::r,left,p,d,k=>by
  have f:Xh (Sub R h) ([t]++r):=p;rw[List.flatMap_cons,List.length_append] at k;have h1:=d t (Vi ..) left (by omega);have ih:=λleft=>inner_walk a r left f.right (λu q=>d u (Vj _ q));rw[List.map_cons,rowN,if_neg (by simp),List.flatMap_cons,List.flatMap_cons];by_cases g:(a t.e.kid left).1.2=false
  .rw[if_pos g]
   obtain⟨x,j,b,i⟩:=h1.stop g;refine⟨?_,λ_=>⟨x,Vq _ j,b,i⟩,?_⟩
   .rw[h1.eq,Zgc,rngL_high b (l:=r.flatMap (·.l)),List.append_nil]
    intro y m n;obtain⟨c,g,m⟩:=List.mem_flatMap.1 m;have h5:=f.mid t (List.mem_singleton_self t) c g x j
    have s:=f.right.low c g y m;exact i (Vy (Xx h5 s) n)
   .have:=h1.left;rw[List.length_append];omega
  .rw[if_neg g]
   have o:=ih (a t.e.kid left).2 (by have:=h1.left;omega);refine⟨?_,λh=>?_,?_⟩
   .rw[Zgc,<-h1.eq,<-o.eq]
   .obtain⟨x,j,b⟩:=o.stop h;exact⟨x,Vp _ j,b⟩
   .have:=h1.left;have:=o.left;rw[List.length_append];dsimp only;omega
theorem leaf_rest {n:Nd} (hl:n.leaf=true) (hr:Xb (n.l.map Qu)) (key:List UInt8):∃U,n.l=U++n.l.drop (n.behind key).1/\(∀x∈U.map Qu,x.1<key)/\∀x∈(n.l.drop (n.behind key).1).map Qu,¬x.1<key:=by
 obtain⟨U,V,c,g,i,j⟩:=leaf_parts hl key;have d:n.l.drop (n.behind key).1=V:=by rw[<-g];rw[c];exact List.drop_left' rfl
 have f:=restL_gt (key:=key) hr;refine⟨U,by rw[d];exact c,λx a=>headL_lt x (by rw[i];exact a),λx a=>?_⟩;rw[d] at a;rcases j with ⟨_,b⟩ | ⟨_,e,r,k,m,b⟩
 .rw[<-b] at a;exact λh=>Vw _ (Vy h (f.1 x a))
 .rw[k,List.map_cons] at a
  rcases List.mem_cons.1 a with rfl | a
  .show ¬e.key<key
   rw[m];exact Vw _
  .rw[<-b] at a;exact λh=>Vw _ (Vy h (f.1 x a))
end
theorem Sub.rise (hg:R.good):∀(h:Nat) {page:Int} {l:List KV} {P:List Int},Sub R h page l P->Xb l
 | 0,page,l,P,a=>by obtain⟨n,b,c,d,_⟩:=a;rw[d];exact rise_keys.2 (fit_rise (Sub.srt hg b) c)
 | h+1,page,l,P,a=>by obtain⟨n,T,b,c,d,f,i,e,j⟩:=a;rw[f];exact e.rise λt g=>Sub.rise hg h (e.kid t g)
theorem sub_walk (from_ to_:List UInt8) (hg:R.good):∀(h g:Nat) {b:Int} {l:List KV} {P:List Int} (left:Int),Sub R h b l P->h+2<=g->(P.length:Int)<=left->Walked from_ to_ l P.length left (R.walkN from_ to_ g b left)
 | h,0,b,l,P,left,_,y,_=>by omega
 | 0,g+1,b,l,P,left,j,y,d=>by
  have q:=Sub.rise hg 0 j;obtain⟨n,m,k,o,p⟩:=j;subst o;rw[p] at d ⊢;simp only[List.length_cons,List.length_nil] at d ⊢;rw[Rp.walkN,m];dsimp only;rw[if_neg (by omega),k];obtain⟨U,r,D,E⟩:=leaf_rest k q from_;have s:Xb ((n.l.drop (n.behind from_).1).map Qu):=by rw[r,List.map_append] at q;exact(List.pairwise_append.1 q).2.1
  obtain⟨v,w,F⟩:=leaf_walk (to_:=to_) (R.walkN from_ to_ g) (left - 1) _ s E;refine⟨?_,λh=>?_,by omega⟩
  .rw[v]
   conv=>rhs;rw[r,List.map_append,Zgc,rngL_low D]
   rfl
  .obtain⟨x,f,i⟩:=w h;refine⟨x,?_,i⟩;rw[r,List.map_append];exact Vp _ f
 | h+1,g+1,b,l,P,left,j,y,d=>by
  obtain⟨n,T,m,k,o,p,G,z,Q⟩:=j;have fn:=Sub.srt hg m
  obtain⟨A,t,C,H,I,J,S,V,W⟩:=Zia z k o fn.some from_;subst H;have B:P.length=1+((A.flatMap (·.P)).length+((t::C).flatMap (·.P)).length):=by rw[G,List.length_cons,List.flatMap_append,List.length_append];omega
  rw[Rp.walkN,m];dsimp only;rw[if_neg (by omega),k];have L:n.l.drop (n.behind from_).1=(t::C).map (·.e):=by rw[o,<-I,List.map_append,List.drop_left' (by simp)]
  rw[L];have c:Xh (Sub R h) (t::C):=z.right
  obtain⟨v,w,F⟩:=inner_walk (to_:=to_) (from_:=from_) (R.walkN from_ to_ g) (t::C) (left - 1) c (λu M left N=>sub_walk from_ to_ hg h g left (c.kid u M) (by omega) N) (by omega);refine⟨?_,λj=>?_,by omega⟩
  .rw[v,p,List.flatMap_append,Zgc,rngL_low (l:=A.flatMap (·.l))]
   .rfl
   .intro x f;obtain⟨a,O,f⟩:=List.mem_flatMap.1 f;exact J a O x f
  .obtain⟨x,f,i⟩:=w j;refine⟨x,?_,i⟩;rw[p,List.flatMap_append];exact Vp _ f
theorem Zhk {α:Type}:∀l:List (Option α),(l.countP λx=>x.isSome)+(l.countP λx=>x.isNone)=l.length
 | []=>rfl
 | none::r=>by have:=Zhk r;simp;omega
 | some a::r=>by have:=Zhk r;simp;omega
theorem range_getD {α:Type} (l:List α) (d:α):(List.range l.length).map (λk=>l.getD k d)=l:=by
 apply Uo
 .simp
 .intro i b a;simp only[List.getElem_map,List.getElem_range,List.getD_eq_getElem?_getD];rw[List.getElem?_eq_getElem a];rfl
theorem taken_count (hn:P.Nodup) (h:∀p,R.taken p=true↔p∈P):P.length+Xw R.pages=R.pages.length:=by
 have i:P.Perm (((List.range R.pages.length).filter λk=>(R.pages.getD k none).isSome).map Int.ofNat):=by
  refine(List.perm_ext_iff_of_nodup hn ?_).2 λp=>?_
  .unfold List.Nodup;rw[List.pairwise_map];exact(List.Pairwise.filter _ List.nodup_range).imp λh e=>h (Int.ofNat.inj e)
  .rw[<-h p,List.mem_map]
   constructor
   .intro d;unfold Rp.taken at d;simp only[Bool.and_eq_true,decide_eq_true_eq] at d;obtain⟨a,b,c⟩:=d;exact⟨p.toNat,List.mem_filter.2 ⟨List.mem_range.2 (by omega),c⟩,by show ((p.toNat:Nat):Int)=p;omega⟩
   .rintro⟨k,j,rfl⟩
    obtain⟨f,g⟩:=List.mem_filter.1 j;have:=List.mem_range.1 f
    unfold Rp.taken;have e:(Int.ofNat k).toNat=k:=rfl
    rw[e,g];have i:(0:Int)<=Int.ofNat k:=Int.natCast_nonneg k
    have m:Int.ofNat k<(R.pages.length:Int):=by show (k:Int)<_;omega
    simp[this]
 have m:(((List.range R.pages.length).filter λk=>(R.pages.getD k none).isSome).map Int.ofNat).length=R.pages.countP λx=>x.isSome:=by
  rw[List.length_map,<-List.countP_eq_length_filter]
  conv=>rhs;rw[<-range_getD R.pages none,List.countP_map]
  rfl
 have n:=Zhk R.pages;have h4:=i.length_eq;unfold Xw;omega
theorem TreH.taken (a:TreH R h l P) (p:Int):R.taken p=true↔p∈P:=⟨a.all p,Sub.taken h a.sub p⟩
theorem TreH.count (a:TreH R h l P):P.length+Xw R.pages=R.pages.length:=taken_count a.nd a.taken
theorem Tre.range (hg:R.good) (h:Tre R l) (hh:∀h P,TreH R h l P->h<=39) (from_ to_:List UInt8):R.rangeN from_ to_=rngL from_ to_ l:=by
 rcases h with ⟨b,c,_⟩ | ⟨h,P,a⟩
 .unfold Rp.rangeN;rw[b,c,if_neg (by decide)];rfl
 .obtain⟨n,b⟩:=a.sub.load
  unfold Rp.rangeN;rw[if_pos (Zfe (Yj b))];have:=hh h P a
  have d:=a.count;exact(sub_walk from_ to_ hg h 42 _ a.sub (by omega) (by omega)).eq
end
section
variable {key:List UInt8}{R:Rp}{l:List KV}{h:Nat}{P:List Int}
def Zab:List KV->Nat
 | []=>0
 | x::r=>2+x.1.length+x.2.length+Zab r
theorem Zda:∀A C:List KV,Zab (A++C)=Zab A+Zab C
 | [],C=>by simp[Zab]
 | x::r,C=>by rw[List.cons_append,Zab,Zab,Zda r C];omega
theorem sum_wgt:∀(l:List En) (i:Nat),Zg true i l=Zab (l.map Qu)
 | [],_=>rfl
 | e::r,i=>by rw[Zg,List.map_cons,Zab,sum_wgt r (i+1)];rfl
theorem row_wgt:∀T:List Kid,(∀t∈T,297*(4*t.P.length+1)<=5*Zab t.l/\5*h+1<=t.P.length)->297*(4*(T.flatMap (·.P)).length+T.length)<=5*Zab (T.flatMap (·.l))/\(5*h+1)*T.length<=(T.flatMap (·.P)).length
 | [],_=>by simp[Zab]
 | t::r,a=>by have c:=a t (Vi ..);have h2:=row_wgt r λu b=>a u (Vj _ b);rw[List.flatMap_cons,List.flatMap_cons,Zda,List.length_append,List.length_cons];refine⟨by omega,?_⟩;rw[Nat.mul_succ];omega
theorem kid_wgt (hg:R.good):∀(h:Nat) {a:Int} {l:List KV} {P:List Int},Sub R h a l P->Big R a->297*(4*P.length+1)<=5*Zab l/\5*h+1<=P.length
 | 0,a,l,P,d,f=>by
  obtain⟨n,b,g,i,j⟩:=d;have:=f n (by rw[b])
  unfold Nd.sum at this;rw[g,sum_wgt,<-i] at this;rw[j];simp only[List.length_cons,List.length_nil];omega
 | h+1,a,l,P,d,f=>by
  obtain⟨n,T,b,g,i,j,o,p,q⟩:=d;have hc:=f n (by rw[b])
  unfold Nd.sum at hc;have fn:=Sub.srt hg b
  have k:5<=T.length:=by
   rw[g] at hc
   cases c:n.l with
   | nil=>exact absurd c fn.some
   | cons e r =>
    rw[c,Zg] at hc;have u:e.size false 0=2:=rfl
    have:=Zeb r (0+1) λx s=>fn.few x (by rw[c];exact Vj _ s);have e2:=Vs List.length i;rw[c,List.length_map,List.length_cons] at e2;omega
  have v:=row_wgt (h:=h) T λt m=>kid_wgt hg h (p.kid t m) (q t m);have w:(5*h+1)*5<=(5*h+1)*T.length:=Nat.mul_le_mul_left _ k;rw[o,j,List.length_cons];omega
theorem TreH.small (hg:R.good) (a:TreH R h l P):(h=0/\P.length=1)\/(1188*P.length<=5*Zab l+594/\10*h<=P.length+7):=by
 cases h with
 | zero =>
  obtain⟨n,d,g,e,b⟩:=a.sub;exact .inl ⟨rfl,by rw[b];rfl⟩
 | succ h =>
  right;have ht2:=a.two (by omega)
  obtain⟨n,T,d,g,e,b,i,j,k⟩:=a.sub;have c:2<=T.length:=by have:=ht2 n (by rw[d]);rw[e,List.length_map] at this;exact this
  have m:=row_wgt (h:=h) T λt f=>kid_wgt hg h (j.kid t f) (k t f);have o:(5*h+1)*2<=(5*h+1)*T.length:=Nat.mul_le_mul_left _ c;rw[i,b,List.length_cons];omega
theorem TreH.low (hg:R.good) (a:TreH R h l P) (hp:R.pages.length<=255):h<=26:=by have:=a.small hg;have:=a.count;omega
theorem Zcr (h:(Zv l key).2=false):Zbi l key=l/\Zv l key=([],false):=by
 unfold Zv at h ⊢;unfold Zbi Zcz Zel
 cases a:l.dropWhile (λx=>decide (x.1<key)) with
 | nil =>
  refine⟨?_,rfl⟩;dsimp only
  conv=>rhs;rw[<-List.takeWhile_append_dropWhile (p:=λx:KV=>decide (x.1<key)) (l:=l),a]
 | cons y r =>
  rw[a] at h;dsimp only at h ⊢;by_cases e:y.1=key
  .rw[if_pos e] at h;cases h
  .rw[if_neg e,if_neg e]
   refine⟨?_,rfl⟩
   conv=>rhs;rw[<-List.takeWhile_append_dropWhile (p:=λx:KV=>decide (x.1<key)) (l:=l),a]
theorem Tre.get (hg:R.good) (h:Tre R l) (hh:∀h P,TreH R h l P->h<=39) (hk:key.length<=80):R.get key=(Zv l key,0):=by
 unfold Rp.get;rw[if_neg (by omega)];rcases h with ⟨b,c,_⟩ | ⟨h,P,a⟩
 .rw[b,c,Rp.getN,if_pos (by decide)];rfl
 .have:=hh h P a;exact(sub_get key h 40 R.root l P hg a.sub (by omega)).1
theorem Tre.put {R:Rp} {l:List KV} (hg:R.good) (h:Tre R l) (h2:2<=R.pages.length) (hh:∀h P,TreH R h l P->h<=39/\h+3<=Xw R.pages) {val:List UInt8} (hk:key.length<=80) (hv:val.length<=200):(R.put key val).1=0/\Tre (R.put key val).2 (Zcd l key val)/\Stay R (R.put key val).2:=by
 have x:Zan key val=0:=by rw[Zan,if_neg (by omega),if_neg (by omega)]
 unfold Rp.put;rw[if_neg (by rw[x];simp)];rcases h with ⟨g,y,f⟩ | ⟨h,P,i⟩
 .rw[if_pos (by rw[g];decide),y]
  have z:=taken_count (R:=R) (P:=[]) (by simp) λp=>by rw[f p];simp
  simp only[List.length_nil] at z
  obtain⟨M,s,b,C,D,A⟩:=laid_leaf (R:=R) (l:=[⟨key,val,0⟩]) hg (λe c=>by
   rw[List.mem_singleton.1 c];exact⟨hk,hv,Int.le_refl _,by show (0:Int)<65536;decide⟩) (λe c=>by rw[List.mem_singleton.1 c]) (by simp) (by
   unfold Nd.sum;simp only[Zg,En.size,if_true]
   omega) (by omega)
  have j:=A (by simp)
  have t:M.length<=1:=by
   have:=(Zdu ((Nd.mk true [⟨key,val,0⟩]).l.length+1) R ⟨true,[⟨key,val,0⟩]⟩ (λe c=>by
    rw[List.mem_singleton.1 c]
    exact⟨hk,hv,Int.le_refl _,by show (0:Int)<65536;decide⟩)).1 (by
    unfold Nd.sum;simp only[Zg,En.size,if_true]
    omega)
   have f:(R.layN ((Nd.mk true [⟨key,val,0⟩]).l.length+1) ⟨true,[⟨key,val,0⟩]⟩).1=(M.map (·.e),0):=s;rw[f] at this;simpa using this
  obtain⟨m,rfl⟩:∃m,M=[m]:=List.length_eq_one_iff.1 (by
   have:=List.length_pos_iff.2 j
   omega)
  obtain⟨k,o⟩:∃r,r=(R.layL ⟨true,[⟨key,val,0⟩]⟩).2:=⟨_,rfl⟩;rw[<-o] at b ⊢;rw[s];dsimp only;rw[if_neg (by simp)];have d:Zn ([m].map (·.e)) 0=m.e.kid:=rfl
  have u:=b.row.kid m (by simp);obtain⟨n,B⟩:=u.load;rw[d,Zgm (Yj B)];dsimp only;refine⟨rfl,.inr ⟨0,m.P,?_,?_,λp v=>?_,by omega⟩,b.fr.stay.trans (Zha k _)⟩
  .have:m.l=Zcd [] key val:=by
    have:=b.fl;simp only[List.flatMap_cons,List.flatMap_nil,List.append_nil] at this;rw[this];rfl
   rw[<-this];exact u.pages rfl
  .have:=b.fr.nd';simpa using this
  .by_cases w:p∈m.P
   .exact w
   .have q:k.taken p=true:=by rw[Yp (R':={ k with root:=m.e.kid,change:=true }) rfl] at v;exact v
    obtain⟨a,_⟩:=b.fr.back p q (by simpa using w);rw[f p] at a;cases a
 .obtain⟨n,g⟩:=i.sub.load;have:=Zfe (Yj g);have hx:=hh h P i;rw[if_neg (by omega)];exact grow_tre (put_chgL hk hv) hk hg i (by omega) hx.2
theorem Tre.del (hg:R.good) (h:Tre R l) (hh:∀h P,TreH R h l P->h<=39/\h+3<=Xw R.pages) {key:List UInt8} (hk:key.length<=80):(R.del key).1=((Zv l key).2,0)/\Tre (R.del key).2 (Zbi l key)/\Stay R (R.del key).2:=by
 unfold Rp.del;rw[h.get hg (λa b c=>(hh a b c).1) hk];dsimp only
 cases d:(Zv l key).2 with
 | false =>
  rw[if_pos (.inr rfl),(Zcr d).1];exact⟨rfl,h,Stay.refl R⟩
 | true =>
  rw[if_neg (by simp)];rcases h with ⟨g,f,i⟩ | ⟨h,P,e⟩
  .rw[f] at d;cases d
  .have hx:=hh h P e;obtain⟨a,b,c⟩:=grow_tre (del_chgL (key:=key)) hk hg e (by omega) hx.2;rw[a];exact⟨rfl,b,c⟩
end
section
theorem Tre.congr {R R':Rp} {l:List KV} (e:R'.pages=R.pages) (b:R'.root=R.root) (h:Tre R l):Tre R' l:=by
 rcases h with ⟨c,f,g⟩ | ⟨h,P,a⟩
 .exact .inl ⟨b.trans c,f,λp=>(Yp e p).trans (g p)⟩
 .refine .inr ⟨h,P,by rw[b];exact Sub.pages e a.sub,a.nd,λp i=>a.all p ((Yp e p).symm.trans i),λc n d=>a.two c n ?_⟩;rw[b,Rp.load_read (Zdy e _)] at d;exact d
end
end Go.Proofs.YtfaobkmojlhbnaaGreatDoor
