/- Contracts of the functions that the statements of this seat reach, part 23: each says what the call answers and what it leaves of the memory. -/
import Derived.Test.YtfaobkmojlhbnaaGreatDoorZR17
import Derived.Test.YtfaobkmojlhbnaaGreatDoorZR22
import Derived.Test.YtfaobkmojlhbnaaGreatDoorZR18
import Derived.Test.YtfaobkmojlhbnaaGreatDoorZR19
import Derived.Test.YtfaobkmojlhbnaaGreatDoorZR3
import Derived.Test.YtfaobkmojlhbnaaGreatDoorZR6
import Derived.Test.YtfaobkmojlhbnaaGreatDoorZR16
import Derived.Test.YtfaobkmojlhbnaaGreatDoorZR1
set_option linter.unusedVariables false
set_option linter.unusedSimpArgs false
set_option maxRecDepth 100000
set_option maxHeartbeats 64000000
namespace Go.Proofs.YtfaobkmojlhbnaaGreatDoor
section
open Go.RowKit
structure Holds (n m top:Nat) (b:List KV) (D:Dk):Prop where
 flat:D.Flat
 ok:D.Ok
 hn:D.n=n
 off:D.off=false
 tt:top<4611686018427387904
 img:∃R seq B,Img n seq B top D.now/\OnB n R B/\Tre R.abort b/\R.pages.length=m
section
variable {n m top : Nat} {b : List KV} {D : Dk}
structure OpenK (n m top:Nat) (b:List KV) (D:Dk) (J:Jn) (P:Pg) (R:Rp) (seq:Int) (B:List (List UInt8)):Prop where
 opj:D.openJ=(0,J)
 opp:J.popen=(0,J,some P)
 pj:P.J=J
 sim:Sim n P R seq B
 tre:Tre R b
 tra:Tre R.abort b
 len:R.pages.length=m
 last:J.last<=top
 ops:J.D.ops<=D.ops+((n - 2) / 2+1)
 cut:J.D.cut=D.cut
theorem Holds.open (h:Holds n m top b D) (hn6:6<=n) (hm:m<=1023) (hb:D.ops+((n - 2) / 2+1)<=1048576) :
  (∃J P R e B,OpenK n m top b D J P R e B)\/(0<=D.cut/\∃J,D.openJ=(43,J)/\∀d,Holds n m top b (J.D.crash d)):=by
 obtain⟨R,e,B,⟨w,G,g⟩,q,i,r⟩:=h.img;obtain⟨c,J,o⟩:=open_im g h.flat h.ok h.hn h.off hb;rcases o.ends with ⟨rfl,j,_⟩ | ⟨rfl,j,v,l,t,x,s⟩
 .obtain⟨P,rfl,u⟩:=q J e j
  obtain⟨y,z,A,C⟩:=u.popen (by omega) hn6
  have E:R.abort.pages.length=m:=by
   show R.was.length=m
   exact u.lenw.trans r
  exact .inl ⟨P.J,y,R.abort,e,B,o.eq,z,A,C,i,Tre.congr (R:=R.abort) rfl rfl i,E,o.last,o.ops,o.cut⟩
 .refine .inr ⟨j,J,o.eq,λd=>?_⟩;have hc:=s.crash d J.D.hung.length;have htt:=h.tt;exact⟨⟨rfl,rfl⟩,crash_ok s.ok d,o.hn.trans h.hn,rfl,h.tt,R,e,B,⟨v,l,hc.top x htt⟩,q,i,r⟩
end
section
variable {n m k : Nat} {c : Int} {o : Nat} {F : Ft} {p tb : Nat} {a b : List KV} {w : World} {f : Pf}
end
end
section
open Go.RowKit Go.Shelf Go.Lib
def SumsAre (sums:Option (List UInt8)) (sq wt:Int):Prop:=(sums=none/\sq=0/\wt=0)\/sums=some (Zaq sq++Zaq wt)
def KOpenEnd (n m k:Nat) (b:List KV) (sq wt:Int) (w:World) (F:Ft) (D:Dk) (e:Ending) (w':World):Prop :=
 (∃p f tb sb o',e=.returned (.tuple #[stp sb,.int .i64 0])/\KS n m k D.cut o' F p tb sb sq wt 0 b b w' f/\o'<=D.ops+((n - 2) / 2+1)/\(∀i,KJ F p f sb i->F.has i\/w.heap.size<=i)/\w.heap.size<=tb/\Zb F.has w w') \/
 (0<=D.cut/\e=.returned (.tuple #[.pointer none,.int .i64 43])/\∃D',Xd w' F D'/\(∀stay,Holds n m (2+k) b (D'.crash stay))/\Zb F.has w w')
theorem kopen_any {n m k:Nat} {b M:List KV} {sums:Option (List UInt8)} {sq wt:Int} {w:World} {F:Ft} {D:Dk} (H:Xd w F D) (hnb:Nib w) (hh:Holds n m (2+k) b D) (hn1:256<=n) (hn2:n<=1100) (hm4:4<=m) (c:m<=255) (hE:Qe b M sums) (hS:SumsAre sums sq wt) (hsq:I64 sq) (hwt:I64 wt) (hops:D.ops+((n - 2) / 2+1)<=1048576) :
  Calls Tryz.prog 24 #[F.ptr] w (KOpenEnd n m k b sq wt w F D):=by
 have d:=Hd (Zbt w F D H);rw[hh.hn] at d;have d1:decide ((n:Int)<256)=false:=Vb (by omega);have d2:decide (n<256)=false:=Vb (by omega);obtain⟨T,O⟩:∃T,T=(encK (ctM M) sums []).1:=⟨_,rfl⟩
 have Q:Hid (∀W,Calls Tryz.prog 53 #[.string ⟨T.toArray⟩] W λe w'=>e=.returned (.tuple #[smV sq wt,.int .i64 0])/\Below W.heap.size W w'):=Hd λW=>by
  rcases hS with ⟨rfl,rfl,rfl⟩ | rfl
  .rw[O];exact ksummed_nil W
  .rw[O];exact ksummed_any W sq wt hsq.1 hsq.2 hwt.1 hwt.2
 have o:Zv b []=encK (ctM M) sums []:=hE.enc.get [];rcases hh.open (by omega) (by omega) hops with ⟨J,P,R,S,B,ok⟩ | ⟨hc,J,I,U⟩
 .have HOP:=Hd (open_good w F D H hnb ok.opj)
  have a:=Hd ok;have HD:=Hd (And.intro H hnb);have V:Hid ((Zv b []).1=T):=Hd (by rw[o,O]);have s:Hid (4<=m/\m<=255/\256<=n/\n<=1100):=Hd ⟨hm4,c,hn1,hn2⟩;clear H hnb hh hE hS hsq hwt hops O o ok hm4 c hn1 hn2;go_enter Tryz.func24,Tryz.ntmps24;go_wp2_with fail;refine d.out.mono ?_;rintro e y ⟨rfl,e1⟩;obtain rfl:w=y:=e1;go_wp2_with fail;refine HOP.out.mono ?_;rintro e y ⟨p,rfl,I,hp,ht⟩;have hn1:=HD.out.2.turnedD HD.out.1 ht;have HJ:=Hd I;have HPP:=Hd hp;have HT1:=Hd ht;have HN1:=Hd hn1;have a8:J.D.n=n:=by have:=a.out.sim.live.hn;rw[a.out.pj] at this;exact this
  have X:=Hd (popen_any y F p J I hn1 (by have:=s.out;omega));clear I hp ht hn1 a8 d HOP;go_wp2_with fail;refine X.out.mono ?_;rintro e L ⟨_,r,Y⟩;obtain⟨f,rfl,Z,a0⟩:=r _ _ _ a.out.opp;have a1:LP n J S B L F p f R:=⟨P,a.out.pj,Z,a.out.sim⟩;have HTO:=Hd (topen_any a1);have HT2:=Hd Y;have HPF:=Hd a0;clear r Y a0 a1 Z X;go_wp2_with fail;refine HTO.out.mono ?_;rintro e N ⟨rfl,t,z⟩;obtain⟨tb,A⟩:∃tb,tb=L.heap.size:=⟨_,rfl⟩;rw[<-A] at z ⊢;obtain⟨W4,u⟩:∃W4,W4=N.alloc (stO F f.q tb 0 0 0):=⟨_,rfl⟩;have C:Below N.heap.size N W4:=by rw[u];exact(Ve _ _).alloc (Va _) _
  have v:PK n m k D.cut J.D.ops F p b b N f tb:=⟨⟨J,S,B,R,z,a.out.tre,a.out.tra,a.out.len,a.out.cut,a.out.last,rfl⟩,by have:=s.out;omega,s.out.1,s.out.2.1⟩;obtain⟨l,x⟩:∃l,l=N.heap.size:=⟨_,rfl⟩;have E:KS n m k D.cut J.D.ops F p tb l 0 0 0 b b W4 f:=⟨v.step C,by rw[u,x];exact Vg N _,λe=>by have:=v.lt e;omega,by have:=v.tlt;omega⟩;have a2:Calls Tryz.prog 52 #[stp tb,.string ⟨#[]⟩] W4 λe w'=>e=.returned (txtR T (Zv b []).2 0)/\KS n m k D.cut J.D.ops F p tb l 0 0 0 b b w' f/\Zb (PJ F p f) W4 w':=(get_pk E.pk (key:=[]) (by simp)).mono λe w' hx=>by rw[V.out] at hx;exact⟨hx.1,E.read hx.2.1 hx.2.2,hx.2.2⟩
  have HG:=Hd a2;have HB3:=Hd (t.trans (C.mono t.size));have a3:Hid (L.heap.size<=l):=Hd (by rw[x];exact t.size)
  have a4:Hid (∀i,KJ F p f l i->F.has i\/w.heap.size<=i):=Hd λi g=>by
   have z1:=HT1.out.size;have z2:=HT2.out.size;rcases g with (g | g) | g
   .rcases g with g | g
    .exact .inl g
    .rw[g];exact .inr HPP.out
   .exact .inr (Vk z1 (HPF.out i g))
   .rw[g];have:=a3.out;exact .inr (by omega)
  have a5:Hid (w.heap.size<=L.heap.size):=Hd (Vk HT1.out.size HT2.out.size);have a9:Hid (w.heap.size<=tb):=Hd (by rw[A];exact Vk HT1.out.size HT2.out.size)
  have aa:Hid (Zb F.has w W4):=Hd (by
   refine(HT1.out.then HT2.out λi g e=>?_).trans (Zb.of_below HB3.out);rcases e with e | e
   .exact e
   .have:=HPP.out;omega)
  clear t C v z a2 E A HTO HT1 HT2 HPF;go_wp2_with fail;rw[<-u,<-x];clear u x;refine HG.out.mono ?_;rintro e w5 ⟨rfl,a6,a7⟩;have HSMW:=Hd (Q.out w5)
  have ab:=Hd a6;have ad:Hid (Zb F.has w w5):=Hd (aa.out.then a7 λi g e=>(a4.out i (.inl e)).elim id λh=>by omega);clear a6 a7 HG;go_wp2_with fail;refine HSMW.out.mono ?_;rintro e w6 ⟨rfl,G⟩;have hk6:=ab.out.step G;have f3:=Zf hk6.head 3;have f4:=Zf hk6.head 4;obtain⟨c0,c1,c2,c3,c4,c5⟩:=hk6.cells
  have j:Hid (KOpenEnd n m k b sq wt w F D (.returned (.tuple #[stp l,.int .i64 0])) ((w6.setCell ⟨l,3,none⟩ (.int .i64 sq)).setCell ⟨l,4,none⟩ (.int .i64 wt))):=Hd (.inl ⟨p,f,tb,l,_,rfl,hk6.put_now sq wt,a.out.ops,a4.out,a9.out,(ad.out.trans (Zb.of_below G)).then ((Zc w6 l 3 _).trans (Zc _ l 4 _)) (λi g e=>by
   have ae:w.heap.size<=l:=Vk a5.out a3.out
   omega)⟩)
  clear hk6 G c0 c1 c2 c5;go_wp2_with fail;go_ret2;exact j.out
 .have HOP:=Hd (open_not w F D H hnb I (by decide))
  have j:Hid (∀w',Xd w' F J.D->Zb F.has w w'->KOpenEnd n m k b sq wt w F D (.returned (.tuple #[.pointer none,.int .i64 43])) w'):=Hd λw' h1 h2=>.inr ⟨hc,rfl,J.D,h1,U,h2⟩;have HTU:=Hd λW=>Zfz W 43;rw[show Qm 43=43 by decide] at HTU
  clear H hnb hh hE hS hsq hwt hops O o hm4 c hn1 hn2 I U hc Q;go_enter Tryz.func24,Tryz.ntmps24;go_wp2_with fail;refine d.out.mono ?_;rintro e y ⟨rfl,e1⟩;obtain rfl:w=y:=e1;go_wp2_with fail;refine HOP.out.mono ?_;rintro e y ⟨rfl,h1,h2⟩;have HE:=Hd (j.out _ h1 h2)
  clear h1 h2 j HOP;go_wp2_with fail;refine(HTU.out y).mono ?_;rintro e L ⟨rfl,e2⟩;obtain rfl:y=L:=e2.symm;go_wp2_with fail;go_ret2;exact HE.out
end
section
open Go.RowKit Go.Shelf Go.Lib
def mK (n:Nat):Nat:=((n - 2) / 2 - 2) / 8
theorem mK_le {n:Nat} (h1:256<=n) (h2:n<=1100):4<=mK n/\mK n<=255/\16*mK n<=n/\(n - 2) / 2 - 2<8*mK n+8:=by unfold mK;omega
structure St (n:Nat) (c:Int) (o k:Nat) (M:List KV) (sq:Int) (X:Nat->Prop) (dv sv:Value) (w:World):Prop where
 ex:∃F p f tb sb a sums,dv=Ft.ptr F/\sv=stp sb/\KS n (mK n) k c o F p tb sb sq (Yi wF M:Nat) 0 a a w f/\Qe a M sums/\SumsAre sums sq (Yi wF M:Nat)/\(∀i,X i↔KJ F p f sb i\/i=tb)
 n1:256<=n/\n<=1100
 wl:Yi wF M<=6*n
 sq0:0<=sq/\sq<=(k:Int)
 kk:k<=1000000
section
variable {n : Nat} {c : Int} {o k : Nat} {M : List KV} {sq : Int} {X : Nat → Prop} {dv sv : Value} {w w' : World}
theorem St.step (h:St n c o k M sq X dv sv w) (hb:Below w.heap.size w w'):St n c o k M sq X dv sv w':=by obtain⟨F,p,f,d,e,a,b,g,i,j,l⟩:=h.ex;exact⟨⟨F,p,f,d,e,a,b,g,i,j.step hb,l⟩,h.n1,h.wl,h.sq0,h.kk⟩
theorem St.lt (h:St n c o k M sq X dv sv w) {i:Nat} (b:X i):i<w.heap.size:=by
 obtain⟨F,p,f,j,l,a,d,m,q,e,r,s,g⟩:=h.ex;rcases(g i).1 b with b | b
 .exact e.lt b
 .rw[b];exact e.pk.tlt.1
theorem KS.nibs {n m k:Nat} {c:Int} {o:Nat} {F:Ft} {p tb sb:Nat} {sq wt off:Int} {a b:List KV} {w:World} {f:Pf} (h:KS n m k c o F p tb sb sq wt off a b w f):0<w.heap.size/\¬(KJ F p f sb 0\/0=tb):=by
 obtain⟨r,s,g,i⟩:=h.pk.tlt;refine⟨g,?_⟩;rintro((e | e) | e)
 .exact i e
 .exact h.ne.2 e.symm
 .obtain⟨J,j,B,R,t⟩:=h.pk.tr
  obtain⟨P,u,l,v⟩:=t.lp;have hn:=l.nib 0 (by omega)
  have d:w.cell? ⟨tb,0,none⟩=some (Qs f.q):=by rw[Vc _ _ _ _ _ _ t.head];rfl
  rw[<-e,hn] at d;cases d
theorem St.nib (h:St n c o k M sq X dv sv w):0<w.heap.size/\¬X 0:=by obtain⟨F,p,f,i,j,a,b,l,m,d,q,r,e⟩:=h.ex;exact⟨d.nibs.1,λg=>d.nibs.2 ((e _).1 g)⟩
theorem St.turned {T:Nat->Prop} (h:St n c o k M sq X dv sv w) (ht:Zb T w w') (j:∀i,X i\/i=0->¬T i):St n c o k M sq X dv sv w':=by obtain⟨F,p,f,d,l,a,b,m,q,r,s,t,g⟩:=h.ex;exact⟨⟨F,p,f,d,l,a,b,m,q,r.turned ht (λi u=>j i (u.imp (λe=>(g i).2 (.inl e)) id)) (j d (.inl ((g d).2 (.inr rfl)))),s,t,g⟩,h.n1,h.wl,h.sq0,h.kk⟩
theorem sums_le {sums:Option (List UInt8)} {sq wt:Int} (h:SumsAre sums sq wt) (h1:I64 sq) (h2:I64 wt):sumsW sums<=22:=by
 rcases h with ⟨rfl,_⟩ | rfl
 .exact Vl _
 .have z1:=Zdi sq h1.1 h1.2
  have a:=Zdi wt h2.1 h2.2;show 2+(Zaq sq++Zaq wt).length<=22
  rw[List.length_append];omega
theorem kcommit_st (h:St n c o k M sq X dv sv w) (hc:c<0) (G:o+(8+16*mK n)<=1048576) (hk:k<1000000) {v:Value} {ps:List Ya} (hv:Zbe.Is w v ps) (g:∀i,v.ownBlock=some i->¬X i) (hl:ps.length<=12) :
  Calls Tryz.prog 20 #[sv,v] w λe w'=>e=.returned (.int .i64 (commitE (6*n) M ps))/\Zb X w w' /\
   (((commitE (6*n) M ps≠0\/ps=[])/\St n c o k M sq X dv sv w')\/((commitE (6*n) M ps=0/\ps≠[])/\∃m C,m<=o+(8+16*mK n)/\St n c m (k+1) (Zbw M ps) (sq+1) C dv sv w'/\∀i,C i->X i\/w.heap.size<=i)):=by
 obtain⟨F,p,f,s,x,a,j,rfl,rfl,H,y,D,d⟩:=h.ex;obtain⟨U,V,Y,I⟩:=mK_le h.n1.1 h.n1.2;have hsq:=h.sq0
 have J:=h.kk;have hwl:=h.wl;have hn2:=h.n1.2
 refine(kcommit_any H y h.n1.2 rfl h.wl (λl hl=>roomyK h.n1.1 h.n1.2 I hl) (sums_le D ⟨by omega,by omega⟩ ⟨by omega,by omega⟩) ⟨hsq.1,by omega⟩ hv (λi b e=>g i b ((d i).2 (.inl e))) hl (λ_=>False)
  (λW Z z q t u=>(z.commit hc G (by omega)).mono λe w' L=>.inl L) (λw' A=>A.elim)).mono ?_
 rintro e w' (⟨r,rfl,B,N⟩ | ⟨⟨r,O,P,Q⟩,⟨rfl,m,B,E,R,k2,S,T⟩ | ⟨_,_,A,_⟩⟩)
 .exact⟨rfl,N.mono λi _ e=>(d i).2 (.inl (.inl e)),.inl ⟨r,⟨F,p,f,s,x,a,j,rfl,rfl,B,y,D,d⟩,h.n1,h.wl,h.sq0,h.kk⟩⟩
 .refine⟨by rw[r],T.mono λi _ e=>(d i).2 (.inl e),.inr ⟨⟨r,O⟩,m,λi=>KJ F p E x i\/i=s,B,⟨⟨F,p,E,s,x,_,_,rfl,rfl,R,y.commit P _,.inr rfl,λi=>Iff.rfl⟩,h.n1,Q,⟨by omega,by omega⟩,by omega⟩,λi b=>?_⟩⟩
  rcases b with ((b | b) | b) | b
  .exact .inl ((d i).2 (.inl (.inl (.inl b))))
  .rcases S i b with e | e
   .exact .inl ((d i).2 (.inl (.inl (.inr e))))
   .exact .inr e
  .exact .inl ((d i).2 (.inl (.inr b)))
  .exact .inl ((d i).2 (.inr b))
 .exact A.elim
end
end
end Go.Proofs.YtfaobkmojlhbnaaGreatDoor
