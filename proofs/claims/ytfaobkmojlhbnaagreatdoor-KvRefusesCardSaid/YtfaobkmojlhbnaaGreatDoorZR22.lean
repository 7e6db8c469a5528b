/- Contracts of the functions that the statements of this seat reach, part 22: each says what the call answers and what it leaves of the memory. -/
import Derived.Test.YtfaobkmojlhbnaaGreatDoorZR20
import Derived.Test.YtfaobkmojlhbnaaGreatDoorZR21
import Derived.Test.YtfaobkmojlhbnaaGreatDoorZR1
import Derived.Test.YtfaobkmojlhbnaaGreatDoorZR5
import Derived.Test.YtfaobkmojlhbnaaGreatDoorZR3
set_option linter.unusedVariables false
set_option linter.unusedSimpArgs false
set_option maxRecDepth 100000
set_option maxHeartbeats 64000000
namespace Go.Proofs.YtfaobkmojlhbnaaGreatDoor
section
open Go.RowKit Go.Shelf Go.Lib
section
variable {n m k : Nat} {c : Int} {o : Nat} {F : Ft} {p tb sb : Nat} {sq wt off : Int} {a b M : List KV} {sums : Option (List UInt8)} {w : World} {f : Pf}
theorem KS.dk (h:KS n m k c o F p tb sb sq wt off a b w f):∃D,Xd w F D/\D.n=n/\D.ops=o/\D.cut=c:=by obtain⟨J,d,B,R,t,q,r,s,e,u,g⟩:=h.pk.ex;obtain⟨P,i,j,l⟩:=t.lp;subst i;exact⟨P.J.D,j.jat.disk,l.live.hn,g,e⟩
theorem kheard_set (w:World) {F:Ft} {q tb sb:Nat} {sq wt off:Int} (hh:w.heap[sb]?=some (stO F q tb sq wt off)) (e:Int) (h1:Qm e≠0) (h2:Qm e≠122) :
  Calls Tryz.prog 40 #[stp sb,.int .i64 e] w λr h=>r=.returned (.int .i64 (Qm e))/\h=w.setCell ⟨sb,5,none⟩ (.int .i64 (Qm e)):=by
 have d:=Hd (Zfz w e);have l:w.cell? ⟨sb,5,none⟩=some (.int .i64 off):=by rw[Vc _ _ _ _ _ _ hh];rfl
 have s:=Zf hh 5;obtain⟨y,g⟩:∃y,y=Qm e:=⟨_,rfl⟩;rw[<-g] at d h1 h2 ⊢;have t:decide (y=0)=false:=Vb h1;have u:decide (y=122)=false:=Vb h2;have v:(y != 0)=true:=by rw[bne_iff_ne];exact h1
 have x:(y != 122)=true:=by rw[bne_iff_ne];exact h2
 clear g hh;go_enter Tryz.func40,Tryz.ntmps40;go_wp2_with fail;refine d.out.mono ?_;rintro r i ⟨rfl,j⟩;obtain rfl:w=i:=j.symm;go_wp2_with fail;go_ret;exact⟨rfl,rfl⟩
theorem kheard_not (w:World) (sb:Nat) (e:Int) (h:Qm e=0\/Qm e=122) :
  Calls Tryz.prog 40 #[stp sb,.int .i64 e] w λr i=>r=.returned (.int .i64 (Qm e))/\i=w:=by
 have d:=Hd (Zfz w e);obtain⟨y,g⟩:∃y,y=Qm e:=⟨_,rfl⟩;rw[<-g] at d h ⊢;clear g;rcases h with rfl | rfl
 all_goals
  go_enter Tryz.func40,Tryz.ntmps40
  go_wp2_with fail
  refine d.out.mono ?_
  rintro r j ⟨rfl,l⟩
  obtain rfl:w=j:=l.symm
  go_wp2_with fail
  go_ret
  exact⟨rfl,rfl⟩
noncomputable def newT (M a:List KV) (ps:List Ya) (sq:Int):List KV:=Zcd (layT (dropT a ps) ps ps.length) [] (Zaq sq++Zaq (Yi wF (Zbw M ps):Nat))
open Classical in
noncomputable def commitE (V:Nat) (M:List KV) (ps:List Ya):Int:=if ∃q∈ps,q.right=false then 120 else if ps=[] then 0 else if V<Yi wF (Zbw M ps) then 121 else 0
theorem right_eq (P:Ya):P.right=(Zea P.sp P.key&&(decide (P.val.length<=4096)&&!(P.gone&&!P.val.isEmpty))):=by
 unfold Ya.right Zea
 cases decide (0<=P.sp)<;>cases decide (P.sp<=255)<;>rfl
theorem kcommit_any (h:KS n m k c o F p tb sb sq wt 0 a b w f) (hE:Qe a M sums) (hn:n<=1100) (hwt:wt=(Yi wF M:Nat)) (ad:Yi wF M<=6*n) (I:∀l,Zab l<=6*n+30->Roomy m l) (hsum:sumsW sums<=22) (hsq:0<=sq/\sq<=1000000)
  {v:Value} {ps:List Ya} (hv:Zbe.Is w v ps) (z:∀i,v.ownBlock=some i->¬KJ F p f sb i) (hl:ps.length<=12) (Dd:World->Prop)
  (hC:∀W f1,KS n m k c o F p tb sb sq wt 0 (newT M a ps (sq+1)) b W f1->f1.q=f.q->(∀i,PT f1 i->PT f i\/w.heap.size<=i)->Zb (KJ F p f sb) w W->Calls Tryz.prog 44 #[Qs f1.q] W λe C=>(e=.returned (.int .i64 0)/\∃o',o'<=o+(8+16*m)/\Xe n m (k+1) c o' F p tb sb sq wt 0 (newT M a ps (sq+1)) (newT M a ps (sq+1)) W f1 C)\/(e=.returned (.int .i64 43)/\Dd C))
  (hD:∀C,Dd C->∃q,C.heap[sb]?=some (stO F q tb sq wt 0)) :
  Calls Tryz.prog 20 #[stp sb,v] w λe C =>
   ((commitE (6*n) M ps≠0\/ps=[])/\e=.returned (.int .i64 (commitE (6*n) M ps))/\KS n m k c o F p tb sb sq wt 0 a b C f/\Zb (PJ F p f) w C) \/
   ((commitE (6*n) M ps=0/\ps≠[]/\(∀q∈ps,q.right=true)/\Yi wF (Zbw M ps)<=6*n)/\((e=.returned (.int .i64 0)/\∃o',o'<=o+(8+16*m)/\Xe n m (k+1) c o' F p tb sb (sq+1) (Yi wF (Zbw M ps):Nat) 0 (newT M a ps (sq+1)) (newT M a ps (sq+1)) w f C)\/(e=.returned (.int .i64 43)/\∃w1,Dd w1/\C=w1.setCell ⟨sb,5,none⟩ (.int .i64 43)))):=by
 obtain⟨va,vc,rfl,az,aw⟩:=hv.form;unfold maxLen at aw;obtain⟨c0,c1,c2,c3,c4,c5⟩:=h.cells;have HK:=Hd h
 have HV:Hid (∀W,Zb (KJ F p f sb) w W->Zbe.Is W (.slice va ps.length vc) ps):=Hd λW ht=>hv.turned ht z;obtain⟨E,a2⟩:∃E,E=commitE (6*n) M ps:=⟨_,rfl⟩;rw[<-a2];have HE:=Hd a2;have d:Hid ((∀q∈ps,q.right=true)->∀W,Below w.heap.size w W->Calls Tryz.prog 39 #[stp sb,.slice va ps.length vc] W λe C=>e=.returned (.tuple #[.int .i64 (Yi wF (Zbw M ps):Nat),.int .i64 0])/\KS n m k c o F p tb sb sq wt 0 a b C f/\Zb (PJ F p f) W C):=Hd λhr W H=>ksum_any (h.step H) hE hwt (by omega) (hv.below H) (λi hi e=>z i hi (.inl e)) hr (by omega);have g:Hid ((∀q∈ps,q.right=true)->Yi wF (Zbw M ps)<=6*n->∀W,KS n m k c o F p tb sb sq wt 0 a b W f->Zb (KJ F p f sb) w W->Calls Tryz.prog 42 #[stp sb,.slice va ps.length vc,smV (sq+1) (Yi wF (Zbw M ps):Nat)] W λe C=>e=.returned (.int .i64 0)/\Xe n m k c o F p tb sb sq wt 0 (newT M a ps (sq+1)) b W f C):=Hd λhr hs W hk ht=>kall_any hk hE I hsum (V:=6*n) (by omega) ad hs (hv.turned ht z) z hr (by omega) (sq+1) _ ⟨by omega,by omega⟩ ⟨by omega,by omega⟩;have HC:=Hd hC;have HD:=Hd hD;have HSQ:=Hd hsq;have HL:Hid (ps.length<=12):=Hd hl;have ax:Hid (n<=1100):=Hd hn;clear a2 hE hwt ad I hsum hv z hC hD hsq h hl hn c0 c1 c2 c3 c4;go_enter Tryz.func20,Tryz.ntmps20;go_upto_block 1 with fail;go_wp2_with fail;clear c5
 go_loopw [27] (λx wr=>∃i:Nat,i<=ps.length/\x=.int .i64 (i:Int)/\(∀q∈ps.take i,q.right=true)/\Below w.heap.size w wr) (λx _=>ps.length - (intOf x).toNat)
 case atStart=>exact⟨0,Vl _,rfl,by simp,Ve _ _⟩
 case round =>
  obtain⟨i,ae,rfl,J,H⟩:=hrel;by_cases G:i<ps.length
  .have e1:decide ((i:Int)<(ps.length:Int))=true:=Vd (by omega)
   obtain⟨e0,O⟩:(0:Int)<=(i:Int)/\(i:Int)<(ps.length:Int):=by omega
   have aA:IntKind.i64.wrap ((i:Int)+1)=(i:Int)+1:=Vf _ (by have:=HL.out;omega);obtain⟨vb,vo,rfl,k0,k1,k2,k3⟩:=put_at (HV.out _ (Zb.of_below H)) i G;obtain⟨P,hP⟩:∃P,P=ps[i]:=⟨_,rfl⟩;rw[<-hP] at k0 k1 k2 k3;obtain⟨W1,r⟩:∃W1,W1=wr.alloc (.cells #[.int .i64 P.sp,.string ⟨P.key.toArray⟩,.string ⟨P.val.toArray⟩,.bool P.gone] 66):=⟨_,rfl⟩;have af:Below wr.heap.size wr W1:=by rw[r];exact(Ve _ _).alloc (Va _) _
   have a3:W1.heap[wr.heap.size]?=some (.cells #[.int .i64 P.sp,.string ⟨P.key.toArray⟩,.string ⟨P.val.toArray⟩,.bool P.gone] 66):=by rw[r];exact Vg wr _
   have R:Hid (Below w.heap.size w W1):=Hd (H.trans (af.mono H.size));have HRT:=Hd (kright_any W1 P.sp P.key);have hreq:=right_eq P;obtain⟨rb,ag⟩:∃rb,rb=Zea P.sp P.key:=⟨_,rfl⟩;rw[<-ag] at HRT hreq;have HREQ:=Hd hreq;have t:Hid (P.right=false->E=120):=Hd λhf=>by rw[HE.out,commitE,if_pos ⟨P,by rw[hP];exact Vo G,hf⟩]
   have j:Hid (P.right=true->∀q∈ps.take (i+1),q.right=true):=Hd λht q Q=>by
    rw[Zhb ps i G] at Q;rcases List.mem_append.1 Q with Q | Q
    .exact J q Q
    .rw[List.mem_singleton.1 Q,<-hP];exact ht
   have u:Hid (E=120->((E≠0\/ps=[])/\Ending.returned (.int .i64 120)=Ending.returned (.int .i64 E)/\KS n m k c o F p tb sb sq wt 0 a b W1 f/\Zb (PJ F p f) w W1)):=Hd λhx=>⟨.inl (by rw[hx];decide),by rw[hx],HK.out.step R.out,Zb.of_below R.out⟩;have x2:W1.cell? ⟨wr.heap.size,2,none⟩=some (.string ⟨P.val.toArray⟩):=by rw[Vc _ _ _ _ _ _ a3];rfl
   have x3:W1.cell? ⟨wr.heap.size,3,none⟩=some (.bool P.gone):=by rw[Vc _ _ _ _ _ _ a3];rfl
   clear H af a3 ag hreq hP J
   cases rb with
   | false =>
    have S:Hid (P.right=false):=Hd (by rw[HREQ.out,Bool.false_and]);have HX:=Hd (u.out (t.out S.out));clear u t j HREQ d g HC HD;go_wp2_with fail;rw[<-r];clear r;refine HRT.out.mono ?_;rintro e T ⟨rfl,O⟩;obtain rfl:W1=T:=O.symm;go_wp2_with fail;go_ret;exact .inl HX.out
   | true =>
    by_cases ah:P.val.length<=4096
    .have d1:decide ((P.val.length:Int) > 4096)=false:=Vb (by omega)
     have d2:decide ((4096:Int)<(P.val.length:Int))=false:=Vb (by omega);have d3:decide (4096<P.val.length)=false:=Vb (by omega);have d4:decide (P.val.length<=4096)=true:=Vd ah
     cases ai:P.gone with
     | true =>
      rw[ai] at x3 k3 r HREQ
      cases aj:P.val.isEmpty with
      | false =>
       rw[aj] at HREQ;have S:Hid (P.right=false):=Hd (by rw[HREQ.out,d4];rfl)
       have HX:=Hd (u.out (t.out S.out));clear u t j HREQ d g HC HD;go_wp2_with fail;rw[<-r];clear r;refine HRT.out.mono ?_;rintro e T ⟨rfl,O⟩;obtain rfl:W1=T:=O.symm;go_wp2_with fail;go_ret;exact .inl HX.out
      | true =>
       rw[aj] at HREQ;have S:Hid (P.right=true):=Hd (by rw[HREQ.out,d4];rfl)
       have HX:=Hd (j.out S.out);clear u t j HREQ d g HC HD;go_wp2_with fail;rw[<-r];clear r;refine HRT.out.mono ?_;rintro e T ⟨rfl,O⟩;obtain rfl:W1=T:=O.symm;go_wp2_with fail;go_roundw
       case rel=>exact⟨i+1,G,by go_num,HX.out,R.out⟩
       case measure=>simp[intOf];omega
     | false =>
      rw[ai] at x3 k3 r HREQ;have S:Hid (P.right=true):=Hd (by rw[HREQ.out,d4];rfl)
      have HX:=Hd (j.out S.out);clear u t j HREQ d g HC HD;go_wp2_with fail;rw[<-r];clear r;refine HRT.out.mono ?_;rintro e T ⟨rfl,O⟩;obtain rfl:W1=T:=O.symm;go_wp2_with fail;go_roundw
      case rel=>exact⟨i+1,G,by go_num,HX.out,R.out⟩
      case measure=>simp[intOf];omega
    .have d1:decide ((P.val.length:Int) > 4096)=true:=Vd (by omega);have d2:decide ((4096:Int)<(P.val.length:Int))=true:=Vd (by omega);have d3:decide (4096<P.val.length)=true:=Vd (by omega);have d4:decide (P.val.length<=4096)=false:=Vb ah;have S:Hid (P.right=false):=Hd (by rw[HREQ.out,d4];rfl);have HX:=Hd (u.out (t.out S.out));clear u t j HREQ d g HC HD;go_wp2_with fail;rw[<-r];clear r;refine HRT.out.mono ?_;rintro e T ⟨rfl,O⟩;obtain rfl:W1=T:=O.symm;go_wp2_with fail;go_ret;exact .inl HX.out
  .obtain rfl:i=ps.length:=by omega
   have e1:decide ((ps.length:Int)<(ps.length:Int))=false:=Vb (by omega);have e3:decide (ps.length<ps.length)=false:=Vb (by omega);have s:∀q∈ps,q.right=true:=λq Q=>J q (by rw[List.take_length];exact Q);have HRI:=Hd s;have HB:=Hd H;have U:¬∃q∈ps,q.right=false:=by rintro⟨q,Q,e⟩;rw[s q Q] at e;cases e
   by_cases h0:ps.length=0
   .have L:ps=[]:=Vh h0;have HX:Hid ((E≠0\/ps=[])/\Ending.returned (.int .i64 0)=Ending.returned (.int .i64 E)/\KS n m k c o F p tb sb sq wt 0 a b wr f/\Zb (PJ F p f) w wr):=Hd ⟨.inr L,by rw[HE.out,commitE,if_neg U,if_pos L],HK.out.step H,Zb.of_below H⟩;have d0:decide ((ps.length:Int)=0)=true:=Vd (by omega);clear J H s U L ae G d g HC HD;go_wp2_with fail;go_ret;exact .inl HX.out
   .have a4:ps≠[]:=λe=>h0 (by rw[e];rfl)
    have d0:decide ((ps.length:Int)=0)=false:=Vb (by omega);have aB:((ps.length:Int)==0)=false:=by rw[beq_eq_false_iff_ne];omega
    have N:=Hd (d.out s wr H);have X:Hid (E=if 6*n<Yi wF (Zbw M ps) then 121 else 0):=Hd (by rw[HE.out,commitE,if_neg U,if_neg a4])
    obtain⟨B,a5⟩:∃B,B=Yi wF (Zbw M ps):=⟨_,rfl⟩;rw[<-a5] at N X g;have HSN:=Hd a5
    have ak:=Hd a4;clear J H s U a4 ae G d a5;go_wp2_with fail;refine N.out.mono ?_;rintro e A ⟨rfl,Y,al⟩;obtain⟨D,q1,q2,q3,q4⟩:=Y.dk;have HSEC:=Hd (Zbt A F D q1);rw[q2] at HSEC;obtain⟨c0,c1,c2,c3,c4,c5⟩:=Y.cells;have HK3:=Hd Y;have a6:Hid (Zb (PJ F p f) w A):=Hd ((Zb.of_below HB.out).trans al);have g6:IntKind.i64.wrap (6*(n:Int))=6*(n:Int):=Vf _ (by have:=ax.out;omega);clear q1 q2 q3 q4 Y al N;by_cases y:6*n<B
    .have d1:decide ((B:Int) > 6*(n:Int))=true:=Vd (by omega);have d2:decide (6*(n:Int)<(B:Int))=true:=Vd (by omega);have HX:Hid ((E≠0\/ps=[])/\Ending.returned (.int .i64 121)=Ending.returned (.int .i64 E)/\KS n m k c o F p tb sb sq wt 0 a b A f/\Zb (PJ F p f) w A):=Hd ⟨.inl (by rw[X.out,if_pos y];decide),by rw[X.out,if_pos y],HK3.out,a6.out⟩;clear g HC HD y c1 c2 c3 c4 c5;go_wp2_with fail;refine HSEC.out.mono ?_;rintro e w4 ⟨rfl,e4⟩;obtain rfl:A=w4:=e4;go_wp2_with fail;go_ret;exact .inl HX.out
    .have d1:decide ((B:Int) > 6*(n:Int))=false:=Vb (by omega)
     have d2:decide (6*(n:Int)<(B:Int))=false:=Vb (by omega);have am:E=0:=by rw[X.out,if_neg y]
     have an:Hid (B<=6*n):=Hd (by omega);obtain⟨W4,Z⟩:∃W4,W4=A.alloc (smO (sq+1) (B:Int)):=⟨_,rfl⟩;have a7:Below A.heap.size A W4:=by rw[Z];exact(Ve _ _).alloc (Va _) _
     have a8:Hid (W4.heap[A.heap.size]?=some (smO (sq+1) (B:Int))):=Hd (by rw[Z];exact Vg A _);have a9:Zb (KJ F p f sb) w W4:=(a6.out.trans (Zb.of_below a7)).mono λ_ _ e=>.inl e;have HAL:=Hd (g.out HRI.out (by omega) W4 (HK3.out.step a7) a9);have HT4:=Hd a9;have a0:Hid (∀i,KJ F p f sb i->i<w.heap.size):=Hd λi hi=>HK.out.lt hi;have ao:Hid (w.heap.size<=A.heap.size):=Hd a6.out.size;have hsq:=HSQ.out;have g7:IntKind.i64.wrap (sq+1)=sq+1:=Vf _ (by omega);clear g y c1 c2 c4 c5 a7 a9 hsq;go_wp2_with fail;refine HSEC.out.mono ?_;rintro e w4 ⟨rfl,e4⟩;obtain rfl:A=w4:=e4;go_wp2_with fail;rw[<-Z];clear Z c0 c3;refine HAL.out.mono ?_;rintro e w5 ⟨rfl,ap⟩;obtain⟨f5,k5,r1,r2,r3⟩:=ap;have a1:Hid (f5.q=f.q/\(∀i,PT f5 i->PT f i\/w.heap.size<=i)/\Zb (KJ F p f sb) w w5):=Hd ⟨r1,λi hi=>(r2 i hi).imp id λe=>Vk HT4.out.size e,HT4.out.trans r3⟩;have aq:Hid (w5.heap[A.heap.size]?=some (smO (sq+1) (B:Int))):=Hd ((r3.block _ (Za a8.out) λe=>by have:=a0.out _ e;have:=ao.out;omega).trans a8.out);have HCM:=Hd (HC.out w5 f5 k5 a1.out.1 a1.out.2.1 a1.out.2.2);have c1:=k5.cells.2.1;have HK5:=Hd k5
     have ay:Hid (¬KJ F p f5 sb A.heap.size):=Hd λe=>by
      have:=ao.out;rcases e with (e | e) | e
      .have:=a0.out _ (.inl (.inl e));omega
      .rcases r2 _ e with e | e
       .have:=a0.out _ (.inl (.inr e));omega
       .have:=Za a8.out;omega
      .have:=a0.out _ (.inr e);omega
     clear k5 r1 r2 r3 HC HAL;go_wp2_with fail;refine HCM.out.mono ?_;rintro e w6 ar;rcases ar with ⟨rfl,o',au,f6,k6,t1,t2,t3⟩ | ⟨rfl,aa⟩
     .have ab:w6.heap[A.heap.size]?=some (smO (sq+1) (B:Int)):=(t3.block _ (Za aq.out) ay.out).trans aq.out
      have y0:w6.cell? ⟨A.heap.size,0,none⟩=some (.int .i64 (sq+1)):=by rw[Vc _ _ _ _ _ _ ab];rfl
      have y1:w6.cell? ⟨A.heap.size,1,none⟩=some (.int .i64 (B:Int)):=by rw[Vc _ _ _ _ _ _ ab];rfl
      obtain⟨z0,z1,z2,z3,z4,z5⟩:=k6.cells;have f3:=Zf k6.head 3
      have f4:=Zf k6.head 4
      have av:Hid (Xe n m (k+1) c o' F p tb sb (sq+1) (B:Int) 0 (newT M a ps (sq+1)) (newT M a ps (sq+1)) w f ((w6.setCell ⟨sb,3,none⟩ (.int .i64 (sq+1))).setCell ⟨sb,4,none⟩ (.int .i64 (B:Int)))):=Hd (by
       obtain⟨p1,p2,p3⟩:=a1.out;have hp:=k6.put_now (sq+1) (B:Int)
       refine⟨f6,hp,t1.trans p1,λi hi=>?_,?_⟩
       .rcases t2 i hi with e | e
        .exact p2 i e
        .exact .inr (Vk p3.size e)
       .refine(p3.then t3 λi hi e=>?_).trans (((Zc w6 sb 3 _).trans (Zc _ sb 4 _)).mono λi _ e=>.inr e)
        rcases e with (e | e) | e
        .exact .inl (.inl e)
        .rcases p2 i e with e | e
         .exact .inl (.inr e)
         .omega
        .exact .inr e)
      have HO:=Hd au;clear ab k6 t1 t2 t3 au HD;go_wp2_with fail;go_ret;rw[<-HSN.out];exact .inr ⟨⟨am,ak.out,HRI.out,an.out⟩,.inl ⟨rfl,o',HO.out,av.out⟩⟩
     .obtain⟨qq,hh⟩:=HD.out w6 aa;have HDD:=Hd aa;have HHE:=Hd (kheard_set w6 hh 43 (by decide) (by decide));clear aa hh HD;go_wp2_with fail;refine HHE.out.mono ?_;rintro e w7 ⟨rfl,rfl⟩;go_wp2_with fail;go_ret;exact .inr ⟨⟨am,ak.out,HRI.out,by rw[<-HSN.out];exact an.out⟩,.inr ⟨rfl,w6,HDD.out,rfl⟩⟩
end
end
section
open Go.RowKit
theorem crash_ok {D:Dk} (h:D.Ok) (a:List Int):(D.crash a).Ok:=⟨h.n1,h.nm,Zhz h a _,Zhz h a _,(λx b=>by cases b),Va _,Vl _,by show (-9223372036854775808:Int)<=-1;decide,by show (-1:Int)<=_;decide⟩
def OnB (n:Nat) (R:Rp) (B:List (List UInt8)):Prop:=∀J seq,Live n J seq B Zeh->∃P,P.J=J/\Sim n P R seq B
section
variable {n m : Nat} {P : Pg} {R : Rp} {seq : Int} {B : List (List UInt8)}
theorem Sim.rejoin (h:Sim n P R seq B) {J:Jn} {s:Int} (hl:Live n J s B Zeh):Sim n { P with J:=J } R s B :=
 ⟨hl,h.off,h.now,h.was,h.root,h.wroot,h.len,h.lenw,h.plan,h.rok,h.wok,h.pagew,h.pagen,h.free,h.nodup,h.clean⟩
theorem Sim.onB (h:Sim n P R seq B):OnB n R B:=λJ s a=>⟨{ P with J:=J },rfl,h.rejoin a⟩
end
end
end Go.Proofs.YtfaobkmojlhbnaaGreatDoor
