/- Contracts of the functions that the statements of this seat reach, part 12: each says what the call answers and what it leaves of the memory. -/
import Derived.Test.YtfaobkmojlhbnaaGreatDoorZR11
import Derived.Deep.LoopGhost
import Derived.Test.YtfaobkmojlhbnaaGreatDoorZR10
set_option linter.unusedVariables false
set_option linter.unusedSimpArgs false
set_option maxRecDepth 100000
set_option maxHeartbeats 64000000
namespace Go.Proofs.YtfaobkmojlhbnaaGreatDoor
section
open Go.RowKit
variable {l:List En}
section
variable {n : Nat} {J : Jn} {seq : Int} {B : List (List UInt8)} {F : Ft} {p : Nat} {tb : Nat}
variable {fid : Nat} {caps : Array Value} {K : Nat → Prop} {Cs : World → Prop} {c : Chg} {key : List UInt8}
theorem anew_all (a:Chr fid caps K Cs c) (b:∀(args:Array Value) (w:World),(callFunc fid args).run Tryz.prog w=.ok (.enter fid args) w):∀fu,fu<=41->AnewAt n J seq B F p tb fid caps K Cs c key fu
 | 0,_=>anew_zero
 | fu+1,h=>anew_succ a b fu (by omega) (anew_all a b fu (by omega))
theorem countP_set {α:Type} (g:α->Bool):∀(l:List α) (k:Nat) (x:α) (b:k<l.length),(l.set k x).countP g+(if g l[k] then 1 else 0)=l.countP g+(if g x then 1 else 0)
 | [],k,x,b=>by simp at b
 | a::r,0,x,b=>by simp only[List.set_cons_zero,List.countP_cons,List.getElem_cons_zero];omega
 | a::r,k+1,x,b=>by have:=countP_set g r k x (by simpa using b);simp only[List.set_cons_succ,List.countP_cons,List.getElem_cons_succ];omega
def Rp.takenC (R:Rp):Nat:=R.pages.countP λx=>x.isSome
theorem Rp.takenC_setRoot (R:Rp) (page:Int):Rp.takenC (R.setRoot page).2=R.takenC:=by
 unfold Rp.setRoot
 split<;>rfl
theorem Rp.takenC_free (R:Rp) (page:Int) (h:(R.free page).1=0):Rp.takenC (R.free page).2+1=R.takenC:=by
 unfold Rp.free at h ⊢;split at h
 .cases h
 .rename_i a
  split at h
  .cases h
  .rename_i f
   rw[if_neg a,if_neg f];obtain⟨i,d,b,e⟩:=Zca (by simpa using a);have:=countP_set (λx:Option (List UInt8)=>x.isSome) R.pages page.toNat none d
   have g:R.pages[page.toNat]=some b:=by rw[List.getElem?_eq_getElem d] at e;exact Ud e
   rw[g] at this;simpa [Rp.takenC] using this
theorem Rp.takenC_le {R:Rp} (h:R.good):R.takenC<=1023:=Vk List.countP_le_length h.few
theorem rootE_few (hf:∀e∈l,e.few):-1<=Zfo l/\Zfo l<65536:=by
 cases l with
 | nil=>exact⟨Int.le_refl _,by decide⟩
 | cons x r =>
  have:=hf x (Vi ..);exact⟨by have:=this.k0;show -1<=x.kid;omega,this.k1⟩
def sLen:Value->Nat
 | .slice _ n _=>n
 | _=>0
theorem topN_one {R:Rp} (a:R.good) (hl:∀e∈l,e.few) (h4:l.length<=4):(R.layL ⟨false,l⟩).1.1.length<=1/\(∀e∈(R.layL ⟨false,l⟩).1.1,e.few):=by have d:=Zeb l 0 hl;obtain⟨b,f⟩:=Zgt (l.length+1) R ⟨false,l⟩ a.few hl;exact⟨(Zdu (l.length+1) R ⟨false,l⟩ hl).1 (by unfold Nd.sum;dsimp only;omega),b⟩
theorem tgrow_any (bn:Chr fid caps K Cs c) (bG:∀(args:Array Value) (w:World),(callFunc fid args).run Tryz.prog w=.ok (.enter fid args) w) {w:World} {f:Pf} {R:Rp} (hT:Tr n J seq B w F p f R tb) (hC:Cs w) (hK:∀k,K k->¬PJ F p f k) (hr:-9223372036854775808<=R.root/\R.root<=9223372036854775807):
  Calls Tryz.prog 103 #[trp tb,.string ⟨key.toArray⟩,chV fid caps] w λe w'=>e=.returned (.int .i64 (R.growN c key).1)/\Qa n J seq B w F p f w' (R.growN c key).2 tb:=by
 obtain⟨X,hX⟩:∃X,X=R.growN c key:=⟨_,rfl⟩;rw[<-hX];have c0:w.cell? ⟨tb,0,none⟩=some (Qs f.q):=by rw[Vc _ _ _ _ _ _ hT.head];rfl
 have bU:=Hd (lp_root hT.lp);have HAN:=anew_all (n:=n) (J:=J) (seq:=seq) (B:=B) (F:=F) (p:=p) (tb:=tb) (key:=key) bn bG 41 (by omega) w f R R.root hT hC hK hr.1 hr.2;rw[show (41 - ((41:Nat):Int))=0 by decide] at HAN
 obtain⟨bo,bp,bj⟩:=Zhg bn.ok key 41 R.root hT.lp.good;obtain⟨Y,hY⟩:∃Y,Y=R.anewN c key 41 R.root:=⟨_,rfl⟩;rw[<-hY] at HAN bo bp bj;have HX:Hid (X=if Y.1.2≠0 then (Y.1.2,Y.2) else if (Y.2.topN 4 Y.1.1).1.2≠0 then ((Y.2.topN 4 Y.1.1).1.2,(Y.2.topN 4 Y.1.1).2) else if ((Y.2.topN 4 Y.1.1).2.setRoot (Zfo (Y.2.topN 4 Y.1.1).1.1)).1≠0 then (Y.2.topN 4 Y.1.1).2.setRoot (Zfo (Y.2.topN 4 Y.1.1).1.1) else ((Y.2.topN 4 Y.1.1).2.setRoot (Zfo (Y.2.topN 4 Y.1.1).1.1)).2.dropN 1024 (Zfo (Y.2.topN 4 Y.1.1).1.1)):=Hd (by rw[hX,Rp.growN,<-hY])
 have HA:=Hd HAN;have HT:=Hd hT;have HG:=Hd (And.intro bo bp);clear hX hY HAN hT hC hK hr bo bp bn bG;go_enter Tryz.func103,Tryz.ntmps103;go_wp2_with fail;refine bU.out.mono ?_;rintro e w1 ⟨rfl,e1⟩;obtain rfl:w=w1:=e1.symm;clear c0;go_wp2_with fail;refine HA.out.mono ?_;rintro e w2 ⟨v2,rfl,bq,bH⟩;have HM2:=Hd bq;have HT2:=Hd bH;obtain⟨a2,c2,bV,_,_⟩:=bq.isE.form;subst bV;obtain⟨N2,bk⟩:∃N2,N2=Y.1.1.length:=⟨_,rfl⟩;rw[<-bk] at bj;have HN2:=Hd bk;rw[<-bk];clear bq bH bk;obtain⟨T,hT⟩:∃T,T=Y.2.topN 4 Y.1.1:=⟨_,rfl⟩;rw[<-hT] at HX;have HTT:=Hd hT;clear hT;go_wp2_with fail;go_loopw [8,9] (λx y wr=>∃(q:Nat) (l:List En) (I:Rp) (v:Value) (eq:Int),x=v/\y=.int .i64 eq/\(∃a c,v=.slice a l.length c)/\Zq w.heap.size wr v l/\TrV n J seq B w F p f wr I tb v/\l.length<=q/\l.length<=4/\(∀e∈l,e.few)/\I.good/\(eq=0->I.topN q l=T/\Y.1.2=0)/\(eq≠0->(Y.1.2≠0/\eq=Y.1.2/\I=Y.2)\/(Y.1.2=0/\T.1.2=eq/\T.2=I))) (λx _ _=>sLen x)
 case atStart=>exact⟨4,Y.1.1,Y.2,.slice a2 Y.1.1.length c2,Y.1.2,by rw[HN2.out],rfl,⟨a2,c2,rfl⟩,HM2.out,HT2.out,by rw[<-HN2.out];exact bj,by rw[<-HN2.out];exact bj,HG.out.2,HG.out.1,λh=>⟨HTT.out.symm,h⟩,λh=>.inl ⟨h,rfl,rfl⟩⟩
 case round =>
  obtain⟨q,l,I,v,eq,rfl,rfl,⟨a,cc,rfl⟩,hm,ht,hq,h4,hf,hg,hz,br⟩:=hrel;have HM:=Hd hm
  have bl:=Hd ht;by_cases he:eq=0
  .subst he
   obtain⟨bI,bJ⟩:=hz rfl;have HZ:=Hd (And.intro bI bJ)
   clear hz bI bJ br;by_cases h1:1<l.length
   .obtain⟨f1,az,V,aO,aP,aR⟩:=bl.out
    have bK:=Hd (Zdm false az hm.isE (by omega) hf aR);have z:Hid (f1.q=f.q/\(∀k,PT f1 k->PT f k\/w.heap.size<=k)/\Zb (PJ F p f) w wr):=Hd ⟨V,aO,aP⟩;obtain⟨t1,t2⟩:=topN_one hg hf h4;obtain⟨Y9,aQ⟩:∃Y9,Y9=I.layL ⟨false,l⟩:=⟨_,rfl⟩;rw[<-aQ] at bK t1 t2;have bL:Rp.good Y9.2:=by rw[aQ];exact hg.layL _
    have bM:=Hd (And.intro bL (And.intro t2 aQ));obtain⟨q',rfl⟩:∃q',q=q'+1:=⟨q - 1,by omega⟩;have bW:Hid (Y9.1.2=0->Y9.2.topN q' Y9.1.1=T):=Hd λh=>by rw[<-HZ.out.1,Rp.topN,if_neg (by omega),<-aQ,if_neg (by omega)]
    have bN:Hid (Y9.1.2≠0->T=Y9):=Hd λh=>by rw[<-HZ.out.1,Rp.topN,if_neg (by omega),<-aQ,if_pos h]
    have hL:(1:Int)<(l.length:Int):=by omega
    have HQ:=Hd (And.intro hq h1);generalize bO:l.length=LL at *;have HLL:=Hd bO;clear hm ht az V aO aP aR hf hg t2 aQ bL bO hq h1;go_wp2_with fail;refine bK.out.mono ?_;rintro e w5 ⟨v5,rfl,W,ad⟩;have HM5:=Hd W;have HT5:=Hd ad;obtain⟨a5,c5,bX,_,_⟩:=W.isE.form;subst bX;obtain⟨N5,bm⟩:∃N5,N5=Y9.1.1.length:=⟨_,rfl⟩;rw[<-bm] at t1;have HN5:=Hd bm;rw[<-bm];clear W ad bm;go_wp2_with fail;go_roundw
    case rel=>exact⟨q',Y9.1.1,Y9.2,.slice a5 Y9.1.1.length c5,Y9.1.2,by rw[HN5.out],rfl,⟨a5,c5,rfl⟩,HM5.out.low z.out.2.2.size,TrV.then z.out.1 z.out.2.1 z.out.2.2 HT5.out,by rw[<-HN5.out];have:=HQ.out;omega,by rw[<-HN5.out];omega,bM.out.2.1,bM.out.1,λh=>⟨bW.out h,HZ.out.2⟩,λh=>.inr ⟨HZ.out.2,by rw[bN.out h],by rw[bN.out h]⟩⟩
    case measure =>
     show sLen (.slice a5 N5 c5)<sLen (.slice a LL cc)
     simp only[sLen];have:=HQ.out
     omega
   .have bs:T=((l,0),I):=by
     rw[<-HZ.out.1]
     cases q with
     | zero=>rfl
     | succ q=>rw[Rp.topN,if_pos (by omega)]
    have aS:Hid (X=if (I.setRoot (Zfo l)).1≠0 then I.setRoot (Zfo l) else (I.setRoot (Zfo l)).2.dropN 1024 (Zfo l)):=Hd (by
     rw[HX.out,if_neg (λh=>h HZ.out.2),bs,if_neg (λh=>h rfl)])
    obtain⟨f1,az,V,aO,aP,aR⟩:=bl.out;have HT1:=Hd az
    have z:Hid (f1.q=f.q/\(∀k,PT f1 k->PT f k\/w.heap.size<=k)/\Zb (PJ F p f) w wr):=Hd ⟨V,aO,aP⟩;have HG1:=Hd hg;have c1:wr.cell? ⟨tb,0,none⟩=some (Qs f.q):=by rw[<-V,Vc _ _ _ _ _ _ az.head];rfl
    obtain⟨bP,bQ⟩:=rootE_few hf;obtain⟨RT,aT⟩:∃RT,RT=Zfo l:=⟨_,rfl⟩;rw[<-aT] at aS bP bQ
    cases l with
    | nil =>
     have ae:RT=-1:=aT;clear bs az V aO aP aR hg hf hm ht aT bl HM h1;have HRT1:=Hd ae;have bR:(-1:Int)=RT:=ae.symm;clear ae;have HSR:=Hd (Zdv HT1.out.lp RT (by omega) (by omega));rw[z.out.1] at HSR;go_upto_region 10 with fail;rw[bR];clear bR;go_wp2_with fail;refine HSR.out.mono ?_;rintro e w4 ⟨rfl,ao⟩;obtain⟨f4,aU,aV,aW,aX⟩:=HT1.out.to ao;have HT4:=Hd aU
     have O:Hid (f4.q=f.q/\(∀k,PT f4 k->PT f k\/w.heap.size<=k)/\Zb (PJ F p f) w w4):=Hd ⟨aV.trans z.out.1,λk h=>(aW k h).elim (z.out.2.1 k) λe=>.inr (by have:=z.out.2.2.size;omega),z.out.2.2.then aX λi hi e=>by
      rcases e with e | e
      .exact .inl e
      .rcases z.out.2.1 i e with e | e
       .exact .inr e
       .omega⟩
     clear ao aU aV aW aX;by_cases hs:(I.setRoot RT).1=0
     .have hz:((I.setRoot RT).1 != 0)=false:=by rw[hs];rfl
      obtain⟨L,aA⟩:∃L,L=(I.setRoot RT).2.dropN 1024 RT:=⟨_,rfl⟩;have P:Hid (X=L):=Hd (by rw[aS.out,if_neg (λh=>h hs),aA])
      have aY:=Hd aA;have bt:Hid (Rp.takenC (I.setRoot RT).2<1024):=Hd (by have:=Rp.takenC_le (HG1.out.setRoot RT);omega);have HGS:=Hd (HG1.out.setRoot RT);clear aA;generalize (I.setRoot RT).2=RS at *;generalize (I.setRoot RT).1=ES at *;go_wp2_with fail;go_loopg [10] 1024 (λk x wr=>∃(d:Int) (g:Rp) (f':Pf),x=.int .i64 d/\-1<=d/\d<65536/\g.dropN k d=L/\Tr n J seq B wr F p f' g tb/\f'.q=f.q/\(∀k,PT f' k->PT f k\/w.heap.size<=k)/\Zb (PJ F p f) w wr/\g.takenC<k/\g.good)
      case atStart=>exact⟨RT,RS,f4,rfl,by omega,by omega,aY.out.symm,HT4.out,O.out.1,O.out.2.1,O.out.2.2,bt.out,HGS.out⟩
      case round =>
       obtain⟨d,g,f',rfl,bY,bZ,Z,af,aB,aC,aD,ag,aE⟩:=hrel;obtain⟨k',aF⟩:∃k',gk=k'+1:=⟨gk - 1,by omega⟩;rw[aF] at Z ag;have HGK:=Hd aF
       clear aF;have HDR:=Hd Z
       have aZ:=Hd af;have s:Hid (f'.q=f.q/\(∀k,PT f' k->PT f k\/w.heap.size<=k)/\Zb (PJ F p f) w wr):=Hd ⟨aB,aC,aD⟩;have HTC':=Hd ag;have HG':=Hd aE;by_cases M:d<0
       .have j:Hid (L=(0,g)):=Hd (by rw[<-Z,Rp.dropN,if_pos M])
        have A:Hid (Qa n J seq B w F p f wr g tb):=Hd ⟨f',aZ.out,s.out.1,s.out.2.1,s.out.2.2⟩;have hd:¬(0:Int)<=d:=by omega
        clear Z af aB aC aD ag aE M;go_wp2_with fail;rw[P.out,j.out];go_ret;exact⟨rfl,A.out⟩
       .have hd:(0:Int)<=d:=by omega
        have aG:=Hd (Zep af d (by omega) (by omega));have b0:Hid (¬d<0):=Hd M;clear Z af aB aC aD ag aE M;go_wp2_with fail;refine aG.out.mono ?_;rintro e w5 ⟨lf,va,vk,vc,rfl,a0,ad,a1⟩;obtain⟨Q,C,aH⟩:=nd_box w5 lf (.slice va vk vc);obtain⟨B5,ah⟩:∃B5,B5=w5.alloc (.cells #[.bool lf,.slice va vk vc] 174):=⟨_,rfl⟩;rw[<-ah] at Q C aH;have HW5:=Hd ah;have hTB5:=a0.step Q
        have N:Zb (PJ F p f) w B5:=s.out.2.2.then (ad.trans (Zb.of_below Q)) λi hi e=>by
         rcases e with e | e
         .exact .inl e
         .rcases s.out.2.1 i e with e | e
          .exact .inr e
          .omega
        have a3:=Hd hTB5;have HTT5:=Hd N;have a4:Hid (Qa n J seq B w F p f B5 g tb):=Hd ⟨f',hTB5,s.out.1,s.out.2.1,N⟩
        cases G:(g.load d).1 with
        | none =>
         have b1:=Rp.load_none G;have bS:((g.load d).2 != 0)=true:=by rw[bne_iff_ne];exact b1
         have j:Hid (L=((g.load d).2,g)):=Hd (by
          obtain⟨E,hh,hE⟩:∃E,g.load d=(none,E)/\E=(g.load d).2:=⟨_,by rw[<-G],rfl⟩
          rw[<-HDR.out,Rp.dropN,if_neg (by have:=b0.out;omega),<-hE,hh])
         clear a0 ad a1 Q C aH ah G b1 hTB5 N aG;go_wp2_with fail;rw[<-HW5.out,P.out,j.out];go_ret;exact⟨rfl,a4.out⟩
        | some m =>
         obtain⟨a6,W⟩:=a1 m G;obtain⟨a7,ai⟩:=a0.lp.load_fit G;obtain⟨D,bT⟩:=a7.len;have HFIT:=Hd a7
         have a8:=Hd a6;have HM5:=Hd (W.below Q);have bu:vk=m.l.length:=by obtain⟨_,_,e,_⟩:=W.isE.form;simp only[Value.slice.injEq] at e;exact e.2.1
         subst bu;have c3:((g.load d).2 != 0)=false:=by rw[ai];rfl
         have bw:Hid (g.load d=(some m,0)):=Hd (by rw[<-G,<-ai])
         have aI:Hid (L=if m.leaf=true\/1<m.l.length then (0,g) else if (g.setRoot (Zn m.l 0)).1≠0 then g.setRoot (Zn m.l 0) else if ((g.setRoot (Zn m.l 0)).2.free d).1≠0 then (g.setRoot (Zn m.l 0)).2.free d else ((g.setRoot (Zn m.l 0)).2.free d).2.dropN k' (Zn m.l 0)):=Hd (by
          rw[<-HDR.out,Rp.dropN,if_neg (by have:=b0.out;omega),bw.out])
         have a9:=Hd C;obtain⟨m0,m1⟩:=Zd C;rw[ai];have b2:Hid (∀k,w5.heap.size=k->¬PJ F p f' k):=Hd λk h e=>by have:=a0.lp.lt e;omega
         clear a0 ad a1 Q C aH ah G W a7 a6 ai hTB5 N aG
         cases lf with
         | true =>
          have j:Hid (L=(0,g)):=Hd (by rw[aI.out,if_pos (.inl a8.out)]);go_upto_region 15 with fail;rw[<-HW5.out];go_wp2_with fail;rw[P.out,j.out];go_ret;exact⟨rfl,a4.out⟩
         | false =>
          by_cases aJ:1<m.l.length
          .have j:Hid (L=(0,g)):=Hd (by rw[aI.out,if_pos (.inr aJ)])
           have V:(1:Int)<(m.l.length:Int):=by omega
           go_upto_region 15 with fail;rw[<-HW5.out];go_wp2_with fail;rw[P.out,j.out];go_ret;exact⟨rfl,a4.out⟩
          .have V:¬(1:Int)<(m.l.length:Int):=by omega
           have aK:Hid (L=if (g.setRoot (Zn m.l 0)).1≠0 then g.setRoot (Zn m.l 0) else if ((g.setRoot (Zn m.l 0)).2.free d).1≠0 then (g.setRoot (Zn m.l 0)).2.free d else ((g.setRoot (Zn m.l 0)).2.free d).2.dropN k' (Zn m.l 0)):=Hd (by
            rw[aI.out,if_neg (by
             rintro(e | e)
             .rw[a8.out] at e;cases e
             .exact aJ e)])
           have bx:=Zfg HFIT.out.few 0;obtain⟨u,aj⟩:∃u,u=Zn m.l 0:=⟨_,rfl⟩;rw[<-aj] at aK bx;have HKD:=Hd aj;obtain⟨bb,oo,b3,x0,x1,x2⟩:=HM5.out.isE.at 0 D;have ap:m.l[0].kid=u:=by rw[aj,Zn,List.getElem?_eq_getElem D];rfl
           rw[ap,Nat.zero_mul,Nat.add_zero] at x2;subst b3;have q0:(0:Int)<(m.l.length:Int):=by omega
           have aa:=Hd (Zdv (a3.out.step (Ve _ _).drew).lp u (by omega) (by omega));rw[s.out.1] at aa
           have t0:B5.drew.cell? ⟨tb,0,none⟩=some (Qs f.q):=by
            rw[<-s.out.1];show B5.cell? _=_
            rw[Vc _ _ _ _ _ _ a3.out.head];rfl
           have bz:B5.drew.cell? ⟨w5.heap.size,1,none⟩=some (.slice (some ⟨bb,oo,none⟩) m.l.length vc):=m1;have bA:B5.drew.cell? ⟨bb,oo+2,none⟩=some (.int .i64 u):=x2;clear aj ap x0 x1 aJ;go_upto_region 15 with fail;rw[<-HW5.out];go_upto_region 17 with fail;clear m0 m1 x2;go_region_with (go_at_call 102;refine aa.out.mono ?_;clear aa;rintro e w6 ⟨rfl,aq⟩;have HTO6:=Hd aq;clear aq)
           all_goals
            obtain⟨f6,ak,b4,al,am⟩:=(a3.out.step (Ve _ _).drew).to HTO6.out
            have b5:=Hd ak
            have t:Hid (f6.q=f.q/\(∀k,PT f6 k->PT f k\/w.heap.size<=k)/\Zb (PJ F p f) w w6):=Hd ⟨b4.trans s.out.1,λk h=>(al k h).elim (s.out.2.1 k) λe=>.inr (by have:=HTT5.out.size;have h9:B5.drew.heap.size=B5.heap.size:=rfl;omega),HTT5.out.then am.undrew λi hi e=>by
             rcases e with e | e
             .exact .inl e
             .rcases s.out.2.1 i e with e | e
              .exact .inr e
              .omega⟩
            have ab:=(am.block _ (Za a9.out) (b2.out _ rfl)).trans a9.out
            have aL:¬PJ F p f' bb:=λe=>by have:=aZ.out.lp.lt e;have:=(HM5.out.lt (k:=bb) rfl).1;omega
            have aM:=HM5.out.keep1 (w':=w6) λk hk=>by
             have aN:bb=k:=by simpa [Value.ownBlock] using hk
             subst aN;exact am.block _ (HM5.out.lt (k:=bb) rfl).2 aL
            obtain⟨b6,o6,ar,_,_,y2⟩:=aM.isE.at 0 D
            simp only[Option.some.injEq,Addr.mk.injEq,and_true] at ar
            obtain⟨rfl,rfl⟩:=ar
            obtain⟨m0,m1⟩:=Zd ab
            have c6:w6.cell? ⟨tb,0,none⟩=some (Qs f.q):=by rw[<-t.out.1,Vc _ _ _ _ _ _ ak.head];rfl
            have b8:=Hd aM
            have au:=Hd ab
            have bB:=Hd (Xk (w:=B5.drew) al aL (HM5.out.lt (k:=bb) rfl).2)
            have b9:=Hd (Xk (w:=B5.drew) al (b2.out _ rfl) (Za a9.out))
            have ba:=Hd (Zga ak.lp d (by omega) (by omega))
            rw[t.out.1] at ba
            have bc:Hid (Rp.takenC (g.setRoot u).2<k'+1):=Hd (by rw[Rp.takenC_setRoot];exact HTC'.out)
            have bC:=Hd (HG'.out.setRoot u)
            clear ak b4 al am ab aM aL bz bA t0 y2
            by_cases S:(g.setRoot u).1=0
            .have bD:((g.setRoot u).1 != 0)=false:=by rw[S];rfl
             have bd:Hid (L=if ((g.setRoot u).2.free d).1≠0 then (g.setRoot u).2.free d else ((g.setRoot u).2.free d).2.dropN k' u):=Hd (by rw[aK.out,if_neg (λh=>h S)])
             clear S;generalize (g.setRoot u).2=RA at *;generalize (g.setRoot u).1=EA at *;go_wp2_with fail;refine ba.out.mono ?_;rintro e w7 ⟨rfl,av⟩;obtain⟨f7,be,bf,bg,an⟩:=b5.out.to av;have HT7:=Hd be
             have U:Hid (f7.q=f.q/\(∀k,PT f7 k->PT f k\/w.heap.size<=k)/\Zb (PJ F p f) w w7):=Hd ⟨bf.trans t.out.1,λk h=>(bg k h).elim (t.out.2.1 k) λe=>.inr (by have:=t.out.2.2.size;omega),t.out.2.2.then an λi hi e=>by
              rcases e with e | e
              .exact .inl e
              .rcases t.out.2.1 i e with e | e
               .exact .inr e
               .omega⟩
             have aw:=(an.block _ (Za au.out) b9.out).trans au.out
             have bh:=b8.out.keep1 (w':=w7) λk hk=>by
              have aN:bb=k:=by simpa [Value.ownBlock] using hk
              subst aN;exact an.block _ (b8.out.lt (k:=bb) rfl).2 bB.out
             obtain⟨b7,o7,ax,_,_,z2⟩:=bh.isE.at 0 D;simp only[Option.some.injEq,Addr.mk.injEq,and_true] at ax;obtain⟨rfl,rfl⟩:=ax;have ay:(Zn m.l 0)=m.l[0].kid:=by rw[Zn,List.getElem?_eq_getElem D];rfl
             rw[<-ay,<-HKD.out,Nat.zero_mul,Nat.add_zero] at z2;have n1:=(Zd aw).2
             clear av be bf bg an aw bh ay m0 m1 c6;by_cases H:(RA.free d).1=0
             .have bE:((RA.free d).1 != 0)=false:=by rw[H];rfl
              have bF:Hid ((RA.free d).2.dropN k' u=L):=Hd (by rw[bd.out,if_neg (λh=>h H)]);have bi:Hid (Rp.takenC (RA.free d).2<k'):=Hd (by have:=Rp.takenC_free RA d H;have:=bc.out;omega);have HG7:=Hd (bC.out.free d);clear H;go_wp2_with fail;go_roundg k'
              case measure=>have:=HGK.out;omega
              case rel=>exact⟨u,(RA.free d).2,f7,rfl,by omega,by omega,bF.out,HT7.out,U.out.1,U.out.2.1,U.out.2.2,bi.out,HG7.out⟩
             .have bE:((RA.free d).1 != 0)=true:=by rw[bne_iff_ne];exact H
              have j:Hid (L=RA.free d):=Hd (by rw[bd.out,if_pos H]);have A:Hid (Qa n J seq B w F p f w7 (RA.free d).2 tb):=Hd ⟨f7,HT7.out,U.out.1,U.out.2.1,U.out.2.2⟩;clear H;go_wp2_with fail;rw[P.out,j.out];go_ret;exact⟨rfl,A.out⟩
            .have bD:((g.setRoot u).1 != 0)=true:=by rw[bne_iff_ne];exact S
             have j:Hid (L=g.setRoot u):=Hd (by rw[aK.out,if_pos S]);have A:Hid (Qa n J seq B w F p f w6 (g.setRoot u).2 tb):=Hd ⟨f6,b5.out,t.out.1,t.out.2.1,t.out.2.2⟩;clear S;go_wp2_with fail;rw[P.out,j.out];go_ret;exact⟨rfl,A.out⟩
     .have hz:((I.setRoot RT).1 != 0)=true:=by rw[bne_iff_ne];exact hs
      have j:Hid (X=I.setRoot RT):=Hd (by rw[aS.out,if_pos hs]);clear hs;have A:Hid (Qa n J seq B w F p f w4 (I.setRoot RT).2 tb):=Hd ⟨f4,HT4.out,O.out.1,O.out.2.1,O.out.2.2⟩;go_wp2_with fail;rw[j.out];go_ret;exact⟨rfl,A.out⟩
    | cons x r =>
     have hr:r=[]:=by simpa using h1
     subst hr;obtain⟨b,o,b3,d0,d1,d2⟩:=HM.out.isE.at 0 (by simp);subst b3;have ae:RT=x.kid:=aT
     simp only[Nat.zero_mul,Nat.add_zero,List.getElem_cons_zero] at d2;rw[<-ae] at d2;clear bs az V aO aP aR hg hf hm ht aT bl HM h1 d0 d1 ae;have HSR:=Hd (Zdv HT1.out.lp RT (by omega) (by omega))
     rw[z.out.1] at HSR;go_wp2_with fail;refine HSR.out.mono ?_;rintro e w4 ⟨rfl,ao⟩;obtain⟨f4,aU,aV,aW,aX⟩:=HT1.out.to ao;have HT4:=Hd aU
     have O:Hid (f4.q=f.q/\(∀k,PT f4 k->PT f k\/w.heap.size<=k)/\Zb (PJ F p f) w w4):=Hd ⟨aV.trans z.out.1,λk h=>(aW k h).elim (z.out.2.1 k) λe=>.inr (by have:=z.out.2.2.size;omega),z.out.2.2.then aX λi hi e=>by
      rcases e with e | e
      .exact .inl e
      .rcases z.out.2.1 i e with e | e
       .exact .inr e
       .omega⟩
     clear ao aU aV aW aX;by_cases hs:(I.setRoot RT).1=0
     .have hz:((I.setRoot RT).1 != 0)=false:=by rw[hs];rfl
      obtain⟨L,aA⟩:∃L,L=(I.setRoot RT).2.dropN 1024 RT:=⟨_,rfl⟩;have P:Hid (X=L):=Hd (by rw[aS.out,if_neg (λh=>h hs),aA])
      have aY:=Hd aA;have bt:Hid (Rp.takenC (I.setRoot RT).2<1024):=Hd (by have:=Rp.takenC_le (HG1.out.setRoot RT);omega);have HGS:=Hd (HG1.out.setRoot RT);clear aA;generalize (I.setRoot RT).2=RS at *;generalize (I.setRoot RT).1=ES at *;go_wp2_with fail;go_loopg [10] 1024 (λk x wr=>∃(d:Int) (g:Rp) (f':Pf),x=.int .i64 d/\-1<=d/\d<65536/\g.dropN k d=L/\Tr n J seq B wr F p f' g tb/\f'.q=f.q/\(∀k,PT f' k->PT f k\/w.heap.size<=k)/\Zb (PJ F p f) w wr/\g.takenC<k/\g.good)
      case atStart=>exact⟨RT,RS,f4,rfl,by omega,by omega,aY.out.symm,HT4.out,O.out.1,O.out.2.1,O.out.2.2,bt.out,HGS.out⟩
      case round =>
       obtain⟨d,g,f',rfl,bY,bZ,Z,af,aB,aC,aD,ag,aE⟩:=hrel;obtain⟨k',aF⟩:∃k',gk=k'+1:=⟨gk - 1,by omega⟩;rw[aF] at Z ag;have HGK:=Hd aF
       clear aF;have HDR:=Hd Z
       have aZ:=Hd af;have s:Hid (f'.q=f.q/\(∀k,PT f' k->PT f k\/w.heap.size<=k)/\Zb (PJ F p f) w wr):=Hd ⟨aB,aC,aD⟩;have HTC':=Hd ag;have HG':=Hd aE;by_cases M:d<0
       .have j:Hid (L=(0,g)):=Hd (by rw[<-Z,Rp.dropN,if_pos M])
        have A:Hid (Qa n J seq B w F p f wr g tb):=Hd ⟨f',aZ.out,s.out.1,s.out.2.1,s.out.2.2⟩;have hd:¬(0:Int)<=d:=by omega
        clear Z af aB aC aD ag aE M;go_wp2_with fail;rw[P.out,j.out];go_ret;exact⟨rfl,A.out⟩
       .have hd:(0:Int)<=d:=by omega
        have aG:=Hd (Zep af d (by omega) (by omega));have b0:Hid (¬d<0):=Hd M;clear Z af aB aC aD ag aE M;go_wp2_with fail;refine aG.out.mono ?_;rintro e w5 ⟨lf,va,vk,vc,rfl,a0,ad,a1⟩;obtain⟨Q,C,aH⟩:=nd_box w5 lf (.slice va vk vc);obtain⟨B5,ah⟩:∃B5,B5=w5.alloc (.cells #[.bool lf,.slice va vk vc] 174):=⟨_,rfl⟩;rw[<-ah] at Q C aH;have HW5:=Hd ah;have hTB5:=a0.step Q
        have N:Zb (PJ F p f) w B5:=s.out.2.2.then (ad.trans (Zb.of_below Q)) λi hi e=>by
         rcases e with e | e
         .exact .inl e
         .rcases s.out.2.1 i e with e | e
          .exact .inr e
          .omega
        have a3:=Hd hTB5;have HTT5:=Hd N;have a4:Hid (Qa n J seq B w F p f B5 g tb):=Hd ⟨f',hTB5,s.out.1,s.out.2.1,N⟩
        cases G:(g.load d).1 with
        | none =>
         have b1:=Rp.load_none G;have bS:((g.load d).2 != 0)=true:=by rw[bne_iff_ne];exact b1
         have j:Hid (L=((g.load d).2,g)):=Hd (by
          obtain⟨E,hh,hE⟩:∃E,g.load d=(none,E)/\E=(g.load d).2:=⟨_,by rw[<-G],rfl⟩
          rw[<-HDR.out,Rp.dropN,if_neg (by have:=b0.out;omega),<-hE,hh])
         clear a0 ad a1 Q C aH ah G b1 hTB5 N aG;go_wp2_with fail;rw[<-HW5.out,P.out,j.out];go_ret;exact⟨rfl,a4.out⟩
        | some m =>
         obtain⟨a6,W⟩:=a1 m G;obtain⟨a7,ai⟩:=a0.lp.load_fit G;obtain⟨D,bT⟩:=a7.len;have HFIT:=Hd a7
         have a8:=Hd a6;have HM5:=Hd (W.below Q);have bu:vk=m.l.length:=by obtain⟨_,_,e,_⟩:=W.isE.form;simp only[Value.slice.injEq] at e;exact e.2.1
         subst bu;have c3:((g.load d).2 != 0)=false:=by rw[ai];rfl
         have bw:Hid (g.load d=(some m,0)):=Hd (by rw[<-G,<-ai])
         have aI:Hid (L=if m.leaf=true\/1<m.l.length then (0,g) else if (g.setRoot (Zn m.l 0)).1≠0 then g.setRoot (Zn m.l 0) else if ((g.setRoot (Zn m.l 0)).2.free d).1≠0 then (g.setRoot (Zn m.l 0)).2.free d else ((g.setRoot (Zn m.l 0)).2.free d).2.dropN k' (Zn m.l 0)):=Hd (by
          rw[<-HDR.out,Rp.dropN,if_neg (by have:=b0.out;omega),bw.out])
         have a9:=Hd C;obtain⟨m0,m1⟩:=Zd C;rw[ai];have b2:Hid (∀k,w5.heap.size=k->¬PJ F p f' k):=Hd λk h e=>by have:=a0.lp.lt e;omega
         clear a0 ad a1 Q C aH ah G W a7 a6 ai hTB5 N aG
         cases lf with
         | true =>
          have j:Hid (L=(0,g)):=Hd (by rw[aI.out,if_pos (.inl a8.out)]);go_upto_region 15 with fail;rw[<-HW5.out];go_wp2_with fail;rw[P.out,j.out];go_ret;exact⟨rfl,a4.out⟩
         | false =>
          by_cases aJ:1<m.l.length
          .have j:Hid (L=(0,g)):=Hd (by rw[aI.out,if_pos (.inr aJ)])
           have V:(1:Int)<(m.l.length:Int):=by omega
           go_upto_region 15 with fail;rw[<-HW5.out];go_wp2_with fail;rw[P.out,j.out];go_ret;exact⟨rfl,a4.out⟩
          .have V:¬(1:Int)<(m.l.length:Int):=by omega
           have aK:Hid (L=if (g.setRoot (Zn m.l 0)).1≠0 then g.setRoot (Zn m.l 0) else if ((g.setRoot (Zn m.l 0)).2.free d).1≠0 then (g.setRoot (Zn m.l 0)).2.free d else ((g.setRoot (Zn m.l 0)).2.free d).2.dropN k' (Zn m.l 0)):=Hd (by
            rw[aI.out,if_neg (by
             rintro(e | e)
             .rw[a8.out] at e;cases e
             .exact aJ e)])
           have bx:=Zfg HFIT.out.few 0;obtain⟨u,aj⟩:∃u,u=Zn m.l 0:=⟨_,rfl⟩;rw[<-aj] at aK bx;have HKD:=Hd aj;obtain⟨bb,oo,b3,x0,x1,x2⟩:=HM5.out.isE.at 0 D;have ap:m.l[0].kid=u:=by rw[aj,Zn,List.getElem?_eq_getElem D];rfl
           rw[ap,Nat.zero_mul,Nat.add_zero] at x2;subst b3;have q0:(0:Int)<(m.l.length:Int):=by omega
           have aa:=Hd (Zdv (a3.out.step (Ve _ _).drew).lp u (by omega) (by omega));rw[s.out.1] at aa
           have t0:B5.drew.cell? ⟨tb,0,none⟩=some (Qs f.q):=by
            rw[<-s.out.1];show B5.cell? _=_
            rw[Vc _ _ _ _ _ _ a3.out.head];rfl
           have bz:B5.drew.cell? ⟨w5.heap.size,1,none⟩=some (.slice (some ⟨bb,oo,none⟩) m.l.length vc):=m1;have bA:B5.drew.cell? ⟨bb,oo+2,none⟩=some (.int .i64 u):=x2;clear aj ap x0 x1 aJ;go_upto_region 15 with fail;rw[<-HW5.out];go_upto_region 17 with fail;clear m0 m1 x2;go_region_with (go_at_call 102;refine aa.out.mono ?_;clear aa;rintro e w6 ⟨rfl,aq⟩;have HTO6:=Hd aq;clear aq)
           all_goals
            obtain⟨f6,ak,b4,al,am⟩:=(a3.out.step (Ve _ _).drew).to HTO6.out
            have b5:=Hd ak
            have t:Hid (f6.q=f.q/\(∀k,PT f6 k->PT f k\/w.heap.size<=k)/\Zb (PJ F p f) w w6):=Hd ⟨b4.trans s.out.1,λk h=>(al k h).elim (s.out.2.1 k) λe=>.inr (by have:=HTT5.out.size;have h9:B5.drew.heap.size=B5.heap.size:=rfl;omega),HTT5.out.then am.undrew λi hi e=>by
             rcases e with e | e
             .exact .inl e
             .rcases s.out.2.1 i e with e | e
              .exact .inr e
              .omega⟩
            have ab:=(am.block _ (Za a9.out) (b2.out _ rfl)).trans a9.out
            have aL:¬PJ F p f' bb:=λe=>by have:=aZ.out.lp.lt e;have:=(HM5.out.lt (k:=bb) rfl).1;omega
            have aM:=HM5.out.keep1 (w':=w6) λk hk=>by
             have aN:bb=k:=by simpa [Value.ownBlock] using hk
             subst aN;exact am.block _ (HM5.out.lt (k:=bb) rfl).2 aL
            obtain⟨b6,o6,ar,_,_,y2⟩:=aM.isE.at 0 D
            simp only[Option.some.injEq,Addr.mk.injEq,and_true] at ar
            obtain⟨rfl,rfl⟩:=ar
            obtain⟨m0,m1⟩:=Zd ab
            have c6:w6.cell? ⟨tb,0,none⟩=some (Qs f.q):=by rw[<-t.out.1,Vc _ _ _ _ _ _ ak.head];rfl
            have b8:=Hd aM
            have au:=Hd ab
            have bB:=Hd (Xk (w:=B5.drew) al aL (HM5.out.lt (k:=bb) rfl).2)
            have b9:=Hd (Xk (w:=B5.drew) al (b2.out _ rfl) (Za a9.out))
            have ba:=Hd (Zga ak.lp d (by omega) (by omega))
            rw[t.out.1] at ba
            have bc:Hid (Rp.takenC (g.setRoot u).2<k'+1):=Hd (by rw[Rp.takenC_setRoot];exact HTC'.out)
            have bC:=Hd (HG'.out.setRoot u)
            clear ak b4 al am ab aM aL bz bA t0 y2
            by_cases S:(g.setRoot u).1=0
            .have bD:((g.setRoot u).1 != 0)=false:=by rw[S];rfl
             have bd:Hid (L=if ((g.setRoot u).2.free d).1≠0 then (g.setRoot u).2.free d else ((g.setRoot u).2.free d).2.dropN k' u):=Hd (by rw[aK.out,if_neg (λh=>h S)])
             clear S;generalize (g.setRoot u).2=RA at *;generalize (g.setRoot u).1=EA at *;go_wp2_with fail;refine ba.out.mono ?_;rintro e w7 ⟨rfl,av⟩;obtain⟨f7,be,bf,bg,an⟩:=b5.out.to av;have HT7:=Hd be
             have U:Hid (f7.q=f.q/\(∀k,PT f7 k->PT f k\/w.heap.size<=k)/\Zb (PJ F p f) w w7):=Hd ⟨bf.trans t.out.1,λk h=>(bg k h).elim (t.out.2.1 k) λe=>.inr (by have:=t.out.2.2.size;omega),t.out.2.2.then an λi hi e=>by
              rcases e with e | e
              .exact .inl e
              .rcases t.out.2.1 i e with e | e
               .exact .inr e
               .omega⟩
             have aw:=(an.block _ (Za au.out) b9.out).trans au.out
             have bh:=b8.out.keep1 (w':=w7) λk hk=>by
              have aN:bb=k:=by simpa [Value.ownBlock] using hk
              subst aN;exact an.block _ (b8.out.lt (k:=bb) rfl).2 bB.out
             obtain⟨b7,o7,ax,_,_,z2⟩:=bh.isE.at 0 D;simp only[Option.some.injEq,Addr.mk.injEq,and_true] at ax;obtain⟨rfl,rfl⟩:=ax;have ay:(Zn m.l 0)=m.l[0].kid:=by rw[Zn,List.getElem?_eq_getElem D];rfl
             rw[<-ay,<-HKD.out,Nat.zero_mul,Nat.add_zero] at z2;have n1:=(Zd aw).2
             clear av be bf bg an aw bh ay m0 m1 c6;by_cases H:(RA.free d).1=0
             .have bE:((RA.free d).1 != 0)=false:=by rw[H];rfl
              have bF:Hid ((RA.free d).2.dropN k' u=L):=Hd (by rw[bd.out,if_neg (λh=>h H)]);have bi:Hid (Rp.takenC (RA.free d).2<k'):=Hd (by have:=Rp.takenC_free RA d H;have:=bc.out;omega);have HG7:=Hd (bC.out.free d);clear H;go_wp2_with fail;go_roundg k'
              case measure=>have:=HGK.out;omega
              case rel=>exact⟨u,(RA.free d).2,f7,rfl,by omega,by omega,bF.out,HT7.out,U.out.1,U.out.2.1,U.out.2.2,bi.out,HG7.out⟩
             .have bE:((RA.free d).1 != 0)=true:=by rw[bne_iff_ne];exact H
              have j:Hid (L=RA.free d):=Hd (by rw[bd.out,if_pos H]);have A:Hid (Qa n J seq B w F p f w7 (RA.free d).2 tb):=Hd ⟨f7,HT7.out,U.out.1,U.out.2.1,U.out.2.2⟩;clear H;go_wp2_with fail;rw[P.out,j.out];go_ret;exact⟨rfl,A.out⟩
            .have bD:((g.setRoot u).1 != 0)=true:=by rw[bne_iff_ne];exact S
             have j:Hid (L=g.setRoot u):=Hd (by rw[aK.out,if_pos S]);have A:Hid (Qa n J seq B w F p f w6 (g.setRoot u).2 tb):=Hd ⟨f6,b5.out,t.out.1,t.out.2.1,t.out.2.2⟩;clear S;go_wp2_with fail;rw[P.out,j.out];go_ret;exact⟨rfl,A.out⟩
     .have hz:((I.setRoot RT).1 != 0)=true:=by rw[bne_iff_ne];exact hs
      have j:Hid (X=I.setRoot RT):=Hd (by rw[aS.out,if_pos hs]);clear hs;have A:Hid (Qa n J seq B w F p f w4 (I.setRoot RT).2 tb):=Hd ⟨f4,HT4.out,O.out.1,O.out.2.1,O.out.2.2⟩;go_wp2_with fail;rw[j.out];go_ret;exact⟨rfl,A.out⟩
  .have hnz':=br he
   have c4:(eq==0)=false:=by rw[beq_eq_false_iff_ne];exact he
   have c7:(eq != 0)=true:=by rw[bne_iff_ne];exact he
   have j:Hid (X=(eq,I)):=Hd (by
    rcases hnz' with ⟨h1,h2,h3⟩ | ⟨h1,h2,h3⟩
    .rw[HX.out,if_pos h1,h2,h3]
    .rw[HX.out,if_neg (λh=>h h1),if_pos (by rw[h2];exact he),h2,h3])
   have A:=Hd ht.to;clear hm ht hz br hnz' he hf hg;generalize l.length=LL at *;go_wp2_with fail;rw[j.out];go_ret;exact⟨rfl,A.out⟩
end
end
section
open Go.RowKit
def Zan (key val:List UInt8):Int:=if 80<key.length then 100 else if 200<val.length then 101 else 0
def Rp.get (R:Rp) (key:List UInt8):(List UInt8 × Bool) × Int:=if 80<key.length then (([],false),100) else R.getN key 40 R.root
theorem tfails_any (w:World) (tb:Nat) (key val:List UInt8) (h1:key.length<=9223372036854775807) (h2:val.length<=9223372036854775807) :
  Calls Tryz.prog 86 #[trp tb,.string ⟨key.toArray⟩,.string ⟨val.toArray⟩] w λe f=>e=.returned (.int .i64 (Zan key val))/\f=w:=by
 by_cases b:80<key.length
 .have a:Zan key val=100:=by rw[Zan,if_pos b]
  rw[a];have g:decide ((key.length:Int) > 80)=true:=Vd (by omega)
  clear a;go_enter Tryz.func86,Tryz.ntmps86;go_wp2_with fail;go_ret;exact⟨rfl,rfl⟩
 .have g:decide ((key.length:Int) > 80)=false:=Vb (by omega)
  by_cases d:200<val.length
  .have a:Zan key val=101:=by rw[Zan,if_neg b,if_pos d]
   rw[a];have c:decide ((val.length:Int) > 200)=true:=Vd (by omega)
   clear a;go_enter Tryz.func86,Tryz.ntmps86;go_wp2_with fail;go_ret;exact⟨rfl,rfl⟩
  .have a:Zan key val=0:=by rw[Zan,if_neg b,if_neg d]
   rw[a];have c:decide ((val.length:Int) > 200)=false:=Vb (by omega)
   clear a;go_enter Tryz.func86,Tryz.ntmps86;go_wp2_with fail;go_ret;exact⟨rfl,rfl⟩
section
variable {n : Nat} {J : Jn} {seq : Int} {B : List (List UInt8)} {F : Ft} {p : Nat} {tb : Nat}
def GetEnd (n:Nat) (J:Jn) (seq:Int) (B:List (List UInt8)) (w:World) (F:Ft) (p:Nat) (f:Pf) (R:Rp) (tb:Nat) (X:(List UInt8 × Bool) × Int) (e:Ending) (w':World):Prop:=e=.returned (.tuple #[.string ⟨X.1.1.toArray⟩,.bool X.1.2,.int .i64 X.2])/\Tr n J seq B w' F p f R tb/\Zb (PJ F p f) w w'
theorem tget_any {w:World} {f:Pf} {R:Rp} (h:Tr n J seq B w F p f R tb) (key:List UInt8) (hk:key.length<=9223372036854775807) (hr:-9223372036854775808<=R.root/\R.root<=9223372036854775807) :
  Calls Tryz.prog 52 #[trp tb,.string ⟨key.toArray⟩] w (GetEnd n J seq B w F p f R tb (R.get key)):=by
 have r:=Hd (tfails_any w tb key [] hk (by simp));have Z:w.cell? ⟨tb,0,none⟩=some (Qs f.q):=by rw[Vc _ _ _ _ _ _ h.head];rfl
 have a0:=Hd (lp_root h.lp);have H:=Hd h;obtain⟨X,A⟩:∃X,X=R.get key:=⟨_,rfl⟩;rw[<-A];by_cases k1:80<key.length
 .have Q:Zan key []=100:=by rw[Zan,if_pos k1]
  rw[Q] at r;have HX:Hid (X=(([],false),100)):=Hd (by rw[A,Rp.get,if_pos k1])
  have m:Hid (GetEnd n J seq B w F p f R tb (([],false),100) (.returned (.tuple #[.string ⟨#[]⟩,.bool false,.int .i64 100])) w):=Hd ⟨rfl,h,Zb.refl _ _⟩;clear h A Q hr;rw[HX.out];go_enter Tryz.func52,Tryz.ntmps52;go_wp2_with fail;refine r.out.mono ?_;rintro e S ⟨rfl,T⟩;obtain rfl:w=S:=T.symm;go_wp2_with fail;exact Vn (v:=.tuple #[.string ⟨#[]⟩,.bool false,.int .i64 100]) (by simp[results,Tryz.results52,go_sem]) rfl m.out
 .have Q:Zan key []=0:=by rw[Zan,if_neg k1,if_neg (by simp)]
  rw[Q] at r;have HX:Hid (X=R.getN key 40 R.root):=Hd (by rw[A,Rp.get,if_neg k1])
  have U:=Hd hr;clear h A Q hr;go_enter Tryz.func52,Tryz.ntmps52;go_wp2_with fail;refine r.out.mono ?_;rintro e S ⟨rfl,T⟩;obtain rfl:w=S:=T.symm;go_wp2_with fail;refine a0.out.mono ?_;rintro e S ⟨rfl,T⟩;obtain rfl:w=S:=T.symm;clear Z;go_wp2_with fail;go_loopw [8,24] (λx y wr=>∃(k:Nat) (a:Int),k<=40/\-9223372036854775808<=a/\a<=9223372036854775807/\x=.int .i64 a/\y=.int .i64 (k:Int)/\X=R.getN key (40 - k) a/\Tr n J seq B wr F p f R tb/\Zb (PJ F p f) w wr) (λ_ y _=>40 - (intOf y).toNat)
  case atStart=>exact⟨0,R.root,by omega,U.out.1,U.out.2,rfl,rfl,HX.out,H.out,Zb.refl _ _⟩
  case round =>
   obtain⟨k,a,a9,p1,p2,rfl,rfl,A,hT,ht⟩:=hrel;have HT:=Hd hT
   have D:=Hd ht;have HX2:=Hd A;clear hT ht A;by_cases aa:k<40
   .have hd:decide ((k:Int)<40)=true:=Vd (by omega)
    obtain⟨q,hq⟩:∃q,40 - k=q+1:=⟨39 - k,by omega⟩;by_cases hp:a<0
    .have a1:decide (a<0)=true:=Vd hp;have m:Hid (X=(([],false),0)):=Hd (by rw[HX2.out,hq,Rp.getN,if_pos hp]);clear hq;go_wp2_with fail;rw[m.out];exact Vn (v:=.tuple #[.string ⟨#[]⟩,.bool false,.int .i64 0]) (by simp[results,Tryz.results52,go_sem]) rfl ⟨rfl,HT.out,D.out⟩
    .have a1:decide (a<0)=false:=Vb hp
     have HP:=Hd hp;have HLD:=Hd (Zep HT.out a p1 p2);have HQ:=Hd hq;clear hq;go_wp2_with fail;refine HLD.out.mono ?_;rintro e w2 ⟨g,va,vk,vc,rfl,s,E,G⟩;have HT2:=Hd s;have HTT2:=Hd (D.out.trans E);obtain⟨j,t,hs3⟩:=nd_box w2 g (.slice va vk vc);obtain⟨W3,u⟩:∃W3,W3=w2.alloc (.cells #[.bool g,.slice va vk vc] 174):=⟨_,rfl⟩;rw[<-u] at j t hs3;have HW3:=Hd u;have HT3:=Hd (s.step j);have HTT3:=Hd (HTT2.out.trans (Zb.of_below j))
     cases I:(R.load a).1 with
     | none =>
      have V:=Rp.load_none I;have W:((R.load a).2 != 0)=true:=by rw[bne_iff_ne];exact V
      have m:Hid (X=(([],false),(R.load a).2)):=Hd (by
       have:R.load a=(none,(R.load a).2):=by rw[<-I]
       rw[HX2.out,HQ.out,Rp.getN,if_neg (by have:=HP.out;omega),this])
      clear s E G j t hs3 u I V;go_wp2_with fail;rw[<-HW3.out,m.out];exact Vn (v:=.tuple #[.string ⟨#[]⟩,.bool false,.int .i64 (R.load a).2]) (by simp[results,Tryz.results52,go_sem]) rfl ⟨rfl,HT3.out,HTT3.out⟩
     | some b =>
      obtain⟨d,hm⟩:=G b I;obtain⟨i,L⟩:=HT.out.lp.load_fit I;obtain⟨M,a2⟩:=i.len;have W:((R.load a).2 != 0)=false:=by rw[L];rfl
      have z:=hm.below j;have a3:vk=b.l.length:=by obtain⟨_,_,e,_⟩:=z.isE.form;simp only[Value.slice.injEq] at e;exact e.2.1
      subst a3
      have N:Hid (R.getN key (40 - k) a=if b.leaf then (if (b.behind key).2 then (((b.l[(b.behind key).1]?.map (·.val)).getD [],true),0) else (([],false),0)) else R.getN key q (Zn b.l (b.behind key).1)):=Hd (by
       have:R.load a=(some b,0):=by rw[<-I,<-L]
       rw[HQ.out,Rp.getN,if_neg (by have:=HP.out;omega),this])
      have O:=behind_any W3 g va b.l.length vc z.isE rfl M (by omega) (by have:=i.srt;rw[show b=⟨b.leaf,b.l⟩ from rfl,d] at this;exact this) key
      rw[show Nd.mk g b.l=b by rw[<-d]] at O
      have a4:=Hd O;have HM3:=Hd z;have HBX:=Hd t;have HFIT:=Hd i;have HL:=Hd d;have HN1:=Hd M;clear s E G j hs3 u I hm z O t i d L M a2;go_wp2_with fail;rw[<-HW3.out];refine a4.out.mono ?_;rintro e w4 ⟨rfl,o⟩;have hbx4:=(o.block _ (Za HBX.out)).trans HBX.out;have HT4:=Hd (HT3.out.step o);have HTT4:=Hd (HTT3.out.trans (Zb.of_below o));have HM4:=Hd (HM3.out.below o);obtain⟨m0,m1⟩:=Zd hbx4;clear o hbx4
      cases g with
      | true =>
       obtain⟨Y,P⟩:=Zbo HL.out key
       cases hi:(b.behind key).2 with
       | false =>
        have m:Hid (X=(([],false),0)):=Hd (by rw[HX2.out,N.out,if_pos HL.out,if_neg (by simp[hi])]);clear Y P;go_wp2_with fail;rw[m.out];exact Vn (v:=.tuple #[.string ⟨#[]⟩,.bool false,.int .i64 0]) (by simp[results,Tryz.results52,go_sem]) rfl ⟨rfl,HT4.out,HTT4.out⟩
       | true =>
        have c:=P hi;have m:Hid (X=((b.l[(b.behind key).1].val,true),0)):=Hd (by rw[HX2.out,N.out,if_pos HL.out,if_pos hi,List.getElem?_eq_getElem c];rfl);obtain⟨bb,oo,rfl,Z,c1,c2⟩:=HM4.out.isE.at _ c;obtain⟨a5,a6⟩:(0:Int)<=((b.behind key).1:Int)/\((b.behind key).1:Int)<(b.l.length:Int):=by omega
        clear Y P;generalize b.l[(b.behind key).1].val=a7 at *;generalize (b.behind key).1=ix at *;go_wp2_with fail;rw[m.out];exact Vn (v:=.tuple #[.string ⟨a7.toArray⟩,.bool true,.int .i64 0]) (by simp[results,Tryz.results52,go_sem]) rfl ⟨rfl,HT4.out,HTT4.out⟩
      | false =>
       have c:=Zff HFIT.out.some HL.out key;obtain⟨ab,ad⟩:=Zfg HFIT.out.few (b.behind key).1;have a8:Hid (X=R.getN key q (Zn b.l (b.behind key).1)):=Hd (by rw[HX2.out,N.out,if_neg (by rw[HL.out];simp)]);obtain⟨bb,oo,rfl,Z,c1,c2⟩:=HM4.out.isE.at _ c;have C:b.l[(b.behind key).1].kid=Zn b.l (b.behind key).1:=by rw[Zn,List.getElem?_eq_getElem c];rfl
       rw[C] at c2;obtain⟨a5,a6⟩:(0:Int)<=((b.behind key).1:Int)/\((b.behind key).1:Int)<(b.l.length:Int):=by omega
       clear C Z c1;generalize Zn b.l (b.behind key).1=kd at *;have hlt3:=c
       generalize (b.behind key).1=ix at *;go_wp2_with fail;go_roundw
       case rel=>exact⟨k+1,kd,by omega,by omega,by omega,rfl,by go_num,by rw[a8.out,show 40 - (k+1)=q by have:=HQ.out;omega],HT4.out,HTT4.out⟩
       case measure=>simp[intOf];omega
   .have hd:decide ((k:Int)<40)=false:=Vb (by omega)
    have m:Hid (X=(([],false),103)):=Hd (by rw[HX2.out,show 40 - k=0 by omega,Rp.getN])
    go_wp2_with fail;rw[m.out];exact Vn (v:=.tuple #[.string ⟨#[]⟩,.bool false,.int .i64 103]) (by simp[results,Tryz.results52,go_sem]) rfl ⟨rfl,HT.out,D.out⟩
end
end
end Go.Proofs.YtfaobkmojlhbnaaGreatDoor
