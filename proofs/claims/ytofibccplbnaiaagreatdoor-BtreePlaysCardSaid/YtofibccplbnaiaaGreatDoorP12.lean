/- Contracts of the functions that the statements of this seat reach, part 12: each says what the call answers and what it leaves of the memory. -/
import Derived.Test.YtofibccplbnaiaaGreatDoorP11
import Derived.Deep.LoopGhost
import Derived.Test.YtofibccplbnaiaaGreatDoorP10
set_option linter.unusedVariables false
set_option linter.unusedSimpArgs false
set_option maxRecDepth 100000
set_option maxHeartbeats 64000000
namespace Go.Proofs.YtofibccplbnaiaaGreatDoor
section
open Go.RowKit
section
variable {n : Nat} {J : Jn} {seq : Int} {B : List (List UInt8)} {F : Ft} {p : Nat} {tb : Nat}
variable {fid : Nat} {caps : Array Value} {K : Nat → Prop} {Cs : World → Prop} {c : Chg} {key : List UInt8}
theorem anew_all (hch:Chr fid caps K Cs c) (hen:∀(args:Array Value) (w:World),(callFunc fid args).run Tryz.prog w=.ok (.enter fid args) w):∀fu,fu≤41→AnewAt n J seq B F p tb fid caps K Cs c key fu
 | 0,_=>anew_zero
 | fu+1,h=>anew_succ hch hen fu (by omega) (anew_all hch hen fu (by omega))
theorem countP_set {α:Type} (g:α→Bool):∀(l:List α) (k:Nat) (x:α) (hk:k<l.length),(l.set k x).countP g+(if g l[k] then 1 else 0)=l.countP g+(if g x then 1 else 0)
 | [],k,x,hk=>by simp at hk
 | a::r,0,x,hk=>by simp only[List.set_cons_zero,List.countP_cons,List.getElem_cons_zero];omega
 | a::r,k+1,x,hk=>by have:=countP_set g r k x (by simpa using hk);simp only[List.set_cons_succ,List.countP_cons,List.getElem_cons_succ];omega
def Rp.takenC (R:Rp):Nat:=R.pages.countP fun x=>x.isSome
theorem Rp.takenC_setRoot (R:Rp) (page:Int):Rp.takenC (R.setRoot page).2=R.takenC:=by
 unfold Rp.setRoot
 split<;>rfl
theorem Rp.takenC_free (R:Rp) (page:Int) (h:(R.free page).1=0):Rp.takenC (R.free page).2+1=R.takenC:=by
 unfold Rp.free at h ⊢;split at h
 ·cases h
 ·rename_i ht
  split at h
  ·cases h
  ·rename_i h2
   rw[if_neg ht,if_neg h2];obtain⟨a1,a2,b,a3⟩:=Zbt (by simpa using ht);have:=countP_set (fun x:Option (List UInt8)=>x.isSome) R.pages page.toNat none a2
   have hb:R.pages[page.toNat]=some b:=by rw[List.getElem?_eq_getElem a2] at a3;exact Option.some.inj a3
   rw[hb] at this;simpa [Rp.takenC] using this
theorem Rp.takenC_le {R:Rp} (h:R.good):R.takenC≤1023:=Nat.le_trans List.countP_le_length h.few
theorem rootE_few {l:List En} (hf:∀e∈l,e.few):-1≤Zem l∧Zem l<65536:=by
 cases l with
 | nil=>exact⟨Int.le_refl _,by decide⟩
 | cons x r =>
  have:=hf x (List.mem_cons_self ..);exact⟨by have:=this.k0;show -1≤x.kid;omega,this.k1⟩
def sLen:Value→Nat
 | .slice _ n _=>n
 | _=>0
theorem topN_one {R:Rp} {l:List En} (hR:R.good) (hl:∀e∈l,e.few) (h4:l.length≤4):(R.layL ⟨false,l⟩).1.1.length≤1∧(∀e∈(R.layL ⟨false,l⟩).1.1,e.few):=by have hs:=Zdf l 0 hl;obtain⟨h1,h2⟩:=Zfm (l.length+1) R ⟨false,l⟩ hR.few hl;exact⟨(Zcz (l.length+1) R ⟨false,l⟩ hl).1 (by unfold Nd.sum;dsimp only;omega),h1⟩
theorem tgrow_any (hch:Chr fid caps K Cs c) (hen:∀(args:Array Value) (w:World),(callFunc fid args).run Tryz.prog w=.ok (.enter fid args) w) {w:World} {f:Pf} {R:Rp} (hT:Tr n J seq B w F p f R tb) (hC:Cs w) (hK:∀k,K k→¬PJ F p f k) (hr:-9223372036854775808≤R.root∧R.root≤9223372036854775807) :
  Calls Tryz.prog 41 #[trp tb,.string ⟨key.toArray⟩,chV fid caps] w fun e w'=>e=.returned (.int .i64 (R.growN c key).1)∧Qc n J seq B w F p f w' (R.growN c key).2 tb:=by
 obtain⟨X,hX⟩:∃X,X=R.growN c key:=⟨_,rfl⟩;rw[←hX];have c0:w.cell? ⟨tb,0,none⟩=some (Xb f.q):=by rw[cell_of_row _ _ _ _ _ _ hT.head];rfl
 have HRT:=Hd (lp_root hT.lp);have HAN:=anew_all (n:=n) (J:=J) (seq:=seq) (B:=B) (F:=F) (p:=p) (tb:=tb) (key:=key) hch hen 41 (by omega) w f R R.root hT hC hK hr.1 hr.2;rw[show (41 - ((41:Nat):Int))=0 by decide] at HAN
 obtain⟨hg1,hg2,hg3⟩:=Zfw hch.ok key 41 R.root hT.lp.good;obtain⟨Y,hY⟩:∃Y,Y=R.anewN c key 41 R.root:=⟨_,rfl⟩;rw[←hY] at HAN hg1 hg2 hg3;have HX:Hid (X=if Y.1.2≠0 then (Y.1.2,Y.2) else if (Y.2.topN 4 Y.1.1).1.2≠0 then ((Y.2.topN 4 Y.1.1).1.2,(Y.2.topN 4 Y.1.1).2) else if ((Y.2.topN 4 Y.1.1).2.setRoot (Zem (Y.2.topN 4 Y.1.1).1.1)).1≠0 then (Y.2.topN 4 Y.1.1).2.setRoot (Zem (Y.2.topN 4 Y.1.1).1.1) else ((Y.2.topN 4 Y.1.1).2.setRoot (Zem (Y.2.topN 4 Y.1.1).1.1)).2.dropN 1024 (Zem (Y.2.topN 4 Y.1.1).1.1)):=Hd (by rw[hX,Rp.growN,←hY])
 have HA:=Hd HAN;have HT:=Hd hT;have HG:=Hd (And.intro hg1 hg2);clear hX hY HAN hT hC hK hr hg1 hg2 hch hen;go_enter Tryz.func41,Tryz.ntmps41;go_wp2_with fail;refine HRT.out.mono ?_;rintro e w1 ⟨rfl,e1⟩;obtain rfl:w=w1:=e1.symm;clear c0;go_wp2_with fail;refine HA.out.mono ?_;rintro e w2 ⟨v2,rfl,hm2,ht2⟩;have HM2:=Hd hm2;have HT2:=Hd ht2;obtain⟨a2,c2,hv2,_,_⟩:=hm2.isE.form;subst hv2;obtain⟨N2,hN2⟩:∃N2,N2=Y.1.1.length:=⟨_,rfl⟩;rw[←hN2] at hg3;have HN2:=Hd hN2;rw[←hN2];clear hm2 ht2 hN2;obtain⟨T,hT⟩:∃T,T=Y.2.topN 4 Y.1.1:=⟨_,rfl⟩;rw[←hT] at HX;have HTT:=Hd hT;clear hT;go_wp2_with fail;go_loopw [8,9] (fun x y wr=>∃(q:Nat) (l:List En) (Rq:Rp) (v:Value) (eq:Int),x=v∧y=.int .i64 eq∧(∃a c,v=.slice a l.length c)∧Zq w.heap.size wr v l∧TrV n J seq B w F p f wr Rq tb v∧l.length≤q∧l.length≤4∧(∀e∈l,e.few)∧Rq.good∧(eq=0→Rq.topN q l=T∧Y.1.2=0)∧(eq≠0→(Y.1.2≠0∧eq=Y.1.2∧Rq=Y.2)∨(Y.1.2=0∧T.1.2=eq∧T.2=Rq))) (fun x _ _=>sLen x)
 case atStart=>exact⟨4,Y.1.1,Y.2,.slice a2 Y.1.1.length c2,Y.1.2,by rw[HN2.out],rfl,⟨a2,c2,rfl⟩,HM2.out,HT2.out,by rw[←HN2.out];exact hg3,by rw[←HN2.out];exact hg3,HG.out.2,HG.out.1,fun h=>⟨HTT.out.symm,h⟩,fun h=>.inl ⟨h,rfl,rfl⟩⟩
 case round =>
  obtain⟨q,l,Rq,v,eq,rfl,rfl,⟨a,cc,rfl⟩,hm,ht,hq,h4,hf,hg,hz,hnz⟩:=hrel;have HM:=Hd hm
  have HTV:=Hd ht;by_cases he:eq=0
  ·subst he
   obtain⟨hz1,hz2⟩:=hz rfl;have HZ:=Hd (And.intro hz1 hz2)
   clear hz hz1 hz2 hnz;by_cases h1:1<l.length
   ·obtain⟨f1,hT1,hq1,hk1,ht1,hs1⟩:=HTV.out
    have HLY:=Hd (Zcr false hT1 hm.isE (by omega) hf hs1);have HC1:Hid (f1.q=f.q∧(∀k,PT f1 k→PT f k∨w.heap.size≤k)∧Zb (PJ F p f) w wr):=Hd ⟨hq1,hk1,ht1⟩;obtain⟨t1,t2⟩:=topN_one hg hf h4;obtain⟨Y9,hY9⟩:∃Y9,Y9=Rq.layL ⟨false,l⟩:=⟨_,rfl⟩;rw[←hY9] at HLY t1 t2;have hg9:Rp.good Y9.2:=by rw[hY9];exact hg.layL _
    have HY9:=Hd (And.intro hg9 (And.intro t2 hY9));obtain⟨q',rfl⟩:∃q',q=q'+1:=⟨q - 1,by omega⟩;have HTP:Hid (Y9.1.2=0→Y9.2.topN q' Y9.1.1=T):=Hd fun h=>by rw[←HZ.out.1,Rp.topN,if_neg (by omega),←hY9,if_neg (by omega)]
    have HTN:Hid (Y9.1.2≠0→T=Y9):=Hd fun h=>by rw[←HZ.out.1,Rp.topN,if_neg (by omega),←hY9,if_pos h]
    have hL:(1:Int)<(l.length:Int):=by omega
    have HQ:=Hd (And.intro hq h1);generalize hLL:l.length=LL at *;have HLL:=Hd hLL;clear hm ht hT1 hq1 hk1 ht1 hs1 hf hg t2 hY9 hg9 hLL hq h1;go_wp2_with fail;refine HLY.out.mono ?_;rintro e w5 ⟨v5,rfl,hm5,ht5⟩;have HM5:=Hd hm5;have HT5:=Hd ht5;obtain⟨a5,c5,hv5,_,_⟩:=hm5.isE.form;subst hv5;obtain⟨N5,hN5⟩:∃N5,N5=Y9.1.1.length:=⟨_,rfl⟩;rw[←hN5] at t1;have HN5:=Hd hN5;rw[←hN5];clear hm5 ht5 hN5;go_wp2_with fail;go_roundw
    case rel=>exact⟨q',Y9.1.1,Y9.2,.slice a5 Y9.1.1.length c5,Y9.1.2,by rw[HN5.out],rfl,⟨a5,c5,rfl⟩,HM5.out.low HC1.out.2.2.size,TrV.then HC1.out.1 HC1.out.2.1 HC1.out.2.2 HT5.out,by rw[←HN5.out];have:=HQ.out;omega,by rw[←HN5.out];omega,HY9.out.2.1,HY9.out.1,fun h=>⟨HTP.out h,HZ.out.2⟩,fun h=>.inr ⟨HZ.out.2,by rw[HTN.out h],by rw[HTN.out h]⟩⟩
    case measure =>
     show sLen (.slice a5 N5 c5)<sLen (.slice a LL cc)
     simp only[sLen];have:=HQ.out
     omega
   ·have hT0:T=((l,0),Rq):=by
     rw[←HZ.out.1]
     cases q with
     | zero=>rfl
     | succ q=>rw[Rp.topN,if_pos (by omega)]
    have HXS:Hid (X=if (Rq.setRoot (Zem l)).1≠0 then Rq.setRoot (Zem l) else (Rq.setRoot (Zem l)).2.dropN 1024 (Zem l)):=Hd (by
     rw[HX.out,if_neg (fun h=>h HZ.out.2),hT0,if_neg (fun h=>h rfl)])
    obtain⟨f1,hT1,hq1,hk1,ht1,hs1⟩:=HTV.out;have HT1:=Hd hT1
    have HC1:Hid (f1.q=f.q∧(∀k,PT f1 k→PT f k∨w.heap.size≤k)∧Zb (PJ F p f) w wr):=Hd ⟨hq1,hk1,ht1⟩;have HG1:=Hd hg;have c1:wr.cell? ⟨tb,0,none⟩=some (Xb f.q):=by rw[←hq1,cell_of_row _ _ _ _ _ _ hT1.head];rfl
    obtain⟨hrb1,hrb2⟩:=rootE_few hf;obtain⟨RT,hRT⟩:∃RT,RT=Zem l:=⟨_,rfl⟩;rw[←hRT] at HXS hrb1 hrb2
    cases l with
    | nil =>
     have hRT':RT=-1:=hRT;clear hT0 hT1 hq1 hk1 ht1 hs1 hg hf hm ht hRT HTV HM h1;have HRT1:=Hd hRT';have hrr:(-1:Int)=RT:=hRT'.symm;clear hRT';have HSR:=Hd (Zda HT1.out.lp RT (by omega) (by omega));rw[HC1.out.1] at HSR;go_upto_region 10 with fail;rw[hrr];clear hrr;go_wp2_with fail;refine HSR.out.mono ?_;rintro e w4 ⟨rfl,hto4⟩;obtain⟨f4,hT4,hq4,hk4,ht4⟩:=HT1.out.to hto4;have HT4:=Hd hT4
     have HC4:Hid (f4.q=f.q∧(∀k,PT f4 k→PT f k∨w.heap.size≤k)∧Zb (PJ F p f) w w4):=Hd ⟨hq4.trans HC1.out.1,fun k h=>(hk4 k h).elim (HC1.out.2.1 k) fun e=>.inr (by have:=HC1.out.2.2.size;omega),HC1.out.2.2.then ht4 fun i hi e=>by
      rcases e with e | e
      ·exact .inl e
      ·rcases HC1.out.2.1 i e with e | e
       ·exact .inr e
       ·omega⟩
     clear hto4 hT4 hq4 hk4 ht4;by_cases hs:(Rq.setRoot RT).1=0
     ·have hz:((Rq.setRoot RT).1 != 0)=false:=by rw[hs];rfl
      obtain⟨T2,hT2⟩:∃T2,T2=(Rq.setRoot RT).2.dropN 1024 RT:=⟨_,rfl⟩;have HX2:Hid (X=T2):=Hd (by rw[HXS.out,if_neg (fun h=>h hs),hT2])
      have HT2E:=Hd hT2;have HTC:Hid (Rp.takenC (Rq.setRoot RT).2<1024):=Hd (by have:=Rp.takenC_le (HG1.out.setRoot RT);omega);have HGS:=Hd (HG1.out.setRoot RT);clear hT2;generalize (Rq.setRoot RT).2=RS at *;generalize (Rq.setRoot RT).1=ES at *;go_wp2_with fail;go_loopg [10] 1024 (fun k x wr=>∃(root:Int) (R':Rp) (f':Pf),x=.int .i64 root∧-1≤root∧root<65536∧R'.dropN k root=T2∧Tr n J seq B wr F p f' R' tb∧f'.q=f.q∧(∀k,PT f' k→PT f k∨w.heap.size≤k)∧Zb (PJ F p f) w wr∧R'.takenC<k∧R'.good)
      case atStart=>exact⟨RT,RS,f4,rfl,by omega,by omega,HT2E.out.symm,HT4.out,HC4.out.1,HC4.out.2.1,HC4.out.2.2,HTC.out,HGS.out⟩
      case round =>
       obtain⟨root,R',f',rfl,hr0,hr1,hdr,hT',hq',hk',ht',htc,hg'⟩:=hrel;obtain⟨k',hgk⟩:∃k',gk=k'+1:=⟨gk - 1,by omega⟩;rw[hgk] at hdr htc;have HGK:=Hd hgk
       clear hgk;have HDR:=Hd hdr
       have HT':=Hd hT';have HC':Hid (f'.q=f.q∧(∀k,PT f' k→PT f k∨w.heap.size≤k)∧Zb (PJ F p f) w wr):=Hd ⟨hq',hk',ht'⟩;have HTC':=Hd htc;have HG':=Hd hg';by_cases hneg:root<0
       ·have HXE:Hid (T2=(0,R')):=Hd (by rw[←hdr,Rp.dropN,if_pos hneg])
        have HEE:Hid (Qc n J seq B w F p f wr R' tb):=Hd ⟨f',HT'.out,HC'.out.1,HC'.out.2.1,HC'.out.2.2⟩;have hd:¬(0:Int)≤root:=by omega
        clear hdr hT' hq' hk' ht' htc hg' hneg;go_wp2_with fail;rw[HX2.out,HXE.out];go_ret;exact⟨rfl,HEE.out⟩
       ·have hd:(0:Int)≤root:=by omega
        have HLD:=Hd (Zcm hT' root (by omega) (by omega));have HNG:Hid (¬root<0):=Hd hneg;clear hdr hT' hq' hk' ht' htc hg' hneg;go_wp2_with fail;refine HLD.out.mono ?_;rintro e w5 ⟨lf,va,vk,vc,rfl,hT5,ht5,hnd5⟩;obtain⟨hb5,hbx5,hs5⟩:=nd_box w5 lf (.slice va vk vc);obtain⟨B5,hW5⟩:∃B5,B5=w5.alloc (.cells #[.bool lf,.slice va vk vc] 84):=⟨_,rfl⟩;rw[←hW5] at hb5 hbx5 hs5;have HW5:=Hd hW5;have hTB5:=hT5.step hb5
        have htt5:Zb (PJ F p f) w B5:=HC'.out.2.2.then (ht5.trans (Zb.of_below hb5)) fun i hi e=>by
         rcases e with e | e
         ·exact .inl e
         ·rcases HC'.out.2.1 i e with e | e
          ·exact .inr e
          ·omega
        have HTB5:=Hd hTB5;have HTT5:=Hd htt5;have HEE5:Hid (Qc n J seq B w F p f B5 R' tb):=Hd ⟨f',hTB5,HC'.out.1,HC'.out.2.1,htt5⟩
        cases hl5:(R'.load root).1 with
        | none =>
         have hne:=Rp.load_none hl5;have hne2:((R'.load root).2 != 0)=true:=by rw[bne_iff_ne];exact hne
         have HXE:Hid (T2=((R'.load root).2,R')):=Hd (by
          obtain⟨E,hh,hE⟩:∃E,R'.load root=(none,E)∧E=(R'.load root).2:=⟨_,by rw[←hl5],rfl⟩
          rw[←HDR.out,Rp.dropN,if_neg (by have:=HNG.out;omega),←hE,hh])
         clear hT5 ht5 hnd5 hb5 hbx5 hs5 hW5 hl5 hne hTB5 htt5 HLD;go_wp2_with fail;rw[←HW5.out,HX2.out,HXE.out];go_ret;exact⟨rfl,HEE5.out⟩
        | some nd =>
         obtain⟨hleaf,hm5⟩:=hnd5 nd hl5;obtain⟨hfit,he5⟩:=hT5.lp.load_fit hl5;obtain⟨hln0,hln1⟩:=hfit.len;have HFIT:=Hd hfit
         have HLEAF:=Hd hleaf;have HM5:=Hd (hm5.below hb5);have hvk:vk=nd.l.length:=by obtain⟨_,_,e,_⟩:=hm5.isE.form;simp only[Value.slice.injEq] at e;exact e.2.1
         subst hvk;have hz5:((R'.load root).2 != 0)=false:=by rw[he5];rfl
         have HLE:Hid (R'.load root=(some nd,0)):=Hd (by rw[←hl5,←he5])
         have HDN:Hid (T2=if nd.leaf=true∨1<nd.l.length then (0,R') else if (R'.setRoot (Zn nd.l 0)).1≠0 then R'.setRoot (Zn nd.l 0) else if ((R'.setRoot (Zn nd.l 0)).2.free root).1≠0 then (R'.setRoot (Zn nd.l 0)).2.free root else ((R'.setRoot (Zn nd.l 0)).2.free root).2.dropN k' (Zn nd.l 0)):=Hd (by
          rw[←HDR.out,Rp.dropN,if_neg (by have:=HNG.out;omega),HLE.out])
         have HBX5:=Hd hbx5;obtain⟨m0,m1⟩:=Zc hbx5;rw[he5];have HFR:Hid (∀k,w5.heap.size=k→¬PJ F p f' k):=Hd fun k h e=>by have:=hT5.lp.lt e;omega
         clear hT5 ht5 hnd5 hb5 hbx5 hs5 hW5 hl5 hm5 hfit hleaf he5 hTB5 htt5 HLD
         cases lf with
         | true =>
          have HXE:Hid (T2=(0,R')):=Hd (by rw[HDN.out,if_pos (.inl HLEAF.out)]);go_upto_region 15 with fail;rw[←HW5.out];go_wp2_with fail;rw[HX2.out,HXE.out];go_ret;exact⟨rfl,HEE5.out⟩
         | false =>
          by_cases h1n:1<nd.l.length
          ·have HXE:Hid (T2=(0,R')):=Hd (by rw[HDN.out,if_pos (.inr h1n)])
           have hq1:(1:Int)<(nd.l.length:Int):=by omega
           go_upto_region 15 with fail;rw[←HW5.out];go_wp2_with fail;rw[HX2.out,HXE.out];go_ret;exact⟨rfl,HEE5.out⟩
          ·have hq1:¬(1:Int)<(nd.l.length:Int):=by omega
           have HD3:Hid (T2=if (R'.setRoot (Zn nd.l 0)).1≠0 then R'.setRoot (Zn nd.l 0) else if ((R'.setRoot (Zn nd.l 0)).2.free root).1≠0 then (R'.setRoot (Zn nd.l 0)).2.free root else ((R'.setRoot (Zn nd.l 0)).2.free root).2.dropN k' (Zn nd.l 0)):=Hd (by
            rw[HDN.out,if_neg (by
             rintro(e | e)
             ·rw[HLEAF.out] at e;cases e
             ·exact h1n e)])
           have hkf:=Zec HFIT.out.few 0;obtain⟨KD,hKD⟩:∃KD,KD=Zn nd.l 0:=⟨_,rfl⟩;rw[←hKD] at HD3 hkf;have HKD:=Hd hKD;obtain⟨bb,oo,hab,x0,x1,x2⟩:=HM5.out.isE.at 0 hln0;have hkd2:nd.l[0].kid=KD:=by rw[hKD,Zn,List.getElem?_eq_getElem hln0];rfl
           rw[hkd2,Nat.zero_mul,Nat.add_zero] at x2;subst hab;have q0:(0:Int)<(nd.l.length:Int):=by omega
           have HSR2:=Hd (Zda (HTB5.out.step (Below.refl _ _).drew).lp KD (by omega) (by omega));rw[HC'.out.1] at HSR2
           have t0:B5.drew.cell? ⟨tb,0,none⟩=some (Xb f.q):=by
            rw[←HC'.out.1];show B5.cell? _=_
            rw[cell_of_row _ _ _ _ _ _ HTB5.out.head];rfl
           have m1':B5.drew.cell? ⟨w5.heap.size,1,none⟩=some (.slice (some ⟨bb,oo,none⟩) nd.l.length vc):=m1;have x2':B5.drew.cell? ⟨bb,oo+2,none⟩=some (.int .i64 KD):=x2;clear hKD hkd2 x0 x1 h1n;go_upto_region 15 with fail;rw[←HW5.out];go_upto_region 17 with fail;clear m0 m1 x2;go_region_with (go_at_call 40;refine HSR2.out.mono ?_;clear HSR2;rintro e w6 ⟨rfl,hto6⟩;have HTO6:=Hd hto6;clear hto6)
           all_goals
            obtain⟨f6,hT6,hq6,hk6,ht6⟩:=(HTB5.out.step (Below.refl _ _).drew).to HTO6.out
            have HT6:=Hd hT6
            have HC6:Hid (f6.q=f.q∧(∀k,PT f6 k→PT f k∨w.heap.size≤k)∧Zb (PJ F p f) w w6):=Hd ⟨hq6.trans HC'.out.1,fun k h=>(hk6 k h).elim (HC'.out.2.1 k) fun e=>.inr (by have:=HTT5.out.size;have h9:B5.drew.heap.size=B5.heap.size:=rfl;omega),HTT5.out.then ht6.undrew fun i hi e=>by
             rcases e with e | e
             ·exact .inl e
             ·rcases HC'.out.2.1 i e with e | e
              ·exact .inr e
              ·omega⟩
            have hbx6:=(ht6.block _ (Za HBX5.out) (HFR.out _ rfl)).trans HBX5.out
            have hpb:¬PJ F p f' bb:=fun e=>by have:=HT'.out.lp.lt e;have:=(HM5.out.lt (k:=bb) rfl).1;omega
            have hm6:=HM5.out.keep1 (w':=w6) fun k hk=>by
             have hkb:bb=k:=by simpa [Value.ownBlock] using hk
             subst hkb;exact ht6.block _ (HM5.out.lt (k:=bb) rfl).2 hpb
            obtain⟨b6,o6,hab6,_,_,y2⟩:=hm6.isE.at 0 hln0
            simp only[Option.some.injEq,Addr.mk.injEq,and_true] at hab6
            obtain⟨rfl,rfl⟩:=hab6
            obtain⟨m0,m1⟩:=Zc hbx6
            have c6:w6.cell? ⟨tb,0,none⟩=some (Xb f.q):=by rw[←HC6.out.1,cell_of_row _ _ _ _ _ _ hT6.head];rfl
            have HM6:=Hd hm6
            have HBX6:=Hd hbx6
            have HPB:=Hd (Xj (w:=B5.drew) hk6 hpb (HM5.out.lt (k:=bb) rfl).2)
            have HFR6:=Hd (Xj (w:=B5.drew) hk6 (HFR.out _ rfl) (Za HBX5.out))
            have HFC:=Hd (Zeu hT6.lp root (by omega) (by omega))
            rw[HC6.out.1] at HFC
            have HTC6:Hid (Rp.takenC (R'.setRoot KD).2<k'+1):=Hd (by rw[Rp.takenC_setRoot];exact HTC'.out)
            have HG6:=Hd (HG'.out.setRoot KD)
            clear hT6 hq6 hk6 ht6 hbx6 hm6 hpb m1' x2' t0 y2
            by_cases hs6:(R'.setRoot KD).1=0
            ·have hz6:((R'.setRoot KD).1 != 0)=false:=by rw[hs6];rfl
             have HD4:Hid (T2=if ((R'.setRoot KD).2.free root).1≠0 then (R'.setRoot KD).2.free root else ((R'.setRoot KD).2.free root).2.dropN k' KD):=Hd (by rw[HD3.out,if_neg (fun h=>h hs6)])
             clear hs6;generalize (R'.setRoot KD).2=RA at *;generalize (R'.setRoot KD).1=EA at *;go_wp2_with fail;refine HFC.out.mono ?_;rintro e w7 ⟨rfl,hto7⟩;obtain⟨f7,hT7,hq7,hk7,ht7⟩:=HT6.out.to hto7;have HT7:=Hd hT7
             have HC7:Hid (f7.q=f.q∧(∀k,PT f7 k→PT f k∨w.heap.size≤k)∧Zb (PJ F p f) w w7):=Hd ⟨hq7.trans HC6.out.1,fun k h=>(hk7 k h).elim (HC6.out.2.1 k) fun e=>.inr (by have:=HC6.out.2.2.size;omega),HC6.out.2.2.then ht7 fun i hi e=>by
              rcases e with e | e
              ·exact .inl e
              ·rcases HC6.out.2.1 i e with e | e
               ·exact .inr e
               ·omega⟩
             have hbx7:=(ht7.block _ (Za HBX6.out) HFR6.out).trans HBX6.out
             have hm7:=HM6.out.keep1 (w':=w7) fun k hk=>by
              have hkb:bb=k:=by simpa [Value.ownBlock] using hk
              subst hkb;exact ht7.block _ (HM6.out.lt (k:=bb) rfl).2 HPB.out
             obtain⟨b7,o7,hab7,_,_,z2⟩:=hm7.isE.at 0 hln0;simp only[Option.some.injEq,Addr.mk.injEq,and_true] at hab7;obtain⟨rfl,rfl⟩:=hab7;have hkd7:(Zn nd.l 0)=nd.l[0].kid:=by rw[Zn,List.getElem?_eq_getElem hln0];rfl
             rw[←hkd7,←HKD.out,Nat.zero_mul,Nat.add_zero] at z2;have n1:=(Zc hbx7).2
             clear hto7 hT7 hq7 hk7 ht7 hbx7 hm7 hkd7 m0 m1 c6;by_cases hf7:(RA.free root).1=0
             ·have hz7:((RA.free root).1 != 0)=false:=by rw[hf7];rfl
              have HD5:Hid ((RA.free root).2.dropN k' KD=T2):=Hd (by rw[HD4.out,if_neg (fun h=>h hf7)]);have HTC7:Hid (Rp.takenC (RA.free root).2<k'):=Hd (by have:=Rp.takenC_free RA root hf7;have:=HTC6.out;omega);have HG7:=Hd (HG6.out.free root);clear hf7;go_wp2_with fail;go_roundg k'
              case measure=>have:=HGK.out;omega
              case rel=>exact⟨KD,(RA.free root).2,f7,rfl,by omega,by omega,HD5.out,HT7.out,HC7.out.1,HC7.out.2.1,HC7.out.2.2,HTC7.out,HG7.out⟩
             ·have hz7:((RA.free root).1 != 0)=true:=by rw[bne_iff_ne];exact hf7
              have HXE:Hid (T2=RA.free root):=Hd (by rw[HD4.out,if_pos hf7]);have HEE:Hid (Qc n J seq B w F p f w7 (RA.free root).2 tb):=Hd ⟨f7,HT7.out,HC7.out.1,HC7.out.2.1,HC7.out.2.2⟩;clear hf7;go_wp2_with fail;rw[HX2.out,HXE.out];go_ret;exact⟨rfl,HEE.out⟩
            ·have hz6:((R'.setRoot KD).1 != 0)=true:=by rw[bne_iff_ne];exact hs6
             have HXE:Hid (T2=R'.setRoot KD):=Hd (by rw[HD3.out,if_pos hs6]);have HEE:Hid (Qc n J seq B w F p f w6 (R'.setRoot KD).2 tb):=Hd ⟨f6,HT6.out,HC6.out.1,HC6.out.2.1,HC6.out.2.2⟩;clear hs6;go_wp2_with fail;rw[HX2.out,HXE.out];go_ret;exact⟨rfl,HEE.out⟩
     ·have hz:((Rq.setRoot RT).1 != 0)=true:=by rw[bne_iff_ne];exact hs
      have HXE:Hid (X=Rq.setRoot RT):=Hd (by rw[HXS.out,if_pos hs]);clear hs;have HEE:Hid (Qc n J seq B w F p f w4 (Rq.setRoot RT).2 tb):=Hd ⟨f4,HT4.out,HC4.out.1,HC4.out.2.1,HC4.out.2.2⟩;go_wp2_with fail;rw[HXE.out];go_ret;exact⟨rfl,HEE.out⟩
    | cons x r =>
     have hr:r=[]:=by simpa using h1
     subst hr;obtain⟨b,o,hab,d0,d1,d2⟩:=HM.out.isE.at 0 (by simp);subst hab;have hRT':RT=x.kid:=hRT
     simp only[Nat.zero_mul,Nat.add_zero,List.getElem_cons_zero] at d2;rw[←hRT'] at d2;clear hT0 hT1 hq1 hk1 ht1 hs1 hg hf hm ht hRT HTV HM h1 d0 d1 hRT';have HSR:=Hd (Zda HT1.out.lp RT (by omega) (by omega))
     rw[HC1.out.1] at HSR;go_wp2_with fail;refine HSR.out.mono ?_;rintro e w4 ⟨rfl,hto4⟩;obtain⟨f4,hT4,hq4,hk4,ht4⟩:=HT1.out.to hto4;have HT4:=Hd hT4
     have HC4:Hid (f4.q=f.q∧(∀k,PT f4 k→PT f k∨w.heap.size≤k)∧Zb (PJ F p f) w w4):=Hd ⟨hq4.trans HC1.out.1,fun k h=>(hk4 k h).elim (HC1.out.2.1 k) fun e=>.inr (by have:=HC1.out.2.2.size;omega),HC1.out.2.2.then ht4 fun i hi e=>by
      rcases e with e | e
      ·exact .inl e
      ·rcases HC1.out.2.1 i e with e | e
       ·exact .inr e
       ·omega⟩
     clear hto4 hT4 hq4 hk4 ht4;by_cases hs:(Rq.setRoot RT).1=0
     ·have hz:((Rq.setRoot RT).1 != 0)=false:=by rw[hs];rfl
      obtain⟨T2,hT2⟩:∃T2,T2=(Rq.setRoot RT).2.dropN 1024 RT:=⟨_,rfl⟩;have HX2:Hid (X=T2):=Hd (by rw[HXS.out,if_neg (fun h=>h hs),hT2])
      have HT2E:=Hd hT2;have HTC:Hid (Rp.takenC (Rq.setRoot RT).2<1024):=Hd (by have:=Rp.takenC_le (HG1.out.setRoot RT);omega);have HGS:=Hd (HG1.out.setRoot RT);clear hT2;generalize (Rq.setRoot RT).2=RS at *;generalize (Rq.setRoot RT).1=ES at *;go_wp2_with fail;go_loopg [10] 1024 (fun k x wr=>∃(root:Int) (R':Rp) (f':Pf),x=.int .i64 root∧-1≤root∧root<65536∧R'.dropN k root=T2∧Tr n J seq B wr F p f' R' tb∧f'.q=f.q∧(∀k,PT f' k→PT f k∨w.heap.size≤k)∧Zb (PJ F p f) w wr∧R'.takenC<k∧R'.good)
      case atStart=>exact⟨RT,RS,f4,rfl,by omega,by omega,HT2E.out.symm,HT4.out,HC4.out.1,HC4.out.2.1,HC4.out.2.2,HTC.out,HGS.out⟩
      case round =>
       obtain⟨root,R',f',rfl,hr0,hr1,hdr,hT',hq',hk',ht',htc,hg'⟩:=hrel;obtain⟨k',hgk⟩:∃k',gk=k'+1:=⟨gk - 1,by omega⟩;rw[hgk] at hdr htc;have HGK:=Hd hgk
       clear hgk;have HDR:=Hd hdr
       have HT':=Hd hT';have HC':Hid (f'.q=f.q∧(∀k,PT f' k→PT f k∨w.heap.size≤k)∧Zb (PJ F p f) w wr):=Hd ⟨hq',hk',ht'⟩;have HTC':=Hd htc;have HG':=Hd hg';by_cases hneg:root<0
       ·have HXE:Hid (T2=(0,R')):=Hd (by rw[←hdr,Rp.dropN,if_pos hneg])
        have HEE:Hid (Qc n J seq B w F p f wr R' tb):=Hd ⟨f',HT'.out,HC'.out.1,HC'.out.2.1,HC'.out.2.2⟩;have hd:¬(0:Int)≤root:=by omega
        clear hdr hT' hq' hk' ht' htc hg' hneg;go_wp2_with fail;rw[HX2.out,HXE.out];go_ret;exact⟨rfl,HEE.out⟩
       ·have hd:(0:Int)≤root:=by omega
        have HLD:=Hd (Zcm hT' root (by omega) (by omega));have HNG:Hid (¬root<0):=Hd hneg;clear hdr hT' hq' hk' ht' htc hg' hneg;go_wp2_with fail;refine HLD.out.mono ?_;rintro e w5 ⟨lf,va,vk,vc,rfl,hT5,ht5,hnd5⟩;obtain⟨hb5,hbx5,hs5⟩:=nd_box w5 lf (.slice va vk vc);obtain⟨B5,hW5⟩:∃B5,B5=w5.alloc (.cells #[.bool lf,.slice va vk vc] 84):=⟨_,rfl⟩;rw[←hW5] at hb5 hbx5 hs5;have HW5:=Hd hW5;have hTB5:=hT5.step hb5
        have htt5:Zb (PJ F p f) w B5:=HC'.out.2.2.then (ht5.trans (Zb.of_below hb5)) fun i hi e=>by
         rcases e with e | e
         ·exact .inl e
         ·rcases HC'.out.2.1 i e with e | e
          ·exact .inr e
          ·omega
        have HTB5:=Hd hTB5;have HTT5:=Hd htt5;have HEE5:Hid (Qc n J seq B w F p f B5 R' tb):=Hd ⟨f',hTB5,HC'.out.1,HC'.out.2.1,htt5⟩
        cases hl5:(R'.load root).1 with
        | none =>
         have hne:=Rp.load_none hl5;have hne2:((R'.load root).2 != 0)=true:=by rw[bne_iff_ne];exact hne
         have HXE:Hid (T2=((R'.load root).2,R')):=Hd (by
          obtain⟨E,hh,hE⟩:∃E,R'.load root=(none,E)∧E=(R'.load root).2:=⟨_,by rw[←hl5],rfl⟩
          rw[←HDR.out,Rp.dropN,if_neg (by have:=HNG.out;omega),←hE,hh])
         clear hT5 ht5 hnd5 hb5 hbx5 hs5 hW5 hl5 hne hTB5 htt5 HLD;go_wp2_with fail;rw[←HW5.out,HX2.out,HXE.out];go_ret;exact⟨rfl,HEE5.out⟩
        | some nd =>
         obtain⟨hleaf,hm5⟩:=hnd5 nd hl5;obtain⟨hfit,he5⟩:=hT5.lp.load_fit hl5;obtain⟨hln0,hln1⟩:=hfit.len;have HFIT:=Hd hfit
         have HLEAF:=Hd hleaf;have HM5:=Hd (hm5.below hb5);have hvk:vk=nd.l.length:=by obtain⟨_,_,e,_⟩:=hm5.isE.form;simp only[Value.slice.injEq] at e;exact e.2.1
         subst hvk;have hz5:((R'.load root).2 != 0)=false:=by rw[he5];rfl
         have HLE:Hid (R'.load root=(some nd,0)):=Hd (by rw[←hl5,←he5])
         have HDN:Hid (T2=if nd.leaf=true∨1<nd.l.length then (0,R') else if (R'.setRoot (Zn nd.l 0)).1≠0 then R'.setRoot (Zn nd.l 0) else if ((R'.setRoot (Zn nd.l 0)).2.free root).1≠0 then (R'.setRoot (Zn nd.l 0)).2.free root else ((R'.setRoot (Zn nd.l 0)).2.free root).2.dropN k' (Zn nd.l 0)):=Hd (by
          rw[←HDR.out,Rp.dropN,if_neg (by have:=HNG.out;omega),HLE.out])
         have HBX5:=Hd hbx5;obtain⟨m0,m1⟩:=Zc hbx5;rw[he5];have HFR:Hid (∀k,w5.heap.size=k→¬PJ F p f' k):=Hd fun k h e=>by have:=hT5.lp.lt e;omega
         clear hT5 ht5 hnd5 hb5 hbx5 hs5 hW5 hl5 hm5 hfit hleaf he5 hTB5 htt5 HLD
         cases lf with
         | true =>
          have HXE:Hid (T2=(0,R')):=Hd (by rw[HDN.out,if_pos (.inl HLEAF.out)]);go_upto_region 15 with fail;rw[←HW5.out];go_wp2_with fail;rw[HX2.out,HXE.out];go_ret;exact⟨rfl,HEE5.out⟩
         | false =>
          by_cases h1n:1<nd.l.length
          ·have HXE:Hid (T2=(0,R')):=Hd (by rw[HDN.out,if_pos (.inr h1n)])
           have hq1:(1:Int)<(nd.l.length:Int):=by omega
           go_upto_region 15 with fail;rw[←HW5.out];go_wp2_with fail;rw[HX2.out,HXE.out];go_ret;exact⟨rfl,HEE5.out⟩
          ·have hq1:¬(1:Int)<(nd.l.length:Int):=by omega
           have HD3:Hid (T2=if (R'.setRoot (Zn nd.l 0)).1≠0 then R'.setRoot (Zn nd.l 0) else if ((R'.setRoot (Zn nd.l 0)).2.free root).1≠0 then (R'.setRoot (Zn nd.l 0)).2.free root else ((R'.setRoot (Zn nd.l 0)).2.free root).2.dropN k' (Zn nd.l 0)):=Hd (by
            rw[HDN.out,if_neg (by
             rintro(e | e)
             ·rw[HLEAF.out] at e;cases e
             ·exact h1n e)])
           have hkf:=Zec HFIT.out.few 0;obtain⟨KD,hKD⟩:∃KD,KD=Zn nd.l 0:=⟨_,rfl⟩;rw[←hKD] at HD3 hkf;have HKD:=Hd hKD;obtain⟨bb,oo,hab,x0,x1,x2⟩:=HM5.out.isE.at 0 hln0;have hkd2:nd.l[0].kid=KD:=by rw[hKD,Zn,List.getElem?_eq_getElem hln0];rfl
           rw[hkd2,Nat.zero_mul,Nat.add_zero] at x2;subst hab;have q0:(0:Int)<(nd.l.length:Int):=by omega
           have HSR2:=Hd (Zda (HTB5.out.step (Below.refl _ _).drew).lp KD (by omega) (by omega));rw[HC'.out.1] at HSR2
           have t0:B5.drew.cell? ⟨tb,0,none⟩=some (Xb f.q):=by
            rw[←HC'.out.1];show B5.cell? _=_
            rw[cell_of_row _ _ _ _ _ _ HTB5.out.head];rfl
           have m1':B5.drew.cell? ⟨w5.heap.size,1,none⟩=some (.slice (some ⟨bb,oo,none⟩) nd.l.length vc):=m1;have x2':B5.drew.cell? ⟨bb,oo+2,none⟩=some (.int .i64 KD):=x2;clear hKD hkd2 x0 x1 h1n;go_upto_region 15 with fail;rw[←HW5.out];go_upto_region 17 with fail;clear m0 m1 x2;go_region_with (go_at_call 40;refine HSR2.out.mono ?_;clear HSR2;rintro e w6 ⟨rfl,hto6⟩;have HTO6:=Hd hto6;clear hto6)
           all_goals
            obtain⟨f6,hT6,hq6,hk6,ht6⟩:=(HTB5.out.step (Below.refl _ _).drew).to HTO6.out
            have HT6:=Hd hT6
            have HC6:Hid (f6.q=f.q∧(∀k,PT f6 k→PT f k∨w.heap.size≤k)∧Zb (PJ F p f) w w6):=Hd ⟨hq6.trans HC'.out.1,fun k h=>(hk6 k h).elim (HC'.out.2.1 k) fun e=>.inr (by have:=HTT5.out.size;have h9:B5.drew.heap.size=B5.heap.size:=rfl;omega),HTT5.out.then ht6.undrew fun i hi e=>by
             rcases e with e | e
             ·exact .inl e
             ·rcases HC'.out.2.1 i e with e | e
              ·exact .inr e
              ·omega⟩
            have hbx6:=(ht6.block _ (Za HBX5.out) (HFR.out _ rfl)).trans HBX5.out
            have hpb:¬PJ F p f' bb:=fun e=>by have:=HT'.out.lp.lt e;have:=(HM5.out.lt (k:=bb) rfl).1;omega
            have hm6:=HM5.out.keep1 (w':=w6) fun k hk=>by
             have hkb:bb=k:=by simpa [Value.ownBlock] using hk
             subst hkb;exact ht6.block _ (HM5.out.lt (k:=bb) rfl).2 hpb
            obtain⟨b6,o6,hab6,_,_,y2⟩:=hm6.isE.at 0 hln0
            simp only[Option.some.injEq,Addr.mk.injEq,and_true] at hab6
            obtain⟨rfl,rfl⟩:=hab6
            obtain⟨m0,m1⟩:=Zc hbx6
            have c6:w6.cell? ⟨tb,0,none⟩=some (Xb f.q):=by rw[←HC6.out.1,cell_of_row _ _ _ _ _ _ hT6.head];rfl
            have HM6:=Hd hm6
            have HBX6:=Hd hbx6
            have HPB:=Hd (Xj (w:=B5.drew) hk6 hpb (HM5.out.lt (k:=bb) rfl).2)
            have HFR6:=Hd (Xj (w:=B5.drew) hk6 (HFR.out _ rfl) (Za HBX5.out))
            have HFC:=Hd (Zeu hT6.lp root (by omega) (by omega))
            rw[HC6.out.1] at HFC
            have HTC6:Hid (Rp.takenC (R'.setRoot KD).2<k'+1):=Hd (by rw[Rp.takenC_setRoot];exact HTC'.out)
            have HG6:=Hd (HG'.out.setRoot KD)
            clear hT6 hq6 hk6 ht6 hbx6 hm6 hpb m1' x2' t0 y2
            by_cases hs6:(R'.setRoot KD).1=0
            ·have hz6:((R'.setRoot KD).1 != 0)=false:=by rw[hs6];rfl
             have HD4:Hid (T2=if ((R'.setRoot KD).2.free root).1≠0 then (R'.setRoot KD).2.free root else ((R'.setRoot KD).2.free root).2.dropN k' KD):=Hd (by rw[HD3.out,if_neg (fun h=>h hs6)])
             clear hs6;generalize (R'.setRoot KD).2=RA at *;generalize (R'.setRoot KD).1=EA at *;go_wp2_with fail;refine HFC.out.mono ?_;rintro e w7 ⟨rfl,hto7⟩;obtain⟨f7,hT7,hq7,hk7,ht7⟩:=HT6.out.to hto7;have HT7:=Hd hT7
             have HC7:Hid (f7.q=f.q∧(∀k,PT f7 k→PT f k∨w.heap.size≤k)∧Zb (PJ F p f) w w7):=Hd ⟨hq7.trans HC6.out.1,fun k h=>(hk7 k h).elim (HC6.out.2.1 k) fun e=>.inr (by have:=HC6.out.2.2.size;omega),HC6.out.2.2.then ht7 fun i hi e=>by
              rcases e with e | e
              ·exact .inl e
              ·rcases HC6.out.2.1 i e with e | e
               ·exact .inr e
               ·omega⟩
             have hbx7:=(ht7.block _ (Za HBX6.out) HFR6.out).trans HBX6.out
             have hm7:=HM6.out.keep1 (w':=w7) fun k hk=>by
              have hkb:bb=k:=by simpa [Value.ownBlock] using hk
              subst hkb;exact ht7.block _ (HM6.out.lt (k:=bb) rfl).2 HPB.out
             obtain⟨b7,o7,hab7,_,_,z2⟩:=hm7.isE.at 0 hln0;simp only[Option.some.injEq,Addr.mk.injEq,and_true] at hab7;obtain⟨rfl,rfl⟩:=hab7;have hkd7:(Zn nd.l 0)=nd.l[0].kid:=by rw[Zn,List.getElem?_eq_getElem hln0];rfl
             rw[←hkd7,←HKD.out,Nat.zero_mul,Nat.add_zero] at z2;have n1:=(Zc hbx7).2
             clear hto7 hT7 hq7 hk7 ht7 hbx7 hm7 hkd7 m0 m1 c6;by_cases hf7:(RA.free root).1=0
             ·have hz7:((RA.free root).1 != 0)=false:=by rw[hf7];rfl
              have HD5:Hid ((RA.free root).2.dropN k' KD=T2):=Hd (by rw[HD4.out,if_neg (fun h=>h hf7)]);have HTC7:Hid (Rp.takenC (RA.free root).2<k'):=Hd (by have:=Rp.takenC_free RA root hf7;have:=HTC6.out;omega);have HG7:=Hd (HG6.out.free root);clear hf7;go_wp2_with fail;go_roundg k'
              case measure=>have:=HGK.out;omega
              case rel=>exact⟨KD,(RA.free root).2,f7,rfl,by omega,by omega,HD5.out,HT7.out,HC7.out.1,HC7.out.2.1,HC7.out.2.2,HTC7.out,HG7.out⟩
             ·have hz7:((RA.free root).1 != 0)=true:=by rw[bne_iff_ne];exact hf7
              have HXE:Hid (T2=RA.free root):=Hd (by rw[HD4.out,if_pos hf7]);have HEE:Hid (Qc n J seq B w F p f w7 (RA.free root).2 tb):=Hd ⟨f7,HT7.out,HC7.out.1,HC7.out.2.1,HC7.out.2.2⟩;clear hf7;go_wp2_with fail;rw[HX2.out,HXE.out];go_ret;exact⟨rfl,HEE.out⟩
            ·have hz6:((R'.setRoot KD).1 != 0)=true:=by rw[bne_iff_ne];exact hs6
             have HXE:Hid (T2=R'.setRoot KD):=Hd (by rw[HD3.out,if_pos hs6]);have HEE:Hid (Qc n J seq B w F p f w6 (R'.setRoot KD).2 tb):=Hd ⟨f6,HT6.out,HC6.out.1,HC6.out.2.1,HC6.out.2.2⟩;clear hs6;go_wp2_with fail;rw[HX2.out,HXE.out];go_ret;exact⟨rfl,HEE.out⟩
     ·have hz:((Rq.setRoot RT).1 != 0)=true:=by rw[bne_iff_ne];exact hs
      have HXE:Hid (X=Rq.setRoot RT):=Hd (by rw[HXS.out,if_pos hs]);clear hs;have HEE:Hid (Qc n J seq B w F p f w4 (Rq.setRoot RT).2 tb):=Hd ⟨f4,HT4.out,HC4.out.1,HC4.out.2.1,HC4.out.2.2⟩;go_wp2_with fail;rw[HXE.out];go_ret;exact⟨rfl,HEE.out⟩
  ·have hnz':=hnz he
   have hbe:(eq==0)=false:=by rw[beq_eq_false_iff_ne];exact he
   have hbn:(eq != 0)=true:=by rw[bne_iff_ne];exact he
   have HXE:Hid (X=(eq,Rq)):=Hd (by
    rcases hnz' with ⟨h1,h2,h3⟩ | ⟨h1,h2,h3⟩
    ·rw[HX.out,if_pos h1,h2,h3]
    ·rw[HX.out,if_neg (fun h=>h h1),if_pos (by rw[h2];exact he),h2,h3])
   have HEE:=Hd ht.to;clear hm ht hz hnz hnz' he hf hg;generalize l.length=LL at *;go_wp2_with fail;rw[HXE.out];go_ret;exact⟨rfl,HEE.out⟩
end
end
section
open Go.RowKit
def Xr (key val:List UInt8):Int:=if 80<key.length then 100 else if 200<val.length then 101 else 0
def Rp.get (R:Rp) (key:List UInt8):(List UInt8 × Bool) × Int:=if 80<key.length then (([],false),100) else R.getN key 40 R.root
theorem tfails_any (w:World) (tb:Nat) (key val:List UInt8) (h1:key.length≤9223372036854775807) (h2:val.length≤9223372036854775807) :
  Calls Tryz.prog 38 #[trp tb,.string ⟨key.toArray⟩,.string ⟨val.toArray⟩] w fun e w'=>e=.returned (.int .i64 (Xr key val))∧w'=w:=by
 by_cases k1:80<key.length
 ·have hF:Xr key val=100:=by rw[Xr,if_pos k1]
  rw[hF];have hd:decide ((key.length:Int) > 80)=true:=decide_eq_true (by omega)
  clear hF;go_enter Tryz.func38,Tryz.ntmps38;go_wp2_with fail;go_ret;exact⟨rfl,rfl⟩
 ·have hd:decide ((key.length:Int) > 80)=false:=decide_eq_false (by omega)
  by_cases k2:200<val.length
  ·have hF:Xr key val=101:=by rw[Xr,if_neg k1,if_pos k2]
   rw[hF];have hd2:decide ((val.length:Int) > 200)=true:=decide_eq_true (by omega)
   clear hF;go_enter Tryz.func38,Tryz.ntmps38;go_wp2_with fail;go_ret;exact⟨rfl,rfl⟩
  ·have hF:Xr key val=0:=by rw[Xr,if_neg k1,if_neg k2]
   rw[hF];have hd2:decide ((val.length:Int) > 200)=false:=decide_eq_false (by omega)
   clear hF;go_enter Tryz.func38,Tryz.ntmps38;go_wp2_with fail;go_ret;exact⟨rfl,rfl⟩
theorem tfails_nil (w:World) (key val:List UInt8) :
  Calls Tryz.prog 38 #[.pointer none,.string ⟨key.toArray⟩,.string ⟨val.toArray⟩] w fun e w'=>e=.returned (.int .i64 1)∧w'=w:=by
 go_enter Tryz.func38,Tryz.ntmps38;go_wp2_with fail;go_ret;exact⟨rfl,rfl⟩
section
variable {n : Nat} {J : Jn} {seq : Int} {B : List (List UInt8)} {F : Ft} {p : Nat} {tb : Nat}
def GetEnd (n:Nat) (J:Jn) (seq:Int) (B:List (List UInt8)) (w:World) (F:Ft) (p:Nat) (f:Pf) (R:Rp) (tb:Nat) (X:(List UInt8 × Bool) × Int) (e:Ending) (w':World):Prop:=e=.returned (.tuple #[.string ⟨X.1.1.toArray⟩,.bool X.1.2,.int .i64 X.2])∧Tr n J seq B w' F p f R tb∧Zb (PJ F p f) w w'
theorem tget_any {w:World} {f:Pf} {R:Rp} (h:Tr n J seq B w F p f R tb) (key:List UInt8) (hk:key.length≤9223372036854775807) (hr:-9223372036854775808≤R.root∧R.root≤9223372036854775807) :
  Calls Tryz.prog 21 #[trp tb,.string ⟨key.toArray⟩] w (GetEnd n J seq B w F p f R tb (R.get key)):=by
 have HFL:=Hd (tfails_any w tb key [] hk (by simp));have c0:w.cell? ⟨tb,0,none⟩=some (Xb f.q):=by rw[cell_of_row _ _ _ _ _ _ h.head];rfl
 have HRT:=Hd (lp_root h.lp);have H:=Hd h;obtain⟨X,hX⟩:∃X,X=R.get key:=⟨_,rfl⟩;rw[←hX];by_cases k1:80<key.length
 ·have hF:Xr key []=100:=by rw[Xr,if_pos k1]
  rw[hF] at HFL;have HX:Hid (X=(([],false),100)):=Hd (by rw[hX,Rp.get,if_pos k1])
  have HE:Hid (GetEnd n J seq B w F p f R tb (([],false),100) (.returned (.tuple #[.string ⟨#[]⟩,.bool false,.int .i64 100])) w):=Hd ⟨rfl,h,Zb.refl _ _⟩;clear h hX hF hr;rw[HX.out];go_enter Tryz.func21,Tryz.ntmps21;go_wp2_with fail;refine HFL.out.mono ?_;rintro e w1 ⟨rfl,e1⟩;obtain rfl:w=w1:=e1.symm;go_wp2_with fail;exact bodyPost_ret (v:=.tuple #[.string ⟨#[]⟩,.bool false,.int .i64 100]) (by simp[results,Tryz.results21,go_sem]) rfl HE.out
 ·have hF:Xr key []=0:=by rw[Xr,if_neg k1,if_neg (by simp)]
  rw[hF] at HFL;have HX:Hid (X=R.getN key 40 R.root):=Hd (by rw[hX,Rp.get,if_neg k1])
  have HRB:=Hd hr;clear h hX hF hr;go_enter Tryz.func21,Tryz.ntmps21;go_wp2_with fail;refine HFL.out.mono ?_;rintro e w1 ⟨rfl,e1⟩;obtain rfl:w=w1:=e1.symm;go_wp2_with fail;refine HRT.out.mono ?_;rintro e w1 ⟨rfl,e1⟩;obtain rfl:w=w1:=e1.symm;clear c0;go_wp2_with fail;go_loopw [8,24] (fun x y wr=>∃(k:Nat) (page:Int),k≤40∧-9223372036854775808≤page∧page≤9223372036854775807∧x=.int .i64 page∧y=.int .i64 (k:Int)∧X=R.getN key (40 - k) page∧Tr n J seq B wr F p f R tb∧Zb (PJ F p f) w wr) (fun _ y _=>40 - (intOf y).toNat)
  case atStart=>exact⟨0,R.root,by omega,HRB.out.1,HRB.out.2,rfl,rfl,HX.out,H.out,Zb.refl _ _⟩
  case round =>
   obtain⟨k,page,hk40,p1,p2,rfl,rfl,hX,hT,ht⟩:=hrel;have HT:=Hd hT
   have HTT:=Hd ht;have HX2:=Hd hX;clear hT ht hX;by_cases hlt:k<40
   ·have hd:decide ((k:Int)<40)=true:=decide_eq_true (by omega)
    obtain⟨q,hq⟩:∃q,40 - k=q+1:=⟨39 - k,by omega⟩;by_cases hp:page<0
    ·have hd2:decide (page<0)=true:=decide_eq_true hp;have HE:Hid (X=(([],false),0)):=Hd (by rw[HX2.out,hq,Rp.getN,if_pos hp]);clear hq;go_wp2_with fail;rw[HE.out];exact bodyPost_ret (v:=.tuple #[.string ⟨#[]⟩,.bool false,.int .i64 0]) (by simp[results,Tryz.results21,go_sem]) rfl ⟨rfl,HT.out,HTT.out⟩
    ·have hd2:decide (page<0)=false:=decide_eq_false hp
     have HP:=Hd hp;have HLD:=Hd (Zcm HT.out page p1 p2);have HQ:=Hd hq;clear hq;go_wp2_with fail;refine HLD.out.mono ?_;rintro e w2 ⟨leaf,va,vk,vc,rfl,hT2,ht2,hnd⟩;have HT2:=Hd hT2;have HTT2:=Hd (HTT.out.trans ht2);obtain⟨hb3,hbx,hs3⟩:=nd_box w2 leaf (.slice va vk vc);obtain⟨W3,hW3⟩:∃W3,W3=w2.alloc (.cells #[.bool leaf,.slice va vk vc] 84):=⟨_,rfl⟩;rw[←hW3] at hb3 hbx hs3;have HW3:=Hd hW3;have HT3:=Hd (hT2.step hb3);have HTT3:=Hd (HTT2.out.trans (Zb.of_below hb3))
     cases hl:(R.load page).1 with
     | none =>
      have hne:=Rp.load_none hl;have hne2:((R.load page).2 != 0)=true:=by rw[bne_iff_ne];exact hne
      have HE:Hid (X=(([],false),(R.load page).2)):=Hd (by
       have:R.load page=(none,(R.load page).2):=by rw[←hl]
       rw[HX2.out,HQ.out,Rp.getN,if_neg (by have:=HP.out;omega),this])
      clear hT2 ht2 hnd hb3 hbx hs3 hW3 hl hne;go_wp2_with fail;rw[←HW3.out,HE.out];exact bodyPost_ret (v:=.tuple #[.string ⟨#[]⟩,.bool false,.int .i64 (R.load page).2]) (by simp[results,Tryz.results21,go_sem]) rfl ⟨rfl,HT3.out,HTT3.out⟩
     | some nd =>
      obtain⟨hleaf,hm⟩:=hnd nd hl;obtain⟨hfit,he0⟩:=HT.out.lp.load_fit hl;obtain⟨hn1,hn2⟩:=hfit.len;have hne2:((R.load page).2 != 0)=false:=by rw[he0];rfl
      have hm3:=hm.below hb3;have hvk:vk=nd.l.length:=by obtain⟨_,_,e,_⟩:=hm3.isE.form;simp only[Value.slice.injEq] at e;exact e.2.1
      subst hvk
      have HGN:Hid (R.getN key (40 - k) page=if nd.leaf then (if (nd.behind key).2 then (((nd.l[(nd.behind key).1]?.map (·.val)).getD [],true),0) else (([],false),0)) else R.getN key q (Zn nd.l (nd.behind key).1)):=Hd (by
       have:R.load page=(some nd,0):=by rw[←hl,←he0]
       rw[HQ.out,Rp.getN,if_neg (by have:=HP.out;omega),this])
      have hbe:=behind_any W3 leaf va nd.l.length vc hm3.isE rfl hn1 (by omega) (by have:=hfit.srt;rw[show nd=⟨nd.leaf,nd.l⟩ from rfl,hleaf] at this;exact this) key
      rw[show Nd.mk leaf nd.l=nd by rw[←hleaf]] at hbe
      have HBE:=Hd hbe;have HM3:=Hd hm3;have HBX:=Hd hbx;have HFIT:=Hd hfit;have HL:=Hd hleaf;have HN1:=Hd hn1;clear hT2 ht2 hnd hb3 hs3 hW3 hl hm hm3 hbe hbx hfit hleaf he0 hn1 hn2;go_wp2_with fail;rw[←HW3.out];refine HBE.out.mono ?_;rintro e w4 ⟨rfl,hb4⟩;have hbx4:=(hb4.block _ (Za HBX.out)).trans HBX.out;have HT4:=Hd (HT3.out.step hb4);have HTT4:=Hd (HTT3.out.trans (Zb.of_below hb4));have HM4:=Hd (HM3.out.below hb4);obtain⟨m0,m1⟩:=Zc hbx4;clear hb4 hbx4
      cases leaf with
      | true =>
       obtain⟨bl1,bl2⟩:=Zbh HL.out key
       cases hi:(nd.behind key).2 with
       | false =>
        have HE:Hid (X=(([],false),0)):=Hd (by rw[HX2.out,HGN.out,if_pos HL.out,if_neg (by simp[hi])]);clear bl1 bl2;go_wp2_with fail;rw[HE.out];exact bodyPost_ret (v:=.tuple #[.string ⟨#[]⟩,.bool false,.int .i64 0]) (by simp[results,Tryz.results21,go_sem]) rfl ⟨rfl,HT4.out,HTT4.out⟩
       | true =>
        have hlt2:=bl2 hi;have HE:Hid (X=((nd.l[(nd.behind key).1].val,true),0)):=Hd (by rw[HX2.out,HGN.out,if_pos HL.out,if_pos hi,List.getElem?_eq_getElem hlt2];rfl);obtain⟨bb,oo,rfl,c0,c1,c2⟩:=HM4.out.isE.at _ hlt2;have hi0:(0:Int)≤((nd.behind key).1:Int):=by omega
        have hi1:((nd.behind key).1:Int)<(nd.l.length:Int):=by omega
        clear bl1 bl2;generalize nd.l[(nd.behind key).1].val=val at *;generalize (nd.behind key).1=ix at *;go_wp2_with fail;rw[HE.out];exact bodyPost_ret (v:=.tuple #[.string ⟨val.toArray⟩,.bool true,.int .i64 0]) (by simp[results,Tryz.results21,go_sem]) rfl ⟨rfl,HT4.out,HTT4.out⟩
      | false =>
       have hlt2:=Zdz HFIT.out.some HL.out key;obtain⟨kf0,kf1⟩:=Zec HFIT.out.few (nd.behind key).1;have HNX:Hid (X=R.getN key q (Zn nd.l (nd.behind key).1)):=Hd (by rw[HX2.out,HGN.out,if_neg (by rw[HL.out];simp)]);obtain⟨bb,oo,rfl,c0,c1,c2⟩:=HM4.out.isE.at _ hlt2;have hkid:nd.l[(nd.behind key).1].kid=Zn nd.l (nd.behind key).1:=by rw[Zn,List.getElem?_eq_getElem hlt2];rfl
       rw[hkid] at c2;have hi0:(0:Int)≤((nd.behind key).1:Int):=by omega
       have hi1:((nd.behind key).1:Int)<(nd.l.length:Int):=by omega
       clear hkid c0 c1;generalize Zn nd.l (nd.behind key).1=kd at *;have hlt3:=hlt2
       generalize (nd.behind key).1=ix at *;go_wp2_with fail;go_roundw
       case rel=>exact⟨k+1,kd,by omega,by omega,by omega,rfl,by go_num,by rw[HNX.out,show 40 - (k+1)=q by have:=HQ.out;omega],HT4.out,HTT4.out⟩
       case measure=>simp[intOf];omega
   ·have hd:decide ((k:Int)<40)=false:=decide_eq_false (by omega)
    have HE:Hid (X=(([],false),103)):=Hd (by rw[HX2.out,show 40 - k=0 by omega,Rp.getN])
    go_wp2_with fail;rw[HE.out];exact bodyPost_ret (v:=.tuple #[.string ⟨#[]⟩,.bool false,.int .i64 103]) (by simp[results,Tryz.results21,go_sem]) rfl ⟨rfl,HT.out,HTT.out⟩
end
end
end Go.Proofs.YtofibccplbnaiaaGreatDoor
