/- Contracts of the functions that the statements of this seat reach, part 6: each says what the call answers and what it leaves of the memory. -/
import Derived.Test.YtfaobkmojlhbnaaGreatDoorZR5
import Derived.Test.YtfaobkmojlhbnaaGreatDoorZR2
import Derived.Deep.Onto
import Derived.Test.YtfaobkmojlhbnaaGreatDoorZR3
import Derived.Test.YtfaobkmojlhbnaaGreatDoorZR1
import Derived.Deep.AppendSrc
import Derived.LoopTactic
import Derived.IntWalk
import Derived.Laws.Cover1
set_option linter.unusedVariables false
set_option linter.unusedSimpArgs false
set_option maxRecDepth 100000
set_option maxHeartbeats 64000000
namespace Go.Proofs.YtfaobkmojlhbnaaGreatDoor
section
open Go.RowKit
variable {w w':World}{F:Ft}{p:Nat}{a c:Int}{P:Pg}{f:Pf}
theorem run_build_pager (w:World) (p g n c M:Nat) (a2:Option Addr) (n2 c2:Nat) (r r2:Int):(Instr.build 145 #[(0,jptr p),(1,.agg #[.slice (some ⟨g,0,none⟩) n c,.int .i64 r]),(2,.agg #[.slice a2 n2 c2,.int .i64 r2]),(3,.map (some M))]).run Tryz.prog w =
  .ok (.agg #[jptr p,.slice (some ⟨g,0,none⟩) n c,.int .i64 r,.slice a2 n2 c2,.int .i64 r2,.map (some M),.bool false,.int .i64 0]) w:=by kernel_rfl
theorem Jn.read_len2 {J:Jn} (h:JAt w F p J) (h0:(J.read a).2.1=0):(J.read a).1.length=112:=by
 have d:∀k,k<J.D.n->(Xv (sec J.D.now k)).length=112:=λk e=>by have:=Qh h.disk.ok.now e;simp[Xv,this]
 unfold Jn.read at h0 ⊢;split at h0
 .rename_i b;exact absurd h0 b
 .rename_i b
  rw[if_neg b];split at h0
  .cases h0
  .rename_i g
   rw[if_neg g];split at h0
   .cases h0
   .rename_i i
    rw[if_neg i];split at h0
    .rename_i j;rw[if_pos j];exact d _ (Dk.home_lt (by omega))
    .cases h0
theorem Jn.reads_len2 {J:Jn} (h:JAt w F p J):∀{k:Nat},(J.reads a k).2.1=0->(J.reads a k).1.length=112*k
 | 0,_=>rfl
 | k+1,b=>by
  have d:(J.reads a k).2.1=0:=by refine Decidable.byContradiction λe=>?_;rw[Jn.reads_err e (k+1) (by omega)] at b;exact e b
  have g:(J.read (a+k)).2.1=0:=by refine Decidable.byContradiction λe=>?_;rw[Jn.reads_stop d e] at b;exact e b
  have i:=Jn.reads_len2 h d;have h3:=Jn.read_len2 h g;rw[Jn.reads_next d g,List.length_append,i,h3];omega
def Zde (w:World) (F:Ft) (p:Nat) (J:Jn) (e:Ending) (w':World):Prop :=
 (∀c J',J.popen=(c,J',none)->e=.returned (.tuple #[.pointer none,.int .i64 c])/\JAt w' F p J') /\
 (∀c J' P,J.popen=(c,J',some P)->∃f,e=.returned (.tuple #[Qs f.q,.int .i64 c])/\Ys w' F p f P/\(∀k,PT f k->w.heap.size<=k))/\Zb (JT F p) w w'
theorem Zde.bad {J b:Jn} (h:J.popen=(c,b,none)) (hj:JAt w' F p b) (ht:Zb (JT F p) w w'):Zde w F p J (.returned (.tuple #[.pointer none,.int .i64 c])) w' :=
 ⟨λd g e=>by rw[h] at e;cases e;exact⟨rfl,hj⟩,λd g P e=>(by rw[h] at e;cases e),ht⟩
theorem Zde.good {J b:Jn} (h:J.popen=(c,b,some P)) (hp:Ys w' F p f P) (hf:∀k,PT f k->w.heap.size<=k) (ht:Zb (JT F p) w w'):Zde w F p J (.returned (.tuple #[Qs f.q,.int .i64 c])) w' :=
 ⟨λd g e=>(by rw[h] at e;cases e),λd g P e=>(by rw[h] at e;cases e;exact⟨f,rfl,hp,hf⟩),ht⟩
theorem Ys.opened {W:World} (hj:JAt w F p P.J) (hn:Nib w) (hb:Below w.heap.size w W) (b:f.kv=[]) (d:P.own=[]) (j:P.off=P.off) (head:W.heap[f.q]?=some (pgRow p f P)) (now:BoR W f.gn f.cn P.now) (was:BoR W f.gw f.cw P.was) (tab:OTab W f.M []) (ok:Pok P)
 (h1:w.heap.size<=f.q) (h2:w.heap.size<=f.gn) (h3:w.heap.size<=f.gw) (h4:w.heap.size<=f.M) (sep:f.gn≠f.gw):Ys W F p f P/\∀k,PT f k->w.heap.size<=k:=by
 have g:∀k,PT f k->w.heap.size<=k/\k<W.heap.size:=by
  rintro k (e | e | e | e | ⟨x,i,_⟩)
  .rw[e];exact⟨h1,Za head⟩
  .rw[e];exact⟨h2,now.lt⟩
  .rw[e];exact⟨h3,was.lt⟩
  .rw[e];exact⟨h4,tab.lt⟩
  .rw[b] at i;cases i
 refine⟨⟨hj.below hb,hn.below hb,head,now,was,by rw[b];exact tab,by rw[b,d];trivial,ok,λk h=>?_,sep⟩,λk h=>(g k h).1⟩;have:=g k h
 refine⟨λe=>?_,λe=>?_,this.2⟩
 .have:=hj.lt e;omega
 .have:=nib_lt hn;omega
theorem planOk_spec {b:List UInt8} {n:Nat} (h:Zdj b n=true):Xt b<(n:Int):=by simp only[Zdj,Bool.and_eq_true,decide_eq_true_eq] at h;exact h.1.1
theorem rootOf_ge (b:List UInt8):-1<=Xt b:=by unfold Xt;omega
theorem popen_any (w:World) (F:Ft) (p:Nat) (J:Jn) (h:JAt w F p J) (hn:Nib w) (ao:22<=J.D.n):Calls Tryz.prog 50 #[jptr p] w (Zde w F p J):=by
 have HE:=Hd (show J.popen=if (J.reads 0 2).2.1≠0 then ((J.reads 0 2).2.1,(J.reads 0 2).2.2,none) else if Zdj (J.reads 0 2).1 (J.reads 0 2).2.2.pages=false then (82,(J.reads 0 2).2.2,none)
  else (0,(J.reads 0 2).2.2,some ⟨(J.reads 0 2).2.2,Yx (J.reads 0 2).1 (J.reads 0 2).2.2.pages,Xt (J.reads 0 2).1,Yx (J.reads 0 2).1 (J.reads 0 2).2.2.pages,Xt (J.reads 0 2).1,[],false,0⟩) from rfl)
 have HH:=Hd h;have HN:=Hd hn;clear h hn;go_enter Tryz.func50,Tryz.ntmps50;go_wp2_with fail;go_loopw [4,12] (λb x wr=>∃k:Nat,k<=2/\x=.int .i64 (k:Int)/\(J.reads 0 k).2.1=0/\Mine 5 w.heap.size wr b (J.reads 0 k).1/\JAt wr F p J/\Nib wr/\Zb (JT F p) w wr) (λ_ x _=>2 - (intOf x).toNat)
 case atStart=>exact⟨0,Vl _,rfl,rfl,Mine.nil _ _ _,HH.out,HN.out,Zb.refl _ _⟩
 case round =>
  obtain⟨k,hk,rfl,l,hm,hj,N,ht⟩:=hrel;obtain⟨a,c,rfl,_,_⟩:=hm.isB.form;have hsz:=ht.size
  by_cases ap:k<2
  .have hd:decide ((k:Int)<2)=true:=Vd (by omega)
   have HJ:=Hd (jread_any wr F p J hj N (by omega) (k:Int) (by omega) (by omega));have HM:=Hd hm;have HT:=Hd ht;have HNB:=Hd N;have HJJ:=Hd hj;have HOK:=Hd l;have hlen:=Jn.reads_len J 0 k;clear hj N ht hm l;go_wp2_with fail;refine HJ.out.mono ?_;rintro e w4 ⟨v,rfl,hv,O,E⟩;have hm4:=HM.out.keep (w':=w4) λk h1 h2=>E.block k h2 λe=>by have:=HH.out.lt e;omega
   obtain⟨va,vc,rfl,_,_⟩:=hv.now.form;have hlen2:=Jn.read_len J (k:Int)
   have G:(0:Int)+(k:Int)=(k:Int):=by omega
   by_cases X:(J.read (k:Int)).2.1=0
   .have ae:((J.read (k:Int)).2.1 != 0)=false:=by simpa using X
    have B:=Hd (Jn.reads_next HOK.out (by rw[G];exact X));rw[G] at B;have HJ4:Hid (JAt w4 F p J):=Hd (by rw[Jn.read_ok X] at O;exact O);have HNB4:=Hd (HNB.out.turned HJJ.out E);have HT4:=Hd (HT.out.trans E);have HB:=Hd hv.now;have HM4:=Hd hm4;clear O E hv hm4 X G;generalize (J.read (k:Int))=R at *;generalize (J.reads 0 k)=L at *;have hsz4:=HT4.out.size;go_wp2_with (at_builtin;refine Zdo rfl (.tmp 24) (.tmp 25) 77 rfl w.heap.size 5 Zbg Tryz.underlying77 _ L.1 rfl HM4.out _ R.1 rfl HB.out (by omega) hsz4 ?_);intro v' w6 a0 _ d _ _;obtain⟨a6,c6,rfl,_,_⟩:=a0.isB.form;have HM6:=Hd a0;clear a0;go_wp2_with fail;go_roundw
    case rel=>exact⟨k+1,by omega,by go_num,by rw[B.out],by rw[B.out];exact HM6.out,HJ4.out.keep λk hk=>d.block k (HH.out.lt hk),HNB4.out.of_turned (T:=λk=>¬k<w.heap.size) ⟨d.os,d.tape,d.output,d.size,λk _ hn=>d.block k (Decidable.not_not.1 hn)⟩ (λe=>e (nib_lt HN.out)),HT4.out.on d⟩
    case measure=>simp[intOf];omega
   .have ae:((J.read (k:Int)).2.1 != 0)=true:=by simpa using X
    have B:=Hd (Jn.reads_stop HOK.out (by rw[G];exact X));rw[G] at B
    have HX:Hid (J.popen=((J.read (k:Int)).2.1,(J.read (k:Int)).2.2,none)):=Hd (by
     have h8:=Jn.reads_err (J:=J) (a:=0) (k:=k+1) (by rw[B.out];exact X) 2 (by omega)
     rw[HE.out,h8,B.out,if_pos X])
    have HT4:=Hd (HT.out.trans E);have HJ4:=Hd O;clear O E hv hm4 X G;generalize (J.read (k:Int))=R at *;go_wp2_with fail;go_ret2;exact Zde.bad HX.out HJ4.out HT4.out
  .obtain rfl:k=2:=by omega
   have hl:=Jn.reads_len2 hj l;have hpl:=hj.pages_le;have H:0<J.pages:=by unfold Jn.pages Dk.blocks;omega
   obtain⟨n,hN⟩:∃n,n=J.pages:=⟨_,rfl⟩;obtain⟨L,hL⟩:∃L,L=(J.reads 0 2).1:=⟨_,rfl⟩;have af:Hid (Zdj L n=false->J.popen=(82,J,none)):=Hd λe=>by rw[HE.out,if_neg (by simp[l]),Jn.reads_ok l,<-hL,<-hN,if_pos e]
   have ag:Hid (Zdj L n=true->J.popen=(0,J,some ⟨J,Yx L n,Xt L,Yx L n,Xt L,[],false,0⟩)):=Hd λe=>by rw[HE.out,if_neg (by simp[l]),Jn.reads_ok l,<-hL,<-hN,if_neg (by simp[e])]
   have a2:=Hd (pagesOf_any wr F p J hj (by omega));rw[<-hL] at hm hl ⊢;rw[<-hN] at a2 hpl H;have a3:L.length=224:=hl;have HPD:=Hd (planned_any wr _ L n hm.isB a3 hpl);have HNE:=Hd hN;have HJ:=Hd hj;have HNB:=Hd N;have HT:=Hd ht;rw[l] at *;clear hj N ht hm hl a3 l hN hL;go_wp2_with (first | (go_at_call 85;refine a2.out.mono ?_;rintro e w9 ⟨rfl,a4⟩;rw[<-a4];clear a4 w9));refine HPD.out.mono ?_;rintro e w5 ⟨u,rfl,hu,a5⟩;have htl:=Zs L n;obtain⟨g,r,rfl,hg,a7⟩:=hu.boR (by rw[htl];exact H);rw[htl] at *;have HBO:=Hd a7;have HB5:=Hd a5;have HTL:=Hd htl;obtain⟨R,hR⟩:∃R,R=Xt L:=⟨_,rfl⟩;rw[<-hR];have HR:=Hd hR;clear hu a7 a5 htl hR
   cases Y:Zdj L n with
   | false =>
    have HX:=Hd (af.out Y);go_wp2_with fail;go_ret2;have d:Below wr.heap.size wr (w5.alloc (.cells #[.slice (some ⟨g,0,none⟩) n r,.int .i64 R] 141)):=HB5.out.trans ((Ve _ _).alloc HB5.out.size _);exact Zde.bad HX.out (HJ.out.below d) (HT.out.trans (Zb.of_below d))
   | true =>
    have HX:=Hd (ag.out Y);have HSP:=Hd (planOk_spec Y);clear Y;have hmm:=λw=>run_makeMap (P:=Tryz.prog) 143 w;have hbu:=λw g' c' M=>run_build_pager w p g' n c' M (some ⟨g,0,none⟩) n r R R;obtain⟨W5,Z⟩:∃W5,W5=w5.alloc (.cells #[.slice (some ⟨g,0,none⟩) n r,.int .i64 R] 141):=⟨_,rfl⟩;have a8:W5.heap[w5.heap.size]?=some (Qy (.slice (some ⟨g,0,none⟩) n r) R):=by rw[Z];exact Vg w5 _
    have C:Below w5.heap.size w5 W5:=by rw[Z];exact(Ve _ _).alloc (Va _) _
    have a9:Hid (∀W,Below W5.heap.size W5 W->Calls Tryz.prog 68 #[.agg #[.slice (some ⟨g,0,none⟩) n r,.int .i64 R]] W λe w'=>∃u,e=.returned (.agg #[u,.int .i64 R])/\Qb W.heap.size w' u (Yx L n)/\Below W.heap.size W w'):=Hd λW hW=>by have hb:=(HBO.out.keep (C.block _ HBO.out.lt)).keep (hW.block _ (Vm HBO.out.lt C.size));have:=hb.mine 0 (Vl _);rw[Zs] at this;exact pclone_any W 0 _ (Yx L n) R this (by rw[Zs];omega)
    have i:=Hd C;have HW5:=Hd Z;clear C Z;go_upto_region 15 with fail;rw[<-HW5.out];clear HW5;have ah:(λW:World=>W.heap[w5.heap.size]?=some (Qy (.slice (some ⟨g,0,none⟩) n r) R)) W5.drew:=a8;have hbW:=(Ve W5.heap.size W5).drew;refine rgA (S:=(λW:World=>W.heap[w5.heap.size]?=some (Qy (.slice (some ⟨g,0,none⟩) n r) R))) ah (λhH=>?_);generalize W5.drew=m at *;refine tdI [0,1,3] ?_
    iterate 3
     refine tdS (v:=?_) ?_ hH ?_;rotate_left
     .intro w o;have hpc:=Yf o;obtain⟨q0,q1⟩:=hpc;go_simp;try with_reducible rfl
     try simp only[Act.put,zA,zB,zC]
    refine tdE ?_;refine wpAnyH_ready (rs:=[2,4]) (by kernel_rfl) (by simp) ?_;refine Zdk rfl (λK s=>?_) ?_
    .go_simp
     refine(a9.out m hbW).mono ?_;rintro e j ⟨u3,rfl,Q,t⟩;obtain⟨y,U,rfl,ai,hbo3⟩:=Q.boR (by rw[Zs];exact H);rw[Zs];have hHn:=(t.block _ (Za hH)).trans hH
     have hs3:=hbW.size;replace hbW:=hbW.trans (t.mono hbW.size);clear hH Q t;go_wp2_with fail;refine s.out _ _ hHn (λhH=>?_);clear hHn;clear s K;try simp only[Act.put,zA,zB,zC]
     refine rdA 4 rfl (λK s=>?_);go_simp;have z:Below j.heap.size j (j.alloc (.map #[] 0)):=(Ve _ _).alloc (Va _) _
     have htab:=OTab.made j;have aj:j.heap.size<(j.alloc (.map #[] 0)).heap.size:=by simp
     have hHn:=(z.block _ (Za hH)).trans hH;have hs5:=hbW.size;replace hbW:=hbW.trans (z.mono hbW.size);have aa:y<j.heap.size:=hbo3.lt;replace hbo3:=hbo3.keep (z.block _ hbo3.lt);clear hH z;go_wp2_with fail;generalize j.alloc (.map #[] 0)=I at *;generalize ab:j.heap.size=A at *;refine s.out _ _ hHn (λhH=>?_);clear hHn;clear s K;try simp only[Act.put,zA,zB,zC]
     refine tkB 5 rfl (v:=?_) ?_ hH ?_;rotate_left
     .intro w o;have hpc:=Yf o;obtain⟨q0,q1⟩:=hpc;go_simp;try with_reducible rfl
     try simp only[Act.put,zA,zB,zC]
     refine rdA 6 rfl (λK s=>?_);go_simp;have d:Below I.heap.size I (I.alloc (.cells #[jptr p,.slice (some ⟨y,0,none⟩) n U,.int .i64 R,.slice (some ⟨g,0,none⟩) n r,.int .i64 R,.map (some A),.bool false,.int .i64 0] 145)):=(Ve _ _).alloc (Va _) _
     have V:=Vg I (.cells #[jptr p,.slice (some ⟨y,0,none⟩) n U,.int .i64 R,.slice (some ⟨g,0,none⟩) n r,.int .i64 R,.map (some A),.bool false,.int .i64 0] 145);have ak:I.heap.size<(I.alloc (.cells #[jptr p,.slice (some ⟨y,0,none⟩) n U,.int .i64 R,.slice (some ⟨g,0,none⟩) n r,.int .i64 R,.map (some A),.bool false,.int .i64 0] 145)).heap.size:=by simp
     have hHn:=(d.block _ (Za hH)).trans hH;have al:A<I.heap.size:=htab.lt;have am:y<I.heap.size:=hbo3.lt;have hs7:=hbW.size;replace htab:=htab.keep (d.block _ htab.lt);replace hbo3:=hbo3.keep (d.block _ hbo3.lt);replace hbW:=hbW.trans (d.mono hbW.size);have ad:y≠A:=by omega
     clear hH d;go_wp2_with fail;generalize I.alloc (.cells #[jptr p,.slice (some ⟨y,0,none⟩) n U,.int .i64 R,.slice (some ⟨g,0,none⟩) n r,.int .i64 R,.map (some A),.bool false,.int .i64 0] 145)=W6 at *;generalize hq:I.heap.size=q at *;refine s.out _ _ hHn (λhH=>?_);clear hHn;clear s K;try simp only[Act.put,zA,zB,zC]
     refine tdI [7,8] ?_
     iterate 2
      refine tdS (v:=?_) ?_ hH ?_;rotate_left
      .intro w o;have hpc:=Yf o;obtain⟨q0,q1⟩:=hpc;go_simp;try with_reducible rfl
      try simp only[Act.put,zA,zB,zC]
     refine tdE ?_;refine dnA ?_;clear hH;have hgl:=HBO.out.lt
     have a1:=HB5.out.size;have hw2:=i.out.size;have hbo5:=(HBO.out.keep (i.out.block _ hgl)).keep (hbW.block _ (by omega));have hbb:=HB5.out.trans ((i.out.trans (hbW.mono hw2)).mono a1);have HPA:=Hd (Ys.opened (f:=⟨q,y,U,g,r,A,[]⟩) (P:=⟨J,Yx L n,Xt L,Yx L n,Xt L,[],false,0⟩) HJ.out HNB.out hbb rfl rfl rfl (by simp only[pgRow,Zs,<-HR.out];exact V) hbo3 hbo5 htab ⟨by simp only[Zs];exact H,by simp only[Zs];exact hpl,rfl,rootOf_ge L,by simp only[Zs];exact HSP.out,rootOf_ge L,by simp only[Zs];exact HSP.out,λx hx=>(by cases hx),by simp only[Zs];exact HNE.out⟩ (by dsimp only;omega) (by dsimp only;omega) (by dsimp only;omega) (by dsimp only;omega) (by dsimp only;omega));have HT6:=Hd (HT.out.trans (Zb.of_below hbb));clear hbo3 hbo5 htab hbW hbb V;go_wp2_with fail;go_ret2;exact Zde.good HX.out HPA.out.1 (λk hk=>Vk hsz (HPA.out.2 k hk)) HT6.out
    refine Zdk rfl (λK s=>?_) ?_
    .go_simp
     have z:Below m.heap.size m (m.alloc (.map #[] 0)):=(Ve _ _).alloc (Va _) _;have htab:=OTab.made m;have aj:m.heap.size<(m.alloc (.map #[] 0)).heap.size:=by simp
     have hHn:=(z.block _ (Za hH)).trans hH;have hs5:=hbW.size;replace hbW:=hbW.trans (z.mono hbW.size);clear hH z;go_wp2_with fail;generalize m.alloc (.map #[] 0)=I at *;generalize ab:m.heap.size=A at *;refine s.out _ _ hHn (λhH=>?_);clear hHn;clear s K;try simp only[Act.put,zA,zB,zC]
     refine rdA 2 rfl (λK s=>?_);go_simp;refine(a9.out I hbW).mono ?_;rintro e j ⟨u3,rfl,Q,t⟩;obtain⟨y,U,rfl,ai,hbo3⟩:=Q.boR (by rw[Zs];exact H);rw[Zs];have hHn:=(t.block _ (Za hH)).trans hH
     have hs3:=hbW.size;replace hbW:=hbW.trans (t.mono hbW.size);replace htab:=htab.keep (t.block _ htab.lt);have aa:y≠A:=by omega
     have an:=ab;clear hH Q t;go_wp2_with fail;refine s.out _ _ hHn (λhH=>?_);clear hHn;clear s K;try simp only[Act.put,zA,zB,zC]
     refine tkB 5 rfl (v:=?_) ?_ hH ?_;rotate_left
     .intro w o;have hpc:=Yf o;obtain⟨q0,q1⟩:=hpc;go_simp;try with_reducible rfl
     try simp only[Act.put,zA,zB,zC]
     refine rdA 6 rfl (λK s=>?_);go_simp;have d:Below j.heap.size j (j.alloc (.cells #[jptr p,.slice (some ⟨y,0,none⟩) n U,.int .i64 R,.slice (some ⟨g,0,none⟩) n r,.int .i64 R,.map (some A),.bool false,.int .i64 0] 145)):=(Ve _ _).alloc (Va _) _
     have V:=Vg j (.cells #[jptr p,.slice (some ⟨y,0,none⟩) n U,.int .i64 R,.slice (some ⟨g,0,none⟩) n r,.int .i64 R,.map (some A),.bool false,.int .i64 0] 145);have ak:j.heap.size<(j.alloc (.cells #[jptr p,.slice (some ⟨y,0,none⟩) n U,.int .i64 R,.slice (some ⟨g,0,none⟩) n r,.int .i64 R,.map (some A),.bool false,.int .i64 0] 145)).heap.size:=by simp
     have hHn:=(d.block _ (Za hH)).trans hH;have al:A<j.heap.size:=htab.lt;have am:y<j.heap.size:=hbo3.lt;have hs7:=hbW.size;replace htab:=htab.keep (d.block _ htab.lt);replace hbo3:=hbo3.keep (d.block _ hbo3.lt);replace hbW:=hbW.trans (d.mono hbW.size);have ad:y≠A:=by omega
     clear hH d;go_wp2_with fail;generalize j.alloc (.cells #[jptr p,.slice (some ⟨y,0,none⟩) n U,.int .i64 R,.slice (some ⟨g,0,none⟩) n r,.int .i64 R,.map (some A),.bool false,.int .i64 0] 145)=W6 at *;generalize hq:j.heap.size=q at *;refine s.out _ _ hHn (λhH=>?_);clear hHn;clear s K;try simp only[Act.put,zA,zB,zC]
     refine tdI [7,8] ?_
     iterate 2
      refine tdS (v:=?_) ?_ hH ?_;rotate_left
      .intro w o;have hpc:=Yf o;obtain⟨q0,q1⟩:=hpc;go_simp;try with_reducible rfl
      try simp only[Act.put,zA,zB,zC]
     refine tdE ?_;refine dnA ?_;clear hH;have hgl:=HBO.out.lt
     have a1:=HB5.out.size;have hw2:=i.out.size;have hbo5:=(HBO.out.keep (i.out.block _ hgl)).keep (hbW.block _ (by omega));have hbb:=HB5.out.trans ((i.out.trans (hbW.mono hw2)).mono a1);have HPA:=Hd (Ys.opened (f:=⟨q,y,U,g,r,A,[]⟩) (P:=⟨J,Yx L n,Xt L,Yx L n,Xt L,[],false,0⟩) HJ.out HNB.out hbb rfl rfl rfl (by simp only[pgRow,Zs,<-HR.out];exact V) hbo3 hbo5 htab ⟨by simp only[Zs];exact H,by simp only[Zs];exact hpl,rfl,rootOf_ge L,by simp only[Zs];exact HSP.out,rootOf_ge L,by simp only[Zs];exact HSP.out,λx hx=>(by cases hx),by simp only[Zs];exact HNE.out⟩ (by dsimp only;omega) (by dsimp only;omega) (by dsimp only;omega) (by dsimp only;omega) (by dsimp only;omega));have HT6:=Hd (HT.out.trans (Zb.of_below hbb));clear hbo3 hbo5 htab hbW hbb V;go_wp2_with fail;go_ret2;exact Zde.good HX.out HPA.out.1 (λk hk=>Vk hsz (HPA.out.2 k hk)) HT6.out
    exact AllReadyH.nil
end
section
open Go.RowKit
structure Fresh (n:Nat) (J J':Jn) (P:Pg) (seq:Int) (B:List (List UInt8)):Prop where
 fmt:J.pformat=(0,J')
 opn:J'.popen=(0,J',some P)
 pj:P.J=J'
 sim:Sim n P (Rp.begun ((n - 2) / 2)) seq B
 last:J'.last<=J.last+1
 cut:J'.D.cut=J.D.cut
 ops:J'.D.ops<=J.D.ops+8
theorem pformat_live {n:Nat} {J:Jn} {seq:Int} {B:List (List UInt8)} (h:Live n J seq B Zeh) (h1:22<=n) (h2:n<=16384) (hcut:J.D.cut<0) (ht:J.last+1<4611686018427387904) (hb:J.D.ops+8<=1048576):∃q P B',Fresh n J q P (seq+1) B':=by
 have d:J.pages=((n - 2) / 2 - 2) / 8:=by rw[Jn.pages,Dk.blocks,h.hn]
 obtain⟨m,r⟩:∃m,m=((n - 2) / 2 - 2) / 8:=⟨_,rfl⟩;rw[<-r] at d
 have w:Zaa ((n - 2) / 2) (Zo 0 2) (Xo 2 (Xz (List.replicate m false) (-1)))=true:=by
  rw[Zaa,Zif _ _ [] (λz x=>?_) (Zdx _ _) (λ_ _ h=>by cases h) (Zhj (by rw[Yd])),Yn,Zcg]
  .simp
  .obtain⟨i,y,rfl⟩:=List.mem_map.1 x;have:=List.mem_range.1 y;omega
 have f:=write_ok h hcut w ht (by rw[Yn];omega);have hl:=f.live;rw[if_neg (by rw[Yn];omega)] at hl;have hrow:=(live_rows h).1;have s:Xq (Qj B (Zo 0 2) (Xo 2 (Xz (List.replicate m false) (-1)))) 0 2=Xz (List.replicate m false) (-1):=by have A:(0:Int)=((0:Nat):Int):=rfl;rw[A];exact Zhi (by omega) (by rw[Yd])
 have e:J.pformat=(0,(J.write (Zo 0 2) (Xo 2 (Xz (List.replicate m false) (-1)))).2):=by rw[Jn.pformat,d];exact Prod.ext f.err rfl
 have g:=f.ops;have hlast:=f.last;have hcut2:=f.cut;rw[Yn] at g;generalize (J.write (Zo 0 2) (Xo 2 (Xz (List.replicate m false) (-1)))).2=q at *;generalize Qj B (Zo 0 2) (Xo 2 (Xz (List.replicate m false) (-1)))=B' at *;have a:(List.replicate m false)=(List.replicate m (none:Option (List UInt8))).map (·.isSome):=by simp
 have c:Rp.begun ((n - 2) / 2)=⟨List.replicate m none,-1,List.replicate m none,-1,false⟩:=by rw[Rp.begun,r]
 have j:RootOk (List.replicate m false) (-1):=⟨Int.le_refl _,by omega,.inl (by omega)⟩
 have t:Sim n ⟨q,List.replicate m false,-1,List.replicate m false,-1,[],false,0⟩ (Rp.begun ((n - 2) / 2)) (seq+1) B':=by
  rw[c]
  have l:∀(k:Nat) (b:List UInt8),(List.replicate m (none:Option (List UInt8)))[k]?≠some (some b):=λk b e=>by
   rw[List.getElem?_replicate] at e
   split at e<;>simp at e
  exact⟨hl,rfl,a,a,rfl,rfl,by simp[r],rfl,s,j,j,λk b o=>absurd o (l k b),λk b o=>absurd o (l k b),λk b o=>(by cases o),List.nodup_nil,λ_=>⟨rfl,rfl,rfl⟩⟩
 have p:(Rp.begun ((n - 2) / 2)).pages.length<=1023:=by rw[c];simp only[List.length_replicate];omega
 obtain⟨P,C,E,v⟩:=t.popen p (by omega);have u:(Rp.begun ((n - 2) / 2)).abort=Rp.begun ((n - 2) / 2):=by rw[c];rfl
 rw[u] at v;exact⟨q,P,B',e,C,E,v,hlast,hcut2,by omega⟩
end
section
structure En where
 key:List UInt8
 val:List UInt8
 kid:Int
structure Nd where
 leaf:Bool
 l:List En
def En.size (leaf:Bool) (i:Nat) (e:En):Nat:=if leaf then 2+e.key.length+e.val.length else if i=0 then 2 else 3+e.key.length
def Zg (leaf:Bool):Nat->List En->Nat
 | _,[]=>0
 | i,e::r=>e.size leaf i+Zg leaf (i+1) r
def Nd.sum (n:Nd):Nat:=Zg n.leaf 0 n.l
def Yw (n:Int):UInt8:=UInt8.ofNat (n % 256).toNat
def En.bytes (leaf:Bool) (i:Nat) (e:En):List UInt8:=(if leaf||decide (0<i) then UInt8.ofNat e.key.length::e.key else [])++if leaf then UInt8.ofNat e.val.length::e.val else [Yw e.kid,Yw (e.kid / 256)]
def Yb (leaf:Bool):Nat->List En->List UInt8
 | _,[]=>[]
 | i,e::r=>e.bytes leaf i++Yb leaf (i+1) r
def Nd.head (n:Nd):List UInt8:=[if n.leaf then 1 else 2,UInt8.ofNat n.l.length,UInt8.ofNat (n.l.length / 256)]
def Nd.bytes (n:Nd):List UInt8:=(n.head++Yb n.leaf 0 n.l++List.replicate 896 0).take 896
def Zbu (b:List UInt8) (at_ most:Nat):Option (List UInt8 × Nat) :=
 if b.length<=at_ then none else if most<(b.getD at_ 0).toNat then none else if b.length<at_+1+(b.getD at_ 0).toNat then none else some ((b.drop (at_+1)).take (b.getD at_ 0).toNat,at_+1+(b.getD at_ 0).toNat)
def readK (leaf:Bool) (b:List UInt8) (i at_:Nat):Option (List UInt8 × Nat):=if leaf||decide (0<i) then Zbu b at_ 80 else some ([],at_)
def readV (leaf:Bool) (b:List UInt8) (key:List UInt8) (at_:Nat):Option (En × Nat) :=
 if leaf then (Zbu b at_ 200).map λx=>(⟨key,x.1,0⟩,x.2) else if b.length<at_+2 then none else some (⟨key,[],((b.getD at_ 0).toNat:Int)+((b.getD (at_+1) 0).toNat:Int)*256⟩,at_+2)
def Zbm (leaf:Bool) (b:List UInt8) (i at_:Nat):Option (En × Nat):=(readK leaf b i at_).bind λx=>readV leaf b x.1 x.2
def Zdq (leaf:Bool) (l:List En) (e:En):Bool:=match l.getLast? with
 | none=>true
 | some x=>!(leaf||decide (1<l.length))||decide (x.key<e.key)
def Yz (leaf:Bool) (b:List UInt8):Nat->Nat->List En->Option (List En)
 | 0,_,l=>some l
 | k+1,at_,l=>match Zbm leaf b l.length at_ with
  | none=>none
  | some (e,a)=>if Zdq leaf l e then Yz leaf b k a (l++[e]) else none
def readM (b:List UInt8):Nat:=(b.getD 1 0).toNat+(b.getD 2 0).toNat*256
def Zah (b:List UInt8):Option Nd :=
 if (b.getD 0 0≠1/\b.getD 0 0≠2)\/readM b=0 then none else (Yz (b.getD 0 0==1) b (readM b) 3 []).map (Nd.mk (b.getD 0 0==1))
def Rp.load (R:Rp) (page:Int):Option Nd × Int:=if (R.read page).2≠0 then (none,(R.read page).2) else match Zah (R.read page).1 with
 | none=>(none,103)
 | some n=>(some n,0)
def Srt (n:Nd):Prop:=if n.leaf then (n.l.map (·.key)).Pairwise (· < ·) else (n.l.tail.map (·.key)).Pairwise (· < ·)
def Nd.behind (n:Nd) (key:List UInt8):Nat × Bool :=
 if n.leaf then ((n.l.takeWhile λe=>decide (e.key<key)).length,decide (((n.l.dropWhile λe=>decide (e.key<key)).head?).map (·.key)=some key))
 else ((n.l.tail.takeWhile λe=>!decide (key<e.key)).length,true)
end
section
theorem En.bytes_length (leaf:Bool) (i:Nat) (e:En):(e.bytes leaf i).length=e.size leaf i:=by
 unfold En.bytes En.size
 cases leaf with
 | true=>simp;omega
 | false =>
  by_cases h:i=0
  .subst h;simp
  .have:0<i:=by omega
   simp[h,this];omega
theorem Zgq (leaf:Bool):∀(i:Nat) (l:List En),(Yb leaf i l).length=Zg leaf i l
 | _,[]=>rfl
 | i,e::r=>by rw[Yb,Zg,List.length_append,En.bytes_length,Zgq leaf (i+1) r]
theorem getD_mid {pre post:List UInt8} {x:UInt8}:(pre++x::post).getD pre.length 0=x:=by simp[List.getD_eq_getElem?_getD]
theorem textB_at (pre k post:List UInt8) (a:Nat) (h:k.length<=a) (h2:a<=255):Zbu (pre++(UInt8.ofNat k.length::k)++post) pre.length a=some (k,pre.length+1+k.length):=by
 have b:(pre++(UInt8.ofNat k.length::k)++post).getD pre.length 0=UInt8.ofNat k.length:=by rw[List.append_assoc];exact getD_mid
 have c:(UInt8.ofNat k.length).toNat=k.length:=by simp;omega
 have d:(pre++(UInt8.ofNat k.length::k)++post).length=pre.length+1+k.length+post.length:=by simp;omega
 unfold Zbu;rw[b,c,if_neg (by omega),if_neg (by omega),if_neg (by omega)];congr 2;rw[show pre++(UInt8.ofNat k.length::k)++post=(pre++[UInt8.ofNat k.length])++(k++post) by simp,List.drop_append_of_le_length (by simp)]
 rw[List.drop_eq_nil_of_le (by simp)];simp
structure En.ok (leaf:Bool) (e:En):Prop where
 key:e.key.length<=80
 val:if leaf then e.val.length<=200/\e.kid=0 else e.val=[]/\0<=e.kid/\e.kid<65536
def En.norm (leaf:Bool) (i:Nat) (e:En):En:=if leaf||decide (0<i) then e else { e with key:=[] }
theorem lowB_two (k:Int) (h:0<=k) (h2:k<65536):((Yw k).toNat:Int)+((Yw (k / 256)).toNat:Int)*256=k:=by
 unfold Yw;have a:(UInt8.ofNat (k % 256).toNat).toNat=(k % 256).toNat:=by simp;omega
 have b:(UInt8.ofNat (k / 256 % 256).toNat).toNat=(k / 256 % 256).toNat:=by simp;omega
 rw[a,b];omega
theorem readE_at (leaf:Bool) (pre post:List UInt8) (i:Nat) (e:En) (h:e.ok leaf):Zbm leaf (pre++e.bytes leaf i++post) i pre.length=some (e.norm leaf i,pre.length+e.size leaf i):=by
 have k:=h.key;have hv:=h.val;unfold Zbm readK En.bytes En.norm En.size
 cases leaf with
 | true =>
  simp only[if_true] at hv;obtain⟨b,a⟩:=hv;simp only[Bool.true_or,if_true];have f:pre++(UInt8.ofNat e.key.length::e.key++UInt8.ofNat e.val.length::e.val)++post=pre++(UInt8.ofNat e.key.length::e.key)++(UInt8.ofNat e.val.length::e.val++post):=by simp
  have m:pre++(UInt8.ofNat e.key.length::e.key++UInt8.ofNat e.val.length::e.val)++post=(pre++(UInt8.ofNat e.key.length::e.key))++(UInt8.ofNat e.val.length::e.val)++post:=by simp
  have c:=textB_at pre e.key (UInt8.ofNat e.val.length::e.val++post) 80 k (by omega);rw[<-f] at c;have t2:=textB_at (pre++(UInt8.ofNat e.key.length::e.key)) e.val post 200 b (by omega);rw[<-m] at t2;rw[c];simp only[Option.bind_some,readV,if_true];rw[show pre.length+1+e.key.length=(pre++(UInt8.ofNat e.key.length::e.key)).length by simp;omega,t2]
  simp only[Option.map_some,Option.some.injEq,Prod.mk.injEq];refine⟨by cases e;simp_all,?_⟩;simp;omega
 | false =>
  simp only[Bool.false_eq_true,if_false] at hv;obtain⟨b,a,d⟩:=hv;by_cases l:i=0
  .subst l
   simp only[Bool.false_or,Nat.lt_irrefl,decide_false,Bool.false_eq_true,if_false,List.nil_append,Option.bind_some,readV,if_true];have g:(pre++[Yw e.kid,Yw (e.kid / 256)]++post).getD pre.length 0=Yw e.kid:=by rw[List.append_assoc];exact getD_mid
   have j:(pre++[Yw e.kid,Yw (e.kid / 256)]++post).getD (pre.length+1) 0=Yw (e.kid / 256):=by
    rw[show pre++[Yw e.kid,Yw (e.kid / 256)]++post=(pre++[Yw e.kid])++Yw (e.kid / 256)::post by simp,show pre.length+1=(pre++[Yw e.kid]).length by simp]
    exact getD_mid
   rw[if_neg (by simp),g,j,lowB_two _ a d];cases e;simp_all
  .have n:0<i:=by omega
   simp only[Bool.false_or,n,decide_true,if_true,Bool.false_eq_true,if_false,if_neg l];have f:pre++(UInt8.ofNat e.key.length::e.key++[Yw e.kid,Yw (e.kid / 256)])++post=pre++(UInt8.ofNat e.key.length::e.key)++([Yw e.kid,Yw (e.kid / 256)]++post):=by simp
   have c:=textB_at pre e.key ([Yw e.kid,Yw (e.kid / 256)]++post) 80 k (by omega);rw[<-f] at c;rw[c];simp only[Option.bind_some,readV,Bool.false_eq_true,if_false];have o:(pre++(UInt8.ofNat e.key.length::e.key)).length=pre.length+1+e.key.length:=by simp;omega
   have g:(pre++(UInt8.ofNat e.key.length::e.key++[Yw e.kid,Yw (e.kid / 256)])++post).getD (pre.length+1+e.key.length) 0=Yw e.kid:=by rw[f,<-o];exact getD_mid
   have j:(pre++(UInt8.ofNat e.key.length::e.key++[Yw e.kid,Yw (e.kid / 256)])++post).getD (pre.length+1+e.key.length+1) 0=Yw (e.kid / 256):=by
    rw[show pre++(UInt8.ofNat e.key.length::e.key++[Yw e.kid,Yw (e.kid / 256)])++post=(pre++(UInt8.ofNat e.key.length::e.key)++[Yw e.kid])++Yw (e.kid / 256)::post by simp,show pre.length+1+e.key.length+1=(pre++(UInt8.ofNat e.key.length::e.key)++[Yw e.kid]).length by simp;omega]
    exact getD_mid
   rw[if_neg (by simp;omega),g,j,lowB_two _ a d];simp only[Option.some.injEq,Prod.mk.injEq];exact⟨by cases e;simp_all,by omega⟩
def Zbd (leaf:Bool):Nat->List En->List En
 | _,[]=>[]
 | i,e::r=>e.norm leaf i::Zbd leaf (i+1) r
def rises (leaf:Bool):Nat->Option (List UInt8)->List En->Prop
 | _,_,[]=>True
 | i,pv,e::r=>(∀k,pv=some k->k<e.key)/\rises leaf (i+1) (if leaf||decide (0<i) then some e.key else none) r
theorem norm_key (leaf:Bool) (i:Nat) (e:En) (h:(leaf||decide (0<i))=true):e.norm leaf i=e:=by rw[En.norm,if_pos h]
theorem readGo_at (leaf:Bool):∀(d a:List En) (pre post:List UInt8) (i:Option (List UInt8)),(∀e∈d,e.ok leaf)->rises leaf a.length i d->(∀x,a.getLast?=some x->(leaf||decide (1<a.length))=true->i=some x.key) ->
  Yz leaf (pre++Yb leaf a.length d++post) d.length pre.length a=some (a++Zbd leaf a.length d)
 | [],a,pre,post,i,_,_,_=>by simp[Yz,Zbd]
 | e::r,a,pre,post,i,f,n,o=>by
  obtain⟨k,l⟩:=n;have p:pre++Yb leaf a.length (e::r)++post=pre++e.bytes leaf a.length++(Yb leaf (a.length+1) r++post):=by simp[Yb]
  have q:=readE_at leaf pre (Yb leaf (a.length+1) r++post) a.length e (f e (Vi ..))
  have g:Zdq leaf a (e.norm leaf a.length)=true:=by
   unfold Zdq
   cases c:a.getLast? with
   | none=>rfl
   | some x =>
    simp only[Bool.or_eq_true,Bool.not_eq_true',decide_eq_true_eq]
    cases j:(leaf||decide (1<a.length)) with
    | false=>exact .inl rfl
    | true =>
     right;have h2:=k _ (o x c j)
     rw[norm_key]
     .exact h2
     .cases leaf with
      | true=>rfl
      | false =>
       have:a≠[]:=λe=>by rw[e] at c;simp at c
       have:=List.length_pos_iff.2 this;simpa using this
  have b:(a++[e.norm leaf a.length]).length=a.length+1:=by simp
  have m:=readGo_at leaf r (a++[e.norm leaf a.length]) (pre++e.bytes leaf a.length) post (if leaf||decide (0<a.length) then some e.key else none) (λx c=>f x (Vj _ c)) (by rw[b];exact l) (λx c j=>by
   have c:e.norm leaf a.length=x:=by simpa using c
   subst c;rw[b] at j
   have h:(leaf||decide (0<a.length))=true:=by
    cases leaf with
    | true=>rfl
    | false=>simpa using j
   rw[if_pos h,norm_key leaf _ e h])
  rw[b] at m;rw[p,List.length_cons,Yz,q];simp only;rw[if_pos g];rw[show pre++e.bytes leaf a.length++(Yb leaf (a.length+1) r++post)=pre++e.bytes leaf a.length++Yb leaf (a.length+1) r++post by simp]
  rw[List.length_append,En.bytes_length] at m;rw[m];simp[Zbd]
theorem Zgk (leaf:Bool):∀(l:List En) (i:Nat) (b:Option (List UInt8)),(leaf=true\/0<i)->(l.map (·.key)).Pairwise (· < ·)->(∀k,b=some k->∀e∈l,k<e.key)->rises leaf i b l
 | [],_,_,_,_,_=>trivial
 | e::r,i,b,d,c,f=>by
  rw[List.map_cons,Uk] at c;refine⟨λk a=>f k a e (Vi ..),?_⟩
  have g:(leaf||decide (0<i))=true:=by
   rcases d with h | h
   .rw[h];rfl
   .simp[h]
  rw[if_pos g];refine Zgk leaf r (i+1) _ (.inr (by omega)) c.2 λk a x j=>?_;simp only[Option.some.injEq] at a;rw[<-a];exact c.1 _ (List.mem_map.2 ⟨x,j,rfl⟩)
theorem Srt.rises {n:Nd} (h:Srt n):rises n.leaf 0 none n.l:=by
 unfold Srt at h;obtain⟨a,l⟩:=n
 cases a with
 | true=>exact Zgk true l 0 none (.inl rfl) h λk b=>by cases b
 | false =>
  cases l with
  | nil=>trivial
  | cons e r=>exact⟨λk b=>(by cases b),Zgk false r 1 none (.inr (by omega)) h λk b=>(by cases b)⟩
structure Nd.ok (n:Nd):Prop where
 ne:n.l≠[]
 len:n.l.length<65536
 each:∀e∈n.l,e.ok n.leaf
 srt:Srt n
 sum:n.sum<=893
def Nd.norm (n:Nd):Nd:=⟨n.leaf,Zbd n.leaf 0 n.l⟩
theorem Nd.bytes_eq {n:Nd} (h:n.sum<=893):n.bytes=n.head++Yb n.leaf 0 n.l++List.replicate (893 - n.sum) 0:=by have a:(Yb n.leaf 0 n.l).length=n.sum:=Zgq _ _ _;have b:n.head.length=3:=rfl;unfold Nd.bytes;rw[List.take_append,List.take_of_length_le (by rw[List.length_append];omega),List.take_replicate,List.length_append,a,b];congr 2;omega
theorem Nd.bytes_length (n:Nd):n.bytes.length=896:=by unfold Nd.bytes;rw[List.length_take,List.length_append,List.length_replicate];omega
theorem read_bytes {n:Nd} (h:n.ok):Zah n.bytes=some n.norm:=by
 have e:=Nd.bytes_eq h.sum;have h1:=readGo_at n.leaf n.l [] n.head (List.replicate (893 - n.sum) 0) none h.each h.srt.rises (λx c=>by simp at c);rw[List.length_nil,List.nil_append,<-e] at h1;have hne:=List.length_pos_iff.2 h.ne;have f:n.bytes.getD 0 0=if n.leaf then 1 else 2:=by rw[e];rfl
 have g:n.bytes.getD 1 0=UInt8.ofNat n.l.length:=by rw[e];rfl
 have i:n.bytes.getD 2 0=UInt8.ofNat (n.l.length / 256):=by rw[e];rfl
 have j:readM n.bytes=n.l.length:=by
  unfold readM;rw[g,i];have:=h.len
  have a:(UInt8.ofNat n.l.length).toNat=n.l.length % 256:=by simp
  have b:(UInt8.ofNat (n.l.length / 256)).toNat=n.l.length / 256 % 256:=by simp
  rw[a,b];omega
 have d:(n.bytes.getD 0 0==1)=n.leaf:=by rw[f];cases n.leaf<;>rfl
 unfold Zah;rw[j,d,if_neg]
 .rw[show (3:Nat)=n.head.length from rfl,h1]
  rfl
 .rw[f]
  rintro(⟨a,b⟩ | a)
  .cases c:n.leaf<;>simp[c] at a b
  .omega
end
section
open Go.RowKit
variable {w w':World}{v:Value}{B cap n:Nat}{a:Option Addr}
theorem info_entry:(Tryz.prog.info? 179).map (λi=>(i.zero,i.size,i.bytes))=some (some (.agg #[.string ⟨#[]⟩,.string ⟨#[]⟩,.int .i64 0]),3,40):=by kernel_rfl
def enC (e:En):List Value:=[.string ⟨e.key.toArray⟩,.string ⟨e.val.toArray⟩,.int .i64 e.kid]
def enV (l:List En):List Value:=l.flatMap enC
theorem Zw (l:List En):(enV l).length=l.length*3:=by
 induction l with
 | nil=>rfl
 | cons e r b =>
  rw[enV,List.flatMap_cons,List.length_append,List.length_cons];rw[enV] at b;rw[b];show 3+_=_
  omega
theorem Zhl (a b:List En):enV (a++b)=enV a++enV b:=by simp[enV]
theorem enV_one (e:En):enV [e]=enC e:=by simp[enV]
theorem enV_get:∀(l:List En) (i:Nat) (c:i<l.length) (j:Nat),j<3->(enV l)[i*3+j]?=(enC l[i])[j]?
 | e::r,0,_,j,b=>by rw[enV,List.flatMap_cons,Nat.zero_mul,Nat.zero_add,List.getElem?_append_left (by simpa [enC] using b)];rfl
 | e::r,i+1,c,j,b=>by
  have d:=enV_get r i (by simpa using c) j b;rw[enV,List.flatMap_cons,show (i+1)*3+j=(enC e).length+(i*3+j) by show _=3+_;omega,List.getElem?_append_right (by omega),Nat.add_sub_cancel_left]
  exact d
theorem Zek (l:List En):∀v∈enV l,v.oneCell'=true:=by
 intro v b;obtain⟨e,_,b⟩:=List.mem_flatMap.1 b;simp only[enC,List.mem_cons,List.not_mem_nil,or_false] at b
 rcases b with rfl | rfl | rfl<;>rfl
structure En.few (e:En):Prop where
 key:e.key.length<=80
 val:e.val.length<=200
 k0:0<=e.kid
 k1:e.kid<65536
def IsE (w:World) (v:Value) (l:List En):Prop :=
 ∃a cap,v=.slice a l.length cap/\l.length<=cap/\cap<=maxLen/\(a=none->cap=0) /\
  ∀x,a=some x->(0<l.length->x.spot=none)/\∀i,(h:i<l.length)->w.cell? ⟨x.block,x.off+i*3,none⟩=some (.string ⟨l[i].key.toArray⟩)/\w.cell? ⟨x.block,x.off+i*3+1,none⟩=some (.string ⟨l[i].val.toArray⟩)/\w.cell? ⟨x.block,x.off+i*3+2,none⟩=some (.int .i64 l[i].kid)
theorem IsE.nil (w:World):IsE w (.slice none 0 0) []:=⟨none,0,rfl,Va _,by simp[maxLen],λ_=>rfl,λx h=>by cases h⟩
theorem IsE.of_cells {l:List En} (h:IsE w v l) (hw:∀a u,w.cell? a=some u->w'.cell? a=some u):IsE w' v l:=by obtain⟨a,cap,e,f,g,j,b⟩:=h;exact⟨a,cap,e,f,g,j,λx c=>⟨(b x c).1,λi d=>⟨hw _ _ ((b x c).2 i d).1,hw _ _ ((b x c).2 i d).2.1,hw _ _ ((b x c).2 i d).2.2⟩⟩⟩
theorem IsE.below {l:List En} (h:IsE w v l) (hb:Below w.heap.size w w'):IsE w' v l:=h.of_cells (Zi hb)
theorem IsE.drew {l:List En} (h:IsE w v l):IsE w.drew v l:=h
theorem IsE.form {l:List En} (h:IsE w v l):∃a cap,v=.slice a l.length cap/\l.length<=cap/\cap<=maxLen:=by obtain⟨a,cap,b,c,d,_⟩:=h;exact⟨a,cap,b,c,d⟩
theorem IsE.at {l:List En} (h:IsE w (.slice a n cap) l) (i:Nat) (f:i<l.length):∃b o,a=some ⟨b,o,none⟩ /\
  w.cell? ⟨b,o+i*3,none⟩=some (.string ⟨l[i].key.toArray⟩)/\w.cell? ⟨b,o+i*3+1,none⟩=some (.string ⟨l[i].val.toArray⟩)/\w.cell? ⟨b,o+i*3+2,none⟩=some (.int .i64 l[i].kid):=by
 obtain⟨k,d,e,m,p,g,c⟩:=h;simp only[Value.slice.injEq] at e;obtain⟨rfl,_,rfl⟩:=e
 cases a with
 | none=>have:=g rfl;omega
 | some x =>
  obtain⟨b,o,s⟩:=x;obtain⟨j,c⟩:=c _ rfl;obtain rfl:s=none:=j (by omega);exact⟨b,o,rfl,c i f⟩
def Zq (B:Nat) (w:World) (v:Value) (l:List En):Prop:=w.ownsRow B 179 3 v l.length (enV l)
theorem Zq.nil (B:Nat) (w:World):Zq B w (.slice none 0 0) []:=Uj w B 179 3
theorem Zq.keep {l:List En} (h:Zq B w v l) (hw:∀k,B<=k->k<w.heap.size->w'.heap[k]?=w.heap[k]?):Zq B w' v l:=Zgx h hw
theorem Zq.keep1 {l:List En} (h:Zq B w v l) (hw:∀k,v.ownBlock=some k->w'.heap[k]?=w.heap[k]?):Zq B w' v l:=by
 obtain⟨e,b⟩:=h;refine⟨e,?_⟩;rcases b with b | ⟨g,cap,c,d,f,i,r⟩
 .exact .inl b
 .exact .inr ⟨g,cap,c,d,f,(hw g (by rw[d];rfl)).trans i,r⟩
theorem Zq.below {l:List En} (h:Zq B w v l) (hb:Below w.heap.size w w'):Zq B w' v l:=h.keep λk _ b=>hb.block k b
theorem Zq.lt {l:List En} (h:Zq B w v l) {k:Nat} (hk:v.ownBlock=some k):B<=k/\k<w.heap.size:=by obtain⟨b,c,d⟩:=Zcv h hk.symm;exact⟨b,Za d⟩
theorem Zq.form {l:List En} (h:Zq B w v l):(v=.slice none 0 0/\l=[])\/∃g cap,v=.slice (some ⟨g,0,none⟩) l.length cap/\l.length<=cap/\cap<=maxLen/\B<=g/\g<w.heap.size:=by
 rcases h.2 with ⟨rfl,d⟩ | ⟨g,cap,e,rfl,f,i,b,c,_⟩
 .exact .inl ⟨rfl,Vh d⟩
 .exact .inr ⟨g,cap,rfl,b,c,f,Za i⟩
theorem Zq.isE {l:List En} (h:Zq B w v l):IsE w v l:=by
 rcases h.2 with ⟨rfl,m⟩ | ⟨g,cap,o,rfl,t,p,d,f,q,b⟩
 .obtain rfl:=Vh m;exact IsE.nil w
 .refine⟨_,cap,rfl,d,f,λe=>(by cases e),λx k=>?_⟩
  simp only[Option.some.injEq] at k;subst k;refine⟨λ_=>rfl,λi r=>?_⟩
  have c:∀j,j<3->w.cell? ⟨g,i*3+j,none⟩=(enC l[i])[j]?:=λj s=>by
   rw[Vc _ _ _ _ _ _ p];have e:=enV_get l i r j s
   rw[<-b,List.getElem?_take,if_pos (by omega)] at e;simpa using e
  dsimp only;rw[Nat.zero_add];exact⟨c 0 (by omega),c 1 (by omega),c 2 (by omega)⟩
theorem IsE.firsts {l:List En} (h:IsE w v l):∀w',w'.heap=w.heap->(Builtin.firstCells 3 l.length v).run Tryz.prog w'=.ok (enV l).toArray w':=by
 intro w' k;obtain⟨a,cap,rfl,D,E,m,f⟩:=h;by_cases p:l.length=0
 .obtain rfl:=Vh p
  cases a with
  | none=>simp[Builtin.firstCells,enV]
  | some x=>simp[Builtin.firstCells,loadCells,loadCellsFrom,enV]
 .cases a with
  | none=>have:=m rfl;omega
  | some x =>
   obtain⟨b,o,s⟩:=x;obtain⟨q,f⟩:=f _ rfl;obtain rfl:s=none:=q (by omega);refine Uc (P:=Tryz.prog) w' 3 l.length _ _ _ (enV l) (by rw[Zw]) ?_;intro j u e;have t:j<l.length*3:=by have:=(List.getElem?_eq_some_iff.1 e).1;rwa[Zw] at this
   obtain⟨i,r,rfl,y⟩:∃i r,j=i*3+r/\r<3:=⟨j / 3,j % 3,by omega,Nat.mod_lt _ (by omega)⟩;have g:i<l.length:=by omega
   rw[enV_get l i g r y] at e;rw[Addr.add_mid];have d:∀c,w'.cell? ⟨b,c,none⟩=w.cell? ⟨b,c,none⟩:=λc=>by unfold World.cell?;rw[k]
   rw[d];obtain⟨z,A,C⟩:=f i g;rcases(show r=0\/r=1\/r=2 by omega) with rfl | rfl | rfl
   .rw[<-e];exact z
   .rw[<-e];exact A
   .rw[<-e];exact C
theorem Zq.app {u:Value} {l m:List En} (h:Zq B w v l) (hu:IsE w u m) (hB:B<=w.heap.size) (hL:l.length+m.length<=1000000):
  ∃b w',(Builtin.append_ #[172,172] 172 #[v,u]).run Tryz.prog w=.ok b w'/\Zq B w' b (l++m)/\w.grownBy w' v.ownBlock/\(b.ownBlock=v.ownBlock\/b.ownBlock=some w.heap.size):=by
 obtain⟨i,d,f,g,j⟩:=Ue (P:=Tryz.prog) (e:=179) info_entry;have hf:=hu.firsts
 obtain⟨a,cap,rfl,k,o⟩:=hu.form
 obtain⟨b,w',p,q,c,_,r⟩:=Zfc (P:=Tryz.prog) w B 172 172 172 179 i _ 3 40 _ Tryz.underlying172 Tryz.underlying172 (.inl rfl) d f g j rfl (by decide) v l.length (enV l) h
  (.slice a m.length cap) m.length (enV m) (λw'=>rfl) (by rw[Zw]) hf (Zek m) (by simp[maxLen];omega) (by omega) hB
 refine⟨b,w',p,?_,c,r⟩;unfold Zq;rw[Zhl,List.length_append];exact q
theorem IsE.take {l:List En} (h:IsE w (.slice a n cap) l) (k:Nat) (hk:k<=l.length):IsE w (.slice a k cap) (l.take k):=by
 obtain⟨o,c,d,p,g,j,e⟩:=h;simp only[Value.slice.injEq] at d;obtain⟨rfl,_,rfl⟩:=d;have b:(l.take k).length=k:=by rw[List.length_take];omega
 refine⟨a,cap,by rw[b],by omega,g,j,λx f=>⟨λq=>(e x f).1 (by omega),λi m=>?_⟩⟩;rw[b] at m;have:=(e x f).2 i (by omega)
 simpa using this
theorem IsE.drop {b o:Nat} {l:List En} (h:IsE w (.slice (some ⟨b,o,none⟩) n cap) l) (k:Nat) (hk:k<=l.length):IsE w (.slice (some ⟨b,o+k*3,none⟩) (l.length - k) (cap - k)) (l.drop k):=by
 obtain⟨m,c,d,p,q,r,g⟩:=h;simp only[Value.slice.injEq] at d;obtain⟨rfl,_,rfl⟩:=d;refine⟨_,_,by rw[List.length_drop],by rw[List.length_drop];omega,by omega,λe=>(by cases e),λx f=>?_⟩;simp only[Option.some.injEq] at f;subst f;refine⟨λ_=>rfl,λi j=>?_⟩;rw[List.length_drop] at j;have h2:=(g _ rfl).2 (k+i) (by omega)
 have e:o+k*3+i*3=o+(k+i)*3:=by omega
 simp only[List.getElem_drop];rw[e];exact h2
end
section
open Go.RowKit Go.Deep
def pad (A:List UInt8):List UInt8:=A++List.replicate (896 - A.length) 0
theorem Qw {A:List UInt8} (h:A.length<=896):(pad A).length=896:=by simp[pad];omega
theorem pad_lay {A v:List UInt8} (h:A.length+v.length<=896):Zai (pad A) A.length v=pad (A++v):=by
 unfold Zai pad;rw[List.take_append_of_le_length (Va _),List.take_length];have a:(A++List.replicate (896 - A.length) 0).drop (A.length+v.length)=List.replicate (896 - (A.length+v.length)) (0:UInt8):=by rw[List.drop_append,List.drop_eq_nil_of_le (by omega),List.nil_append,List.drop_replicate];congr 1;omega
 rw[a];simp
theorem byteCells_bv (k:List UInt8):byteCells ⟨k.toArray⟩=bv k:=by simp[byteCells,bv]
structure Qc (w:World) (g:Nat) (A:List UInt8):Prop where
 row:Zh w g 5 (pad A)
 le:A.length<=896
section
variable {w w' : World} {g : Nat} {A : List UInt8}
theorem Qc.keep (h:Qc w g A) (hw:w'.heap[g]?=w.heap[g]?):Qc w' g A:=⟨h.row.keep hw,h.le⟩
theorem Qc.below (h:Qc w g A) (hb:Below w.heap.size w w'):Qc w' g A:=⟨h.row.below hb,h.le⟩
theorem Qc.lay (h:Qc w g A) (v:List UInt8) (hv:A.length+v.length<=896):Qc (w.setCells g A.length (bv v)) g (A++v):=by have a:=h.row.lay A.length v (by rw[Qw h.le];exact hv);rw[pad_lay hv] at a;exact⟨a,by rw[List.length_append];exact hv⟩
theorem Qc.room (h:Qc w g A) (v:List UInt8) (hv:A.length+v.length<=896):(∀j,j<(bv v).length->(w.cell? ⟨g,0+A.length*1+j,none⟩).isSome=true)/\∀j,j<(bv v).length->w.frozen? ⟨g,0+A.length*1+j,none⟩=false:=by refine⟨λj a=>?_,λj a=>Zf h.row _⟩;rw[Zk] at a;rw[Nat.zero_add,Nat.mul_one,h.row.cell (A.length+j) (by rw[Qw h.le];omega)];rfl
theorem info_u8:(Tryz.prog.info? 5).map (λi=>(i.zero,i.size,i.bytes))=some (some (.int .u8 0),1,1):=by kernel_rfl
theorem Qc.app_str (h:Qc w g A) (k:List UInt8) (hk:A.length+k.length<=896) (b:TypeId) :
  (Builtin.append_ #[77,9] b #[.slice (some ⟨g,0,none⟩) A.length 896,.string ⟨k.toArray⟩]).run Tryz.prog w=.ok (.slice (some ⟨g,0,none⟩) (A++k).length 896) (w.setCells g A.length (bv k)):=by
 obtain⟨i,c,j,a,l⟩:=Ue (P:=Tryz.prog) (e:=5) info_u8;have hsrc:=Src.ofString (P:=Tryz.prog) w (tx:=9) Tryz.underlying9 ⟨k.toArray⟩
 rw[byteCells_bv,show (⟨k.toArray⟩:ByteArray).size=k.length by simp[ByteArray.size]] at hsrc
 obtain⟨d,f⟩:=h.room k hk;have:=run_append_room_src w 77 9 b 5 i Tryz.underlying77 c g 0 A.length 896 (.string ⟨k.toArray⟩) k.length (bv k) (by rw[a];exact hsrc) hk (by rw[a];exact d) (by rw[a];exact f)
 rw[a,Nat.zero_add,Nat.mul_one,<-List.length_append] at this;exact this
theorem Qc.app_row (h:Qc w g A) (u:Nat) (k:List UInt8) (hu:Zh w u 5 k) (hk:A.length+k.length<=896) (f:TypeId) :
  (Builtin.append_ #[77,77] f #[.slice (some ⟨g,0,none⟩) A.length 896,.slice (some ⟨u,0,none⟩) k.length k.length]).run Tryz.prog w=.ok (.slice (some ⟨g,0,none⟩) (A++k).length 896) (w.setCells g A.length (bv k)):=by
 obtain⟨i,m,p,d,q⟩:=Ue (P:=Tryz.prog) (e:=5) info_u8
 have a:=Src.ofSlice (P:=Tryz.prog) w (size:=1) (tx:=77) Tryz.underlying77 ⟨u,0,none⟩ k.length k.length (bv k) (by simp[bv]) (λj c l=>by
  have b:j<k.length:=by have:=(List.getElem?_eq_some_iff.1 l).1;rwa[Zk] at this
  rw[Addr.add_mid,Nat.zero_add,hu.cell j b];rw[<-l]
  simp[bv,b]) (Yq k)
 obtain⟨n,o⟩:=h.room k hk;have:=run_append_room_src w 77 77 f 5 i Tryz.underlying77 m g 0 A.length 896 (.slice (some ⟨u,0,none⟩) k.length k.length) k.length (bv k) (by rw[d];exact a) hk (by rw[d];exact n) (by rw[d];exact o)
 rw[d,Nat.zero_add,Nat.mul_one,<-List.length_append] at this;exact this
end
end
section
open Go.RowKit
abbrev intO (n:Nat):Obj:=.cells #[.int .i64 (n:Int)] 3 (0,0)
def TextEnd (w:World) (g:Nat) (r:Option (List UInt8 × Nat)) (at_:Nat) (e:Ending) (w':World):Prop:=match r with
 | none=>e=.returned (.tuple #[.string ⟨#[]⟩,.bool false])/\Zb (·=g) w w'/\w'.heap[g]?=some (intO at_)
 | some x=>e=.returned (.tuple #[.string ⟨x.1.toArray⟩,.bool true])/\Zb (·=g) w w'/\w'.heap[g]?=some (intO x.2)
theorem text_any (w:World) (a:Option Addr) (n cap:Nat) (bs:List UInt8) (h:IsB w (.slice a n cap) bs) (hn:n=bs.length) (hn2:n<=100000) (g:Nat) (c:Nat) (hg:w.heap[g]?=some (intO c)) (M:c<=100000) (d:Nat) (hm:d<=255) :
  Calls Tryz.prog 142 #[.slice a n cap,.pointer (some ⟨g,0,none⟩),.int .i64 (d:Int)] w (TextEnd w g (Zbu bs c d) c):=by
 have N:w.drew.cell? ⟨g,0,none⟩=some (.int .i64 (c:Int)):=by
  show w.cell? _=_
  rw[Vc _ _ _ _ _ _ hg];rfl
 have f:w.drew.heap[g]?=some (intO c):=hg;have O:(0:Int)<=(c:Int):=by omega
 have s1:IntKind.i64.wrap ((c:Int)+1)=(c:Int)+1:=Vf _ (by omega);by_cases Q:n<=c
 .have R:decide ((c:Int)>=(n:Int))=true:=Vd (by omega)
  have z:decide ((n:Int)<=(c:Int))=true:=Vd (by omega);have k:Zbu bs c d=none:=by unfold Zbu;rw[if_pos (by omega)]
  have m:Hid (Zb (·=g) w w.drew/\w.drew.heap[g]?=some (intO c)):=Hd ⟨(Zb.refl _ _).drew,f⟩;rw[k];have A:decide (n<=c)=true:=Vd Q;clear h hg f hn;go_enter Tryz.func142,Tryz.ntmps142;go_upto_region 1 with fail;go_region;go_wp2_with fail;go_ret2;exact⟨rfl,m.out⟩
 .obtain⟨x,p⟩:∃x,x=bs[c]'(by omega):=⟨_,rfl⟩
  obtain⟨b,o,rfl,j⟩:∃b o,a=some ⟨b,o,none⟩/\w.cell? ⟨b,o+c,none⟩=some (.int .u8 (x.toNat:Int)):=by
   obtain⟨a',H,u,T,U,q,l⟩:=h;simp only[Value.slice.injEq] at u;obtain⟨rfl,_,rfl⟩:=u
   cases a with
   | none=>have:=q rfl;omega
   | some y =>
    obtain⟨b,o,V⟩:=y;obtain⟨X,l⟩:=l _ rfl;obtain rfl:V=none:=X (by omega);exact⟨b,o,rfl,by rw[p];exact l c (by omega)⟩
  have i:bs.getD c 0=x:=by rw[List.getD_eq_getElem?_getD,List.getElem?_eq_getElem (by omega),p];rfl
  have Y:=x.toNat_lt;have I:w.drew.cell? ⟨b,o+c,none⟩=some (.int .u8 (x.toNat:Int)):=j;have R:decide ((c:Int)>=(n:Int))=false:=Vb (by omega);have z:decide ((n:Int)<=(c:Int))=false:=Vb (by omega);have A:decide (n<=c)=false:=Vb (by omega);have Z:(c:Int)<(n:Int):=by omega
  have m:Hid (Zb (·=g) w w.drew/\w.drew.heap[g]?=some (intO c)):=Hd ⟨(Zb.refl _ _).drew,f⟩;have s0:IntKind.i64.wrap (x.toNat:Int)=(x.toNat:Int):=Vf _ (by omega);have s2:IntKind.i64.wrap ((c:Int)+1+(x.toNat:Int))=(c:Int)+1+(x.toNat:Int):=Vf _ (by omega);by_cases r:d<x.toNat
  .have B:decide ((x.toNat:Int) > (d:Int))=true:=Vd (by omega)
   have C:decide ((d:Int)<(x.toNat:Int))=true:=Vd (by omega);have D:decide (d<x.toNat)=true:=Vd r;have k:Zbu bs c d=none:=by unfold Zbu;rw[i,if_neg (by omega),if_pos r]
   rw[k];clear hn h hg f p j i k;go_enter Tryz.func142,Tryz.ntmps142;go_upto_region 1 with fail;go_region;go_wp2_with fail;go_ret2;exact⟨rfl,m.out⟩
  have B:decide ((x.toNat:Int) > (d:Int))=false:=Vb (by omega);have C:decide ((d:Int)<(x.toNat:Int))=false:=Vb (by omega);have D:decide (d<x.toNat)=false:=Vb r;by_cases h3:n<c+1+x.toNat
  .have E:decide ((c:Int)+1+(x.toNat:Int) > (n:Int))=true:=Vd (by omega)
   have F:decide ((n:Int)<(c:Int)+1+(x.toNat:Int))=true:=Vd (by omega);have k:Zbu bs c d=none:=by unfold Zbu;rw[i,if_neg (by omega),if_neg r,if_pos (by omega)]
   rw[k];clear hn h hg f p j i k;go_enter Tryz.func142,Tryz.ntmps142;go_upto_region 1 with fail;go_region;go_wp2_with fail;go_ret2;exact⟨rfl,m.out⟩
  have E:decide ((c:Int)+1+(x.toNat:Int) > (n:Int))=false:=Vb (by omega);have F:decide ((n:Int)<(c:Int)+1+(x.toNat:Int))=false:=Vb (by omega);have s:c+1+x.toNat<=cap:=by obtain⟨_,_,u,T,_⟩:=h;simp only[Value.slice.injEq] at u;omega
  have J:=λW=>run_cut_lh (P:=Tryz.prog) W Tryz.underlying77 (e:=5) (by kernel_rfl) (some ⟨b,o,none⟩) n cap (c+1) (c+1+x.toNat) ((c:Int)+1) ((c:Int)+1+(x.toNat:Int)) (by omega) (by omega) (by omega) s;have hI:=h.cut (c+1) (c+1+x.toNat) (by omega) (by omega);obtain⟨S,v⟩:∃S,S=(bs.take (c+1+x.toNat)).drop (c+1):=⟨_,rfl⟩;have t:S.length=x.toNat:=by rw[v,List.length_drop,List.length_take];omega
  have k:Zbu bs c d=some (S,c+1+S.length):=by
   unfold Zbu;rw[i,if_neg (by omega),if_neg r,if_neg (by omega),t];have e:(bs.drop (c+1)).take x.toNat=S:=by rw[v,List.drop_take];congr 1;omega
   rw[e]
  rw[<-v] at hI;rw[k];generalize cutA (some ⟨b,o,none⟩) cap (c+1)=ca at *;generalize G:c+1+x.toNat - (c+1)=q1 at *;generalize cap - (c+1)=q2 at *;have hst:=run_str (P:=Tryz.prog) (w:=w.drew.drew) hI 77 9 5 Tryz.underlying77 Tryz.underlying5 Tryz.underlying9
  have s3:IntKind.i64.wrap (1+(S.length:Int))=1+(S.length:Int):=Vf _ (by omega);have s4:IntKind.i64.wrap ((c:Int)+(1+(S.length:Int)))=((c+1+S.length:Nat):Int):=by rw[Vf _ (by omega)];omega
  have a0:w.drew.drew.cell? ⟨g,0,none⟩=some (.int .i64 (c:Int)):=N;have L:w.drew.drew.cell? ⟨b,o+c,none⟩=some (.int .u8 (x.toNat:Int)):=j;have a1:w.drew.drew.frozen? ⟨g,0,none⟩=false:=Zf (w:=w.drew.drew) hg 0
  have HY:Hid (Zb (·=g) w (w.drew.drew.setCell ⟨g,0,none⟩ (.int .i64 ((c+1+S.length:Nat):Int)))/\(w.drew.drew.setCell ⟨g,0,none⟩ (.int .i64 ((c+1+S.length:Nat):Int))).heap[g]?=some (intO (c+1+S.length))) :=
   Hd ⟨((Zb.refl _ _).drew.drew).trans (Zc w.drew.drew g 0 _),Ze (w:=w.drew.drew) hg _⟩
  clear hn h hg f p j i k hI v m G t;go_enter Tryz.func142,Tryz.ntmps142;go_upto_region 1 with fail;go_region;go_upto_region 3 with fail;go_region;go_wp2_with fail;go_ret2;exact⟨rfl,HY.out⟩
end
section
open Go.RowKit
abbrev ndV (leaf:Bool) (v:Value):Value:=.agg #[.bool leaf,v]
theorem Zl (w:World) (o:Obj):Below w.heap.size w (w.alloc o):=(Ve _ _).alloc (Va _) _
theorem size_any (w:World) (leaf:Bool) (a:Option Addr) (n cap:Nat) {l:List En} (h:IsE w (.slice a n cap) l) (hn:n=l.length) (i:Nat) (j:i<l.length) (hm:l.length<=1000000) (hf:∀e∈l,e.key.length<=80/\e.val.length<=200) :
  Calls Tryz.prog 129 #[ndV leaf (.slice a n cap),.int .i64 (i:Int)] w λe w'=>e=.returned (.int .i64 (l[i].size leaf i:Int))/\Below w.heap.size w w':=by
 obtain⟨b,o,rfl,m,p,q⟩:=h.at i j;obtain⟨z,A⟩:=hf _ (Vo j);obtain⟨w1,d⟩:∃x,x=w.alloc (.cells #[.bool leaf,.slice (some ⟨b,o,none⟩) n cap] 174):=⟨_,rfl⟩;have c:Below w.heap.size w w1:=by rw[d];exact Zl w _
 have s:=Zi c _ _ m;have d1:=Zi c _ _ p;have d2:=Zi c _ _ q;have t:w1.cell? ⟨w.heap.size,0,none⟩=some (.bool leaf):=by rw[d,Vc _ _ _ _ _ _ (Vg w _)];rfl
 have B:w1.cell? ⟨w.heap.size,1,none⟩=some (.slice (some ⟨b,o,none⟩) n cap):=by rw[d,Vc _ _ _ _ _ _ (Vg w _)];rfl
 have u:i<n:=by omega
 generalize l[i]=e at *;obtain⟨w2,f⟩:∃x,x=w1.alloc (.cells #[.string ⟨e.key.toArray⟩,.string ⟨e.val.toArray⟩,.int .i64 e.kid] 179):=⟨_,rfl⟩;have g:Below w1.heap.size w1 w2:=by rw[f];exact Zl w1 _
 have C:=Zi g _ _ t;have D:w2.cell? ⟨w1.heap.size,0,none⟩=some (.string ⟨e.key.toArray⟩):=by rw[f,Vc _ _ _ _ _ _ (Vg w1 _)];rfl
 have E:w2.cell? ⟨w1.heap.size,1,none⟩=some (.string ⟨e.val.toArray⟩):=by rw[f,Vc _ _ _ _ _ _ (Vg w1 _)];rfl
 have k:Hid (Below w.heap.size w w2):=Hd (c.trans (g.mono c.size));obtain⟨v,y⟩:(0:Int)<=(i:Int)/\(i:Int)<(n:Int):=by omega
 have F:IntKind.i64.wrap (2+(e.key.length:Int))=2+(e.key.length:Int):=Vf _ (by omega);have G:IntKind.i64.wrap (2+(e.key.length:Int)+(e.val.length:Int))=2+(e.key.length:Int)+(e.val.length:Int):=Vf _ (by omega);have H:IntKind.i64.wrap (3+(e.key.length:Int))=3+(e.key.length:Int):=Vf _ (by omega);have HW1:=Hd d;have HW2:=Hd f;clear h hf m p q c g hn j;subst f;subst d
 cases leaf with
 | true =>
  go_enter Tryz.func129,Tryz.ntmps129;go_wp2_with fail;go_ret;exact⟨by simp[En.size],k.out⟩
 | false =>
  by_cases r:i=0
  .subst r;simp only[Nat.zero_mul,Nat.add_zero] at s d1 d2;go_enter Tryz.func129,Tryz.ntmps129;go_wp2_with fail;go_ret;exact⟨by simp[En.size],k.out⟩
  .have I:((i:Int)==0)=false:=by rw[beq_eq_false_iff_ne];omega
   go_enter Tryz.func129,Tryz.ntmps129;go_wp2_with fail;go_ret;exact⟨by simp[En.size,r],k.out⟩
theorem Ym (leaf:Bool):∀(a b:List En) (i:Nat),Zg leaf i (a++b)=Zg leaf i a+Zg leaf (i+a.length) b
 | [],b,i=>by simp[Zg]
 | e::r,b,i=>by
  rw[List.cons_append,Zg,Zg,Ym leaf r b (i+1),List.length_cons];rw[show i+1+r.length=i+(r.length+1) by omega]
  omega
theorem En.size_le (leaf:Bool) (i:Nat) (e:En) (h:e.key.length<=80/\e.val.length<=200):e.size leaf i<=282:=by
 unfold En.size;split
 .omega
 .split<;>omega
theorem Zfs (leaf:Bool):∀(l:List En) (i:Nat),(∀e∈l,e.key.length<=80/\e.val.length<=200)->Zg leaf i l<=282*l.length
 | [],_,_=>by simp[Zg]
 | e::r,i,h=>by have b:=En.size_le leaf i e (h e (Vi ..));have h2:=Zfs leaf r (i+1) λx a=>h x (Vj _ a);rw[Zg,List.length_cons];omega
theorem Zhw (leaf:Bool) (l:List En) (k:Nat) (hk:k<l.length):Zg leaf 0 (l.take (k+1))=Zg leaf 0 (l.take k)+l[k].size leaf k:=by rw[List.take_add_one,List.getElem?_eq_getElem hk,Ym,List.length_take,Nat.min_eq_left (by omega),Nat.zero_add];simp[Zg]
theorem sum_any (w:World) (leaf:Bool) (a:Option Addr) (n cap:Nat) {l:List En} (h:IsE w (.slice a n cap) l) (hn:n=l.length) (hm:l.length<=1000000) (hf:∀e∈l,e.key.length<=80/\e.val.length<=200) :
  Calls Tryz.prog 128 #[ndV leaf (.slice a n cap)] w λe w'=>e=.returned (.int .i64 ((Nd.mk leaf l).sum:Int))/\Below w.heap.size w w':=by
 obtain⟨w1,b⟩:∃x,x=w.alloc (.cells #[.bool leaf,.slice a n cap] 174):=⟨_,rfl⟩;have d:Below w.heap.size w w1:=by rw[b];exact Zl w _
 have i:w1.cell? ⟨w.heap.size,0,none⟩=some (.bool leaf):=by rw[b,Vc _ _ _ _ _ _ (Vg w _)];rfl
 have j:w1.cell? ⟨w.heap.size,1,none⟩=some (.slice a n cap):=by rw[b,Vc _ _ _ _ _ _ (Vg w _)];rfl
 have q:=Hd (h.below d);have HB1:=Hd d;have HW1:=Hd b;have HN:=Hd hn;have HF:=Hd hf;have r:n<=1000000:=by omega
 have p:=Hd (And.intro i j);rw[b] at i j;clear h d b hn hf hm;go_enter Tryz.func128,Tryz.ntmps128;go_wp2_with fail;rw[<-HW1.out];clear i j;go_loopw [3,8] (λs y wr=>∃k:Nat,k<=n/\y=.int .i64 (k:Int)/\s=.int .i64 (Zg leaf 0 (l.take k):Int)/\Below w1.heap.size w1 wr) (λ_ y _=>n - (intOf y).toNat)
 case atStart=>exact⟨0,Vl _,rfl,by simp[Zg],Ve _ _⟩
 case round =>
  obtain⟨k,B,rfl,rfl,c⟩:=hrel;have m0:=Zi c _ _ p.out.1
  have C:=Zi c _ _ p.out.2;have HBR:=Hd c;clear c;by_cases m:k<n
  .have t:decide ((k:Int)<(n:Int))=true:=Vd (by omega)
   have f:k<l.length:=by have:=HN.out;omega
   have o:=Hd (size_any wr leaf a n cap (q.out.below HBR.out) HN.out k f (by have:=HN.out;omega) HF.out);have hst:=Zhw leaf l k f;have hs1:=Zfs leaf (l.take k) 0 λe u=>HF.out e (Vr u);have hs2:=En.size_le leaf k l[k] (HF.out _ (Vo f));rw[List.length_take,Nat.min_eq_left (by omega)] at hs1;have HST:=Hd hst;clear hst;generalize Zg leaf 0 (l.take k)=S at *;generalize l[k].size leaf k=z at *;have v:IntKind.i64.wrap ((S:Int)+(z:Int))=((S+z:Nat):Int):=by rw[Vf _ (by omega)];omega
   go_wp2_with fail;refine o.out.mono ?_;rintro e D ⟨rfl,g⟩;have HB3:=Hd (HBR.out.trans (g.mono HBR.out.size))
   clear g;go_wp2_with fail;go_roundw
   case rel=>exact⟨k+1,m,by go_num,by rw[HST.out];simp,HB3.out⟩
   case measure=>simp[intOf];omega
  .obtain rfl:k=n:=by omega
   have t:decide ((k:Int)<(k:Int))=false:=by simp
   have A:Hid (Zg leaf 0 (l.take k)=(Nd.mk leaf l).sum):=Hd (by rw[HN.out,List.take_length];rfl);rw[A.out];have HBB:=Hd (HB1.out.trans (HBR.out.mono HB1.out.size));go_wp2_with fail;go_ret;exact⟨rfl,HBB.out⟩
end
section
open Go.RowKit
variable {leaf:Bool}{g:Nat}{e:En}
abbrev ndO (leaf:Bool) (v:Value):Obj:=.cells #[.bool leaf,v] 174 (0,0)
abbrev enO (e:En):Obj:=.cells #[.string ⟨e.key.toArray⟩,.string ⟨e.val.toArray⟩,.int .i64 e.kid] 179 (0,0)
theorem info_node:(Tryz.prog.info? 174).map (·.size)=some 2:=by kernel_rfl
theorem Zd {w:World} {v:Value} (h:w.heap[g]?=some (ndO leaf v)):w.cell? ⟨g,0,none⟩=some (.bool leaf)/\w.cell? ⟨g,1,none⟩=some v:=by
 refine⟨?_,?_⟩<;>· rw[Vc _ _ _ _ _ _ h];rfl
theorem Yy {w:World} (h:w.heap[g]?=some (enO e)):w.cell? ⟨g,0,none⟩=some (.string ⟨e.key.toArray⟩)/\w.cell? ⟨g,1,none⟩=some (.string ⟨e.val.toArray⟩)/\w.cell? ⟨g,2,none⟩=some (.int .i64 e.kid):=by
 refine⟨?_,?_,?_⟩<;>· rw[Vc _ _ _ _ _ _ h];rfl
theorem nd_load {w:World} {v:Value} (h:w.heap[g]?=some (ndO leaf v)):(loadVar 174 ⟨g,0,none⟩).run Tryz.prog w=.ok (ndV leaf v) w :=
 Uh w g _ _ _ (0,0) _ h Tryz.underlying174 rfl (by rw[info_node];rfl)
theorem Zy {P:Program} {fn:Func} {tmps:Array Value} {a:Tmp} {t:TypeId} {p:Addr} {v:Value} {w:World} {b:Tmp} (hr:fn.results=#[.cell a t,.tmp b]) (c:tmps.getD a undef=.pointer (some p)) (hv:(loadVar t p).run P w=.ok v w):
  (results fn tmps).run P w=.ok (.tuple #[v,tmps.getD b undef]) w:=by
 unfold results;simp only[hr,List.mapM_toArray,List.mapM_cons,List.mapM_nil,c,asAddr,Sem.run_bind,Sem.run_pure,Result.andThen_ok,hv,bind_assoc,pure_bind,Sem.run_map];rfl
theorem IsE.one {w:World} (h:w.heap[g]?=some (enO e)):IsE w (.slice (some ⟨g,0,none⟩) 1 1) [e]:=by
 obtain⟨b,c,d⟩:=Yy h;refine⟨_,1,rfl,Va _,by simp[maxLen],λe=>(by cases e),λx a=>?_⟩;simp only[Option.some.injEq] at a;subst a;refine⟨λ_=>rfl,λi f=>?_⟩;obtain rfl:i=0:=by simpa using f
 exact⟨b,c,d⟩
theorem Zcf:∀(x y:List UInt8),Op.bytesLess x y=decide (x<y)
 | [],[]=>by simp[Op.bytesLess]
 | _::_,[]=>by simp[Op.bytesLess]
 | [],_::_=>by simp[Op.bytesLess]
 | a::x,b::y=>by
  rw[Op.bytesLess,Zcf x y];simp only[List.cons_lt_cons_iff]
  by_cases c:a<b<;>by_cases d:a=b<;>by_cases f:x<y<;>simp[c,d,f]
theorem leq_fits (a b:List UInt8):(Op.bytesLess a b||a==b)=!decide (b<a):=by
 rw[Zcf]
 cases h:decide (b<a) with
 | true =>
  have d:b<a:=Uq h;have c:¬a<b:=List.lt_asymm d;have f:a≠b:=λe=>Vw _ (e▸d);simp[c,f]
 | false =>
  have d:¬b<a:=of_decide_eq_false h;rcases List.le_iff_lt_or_eq.1 (List.not_lt.1 d) with c | c
  .simp[c]
  .simp[c]
def ReadNEnd (w:World) (bs:List UInt8) (e:Ending) (w':World):Prop:=∃leaf v,e=.returned (.tuple #[ndV leaf v,.bool (Zah bs).isSome])/\Below w.heap.size w w'/\(∃a k c,v=.slice a k c)/\∀n,Zah bs=some n->n.leaf=leaf/\Zq w.heap.size w' v n.l
structure RdI (w wr:World) (lf:Bool) (bs:List UInt8) (i at_:Nat) (v:Value) (l:List En):Prop where
 below:Below w.heap.size w wr
 r:wr.heap[w.heap.size]?=some (ndO false (.slice none 0 0))
 nd:wr.heap[w.heap.size+1]?=some (ndO lf v)
 a:wr.heap[w.heap.size+2]?=some (intO at_)
 own:Zq (w.heap.size+3) wr v l
 len:l.length=i
theorem Zq.low {B B':Nat} {w:World} {v:Value} {l:List En} (h:Zq B w v l) (hb:B'<=B):Zq B' w v l:=by
 obtain⟨d,a⟩:=h;refine⟨d,?_⟩;rcases a with a | ⟨g,b,c,f,j,r⟩
 .exact .inl a
 .exact .inr ⟨g,b,c,f,Vk hb j,r⟩
section
variable {w wr : World} {lf : Bool} {bs : List UInt8} {i at_ : Nat} {v : Value} {l : List En}
theorem RdI.store (h:RdI w wr lf bs i at_ v l):(loadVar 174 ⟨w.heap.size,0,none⟩).run Tryz.prog ((wr.setCell ⟨w.heap.size,0,none⟩ (.bool lf)).setCell ⟨w.heap.size,1,none⟩ v)=.ok (ndV lf v) ((wr.setCell ⟨w.heap.size,0,none⟩ (.bool lf)).setCell ⟨w.heap.size,1,none⟩ v) /\
  Below w.heap.size w ((wr.setCell ⟨w.heap.size,0,none⟩ (.bool lf)).setCell ⟨w.heap.size,1,none⟩ v)/\Zq w.heap.size ((wr.setCell ⟨w.heap.size,0,none⟩ (.bool lf)).setCell ⟨w.heap.size,1,none⟩ v) v l:=by
 have b:=(Zc wr w.heap.size 0 (.bool lf)).trans (Zc _ w.heap.size 1 v);exact⟨nd_load (Ze (Ze h.r (i:=0) (.bool lf)) (i:=1) v),h.below.trans (b.below (B:=w.heap.size) h.below.size λk d=>by omega),(h.own.keep λk f c=>b.block k c (by omega)).low (by omega)⟩
theorem RdI.slice (h:RdI w wr lf bs i at_ v l):∃a k c,v=.slice a k c:=by obtain⟨a,c,b,_⟩:=h.own.isE.form;exact⟨a,_,c,b⟩
theorem RdI.no (h:RdI w wr lf bs i at_ v l) (hn:Zah bs=none):ReadNEnd w bs (.returned (.tuple #[ndV lf v,.bool false])) ((wr.setCell ⟨w.heap.size,0,none⟩ (.bool lf)).setCell ⟨w.heap.size,1,none⟩ v) :=
 ⟨lf,v,by rw[hn];rfl,h.store.2.1,h.slice,λn e=>(by rw[hn] at e;cases e)⟩
theorem RdI.yes (h:RdI w wr lf bs i at_ v l) (hn:Zah bs=some ⟨lf,l⟩):ReadNEnd w bs (.returned (.tuple #[ndV lf v,.bool true])) ((wr.setCell ⟨w.heap.size,0,none⟩ (.bool lf)).setCell ⟨w.heap.size,1,none⟩ v) :=
 ⟨lf,v,by rw[hn];rfl,h.store.2.1,h.slice,λn e=>by
  rw[hn] at e;cases e
  exact⟨rfl,h.store.2.2⟩⟩
theorem RdI.other {T:Nat->Prop} {W:World} {b:Nat} (h:RdI w wr lf bs i at_ v l) (ht:Zb T wr W) (c:∀k,T k->w.heap.size+2<=k/\v.ownBlock≠some k) (f:W.heap[w.heap.size+2]?=some (intO b)):RdI w W lf bs i b v l :=
  ⟨h.below.trans (ht.below (B:=w.heap.size) h.below.size λk d=>by have:=(c k d).1;omega),(ht.block _ (Za h.r) λe=>by have:=(c _ e).1;omega).trans h.r,(ht.block _ (Za h.nd) λe=>by have:=(c _ e).1;omega).trans h.nd,f,
   h.own.keep1 λk d=>ht.block k (h.own.lt d).2 λe=>(c k e).2 d,h.len⟩
theorem RdI.grown {wg:World} {v':Value} (h:RdI w wr lf bs i at_ v l) (hg:wr.grownBy wg v.ownBlock) (hm:Zq (w.heap.size+3) wg v' (l++[e])):RdI w (wg.setCell ⟨w.heap.size+1,1,none⟩ v') lf bs (i+1) at_ v' (l++[e]):=by have d:Zb (λk=>v.ownBlock=some k) wr wg:=⟨hg.os,hg.tape,hg.output,hg.size,λk b n=>hg.block k b λe=>n e.symm⟩;have f:∀k,v.ownBlock=some k->w.heap.size+3<=k:=λk b=>(h.own.lt b).1;have t2:=Zc wg (w.heap.size+1) 1 v';have c:∀{o:Obj} (k:Nat),k<w.heap.size+3->wr.heap[k]?=some o->wg.heap[k]?=some o:=λk b j=>(d.block k (Za j) λe=>by have:=f k e;omega).trans j;have m:Below w.heap.size w wg:=h.below.trans (d.below (B:=w.heap.size) h.below.size λk b=>by have:=f k b;omega);have n1:=c _ (by omega) h.nd;refine⟨m.trans (t2.below (B:=w.heap.size) m.size λk b=>by omega),(t2.block _ (Za (c _ (by omega) h.r)) (by omega)).trans (c _ (by omega) h.r),?_,(t2.block _ (Za (c _ (by omega) h.a)) (by omega)).trans (c _ (by omega) h.a),hm.keep λk q p=>t2.block k p (by omega),by rw[List.length_append,h.len];rfl⟩;exact Ze n1 (i:=1) v'
end
theorem textB_le {bs:List UInt8} {at_ a:Nat} {x:List UInt8 × Nat} (h:Zbu bs at_ a=some x):x.2<=bs.length/\x.1.length<=a:=by
 unfold Zbu at h;split at h
 .cases h
 split at h
 .cases h
 split at h
 .cases h
 .simp only[Option.some.injEq] at h;subst h;refine⟨by dsimp only;omega,?_⟩;dsimp only;rw[List.length_take,List.length_drop];omega
theorem bread_any (w:World) (a:Option Addr) (n cap:Nat) (bs:List UInt8) (h:IsB w (.slice a n cap) bs) (hn:n=bs.length) (hn3:3<=n) (hn2:n<=1000):
  Calls Tryz.prog 117 #[.slice a n cap] w (ReadNEnd w bs):=by
 obtain⟨b,o,rfl,a0⟩:∃b o,a=some ⟨b,o,none⟩/\∀i,i<n->w.cell? ⟨b,o+i,none⟩=some (.int .u8 ((bs.getD i 0).toNat:Int)):=by
  obtain⟨a',bI,hv,hl,bK,bf,b2⟩:=h;simp only[Value.slice.injEq] at hv;obtain⟨rfl,_,rfl⟩:=hv
  cases a with
  | none=>have:=bf rfl;omega
  | some y =>
   obtain⟨b,o,sp⟩:=y;obtain⟨hs,b2⟩:=b2 _ rfl;obtain rfl:sp=none:=hs (by omega);refine⟨b,o,rfl,λi hi=>?_⟩;rw[List.getD_eq_getElem?_getD,List.getElem?_eq_getElem (by omega)];exact b2 i (by omega)
 have d0:=a0 0 (by omega);have d1:=a0 1 (by omega);have d2:=a0 2 (by omega);rw[Nat.add_zero] at d0;have bg:readM bs=(bs.getD 1 0).toNat+(bs.getD 2 0).toNat*256:=rfl;have b3:Hid (Zah bs=if (bs.getD 0 0≠1/\bs.getD 0 0≠2)\/readM bs=0 then none else (Yz (bs.getD 0 0==1) bs (readM bs) 3 []).map (Nd.mk (bs.getD 0 0==1))):=Hd rfl
 have a4:=Hd a0;have HI:=Hd h;have HN:=Hd hn;clear h a0 hn;generalize readM bs=M at *;generalize bs.getD 0 0=R at *;generalize bs.getD 1 0=x1 at *;generalize bs.getD 2 0=x2 at *;have hb256:=x1.toNat_lt;have hc256:=x2.toNat_lt;have ha256:=R.toNat_lt;have aX:M<=65535:=by omega
 have e1:IntKind.i64.wrap (x1.toNat:Int)=(x1.toNat:Int):=Vf _ (by omega);have e2:IntKind.i64.wrap (x2.toNat:Int)=(x2.toNat:Int):=Vf _ (by omega);have HM:=Hd bg;have HML:=Hd aX;clear bg aX;obtain⟨W1,aB⟩:∃x,x=w.alloc (.cells #[.bool false,.slice none 0 0] 174):=⟨_,rfl⟩;have ax:Below w.heap.size w W1:=by rw[aB];exact Zl w _
 have b4:W1.heap[w.heap.size]?=some (ndO false (.slice none 0 0)):=by rw[aB];exact Vg w _
 have bh:W1.heap.size=w.heap.size+1:=by rw[aB];simp
 have bL:=Hd aB;have p0:=Zi ax _ _ d0;have p1:=Zi ax _ _ d1;have p2:=Zi ax _ _ d2;obtain⟨lf,b5⟩:∃lf:Bool,lf=((R.toNat:Int)==1):=⟨_,rfl⟩
 have aY:(R==1)=lf:=by
  rw[b5]
  cases hx:(R==1) with
  | true =>
   have:R=1:=by simpa using hx
   rw[this];rfl
  | false =>
   symm;rw[beq_eq_false_iff_ne];intro e;have e1:R.toNat=1:=by omega
   have:R=1:=UInt8.toNat_inj.1 e1;rw[this] at hx;simp at hx
 rw[aY] at b3;obtain⟨W2,aC⟩:∃x,x=W1.alloc (.cells #[.bool lf,.slice none 0 0] 174):=⟨_,rfl⟩;have ay:Below W1.heap.size W1 W2:=by rw[aC];exact Zl W1 _
 have bi:=(ay.block _ (Za b4)).trans b4;have aZ:W2.heap[w.heap.size+1]?=some (ndO lf (.slice none 0 0)):=by rw[aC,<-bh];exact Vg W1 _
 have bj:W2.heap.size=w.heap.size+2:=by rw[aC];simp;omega
 have bB:=Hd (ax.trans (ay.mono ax.size));have HW2:=Hd aC;have q0:=Zi ay _ _ p0;have q1:=Zi ay _ _ p1;have q2:=Zi ay _ _ p2;have HR2:=Hd bi;have HN2:=Hd aZ;have HS2:=Hd bj;have HLF:=Hd b5;clear b4 bi aZ bj bh ax ay aC;subst aB;go_enter Tryz.func117,Tryz.ntmps117;go_wp2_with fail;rw[<-HLF.out,<-HW2.out];clear p0 p1 p2 d0 d1 d2 b5 aY;have bk:W2.drew.cell? ⟨b,o,none⟩=some (.int .u8 (R.toNat:Int)):=q0;have bl:W2.drew.cell? ⟨b,o+1,none⟩=some (.int .u8 (x1.toNat:Int)):=q1;have bm:W2.drew.cell? ⟨b,o+2,none⟩=some (.int .u8 (x2.toNat:Int)):=q2;have ab:W2.drew.heap[w.heap.size]?=some (ndO false (.slice none 0 0)):=HR2.out;have ad:W2.drew.heap[w.heap.size+1]?=some (ndO lf (.slice none 0 0)):=HN2.out;have hs3:W2.drew.heap.size=w.heap.size+2:=HS2.out;have aL:Hid (Below w.heap.size w W2.drew):=Hd bB.out.drew;obtain⟨c1,c2,c0⟩:(1:Int)<(n:Int)/\(2:Int)<(n:Int)/\(0:Int)<(n:Int):=by omega
 have bM:IntKind.i64.wrap ((x2.toNat:Int)*256)=(x2.toNat:Int)*256:=Vf _ (by omega);have bJ:IntKind.i64.wrap ((x1.toNat:Int)+(x2.toNat:Int)*256)=(M:Int):=by rw[Vf _ (by omega),HM.out];omega
 go_region;generalize W2.drew=W3 at *;obtain⟨m0,m1⟩:=Zd ad;by_cases S:(R≠1/\R≠2)\/M=0
 .have HNO:Hid (Zah bs=none):=Hd (by rw[b3.out,if_pos S])
  have bC:(((R.toNat:Int) != 1)=true/\((R.toNat:Int) != 2)=true)\/(((R.toNat:Int) != 1)=false/\((M:Int)==0)=true)\/(((R.toNat:Int) != 1)=true/\((R.toNat:Int) != 2)=false/\((M:Int)==0)=true):=by
   by_cases z1:R.toNat=1
   .have aM:M=0:=by
     rcases S with h | h
     .exact absurd (UInt8.toNat_inj.1 z1) h.1
     .exact h
    exact .inr (.inl ⟨by simp[z1],by simp[aM]⟩)
   .have bn:((R.toNat:Int) != 1)=true:=by rw[bne_iff_ne];omega
    by_cases z2:R.toNat=2
    .have aM:M=0:=by
      rcases S with h | h
      .exact absurd (UInt8.toNat_inj.1 z2) h.2
      .exact h
     exact .inr (.inr ⟨bn,by simp[z2],by simp[aM]⟩)
    .exact .inl ⟨bn,by rw[bne_iff_ne];omega⟩
  clear S;obtain⟨r0,r1⟩:=Zd ab;have f0:=Zf ab 0
  have f1:=Zf ab 1;have hh:=Ze (Ze ab (i:=0) (.bool lf)) (i:=1) (.slice none 0 0);have ht:=(Zc W3 w.heap.size 0 (.bool lf)).trans (Zc _ w.heap.size 1 (.slice none 0 0));have HRT:Hid (ReadNEnd w bs (.returned (.tuple #[ndV lf (.slice none 0 0),.bool false])) ((W3.setCell ⟨w.heap.size,0,none⟩ (.bool lf)).setCell ⟨w.heap.size,1,none⟩ (.slice none 0 0))):=Hd ⟨lf,_,by rw[HNO.out];rfl,aL.out.trans (ht.below (B:=w.heap.size) aL.out.size λk u=>by omega),⟨_,_,_,rfl⟩,λn e=>(by rw[HNO.out] at e;cases e)⟩;have HLD:=Hd (nd_load hh);clear hh ht;rcases bC with ⟨z1,z2⟩ | ⟨z1,z2⟩ | ⟨z1,z2,z3⟩
  all_goals
   go_wp2_with fail
   exact Vn (v:=.tuple #[ndV lf (.slice none 0 0),.bool false]) (Zy Tryz.results117 rfl HLD.out) rfl HRT.out
 have aM:M≠0:=λe=>S (.inr e)
 have aw:R=1\/R=2:=by
  by_cases z1:R=1
  .exact .inl z1
  .by_cases z2:R=2
   .exact .inr z2
   .exact absurd (.inl ⟨z1,z2⟩) S
 have G:Hid (Zah bs=(Yz lf bs M 3 []).map (Nd.mk lf)):=Hd (by rw[b3.out,if_neg S]);have zM:((M:Int)==0)=false:=by rw[beq_eq_false_iff_ne];omega
 obtain⟨W4,aN⟩:∃x,x=W3.alloc (.cells #[.int .i64 3] 3):=⟨_,rfl⟩;have aO:Below W3.heap.size W3 W4:=by rw[aN];exact Zl W3 _
 have bo:RdI w W4 lf bs 0 3 (.slice none 0 0) [] :=
  ⟨aL.out.trans (aO.mono aL.out.size),(aO.block _ (Za ab)).trans ab,(aO.block _ (Za ad)).trans ad,by rw[aN,<-hs3];exact Vg W3 _,Zq.nil _ _,rfl⟩
 have aP:=Hd bo;have HW4:=Hd aN;have HML2:=Hd HML.out;clear bo aO S aN
 cases lf with
 | true =>
  have bp:R=1:=by
   rcases aw with h | h
   .exact h
   .have:=HLF.out;rw[h] at this;cases this
  have z1:((R.toNat:Int) != 1)=false:=by rw[bp];rfl
  clear aw bp;go_wp2_with fail;rw[<-HW4.out];clear m0 m1 bk bl bm ab ad hs3;go_loopw [41] (λy wr=>∃(i at_:Nat) (v:Value) (l:List En),i<=M/\y=.int .i64 (i:Int)/\RdI w wr true bs i at_ v l/\Yz true bs M 3 []=Yz true bs (M - i) at_ l/\at_<=bs.length) (λy _=>M - (intOf y).toNat)
  case atStart=>exact⟨0,3,_,_,Vl _,rfl,aP.out,rfl,by have:=HN.out;omega⟩
  case round =>
   clear aP;obtain⟨i,at_,v,l,hi,rfl,H,Y,aj⟩:=hrel;obtain⟨av,Z,hv,_,_⟩:=H.own.isE.form;rw[H.len] at hv;subst hv;by_cases az:i<M
   case neg =>
    obtain rfl:i=M:=by omega
    have hd:decide ((i:Int)<(i:Int))=false:=by simp
    rw[Nat.sub_self] at Y;have U:Zah bs=some ⟨true,l⟩:=by rw[G.out,Y];rfl
    obtain⟨m0,m1⟩:=Zd H.nd;obtain⟨r0,r1⟩:=Zd H.r;have f0:=Zf H.r 0
    have f1:=Zf H.r 1;have HLD:=Hd H.store.1;have HRT:=Hd (H.yes U);clear H Y U;go_wp2_with fail;exact Vn (v:=.tuple #[ndV true (.slice av i Z),.bool true]) (Zy Tryz.results117 rfl HLD.out) rfl HRT.out
   case pos =>
    have hd:decide ((i:Int)<(M:Int))=true:=Vd (by omega);obtain⟨W5,a3⟩:∃x,x=wr.alloc (.cells #[.string ⟨#[]⟩,.string ⟨#[]⟩,.int .i64 0] 179):=⟨_,rfl⟩;have ae:Below wr.heap.size wr W5:=by rw[a3];exact Zl wr _
    have ak:W5.heap[wr.heap.size]?=some (enO ⟨[],[],0⟩):=by rw[a3];exact Vg wr _
    have I:RdI w W5 true bs i at_ (.slice av i Z) l:=H.other (Zb.of_below ae (T:=λ_=>False)) (λk u=>u.elim) ((ae.block _ (Za H.a)).trans H.a);have HW5:=Hd a3;obtain⟨m0,m1⟩:=Zd I.nd;rw[a3] at m0 m1;have htx:=text_any W5 (some ⟨b,o,none⟩) n cap bs (HI.out.below I.below) HN.out (by omega) (w.heap.size+2) at_ I.a (by have:=HN.out;omega) 80 (by omega);rw[show ((80:Nat):Int)=80 from rfl] at htx
    have al:=Hd htx;have HI5:=Hd I;have HE5:=Hd ak;have hsz:=Za H.a;have A:Hid (∀k,(Value.slice av i Z).ownBlock=some k->w.heap.size+3<=k/\k<wr.heap.size):=Hd λk u=>H.own.lt u;have HGO:=Hd Y;have HLE:=Hd aj;clear H ae ak I htx Y aj;go_wp2_with fail;rw[<-HW5.out];refine al.out.mono ?_;intro e W6 F;obtain⟨y,U⟩:∃y,y=Zbu bs at_ 80:=⟨_,rfl⟩;rw[<-U] at F
    cases y with
    | none =>
     obtain⟨rfl,t6,a6⟩:=F;have hE6:=(t6.block _ (Za HE5.out) (by omega)).trans HE5.out
     obtain⟨j0,j1,j2⟩:=Yy hE6;have g0:=Zf hE6 0
     have a1:=HI5.out.other t6 (λk u=>⟨by omega,λe=>by have:=(A.out k e).1;omega⟩) a6
     have N:Zah bs=none:=by
      rw[G.out,HGO.out];obtain⟨q,hq⟩:∃q,M - i=q+1:=⟨M - i - 1,by omega⟩;have D:Zbm true bs l.length at_=none:=by unfold Zbm readK;rw[if_pos (by rfl),<-U];rfl
      rw[hq,Yz,D];rfl
     obtain⟨W7,C⟩:∃x,x=W6.setCell ⟨wr.heap.size,0,none⟩ (.string ⟨#[]⟩):=⟨_,rfl⟩;have t7:Zb (λx=>x=wr.heap.size) W6 W7:=by rw[C];exact Zc W6 wr.heap.size 0 (.string ⟨#[]⟩)
     have a7:=(t7.block _ (Za a6) (by omega)).trans a6;have hI7:=a1.other t7 (λk u=>⟨by omega,λe=>by have:=(A.out k e).2;omega⟩) a7;have hI8:=hI7.other (Zb.refl (λ_=>False) W7).drew (λk u=>u.elim) a7;have HI8:=Hd hI8;have HNO:=Hd N;have HW7:=Hd C;clear al a1 hI7 hI8 N a6 a7 t6 t7 U C;go_wp2_with fail;rw[<-HW7.out];clear j0 j1 j2 g0;obtain⟨n0,n1⟩:=Zd HI8.out.nd;obtain⟨r0,r1⟩:=Zd HI8.out.r;have f0:=Zf HI8.out.r 0;have f1:=Zf HI8.out.r 1;have HLD:=Hd HI8.out.store.1;have HRT:=Hd (HI8.out.no HNO.out);go_upto_region 20 with fail;go_region;generalize W7.drew=W8 at *;go_wp2_with fail;exact Vn (v:=.tuple #[ndV true (.slice av i Z),.bool false]) (Zy Tryz.results117 rfl HLD.out) rfl HRT.out
    | some x =>
     obtain⟨z,c⟩:=x;obtain⟨rfl,t6,a6⟩:=F;obtain⟨aD,aQ⟩:=textB_le U.symm;have hE6:=(t6.block _ (Za HE5.out) (by omega)).trans HE5.out
     obtain⟨j0,j1,j2⟩:=Yy hE6;have g0:=Zf hE6 0
     have a1:=HI5.out.other t6 (λk u=>⟨by omega,λe=>by have:=(A.out k e).1;omega⟩) a6;obtain⟨W7,C⟩:∃x,x=W6.setCell ⟨wr.heap.size,0,none⟩ (.string ⟨z.toArray⟩):=⟨_,rfl⟩;have t7:Zb (λx=>x=wr.heap.size) W6 W7:=by rw[C];exact Zc W6 wr.heap.size 0 (.string ⟨z.toArray⟩)
     have aE:W7.heap[wr.heap.size]?=some (enO ⟨z,[],0⟩):=by rw[C];exact Ze hE6 (i:=0) (.string ⟨z.toArray⟩)
     have a7:=(t7.block _ (Za a6) (by omega)).trans a6;have hI7:=a1.other t7 (λk u=>⟨by omega,λe=>by have:=(A.out k e).2;omega⟩) a7;have htx2:=text_any W7 (some ⟨b,o,none⟩) n cap bs (HI.out.below hI7.below) HN.out (by omega) (w.heap.size+2) c a7 (by have:=HN.out;omega) 200 (by omega);rw[show ((200:Nat):Int)=200 from rfl] at htx2
     have aF:=Hd htx2;have HI7:=Hd hI7;have HE7:=Hd aE;have HY:=Hd U;have HW7:=Hd C;obtain⟨n0,n1⟩:=Zd hI7.nd;rw[C] at n0 n1;clear al a1 hI7 a6 a7 t6 t7 U C hE6 aE htx2;go_wp2_with fail;rw[<-HW7.out];clear j0 j1 j2 g0 n0 n1;refine aF.out.mono ?_;intro e W8 F;obtain⟨y,U⟩:∃y,y=Zbu bs c 200:=⟨_,rfl⟩;rw[<-U] at F
     cases y with
     | none =>
      obtain⟨rfl,t8,a8⟩:=F;have hE8:=(t8.block _ (Za HE7.out) (by omega)).trans HE7.out
      obtain⟨j0,j1,j2⟩:=Yy hE8;have g1:=Zf hE8 1
      have hI8:=HI7.out.other t8 (λk u=>⟨by omega,λe=>by have:=(A.out k e).1;omega⟩) a8
      have N:Zah bs=none:=by
       rw[G.out,HGO.out];obtain⟨q,hq⟩:∃q,M - i=q+1:=⟨M - i - 1,by omega⟩;have D:Zbm true bs l.length at_=none:=by unfold Zbm readK readV;rw[if_pos (by rfl),<-HY.out];simp[<-U]
       rw[hq,Yz,D];rfl
      obtain⟨W9,E⟩:∃x,x=W8.setCell ⟨wr.heap.size,1,none⟩ (.string ⟨#[]⟩):=⟨_,rfl⟩;have t9:Zb (λx=>x=wr.heap.size) W8 W9:=by rw[E];exact Zc W8 wr.heap.size 1 (.string ⟨#[]⟩)
      have a9:=(t9.block _ (Za a8) (by omega)).trans a8;have hI9:=hI8.other t9 (λk u=>⟨by omega,λe=>by have:=(A.out k e).2;omega⟩) a9;have hI10:=hI9.other (Zb.refl (λ_=>False) W9).drew (λk u=>u.elim) a9;have HI10:=Hd hI10;have HNO:=Hd N;have HW9:=Hd E;clear aF hI8 hI9 hI10 N a8 a9 t8 t9 U E hE8;go_wp2_with fail;rw[<-HW9.out];clear j0 j1 j2 g1;obtain⟨n0,n1⟩:=Zd HI10.out.nd;obtain⟨r0,r1⟩:=Zd HI10.out.r;have f0:=Zf HI10.out.r 0;have f1:=Zf HI10.out.r 1;have HLD:=Hd HI10.out.store.1;have HRT:=Hd (HI10.out.no HNO.out);go_upto_region 20 with fail;go_region;generalize W9.drew=f at *;go_wp2_with fail;exact Vn (v:=.tuple #[ndV true (.slice av i Z),.bool false]) (Zy Tryz.results117 rfl HLD.out) rfl HRT.out
     | some x =>
      obtain⟨v1,aR⟩:=x;obtain⟨rfl,t8,a8⟩:=F;obtain⟨b0,bN⟩:=textB_le U.symm;have hE8:=(t8.block _ (Za HE7.out) (by omega)).trans HE7.out
      obtain⟨j0,j1,j2⟩:=Yy hE8;have g1:=Zf hE8 1
      have hI8:=HI7.out.other t8 (λk u=>⟨by omega,λe=>by have:=(A.out k e).1;omega⟩) a8;have D:Zbm true bs l.length at_=some (⟨z,v1,0⟩,aR):=by unfold Zbm readK readV;rw[if_pos (by rfl),<-HY.out];simp[<-U]
      obtain⟨W9,E⟩:∃x,x=W8.setCell ⟨wr.heap.size,1,none⟩ (.string ⟨v1.toArray⟩):=⟨_,rfl⟩;have t9:Zb (λx=>x=wr.heap.size) W8 W9:=by rw[E];exact Zc W8 wr.heap.size 1 (.string ⟨v1.toArray⟩)
      have af:W9.drew.heap[wr.heap.size]?=some (enO ⟨z,v1,0⟩):=by rw[E];exact Ze hE8 (i:=1) (.string ⟨v1.toArray⟩)
      have a9:=(t9.block _ (Za a8) (by omega)).trans a8;have hI9:=hI8.other t9 (λk u=>⟨by omega,λe=>by have:=(A.out k e).2;omega⟩) a9;have hI10:=hI9.other (Zb.refl (λ_=>False) W9).drew (λk u=>u.elim) a9;have HI10:=Hd hI10;have HE9:=Hd af;have HRE:=Hd D;have HW9:=Hd E;have HLE2:=Hd b0;clear aF hI8 hI9 hI10 a8 a9 t8 t9 U E hE8 af D b0;go_wp2_with fail;rw[<-HW9.out];clear j0 j1 j2 g1;obtain⟨n0,n1⟩:=Zd HI10.out.nd;obtain⟨e0,bq,br⟩:=Yy HE9.out
      have V:Zdq true l ⟨z,v1,0⟩=true->Yz true bs M 3 []=Yz true bs (M - (i+1)) aR (l++[⟨z,v1,0⟩]):=λhf=>by
       rw[HGO.out];obtain⟨q,hq⟩:∃q,M - i=q+1:=⟨M - i - 1,by omega⟩;rw[hq,Yz,HRE.out,show M - (i+1)=q by omega]
       simp only;rw[if_pos hf]
      have W:Zdq true l ⟨z,v1,0⟩=false->Zah bs=none:=λhf=>by rw[G.out,HGO.out];obtain⟨q,hq⟩:∃q,M - i=q+1:=⟨M - i - 1,by omega⟩;rw[hq,Yz,HRE.out];simp only;rw[if_neg (by simp[hf])];rfl
      have am:=Hd V;have HGN:=Hd W;clear V W;by_cases ag:i=0
      .have aS:l=[]:=Vh (by rw[HI10.out.len];exact ag)
       have a5:=Hd (am.out (by rw[aS];rfl));have aG:decide ((i:Int) > 0)=false:=Vb (by omega);have aH:decide (0<(i:Int))=false:=Vb (by omega);have b6:decide (0<i)=false:=Vb (by omega);have b7:¬(0<i):=by omega
       clear aS ag;go_upto_region 20 with fail;go_region;generalize W9.drew=f at *;have hI10:=HI10.out
       have aT:w.heap.size+1<f.heap.size:=Za hI10.nd;obtain⟨W11,j⟩:∃x,x=f.alloc (.cells #[.string ⟨z.toArray⟩,.string ⟨v1.toArray⟩,.int .i64 0] 179):=⟨_,rfl⟩;have m:Below f.heap.size f W11:=by rw[j];exact Zl f _
       have hU:W11.heap[f.heap.size]?=some (enO ⟨z,v1,0⟩):=by rw[j];exact Vg f _
       have d:=hI10.other (Zb.of_below m (T:=λ_=>False)) (λk u=>u.elim) ((m.block _ (Za hI10.a)).trans hI10.a);obtain⟨v2,aa,hr,p,s,_⟩:=d.own.app (IsE.one hU) (by have:=Za hU;have:=Za d.a;omega) (by have:=d.len;have:=HML2.out;simp only[List.length_singleton];omega);have hI13:=d.grown s p;have O:∀k,(Value.slice av i Z).ownBlock=some k->w.heap.size+3<=k:=λk u=>(d.own.lt u).1;have t:aa.heap[w.heap.size+1]?=some (ndO true (.slice av i Z)):=(s.block _ (Za d.nd) λe=>by have:=O _ e.symm;omega).trans d.nd;obtain⟨y0,y1⟩:=Zd t;have fN:=Zf t 1;obtain⟨a2,aU,P,_,_⟩:=p.isE.form;rw[List.length_append,d.len,List.length_singleton] at P;subst P;rw[j] at hr;have HI13:=Hd hI13;clear hI10 m hU d j p s hI13 O t;go_wp2_with (at_builtin;refine wpList_append_run rfl (.tmp 120) (.tmp 122) 172 172 rfl _ _ _ rfl rfl hr ?_;clear hr);go_roundw
       case rel=>exact⟨i+1,aR,_,_,az,by go_num,HI13.out,a5.out,HLE2.out⟩
       case measure=>simp[intOf];omega
      .obtain⟨i',aA⟩:∃i',i=i'+1:=⟨i - 1,by omega⟩
       have X:i'<l.length:=by rw[HI10.out.len];omega
       obtain⟨gl,ol,b8,z0,b9,ba⟩:=HI10.out.own.isE.at i' X;subst b8;have J:l.getLast?=some l[i']:=by rw[List.getLast?_eq_getElem?,HI10.out.len,show i - 1=i' by omega,List.getElem?_eq_getElem X]
       have hMM:=HML2.out;have bt:IntKind.i64.wrap ((i:Int) - 1)=(i':Int):=by rw[Vf _ (by omega)];omega
       have aG:decide ((i:Int) > 0)=true:=Vd (by omega);have aH:decide (0<(i:Int))=true:=Vd (by omega);have b6:decide (0<i)=true:=Vd (by omega);obtain⟨b7,bu,bD⟩:0<i/\(i':Int)<(i:Int)/\(0:Int)<=(i':Int):=by omega
       have ah:Zdq true l ⟨z,v1,0⟩=decide (l[i'].key<z):=by unfold Zdq;rw[J];rfl
       have Q:=leq_fits z l[i'].key;rw[<-ah] at Q;have HI':=Hd aA;obtain⟨lk,aQ⟩:∃lk,lk=l[i'].key:=⟨_,rfl⟩;rw[<-aQ] at z0 Q;clear b9 ba ah J aQ hMM;clear X aA ag
       cases hf:Zdq true l ⟨z,v1,0⟩ with
       | true =>
        have a5:=Hd (am.out hf);rw[hf] at Q;clear hf;go_upto_region 20 with fail;go_region;generalize W9.drew=f at *;have hI10:=HI10.out;have aT:w.heap.size+1<f.heap.size:=Za hI10.nd;obtain⟨W11,j⟩:∃x,x=f.alloc (.cells #[.string ⟨z.toArray⟩,.string ⟨v1.toArray⟩,.int .i64 0] 179):=⟨_,rfl⟩;have m:Below f.heap.size f W11:=by rw[j];exact Zl f _
        have hU:W11.heap[f.heap.size]?=some (enO ⟨z,v1,0⟩):=by rw[j];exact Vg f _
        have d:=hI10.other (Zb.of_below m (T:=λ_=>False)) (λk u=>u.elim) ((m.block _ (Za hI10.a)).trans hI10.a);obtain⟨v2,aa,hr,p,s,_⟩:=d.own.app (IsE.one hU) (by have:=Za hU;have:=Za d.a;omega) (by have:=d.len;have:=HML2.out;simp only[List.length_singleton];omega);have hI13:=d.grown s p;have O:∀k,(Value.slice (some ⟨gl,ol,none⟩) i Z).ownBlock=some k->w.heap.size+3<=k:=λk u=>(d.own.lt u).1;have t:aa.heap[w.heap.size+1]?=some (ndO true (.slice (some ⟨gl,ol,none⟩) i Z)):=(s.block _ (Za d.nd) λe=>by have:=O _ e.symm;omega).trans d.nd;obtain⟨y0,y1⟩:=Zd t;have fN:=Zf t 1;obtain⟨a2,aU,P,_,_⟩:=p.isE.form;rw[List.length_append,d.len,List.length_singleton] at P;subst P;rw[j] at hr;have HI13:=Hd hI13;clear hI10 m hU d j p s hI13 O t;have hMM:=HML2.out;go_wp2_with (at_builtin;refine wpList_append_run rfl (.tmp 120) (.tmp 122) 172 172 rfl _ _ _ rfl rfl hr ?_;clear hr);go_roundw
        case rel=>exact⟨i+1,aR,_,_,az,by go_num,HI13.out,a5.out,HLE2.out⟩
        case measure=>simp[intOf];omega
       | false =>
        have HNO:=Hd (HGN.out hf);rw[hf] at Q;clear hf;obtain⟨r0,r1⟩:=Zd HI10.out.r;have f0:=Zf HI10.out.r 0;have f1:=Zf HI10.out.r 1;have HLD:=Hd HI10.out.store.1;have HRT:=Hd (HI10.out.no HNO.out);go_upto_region 20 with fail;go_region;generalize W9.drew=f at *;go_wp2_with fail;exact Vn (v:=.tuple #[ndV true (.slice (some ⟨gl,ol,none⟩) i Z),.bool false]) (Zy Tryz.results117 rfl HLD.out) rfl HRT.out
 | false =>
  have bb:R=2:=by
   rcases aw with h | h
   .have:=HLF.out;rw[h] at this;cases this
   .exact h
  have z1:((R.toNat:Int) != 1)=true:=by rw[bb];rfl
  have z2:((R.toNat:Int) != 2)=false:=by rw[bb];rfl
  clear aw bb;go_wp2_with fail;rw[<-HW4.out];clear m0 m1 bk bl bm ab ad hs3;go_loopw [41] (λy wr=>∃(i at_:Nat) (v:Value) (l:List En),i<=M/\y=.int .i64 (i:Int)/\RdI w wr false bs i at_ v l/\Yz false bs M 3 []=Yz false bs (M - i) at_ l/\at_<=bs.length) (λy _=>M - (intOf y).toNat)
  case atStart=>exact⟨0,3,_,_,Vl _,rfl,aP.out,rfl,by have:=HN.out;omega⟩
  case round =>
   clear aP;obtain⟨i,at_,v,l,hi,rfl,H,Y,aj⟩:=hrel;obtain⟨av,Z,hv,_,_⟩:=H.own.isE.form;rw[H.len] at hv;subst hv;by_cases az:i<M
   case neg =>
    obtain rfl:i=M:=by omega
    have hd:decide ((i:Int)<(i:Int))=false:=by simp
    rw[Nat.sub_self] at Y;have U:Zah bs=some ⟨false,l⟩:=by rw[G.out,Y];rfl
    obtain⟨m0,m1⟩:=Zd H.nd;obtain⟨r0,r1⟩:=Zd H.r;have f0:=Zf H.r 0
    have f1:=Zf H.r 1;have HLD:=Hd H.store.1;have HRT:=Hd (H.yes U);clear H Y U;go_wp2_with fail;exact Vn (v:=.tuple #[ndV false (.slice av i Z),.bool true]) (Zy Tryz.results117 rfl HLD.out) rfl HRT.out
   case pos =>
    have hd:decide ((i:Int)<(M:Int))=true:=Vd (by omega);obtain⟨W5,a3⟩:∃x,x=wr.alloc (.cells #[.string ⟨#[]⟩,.string ⟨#[]⟩,.int .i64 0] 179):=⟨_,rfl⟩;have ae:Below wr.heap.size wr W5:=by rw[a3];exact Zl wr _
    have ak:W5.heap[wr.heap.size]?=some (enO ⟨[],[],0⟩):=by rw[a3];exact Vg wr _
    have I:RdI w W5 false bs i at_ (.slice av i Z) l:=H.other (Zb.of_below ae (T:=λ_=>False)) (λk u=>u.elim) ((ae.block _ (Za H.a)).trans H.a);have HW5:=Hd a3;have hsz:=Za H.a;have A:Hid (∀k,(Value.slice av i Z).ownBlock=some k->w.heap.size+3<=k/\k<wr.heap.size):=Hd λk u=>H.own.lt u;have HGO:=Hd Y;have HLE:=Hd aj;obtain⟨m0,m1⟩:=Zd I.nd;rw[a3] at m0 m1;by_cases ag:i=0
    .have b6:decide ((i:Int) > 0)=false:=Vb (by omega)
     have b7:decide (0<(i:Int))=false:=Vb (by omega);have bu:decide (0<i)=false:=Vb (by omega);have bD:¬(0<i):=by omega
     obtain⟨z,aV⟩:∃z:List UInt8,z=[]:=⟨_,rfl⟩;obtain⟨vv,an⟩:∃vv:List UInt8,vv=[]:=⟨_,rfl⟩;obtain⟨c,aW⟩:∃c,c=at_:=⟨_,rfl⟩;have aI:Hid (readK false bs l.length at_=some (z,c)):=Hd (by rw[I.len,ag,aV,aW];rfl)
     have HE7:Hid (W5.heap[wr.heap.size]?=some (enO ⟨z,vv,0⟩)):=Hd (by rw[aV,an];exact ak);have HI7:Hid (RdI w W5 false bs i c (.slice av i Z) l):=Hd (by rw[aW];exact I);have ai:Hid (c<=bs.length):=Hd (by rw[aW];exact aj);have HVV:=Hd an;have HK1:=Hd aV;have HI0:=Hd ag;clear ag;obtain⟨W7,C⟩:∃x,x=W5:=⟨_,rfl⟩;rw[<-C] at HE7 HI7 HW5;have HW7:=Hd C;have hn7:=(Zd HI7.out.nd).1;rw[HW5.out] at hn7;clear H ae ak I Y aj a3 aV an aW C;go_upto_region 18 with fail;rw[<-HW5.out];clear hn7 m0 m1;have s2:IntKind.i64.wrap ((c:Int)+2)=(c:Int)+2:=by rw[Vf _ (by have:=ai.out;have:=HN.out;omega)]
     have bw:c<=n:=by have:=ai.out;have:=HN.out;omega
     by_cases h2:n<c+2
     .have N:Zah bs=none:=by
       rw[G.out,HGO.out];obtain⟨q,hq⟩:∃q,M - i=q+1:=⟨M - i - 1,by omega⟩;have D:Zbm false bs l.length at_=none:=by unfold Zbm;rw[aI.out];simp only[Option.bind_some,readV,Bool.false_eq_true,if_false];rw[if_pos (by have:=HN.out;omega)]
       rw[hq,Yz,D];rfl
      have HNO:=Hd N;have ha7:=HI7.out.a;have ao:W7.cell? ⟨w.heap.size+2,0,none⟩=some (.int .i64 (c:Int)):=by rw[Vc _ _ _ _ _ _ ha7];rfl
      have aG:decide ((c:Int)+2 > (n:Int))=true:=Vd (by omega);have aH:decide ((n:Int)<(c:Int)+2)=true:=Vd (by omega);have HI10:=Hd (HI7.out.other (Zb.refl (λ_=>False) W7).drew (λk u=>u.elim) ha7);obtain⟨n7,_⟩:=Zd HI7.out.nd;clear N ha7;go_wp2_with fail;clear n7;obtain⟨n0,n1⟩:=Zd HI10.out.nd;obtain⟨r0,r1⟩:=Zd HI10.out.r;have f0:=Zf HI10.out.r 0;have f1:=Zf HI10.out.r 1;have HLD:=Hd HI10.out.store.1;have HRT:=Hd (HI10.out.no HNO.out);go_upto_region 20 with fail;go_region;generalize W7.drew=f at *;go_wp2_with fail;exact Vn (v:=.tuple #[ndV false (.slice av i Z),.bool false]) (Zy Tryz.results117 rfl HLD.out) rfl HRT.out
     obtain⟨xa,ap⟩:∃xa,xa=bs.getD c 0:=⟨_,rfl⟩
     obtain⟨xb,aq⟩:∃xb,xb=bs.getD (c+1) 0:=⟨_,rfl⟩
     obtain⟨L,ar⟩:∃L:Int,L=(xa.toNat:Int)+(xb.toNat:Int)*256:=⟨_,rfl⟩
     have D:Zbm false bs l.length at_=some (⟨z,vv,L⟩,c+2):=by
      unfold Zbm
      rw[aI.out]
      simp only[Option.bind_some,readV,Bool.false_eq_true,if_false]
      rw[if_neg (by have:=HN.out;omega),ar,ap,aq,HVV.out]
     have V:Zdq false l ⟨z,vv,L⟩=true->Yz false bs M 3 []=Yz false bs (M - (i+1)) (c+2) (l++[⟨z,vv,L⟩]):=λhf=>by
      rw[HGO.out]
      obtain⟨q,hq⟩:∃q,M - i=q+1:=⟨M - i - 1,by omega⟩
      rw[hq,Yz,D,show M - (i+1)=q by omega]
      simp only
      rw[if_pos hf]
     have W:Zdq false l ⟨z,vv,L⟩=false->Zah bs=none:=λhf=>by
      rw[G.out,HGO.out]
      obtain⟨q,hq⟩:∃q,M - i=q+1:=⟨M - i - 1,by omega⟩
      rw[hq,Yz,D]
      simp only
      rw[if_neg (by simp[hf])]
      rfl
     have am:=Hd V
     have HGN:=Hd W
     have HLE2:Hid (c+2<=bs.length):=Hd (by have:=HN.out;omega)
     have ha7:=HI7.out.a
     have ao:W7.drew.cell? ⟨w.heap.size+2,0,none⟩=some (.int .i64 (c:Int)):=by
      show W7.cell? _=_
      rw[Vc _ _ _ _ _ _ ha7];rfl
     have aJ:W7.cell? ⟨w.heap.size+2,0,none⟩=some (.int .i64 (c:Int)):=ao
     have bc:W7.drew.cell? ⟨b,o+c,none⟩=some (.int .u8 (xa.toNat:Int)):=by rw[ap];exact Zi HI7.out.below _ _ (a4.out c (by omega))
     have bd:W7.drew.cell? ⟨b,o+(c+1),none⟩=some (.int .u8 (xb.toNat:Int)):=by rw[aq];exact Zi HI7.out.below _ _ (a4.out (c+1) (by omega))
     have aG:decide ((c:Int)+2 > (n:Int))=false:=Vb (by omega)
     have aH:decide ((n:Int)<(c:Int)+2)=false:=Vb (by omega)
     have s1:IntKind.i64.wrap ((c:Int)+1)=((c+1:Nat):Int):=by rw[Vf _ (by omega)];omega
     have bx:=xa.toNat_lt
     have bz:=xb.toNat_lt
     have sa:IntKind.i64.wrap (xa.toNat:Int)=(xa.toNat:Int):=Vf _ (by omega)
     have sb:IntKind.i64.wrap (xb.toNat:Int)=(xb.toNat:Int):=Vf _ (by omega)
     have sc:IntKind.i64.wrap ((xb.toNat:Int)*256)=(xb.toNat:Int)*256:=Vf _ (by omega)
     have sd:IntKind.i64.wrap ((xa.toNat:Int)+(xb.toNat:Int)*256)=L:=by rw[Vf _ (by omega),ar]
     obtain⟨bE,bF,bG,bH⟩:(c:Int)<(n:Int)/\((c+1:Nat):Int)<(n:Int)/\(0:Int)<=(c:Int)/\(0:Int)<=((c+1:Nat):Int):=by omega
     obtain⟨j0,j1,j2⟩:=Yy (w:=W7.drew) HE7.out
     have be:=Zf (w:=W7.drew) HE7.out 2
     obtain⟨n7,_⟩:=Zd HI7.out.nd
     obtain⟨W9,E⟩:∃x,x=((W7.setCell ⟨wr.heap.size,2,none⟩ (.int .i64 L)).setCell ⟨w.heap.size+2,0,none⟩ (.int .i64 ((c:Int)+2))).drew:=⟨_,rfl⟩
     have t8:=Zc W7 wr.heap.size 2 (.int .i64 L)
     have aK:=(t8.block _ (Za ha7) (by omega)).trans ha7
     have au:W9.heap[w.heap.size+2]?=some (intO (c+2)):=by
      rw[E]
      exact Ze aK (i:=0) (.int .i64 ((c:Int)+2))
     have t9:Zb (λk=>k=wr.heap.size\/k=w.heap.size+2) W7 W9:=by
      rw[E]
      exact((t8.mono λ_ _ e=>.inl e).trans ((Zc _ (w.heap.size+2) 0 _).mono λ_ _ e=>.inr e)).drew
     have hE8:=Ze HE7.out (i:=2) (.int .i64 L)
     have af:W9.drew.heap[wr.heap.size]?=some (enO ⟨z,vv,L⟩):=by
      show W9.heap[wr.heap.size]?=_
      rw[E]
      exact((Zc _ (w.heap.size+2) 0 (.int .i64 ((c:Int)+2))).block _ (Za hE8) (by omega)).trans hE8
     have HI10:=Hd ((HI7.out.other t9 (λk u=>⟨by omega,λe=>by have:=A.out k e;omega⟩) au).other (Zb.refl (λ_=>False) W9).drew (λk u=>u.elim) au)
     have HE9:=Hd af
     have HW9:=Hd E
     have gA:=Zf ha7 0
     clear t8 aK au t9 hE8 af E
     clear ar ap aq D V W ha7
     go_upto_region 13 with fail
     go_region
     go_wp2_with fail
     rw[<-HW9.out]
     clear ao aJ bc bd j0 j1 j2 be n7 gA
     obtain⟨n0,n1⟩:=Zd HI10.out.nd
     obtain⟨e0,bq,br⟩:=Yy HE9.out
     have h0:¬0<i:=by have:=HI0.out;omega
     have a5:=Hd (am.out (by
      have aS:l=[]:=Vh (by rw[HI10.out.len];omega)
      rw[aS];rfl))
     have y1:decide ((i:Int) > 0)=false:=Vb (by omega)
     have y2:decide (0<(i:Int))=false:=Vb (by omega)
     have y3:decide (0<i)=false:=Vb h0
     go_upto_region 20 with fail
     go_region
     generalize W9.drew=f at *
     have hI10:=HI10.out
     have aT:w.heap.size+1<f.heap.size:=Za hI10.nd
     obtain⟨W11,j⟩:∃x,x=f.alloc (.cells #[.string ⟨z.toArray⟩,.string ⟨vv.toArray⟩,.int .i64 L] 179):=⟨_,rfl⟩
     have m:Below f.heap.size f W11:=by rw[j];exact Zl f _
     have hU:W11.heap[f.heap.size]?=some (enO ⟨z,vv,L⟩):=by rw[j];exact Vg f _
     have d:=hI10.other (Zb.of_below m (T:=λ_=>False)) (λk u=>u.elim) ((m.block _ (Za hI10.a)).trans hI10.a)
     obtain⟨v2,aa,hr,p,s,_⟩:=d.own.app (IsE.one hU) (by have:=Za hU;have:=Za d.a;omega) (by have:=d.len;have:=HML2.out;simp only[List.length_singleton];omega)
     have hI13:=d.grown s p
     have O:∀k,(Value.slice av i Z).ownBlock=some k->w.heap.size+3<=k:=λk u=>(d.own.lt u).1
     have t:aa.heap[w.heap.size+1]?=some (ndO false (.slice av i Z)):=(s.block _ (Za d.nd) λe=>by have:=O _ e.symm;omega).trans d.nd
     obtain⟨y0,y1⟩:=Zd t
     have fN:=Zf t 1
     obtain⟨a2,aU,P,_,_⟩:=p.isE.form
     rw[List.length_append,d.len,List.length_singleton] at P
     subst P
     rw[j] at hr
     have HI13:=Hd hI13
     clear hI10 m hU d j p s hI13 O t
     have hMM:=HML2.out
     go_wp2_with (at_builtin;refine wpList_append_run rfl (.tmp 120) (.tmp 122) 172 172 rfl _ _ _ rfl rfl hr ?_;clear hr)
     go_roundw
     case rel=>exact⟨i+1,c+2,_,_,az,by go_num,HI13.out,a5.out,HLE2.out⟩
     case measure=>simp[intOf];omega
    .have b6:decide ((i:Int) > 0)=true:=Vd (by omega)
     have b7:decide (0<(i:Int))=true:=Vd (by omega)
     have bu:decide (0<i)=true:=Vd (by omega)
     have h0:0<i:=by omega
     have htx:=text_any W5 (some ⟨b,o,none⟩) n cap bs (HI.out.below I.below) HN.out (by omega) (w.heap.size+2) at_ I.a (by have:=HN.out;omega) 80 (by omega)
     rw[show ((80:Nat):Int)=80 from rfl] at htx
     have al:=Hd htx
     have HI5:=Hd I
     have HE5:=Hd ak
     have bA:Hid (readK false bs l.length at_=Zbu bs at_ 80):=Hd (by unfold readK;rw[if_pos (by simp[I.len,h0])])
     clear H ae ak I htx Y aj ag
     go_wp2_with fail
     rw[<-HW5.out]
     clear m0 m1
     refine al.out.mono ?_
     intro e W6 F
     obtain⟨y,U⟩:∃y,y=Zbu bs at_ 80:=⟨_,rfl⟩
     rw[<-U] at F
     cases y with
     | none =>
      obtain⟨rfl,t6,a6⟩:=F
      have hE6:=(t6.block _ (Za HE5.out) (by omega)).trans HE5.out
      obtain⟨j0,j1,j2⟩:=Yy hE6
      have g0:=Zf hE6 0
      have a1:=HI5.out.other t6 (λk u=>⟨by omega,λe=>by have:=(A.out k e).1;omega⟩) a6
      have N:Zah bs=none:=by
       rw[G.out,HGO.out]
       obtain⟨q,hq⟩:∃q,M - i=q+1:=⟨M - i - 1,by omega⟩
       have D:Zbm false bs l.length at_=none:=by unfold Zbm;rw[bA.out,<-U];rfl
       rw[hq,Yz,D]
       rfl
      obtain⟨W7,C⟩:∃x,x=W6.setCell ⟨wr.heap.size,0,none⟩ (.string ⟨#[]⟩):=⟨_,rfl⟩
      have t7:Zb (λx=>x=wr.heap.size) W6 W7:=by rw[C];exact Zc W6 wr.heap.size 0 (.string ⟨#[]⟩)
      have a7:=(t7.block _ (Za a6) (by omega)).trans a6
      have hI7:=a1.other t7 (λk u=>⟨by omega,λe=>by have:=(A.out k e).2;omega⟩) a7
      have hI8:=hI7.other (Zb.refl (λ_=>False) W7).drew (λk u=>u.elim) a7
      have HI8:=Hd hI8
      have HNO:=Hd N
      have HW7:=Hd C
      clear al a1 hI7 hI8 N a6 a7 t6 t7 U C
      go_wp2_with fail
      rw[<-HW7.out]
      clear j0 j1 j2 g0
      obtain⟨n0,n1⟩:=Zd HI8.out.nd
      obtain⟨r0,r1⟩:=Zd HI8.out.r
      have f0:=Zf HI8.out.r 0
      have f1:=Zf HI8.out.r 1
      have HLD:=Hd HI8.out.store.1
      have HRT:=Hd (HI8.out.no HNO.out)
      go_upto_region 20 with fail
      go_region
      generalize W7.drew=W8 at *
      go_wp2_with fail
      exact Vn (v:=.tuple #[ndV false (.slice av i Z),.bool false]) (Zy Tryz.results117 rfl HLD.out) rfl HRT.out
     | some x =>
      obtain⟨z,c⟩:=x
      obtain⟨rfl,t6,a6⟩:=F
      obtain⟨aD,aQ⟩:=textB_le U.symm
      have hE6:=(t6.block _ (Za HE5.out) (by omega)).trans HE5.out
      obtain⟨j0,j1,j2⟩:=Yy hE6
      have g0:=Zf hE6 0
      have a1:=HI5.out.other t6 (λk u=>⟨by omega,λe=>by have:=(A.out k e).1;omega⟩) a6
      obtain⟨vv,an⟩:∃vv:List UInt8,vv=[]:=⟨_,rfl⟩
      obtain⟨W7,C⟩:∃x,x=W6.setCell ⟨wr.heap.size,0,none⟩ (.string ⟨z.toArray⟩):=⟨_,rfl⟩
      have t7:Zb (λx=>x=wr.heap.size) W6 W7:=by rw[C];exact Zc W6 wr.heap.size 0 (.string ⟨z.toArray⟩)
      have aE:W7.heap[wr.heap.size]?=some (enO ⟨z,vv,0⟩):=by rw[C,an];exact Ze hE6 (i:=0) (.string ⟨z.toArray⟩)
      have a7:=(t7.block _ (Za a6) (by omega)).trans a6
      have HI7:=Hd (a1.other t7 (λk u=>⟨by omega,λe=>by have:=(A.out k e).2;omega⟩) a7)
      have HE7:=Hd aE
      have aI:Hid (readK false bs l.length at_=some (z,c)):=Hd (by rw[bA.out,U])
      have ai:Hid (c<=bs.length):=Hd aD
      have HVV:=Hd an
      have HW7:=Hd C
      obtain⟨n0,_⟩:=Zd HI7.out.nd
      rw[C] at n0
      clear al a1 a6 a7 t6 t7 U C hE6 aE aD an
      go_upto_region 18 with fail
      rw[<-HW7.out]
      clear j0 j1 j2 g0 n0
      have s2:IntKind.i64.wrap ((c:Int)+2)=(c:Int)+2:=by rw[Vf _ (by have:=ai.out;have:=HN.out;omega)]
      have bw:c<=n:=by have:=ai.out;have:=HN.out;omega
      by_cases h2:n<c+2
      .have N:Zah bs=none:=by
        rw[G.out,HGO.out]
        obtain⟨q,hq⟩:∃q,M - i=q+1:=⟨M - i - 1,by omega⟩
        have D:Zbm false bs l.length at_=none:=by unfold Zbm;rw[aI.out];simp only[Option.bind_some,readV,Bool.false_eq_true,if_false];rw[if_pos (by have:=HN.out;omega)]
        rw[hq,Yz,D]
        rfl
       have HNO:=Hd N
       have ha7:=HI7.out.a
       have ao:W7.cell? ⟨w.heap.size+2,0,none⟩=some (.int .i64 (c:Int)):=by rw[Vc _ _ _ _ _ _ ha7];rfl
       have aG:decide ((c:Int)+2 > (n:Int))=true:=Vd (by omega)
       have aH:decide ((n:Int)<(c:Int)+2)=true:=Vd (by omega)
       have HI10:=Hd (HI7.out.other (Zb.refl (λ_=>False) W7).drew (λk u=>u.elim) ha7)
       obtain⟨n7,_⟩:=Zd HI7.out.nd
       clear N ha7
       go_wp2_with fail
       clear n7
       obtain⟨n0,n1⟩:=Zd HI10.out.nd
       obtain⟨r0,r1⟩:=Zd HI10.out.r
       have f0:=Zf HI10.out.r 0
       have f1:=Zf HI10.out.r 1
       have HLD:=Hd HI10.out.store.1
       have HRT:=Hd (HI10.out.no HNO.out)
       go_upto_region 20 with fail
       go_region
       generalize W7.drew=f at *
       go_wp2_with fail
       exact Vn (v:=.tuple #[ndV false (.slice av i Z),.bool false]) (Zy Tryz.results117 rfl HLD.out) rfl HRT.out
      obtain⟨xa,ap⟩:∃xa,xa=bs.getD c 0:=⟨_,rfl⟩
      obtain⟨xb,aq⟩:∃xb,xb=bs.getD (c+1) 0:=⟨_,rfl⟩
      obtain⟨L,ar⟩:∃L:Int,L=(xa.toNat:Int)+(xb.toNat:Int)*256:=⟨_,rfl⟩
      have D:Zbm false bs l.length at_=some (⟨z,vv,L⟩,c+2):=by
       unfold Zbm
       rw[aI.out]
       simp only[Option.bind_some,readV,Bool.false_eq_true,if_false]
       rw[if_neg (by have:=HN.out;omega),ar,ap,aq,HVV.out]
      have V:Zdq false l ⟨z,vv,L⟩=true->Yz false bs M 3 []=Yz false bs (M - (i+1)) (c+2) (l++[⟨z,vv,L⟩]):=λhf=>by
       rw[HGO.out]
       obtain⟨q,hq⟩:∃q,M - i=q+1:=⟨M - i - 1,by omega⟩
       rw[hq,Yz,D,show M - (i+1)=q by omega]
       simp only
       rw[if_pos hf]
      have W:Zdq false l ⟨z,vv,L⟩=false->Zah bs=none:=λhf=>by
       rw[G.out,HGO.out]
       obtain⟨q,hq⟩:∃q,M - i=q+1:=⟨M - i - 1,by omega⟩
       rw[hq,Yz,D]
       simp only
       rw[if_neg (by simp[hf])]
       rfl
      have am:=Hd V
      have HGN:=Hd W
      have HLE2:Hid (c+2<=bs.length):=Hd (by have:=HN.out;omega)
      have ha7:=HI7.out.a
      have ao:W7.drew.cell? ⟨w.heap.size+2,0,none⟩=some (.int .i64 (c:Int)):=by
       show W7.cell? _=_
       rw[Vc _ _ _ _ _ _ ha7];rfl
      have aJ:W7.cell? ⟨w.heap.size+2,0,none⟩=some (.int .i64 (c:Int)):=ao
      have bc:W7.drew.cell? ⟨b,o+c,none⟩=some (.int .u8 (xa.toNat:Int)):=by rw[ap];exact Zi HI7.out.below _ _ (a4.out c (by omega))
      have bd:W7.drew.cell? ⟨b,o+(c+1),none⟩=some (.int .u8 (xb.toNat:Int)):=by rw[aq];exact Zi HI7.out.below _ _ (a4.out (c+1) (by omega))
      have aG:decide ((c:Int)+2 > (n:Int))=false:=Vb (by omega)
      have aH:decide ((n:Int)<(c:Int)+2)=false:=Vb (by omega)
      have s1:IntKind.i64.wrap ((c:Int)+1)=((c+1:Nat):Int):=by rw[Vf _ (by omega)];omega
      have bx:=xa.toNat_lt
      have bz:=xb.toNat_lt
      have sa:IntKind.i64.wrap (xa.toNat:Int)=(xa.toNat:Int):=Vf _ (by omega)
      have sb:IntKind.i64.wrap (xb.toNat:Int)=(xb.toNat:Int):=Vf _ (by omega)
      have sc:IntKind.i64.wrap ((xb.toNat:Int)*256)=(xb.toNat:Int)*256:=Vf _ (by omega)
      have sd:IntKind.i64.wrap ((xa.toNat:Int)+(xb.toNat:Int)*256)=L:=by rw[Vf _ (by omega),ar]
      obtain⟨bE,bF,bG,bH⟩:(c:Int)<(n:Int)/\((c+1:Nat):Int)<(n:Int)/\(0:Int)<=(c:Int)/\(0:Int)<=((c+1:Nat):Int):=by omega
      obtain⟨j0,j1,j2⟩:=Yy (w:=W7.drew) HE7.out
      have be:=Zf (w:=W7.drew) HE7.out 2
      obtain⟨n7,_⟩:=Zd HI7.out.nd
      obtain⟨W9,E⟩:∃x,x=((W7.setCell ⟨wr.heap.size,2,none⟩ (.int .i64 L)).setCell ⟨w.heap.size+2,0,none⟩ (.int .i64 ((c:Int)+2))).drew:=⟨_,rfl⟩
      have t8:=Zc W7 wr.heap.size 2 (.int .i64 L)
      have aK:=(t8.block _ (Za ha7) (by omega)).trans ha7
      have au:W9.heap[w.heap.size+2]?=some (intO (c+2)):=by
       rw[E]
       exact Ze aK (i:=0) (.int .i64 ((c:Int)+2))
      have t9:Zb (λk=>k=wr.heap.size\/k=w.heap.size+2) W7 W9:=by
       rw[E]
       exact((t8.mono λ_ _ e=>.inl e).trans ((Zc _ (w.heap.size+2) 0 _).mono λ_ _ e=>.inr e)).drew
      have hE8:=Ze HE7.out (i:=2) (.int .i64 L)
      have af:W9.drew.heap[wr.heap.size]?=some (enO ⟨z,vv,L⟩):=by
       show W9.heap[wr.heap.size]?=_
       rw[E]
       exact((Zc _ (w.heap.size+2) 0 (.int .i64 ((c:Int)+2))).block _ (Za hE8) (by omega)).trans hE8
      have HI10:=Hd ((HI7.out.other t9 (λk u=>⟨by omega,λe=>by have:=A.out k e;omega⟩) au).other (Zb.refl (λ_=>False) W9).drew (λk u=>u.elim) au)
      have HE9:=Hd af
      have HW9:=Hd E
      have gA:=Zf ha7 0
      clear t8 aK au t9 hE8 af E
      clear ar ap aq D V W ha7
      go_upto_region 13 with fail
      go_region
      go_wp2_with fail
      rw[<-HW9.out]
      clear ao aJ bc bd j0 j1 j2 be n7 gA
      obtain⟨n0,n1⟩:=Zd HI10.out.nd
      obtain⟨e0,bq,br⟩:=Yy HE9.out
      have y1:decide ((i:Int) > 0)=true:=Vd (by omega)
      have y2:decide (0<(i:Int))=true:=Vd (by omega)
      have y3:decide (0<i)=true:=Vd h0
      obtain⟨i',aA⟩:∃i',i=i'+1:=⟨i - 1,by omega⟩
      have X:i'<l.length:=by rw[HI10.out.len];omega
      have J:l.getLast?=some l[i']:=by
       rw[List.getLast?_eq_getElem?,HI10.out.len,show i - 1=i' by omega,List.getElem?_eq_getElem X]
      by_cases h1:1<i
      case neg =>
       have a5:=Hd (am.out (by unfold Zdq;rw[J,HI10.out.len];simp[h1]))
       have y4:decide ((i:Int) > 1)=false:=Vb (by omega)
       have y5:decide (1<(i:Int))=false:=Vb (by omega)
       have y6:decide (1<i)=false:=Vb h1
       clear J X aA
       go_upto_region 20 with fail
       go_region
       generalize W9.drew=f at *
       have hI10:=HI10.out
       have aT:w.heap.size+1<f.heap.size:=Za hI10.nd
       obtain⟨W11,j⟩:∃x,x=f.alloc (.cells #[.string ⟨z.toArray⟩,.string ⟨vv.toArray⟩,.int .i64 L] 179):=⟨_,rfl⟩
       have m:Below f.heap.size f W11:=by rw[j];exact Zl f _
       have hU:W11.heap[f.heap.size]?=some (enO ⟨z,vv,L⟩):=by rw[j];exact Vg f _
       have d:=hI10.other (Zb.of_below m (T:=λ_=>False)) (λk u=>u.elim) ((m.block _ (Za hI10.a)).trans hI10.a)
       obtain⟨v2,aa,hr,p,s,_⟩:=d.own.app (IsE.one hU) (by have:=Za hU;have:=Za d.a;omega) (by have:=d.len;have:=HML2.out;simp only[List.length_singleton];omega)
       have hI13:=d.grown s p
       have O:∀k,(Value.slice av i Z).ownBlock=some k->w.heap.size+3<=k:=λk u=>(d.own.lt u).1
       have t:aa.heap[w.heap.size+1]?=some (ndO false (.slice av i Z)):=(s.block _ (Za d.nd) λe=>by have:=O _ e.symm;omega).trans d.nd
       obtain⟨y0,y1⟩:=Zd t
       have fN:=Zf t 1
       obtain⟨a2,aU,P,_,_⟩:=p.isE.form
       rw[List.length_append,d.len,List.length_singleton] at P
       subst P
       rw[j] at hr
       have HI13:=Hd hI13
       clear hI10 m hU d j p s hI13 O t
       have hMM:=HML2.out
       go_wp2_with (at_builtin;refine wpList_append_run rfl (.tmp 120) (.tmp 122) 172 172 rfl _ _ _ rfl rfl hr ?_;clear hr)
       go_roundw
       case rel=>exact⟨i+1,c+2,_,_,az,by go_num,HI13.out,a5.out,HLE2.out⟩
       case measure=>simp[intOf];omega
      case pos =>
       obtain⟨gl,ol,b8,z0,b9,ba⟩:=HI10.out.own.isE.at i' X
       subst b8
       have ah:Zdq false l ⟨z,vv,L⟩=decide (l[i'].key<z):=by unfold Zdq;rw[J,HI10.out.len];simp[h1]
       have Q:=leq_fits z l[i'].key
       rw[<-ah] at Q
       have y4:decide ((i:Int) > 1)=true:=Vd (by omega)
       have y5:decide (1<(i:Int))=true:=Vd (by omega)
       have y6:decide (1<i)=true:=Vd h1
       have hMM:=HML2.out
       have bt:IntKind.i64.wrap ((i:Int) - 1)=(i':Int):=by rw[Vf _ (by omega)];omega
       obtain⟨bO,bP⟩:(i':Int)<(i:Int)/\(0:Int)<=(i':Int):=by omega
       have HI':=Hd aA
       obtain⟨lk,b1⟩:∃lk,lk=l[i'].key:=⟨_,rfl⟩
       rw[<-b1] at z0 Q
       clear b9 ba ah J b1 hMM
       clear X aA
       cases hf:Zdq false l ⟨z,vv,L⟩ with
       | true =>
        have a5:=Hd (am.out hf)
        rw[hf] at Q
        clear hf
        go_upto_region 20 with fail
        go_region
        generalize W9.drew=f at *
        have hI10:=HI10.out
        have aT:w.heap.size+1<f.heap.size:=Za hI10.nd
        obtain⟨W11,j⟩:∃x,x=f.alloc (.cells #[.string ⟨z.toArray⟩,.string ⟨vv.toArray⟩,.int .i64 L] 179):=⟨_,rfl⟩
        have m:Below f.heap.size f W11:=by rw[j];exact Zl f _
        have hU:W11.heap[f.heap.size]?=some (enO ⟨z,vv,L⟩):=by rw[j];exact Vg f _
        have d:=hI10.other (Zb.of_below m (T:=λ_=>False)) (λk u=>u.elim) ((m.block _ (Za hI10.a)).trans hI10.a)
        obtain⟨v2,aa,hr,p,s,_⟩:=d.own.app (IsE.one hU) (by have:=Za hU;have:=Za d.a;omega) (by have:=d.len;have:=HML2.out;simp only[List.length_singleton];omega)
        have hI13:=d.grown s p
        have O:∀k,(Value.slice (some ⟨gl,ol,none⟩) i Z).ownBlock=some k->w.heap.size+3<=k:=λk u=>(d.own.lt u).1
        have t:aa.heap[w.heap.size+1]?=some (ndO false (.slice (some ⟨gl,ol,none⟩) i Z)):=(s.block _ (Za d.nd) λe=>by have:=O _ e.symm;omega).trans d.nd
        obtain⟨y0,y1⟩:=Zd t
        have fN:=Zf t 1
        obtain⟨a2,aU,P,_,_⟩:=p.isE.form
        rw[List.length_append,d.len,List.length_singleton] at P
        subst P
        rw[j] at hr
        have HI13:=Hd hI13
        clear hI10 m hU d j p s hI13 O t
        have hMM:=HML2.out
        go_wp2_with (at_builtin;refine wpList_append_run rfl (.tmp 120) (.tmp 122) 172 172 rfl _ _ _ rfl rfl hr ?_;clear hr)
        go_roundw
        case rel=>exact⟨i+1,c+2,_,_,az,by go_num,HI13.out,a5.out,HLE2.out⟩
        case measure=>simp[intOf];omega
       | false =>
        have HNO:=Hd (HGN.out hf)
        rw[hf] at Q
        clear hf
        obtain⟨r0,r1⟩:=Zd HI10.out.r
        have f0:=Zf HI10.out.r 0
        have f1:=Zf HI10.out.r 1
        have HLD:=Hd HI10.out.store.1
        have HRT:=Hd (HI10.out.no HNO.out)
        go_upto_region 20 with fail
        go_region
        generalize W9.drew=f at *
        go_wp2_with fail
        exact Vn (v:=.tuple #[ndV false (.slice (some ⟨gl,ol,none⟩) i Z),.bool false]) (Zy Tryz.results117 rfl HLD.out) rfl HRT.out
end
end Go.Proofs.YtfaobkmojlhbnaaGreatDoor
