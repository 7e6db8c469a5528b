/- Contracts of the functions that the statements of this seat reach, part 24: each says what the call answers and what it leaves of the memory. -/
import Derived.Test.YtfaobkmojlhbnaaGreatDoorZR23
import Derived.Test.YtfaobkmojlhbnaaGreatDoorZR17
import Derived.Test.YtfaobkmojlhbnaaGreatDoorZR14
import Derived.Laws.EntriesVeiled
import Derived.Test.YtfaobkmojlhbnaaGreatDoorZR1
set_option linter.unusedVariables false
set_option linter.unusedSimpArgs false
set_option maxRecDepth 100000
set_option maxHeartbeats 64000000
namespace Go.Proofs.YtfaobkmojlhbnaaGreatDoor
section
open Go.RowKit Go.Shelf Go.Lib
variable {sums:Option (List UInt8)}{a M:List KV}
attribute [local go_sem] Oper.semAt_some
abbrev stpO (sb:Nat):Obj:=.cells #[stp sb] 26 (0,0)
abbrev allF (bs bp:Nat):Value:=.func (.func 56) #[] #[Qf bs,Qf bp]
def unF (x:KV):KV:=(x.1.tail,x.2)
structure KZ (n:Nat) (J:Jn) (seq:Int) (B:List (List UInt8)) (F:Ft) (p:Nat) (f:Pf) (R:Rp) (tb sb:Nat) (sq wt:Int) (bs bp:Nat) (sp:Int) (W:World):Prop where
 tr:Tr n J seq B W F p f R tb
 head:W.heap[sb]?=some (stO F f.q tb sq wt 0)
 hbs:W.heap[bs]?=some (stpO sb)
 hbp:W.heap[bp]?=some (izO sp)
structure LowZ (F:Ft) (p:Nat) (f:Pf) (tb sb bs bp N:Nat):Prop where
 pj:∀k,PJ F p f k->k<N
 nib:0<N
 htb:tb<N
 hsb:sb<N
 hbs:bs<N
 hbp:bp<N
 ab:¬PJ F p f sb
 a1:¬PJ F p f bs
 a2:¬PJ F p f bp
section
variable {n : Nat} {J : Jn} {seq : Int} {B : List (List UInt8)} {F : Ft} {p : Nat} {f : Pf} {R : Rp} {tb sb : Nat} {sq wt : Int} {bs bp : Nat} {sp : Int} {W W' : World} {N : Nat}
theorem KZ.far {T:Nat->Prop} (h:KZ n J seq B F p f R tb sb sq wt bs bp sp W) (hN:LowZ F p f tb sb bs bp N) (ht:Zb T W W') (b:∀k,k<N->¬T k):KZ n J seq B F p f R tb sb sq wt bs bp sp W' :=
 ⟨h.tr.turned ht (λk c=>b k (c.elim (hN.pj k) λe=>by rw[e];exact hN.nib)) (b _ hN.htb),Yk ht (b _ hN.hsb) h.head,Yk ht (b _ hN.hbs) h.hbs,Yk ht (b _ hN.hbp) h.hbp⟩
theorem KZ.read (h:KZ n J seq B F p f R tb sb sq wt bs bp sp W) (hN:LowZ F p f tb sb bs bp N) (ht:Zb (PJ F p f) W W') (b:Tr n J seq B W' F p f R tb):KZ n J seq B F p f R tb sb sq wt bs bp sp W' :=
 ⟨b,Yk ht hN.ab h.head,Yk ht hN.a1 h.hbs,Yk ht hN.a2 h.hbp⟩
theorem LowZ.mono {N':Nat} (h:LowZ F p f tb sb bs bp N) (hN:N<=N'):LowZ F p f tb sb bs bp N':=⟨λk b=>Vm (h.pj k b) hN,Vm h.nib hN,Vm h.htb hN,Vm h.hsb hN,Vm h.hbs hN,Vm h.hbp hN,h.ab,h.a1,h.a2⟩
theorem KZ.ans {m:Nat} (d:Tre R a) (hm:R.pages.length<=255) (hg:R.good) (hE:Qe a M sums) (hN:LowZ F p f tb sb bs bp N):Ans (λW=>KZ n J seq B F p f R tb sb sq wt bs bp sp W) (PJ F p f) tb sb (ctM M) sums (λ_=>False):=by
 refine⟨λw b h g=>?_,λw i h j=>h.far hN (Zb.of_below (T:=λ_=>False) j) λk _ e=>e,λw h=>by rw[Vc _ _ _ _ _ _ h.head];rfl,hE.enc.few,λy h=>h.elim⟩;have hrb:=h.tr.lp.root_le
 have l:=d.get hg (TreH.low39 hg hm) g;refine(tget_any h.tr b (by omega) (by omega)).mono ?_;rw[l];rintro e i ⟨rfl,o,c⟩
 refine⟨h.read hN c o,c,_,_,_,rfl,.inl ⟨rfl,?_,?_⟩⟩<;>rw[hE.enc.get]
structure KZp (R:Rp) (a M:List KV) (sums:Option (List UInt8)):Prop where
 tre:Tre R a
 m255:R.pages.length<=255
 enc:Qe a M sums
theorem kall_seq (hp:KZp R a M sums) (m:Nat) (hm:1<=m) (t:Nat) (ht:t<=255):
  SeqX Fence.wide m Tryz.prog 56 #[Qf bs,Qf bp] kvA (PJ F p f) (KZ n J seq B F p f R tb sb sq wt bs bp (t:Int)) (λW=>W.heap[bs]?=some (stpO sb)) ((inS (UInt8.ofNat t) M).map unF) (λW=>KZ n J seq B F p f R tb sb sq wt bs bp (t:Int) W/\LowZ F p f tb sb bs bp W.heap.size):=λO l JJ JX W hG ar au av aw hJ ax hY h0=>by
 obtain⟨ae,I⟩:=hG;have hgood:=ae.tr.lp.good
 obtain⟨s,hs⟩:∃s,s=UInt8.ofNat t:=⟨_,rfl⟩;rw[<-hs];obtain⟨j,a3⟩:∃j,j=inS s M:=⟨_,rfl⟩;have aa:R.rangeN [s,0] [s,1]=j.map headF:=by rw[hp.tre.range hgood (TreH.low39 hgood hp.m255) [s,0] [s,1],a3];exact hp.enc.heads s
 rw[<-hs,<-a3] at hY;rw[<-a3];have ay:∀(m':Nat) pre x W1,JJ pre W1->pre++[x] <+: j.map unF->W.heap.size<=W1.heap.size->YieldAt Fence.wide m' Tryz.prog l (kvA x) W1 λe W'=>TO O (λk=>k<W.heap.size) W1 W'/\((e=.returned (.bool true)/\JJ (pre++[x]) W')\/(e=.returned (.bool false)/\JX (pre++[x]) W')):=λm' pre x W1 a b c=>by obtain⟨fn,tmps,assign,body,hy,hR⟩:=hY pre x W1 a b c;exact⟨fn,tmps,assign,body,hy,Zgd hR⟩
 have a4:∀y∈j,∃k,y.1=s::k/\k.length<=64/\Zv M (s::k)=(y.2,true)/\y.2.length<=4096:=λy hy=>by
  rw[a3] at hy;unfold inS at hy;obtain⟨af,az⟩:=List.mem_filter.1 hy;obtain⟨s',k,e,hk⟩:=hp.enc.key y af;rw[e] at az;have b0:s'=s:=by simpa using az
  subst b0;refine⟨k,e,hk,?_,hp.enc.val y af⟩;rw[<-e];exact Zcs hp.enc.rise af
 have aA:Hid (∀W' V,V.length<=64->KZ n J seq B F p f R tb sb sq wt bs bp (t:Int) W'->Calls Tryz.prog 45 #[stp sb,.int .i64 (t:Int),.string ⟨V.toArray⟩] W' λe w'=>e=.returned (txtR (Zv M (s::V)).1 (Zv M (s::V)).2 0)/\KZ n J seq B F p f R tb sb sq wt bs bp (t:Int) w'/\Zb (PJ F p f) W' w'):=Hd λW' V hk hz =>
  (kget_any (KZ.ans (sq:=sq) (wt:=wt) (sp:=(t:Int)) (J:=J) (seq:=seq) (B:=B) (n:=n) (m:=0) hp.tre hp.m255 hgood hp.enc I) W' hz t V ht hk).mono λe w' hx=>by
   obtain⟨z,H,v,x,y,rfl,Q⟩:=hx;rcases Q with ⟨rfl,rfl,rfl⟩ | ⟨hf,_⟩
   .rw[optV_get,<-hs];exact⟨rfl,z,H⟩
   .exact hf.elim
 obtain⟨W1,X⟩:∃x,x=W.alloc (.cells #[.func (.yield l) #[] #[]] 123):=⟨_,rfl⟩;have ag:Below W.heap.size W W1:=by rw[X];exact Zl W _
 have aB:W1.heap.size=W.heap.size+1:=by rw[X];simp
 have aC:W1.heap[W.heap.size]?=some (yldO l):=by rw[X];exact Vg W _
 have Y:=ae.far I (Zb.of_below (T:=λ_=>False) ag) λk _ e=>e;have ah:W1.cell? ⟨bs,0,none⟩=some (stp sb):=by rw[Vc _ _ _ _ _ _ Y.hbs];rfl
 have ai:W1.cell? ⟨bp,0,none⟩=some (.int .i64 (t:Int)):=by rw[Vc _ _ _ _ _ _ Y.hbp];rfl
 have aD:W1.cell? ⟨sb,5,none⟩=some (.int .i64 0):=by rw[Vc _ _ _ _ _ _ Y.head];rfl
 have aE:W1.cell? ⟨sb,2,none⟩=some (stp tb):=by rw[Vc _ _ _ _ _ _ Y.head];rfl
 have d:=And.intro ah (And.intro ai aE);have aF:Hid (∀W',Calls Tryz.prog 58 #[.int .i64 (t:Int),.int .i64 0,.string ⟨#[]⟩] W' λr w'=>r=.returned (.string ⟨([s,0]:List UInt8).toArray⟩)/\Below W'.heap.size W' w'):=Hd λW'=>by have:=Zct W' t 0 [] ht (by omega) (by simp);rw[<-hs] at this;exact this
 have aG:Hid (∀W',Calls Tryz.prog 58 #[.int .i64 (t:Int),.int .i64 1,.string ⟨#[]⟩] W' λr w'=>r=.returned (.string ⟨([s,1]:List UInt8).toArray⟩)/\Below W'.heap.size W' w'):=Hd λW'=>by have:=Zct W' t 1 [] ht (by omega) (by simp);rw[<-hs] at this;exact this
 have aH:=Hd Y;have HY1:=Hd aC;have HW1:=Hd X;have HB1:=Hd ag;have HLOW:=Hd I;have HLV:=Hd ar;have HJ:=Hd hJ;have HLX:=Hd au;have HJX:=Hd ax;have HST:=Hd av;have HOL:=Hd aw;have HYR:=Hd ay;have HH0:=Hd h0;have HRNG:=Hd aa;have HGS:=Hd a4;have d1:decide ((t:Int)<0)=false:=Vb (by omega);have d2:decide ((255:Int)<(t:Int))=false:=Vb (by omega);have d3:decide (255<t)=false:=Vb (by omega);have HT:Hid (t<=255):=Hd ht;have aI:Hid (W1.heap.size=W.heap.size+1):=Hd aB;rw[X] at ah ai aD;clear ae I ar au av aw hJ ax hY h0 hgood aa ay a4 Y aC ag aB X hp a3 ht aE hs;refine callsIn_wide.2 ?_;refine Un (n:=3).1 ?_;refine callsIn_of_wp_marks Tryz.func56 rfl trivial ?_ rfl;simp only[Tryz.ntmps56,List.size_toArray,List.length_cons,List.length_nil,Nat.reduceAdd,Nat.reduceSub,Array.replicate_succ,Array.replicate_zero,List.push_toArray,List.append_toArray,List.nil_append,List.cons_append];refine wpIn_wide.2 ?_;go_wp2_with fail;rw[<-HW1.out];clear ah ai aD;refine rgA (S:=(λW':World=>(W'.cell? ⟨bs,0,none⟩=some (stp sb))/\(W'.cell? ⟨bp,0,none⟩=some (.int .i64 (t:Int)))/\(W'.cell? ⟨sb,2,none⟩=some (stp tb)))) d (λhH=>?_);refine tdI [0,1,2,3,4,6] ?_
 iterate 6
  refine tdS (v:=?_) ?_ hH ?_;rotate_left
  .rintro w ⟨o0,o1,o2⟩;go_simp;try with_reducible rfl
  try simp only[Act.put,zA,zB,zC]
 refine tdE ?_;refine rdA 5 rfl (λK U=>?_);go_simp;refine(aF.out _).mono ?_;rintro e w2 ⟨rfl,hb2⟩;have hb2:=(Ve W1.heap.size W1).drew.trans hb2
 have aJ:=And.intro (Zi hb2 _ _ d.1) (And.intro (Zi hb2 _ _ d.2.1) (Zi hb2 _ _ d.2.2));have HB2:=Hd hb2;clear hb2;go_wp2_with fail;refine U.out _ _ aJ (λhH=>?_);clear aJ;clear U K;try simp only[Act.put,zA,zB,zC]
 refine rdA 7 rfl (λK U=>?_);go_simp;refine(aG.out _).mono ?_;rintro e C ⟨rfl,hb3⟩;have hb3:=HB2.out.trans (hb3.mono HB2.out.size)
 have aK:=And.intro (Zi hb3 _ _ d.1) (And.intro (Zi hb3 _ _ d.2.1) (Zi hb3 _ _ d.2.2));have HB3:=Hd hb3;clear hb3;go_wp2_with fail;refine U.out _ _ aK (λhH=>?_);clear aK;clear U K;try simp only[Act.put,zA,zB,zC]
 refine rdA 8 rfl (λK U=>?_);go_simp;refine(trange_any C (trp tb) (.inr ⟨tb,rfl⟩) [s,0] [s,1]).mono ?_;rintro e E ⟨rfl,e4⟩;obtain⟨aL,aM,aN,a5⟩:=range_begin (aH.out.tr.step HB3.out) e4;clear e4;have hb14:=HB3.out.trans (aL.mono HB3.out.size)
 have aO:=And.intro (Zi hb14 _ _ d.1) (And.intro (Zi hb14 _ _ d.2.1) (Zi hb14 _ _ d.2.2));have HB14:=Hd hb14;have HS4:=Hd aM;have HL4:=Hd aN;have HLOW4:=Hd a5;clear hb14 aL aM aN a5;go_wp2_with fail;refine U.out _ _ aO (λhH=>?_);clear aO;clear U K;try simp only[Act.put,zA,zB,zC]
 refine dnA ?_;clear hH d;have b1:Hid (KZ n J seq B F p f R tb sb sq wt bs bp (t:Int) E):=Hd (aH.out.far HLOW.out (Zb.of_below (T:=λ_=>False) HB14.out) λk _ e=>e)
 have aP:Hid (E.heap[W.heap.size]?=some (yldO l)):=Hd ((HB14.out.block _ (Za HY1.out)).trans HY1.out);have g:Hid (W.heap.size<E.heap.size/\W.heap.size<C.heap.size/\E.heap.size=C.heap.size+3):=Hd ⟨Za aP.out,by have:=HB3.out.size;have:=aI.out;omega,HS4.out⟩;have b2:Hid (JJ [] E):=Hd (HJ.out _ _ _ HH0.out (Zb.of_below ((HB1.out.trans (HB14.out.mono HB1.out.size)))) b1.out);have aQ:Hid (∀k,W.heap.size<=k->k<E.heap.size->¬O E k):=Hd λk z _ e=>by have:=(HOL.out _ _ HH0.out k (HST.out _ _ (Va _) (Zb.of_below (HB1.out.trans (HB14.out.mono HB1.out.size))) k e)).2;omega
 go_upto_block 0 with fail;refine(wpIn_wide (n:=3)).1 ?_;gi_wp2_with fail
 refine rangeX (F:=Fence.wide) rfl (by omega) (gf:=95) (lb:=#[Qf C.heap.size,Qf (C.heap.size+1),Qf (C.heap.size+2)]) rfl trivial (enters_of Tryz.func95 (by kernel_rfl) rfl)
  (range_seq (n:=n) (J:=J) (seq:=seq) (B:=B) (F:=F) (p:=p) (f:=f) (R:=R) (tb:=tb) (bt:=C.heap.size) (bf:=C.heap.size+1) (bq:=C.heap.size+2) (from_:=[s,0]) (to_:=[s,1]) 2 (by omega)) (λ_=>rfl)
  (λpre W'=>JJ ((j.map unF).take pre.length) W'/\W'.heap[W.heap.size]?=some (yldO l)/\W'.heap[C.heap.size]?=some (trpO tb)/\W'.heap[C.heap.size+1]?=some (Zar [s,0])/\W'.heap[C.heap.size+2]?=some (Zar [s,1])/\∀k,W.heap.size<=k->k<E.heap.size->¬O W' k)
  (λc pre W'=>c=.ret/\∃q,q <+: j.map unF/\JX q W') ?hG ?hL (λ_ _ _ _=>trivial) ?hLp O (HST.out.mono (Nat.le_of_lt g.out.1) λk e=>e.imp id λe=>by have:=g.out;omega) (λs A h k e=>HOL.out _ _ h.1 k e) ?hI ?hU ?hIx ?h0 (λx a' A=>a'={ tmps:=#[.func (.yield l) #[] #[],Qf bs,Qf bp,Qf W.heap.size,.string ⟨x.1.toArray⟩,undef,undef,undef,undef,stp sb,.bool false,.bool false,stp sb,stp sb,.pointer (some ⟨sb,5,none⟩),.int .i64 0,.bool false,.bool false,.bool false,.int .i64 (t:Int),.bool false,.bool false,.bool false,.int .i64 (t:Int),.bool false,.bool false,stp sb,stp sb,.pointer (some ⟨sb,2,none⟩),stp tb,.int .i64 (t:Int),.string ⟨#[s,0]⟩,.int .i64 (t:Int),.string ⟨#[s,1]⟩,rngF C.heap.size (C.heap.size+1) (C.heap.size+2),.string ⟨x.1.toArray⟩,.string ⟨x.2.toArray⟩,undef,undef,undef,undef,undef,undef,undef,undef,undef,undef,undef,undef,undef,undef,undef,undef,undef,undef,undef,undef,undef,undef,undef,undef,undef,undef],defers:=[] }) (λ_ _ _ _ h=>h) ?assign ?body ?done ?stop
 case hG =>
  intro W' hb;exact⟨HL4.out.far HLOW4.out (Zb.of_below (T:=λk=>E.heap.size<=k) hb) λk hk e=>by omega,HLOW4.out.mono hb.size⟩
 case hL =>
  rintro pre A ⟨z,H,Q,h4,h5,h6⟩;exact⟨(HLV.out _ _ z).tr,Q,h4,h5⟩
 case hLp=>exact λA B' h ht=>h.far HLOW4.out ht λk hk e=>by omega
 case hI =>
  rintro pre A B' ⟨z,H,Q,h4,h5,h6⟩ ht hl;have hsw:=g.out
  have hT:∀k,W.heap.size<=k->k<E.heap.size->¬(PJ F p f k\/E.heap.size<=k):=λk q1 q2 e=>by
   rcases e with e | e
   .have:=HLOW.out.pj k e;omega
   .omega
  have hz:=HLV.out _ _ z;have aj:∀k,k<W.heap.size->¬PJ F p f k->¬((PJ F p f k\/E.heap.size<=k)/\¬O A k):=λk q1 q2 e=>e.1.elim q2 λe=>by omega
  have hA:E.heap.size<=A.heap.size\/True:=.inr trivial;refine⟨HJ.out _ _ _ z (ht.mono λk _ e=>⟨e.1.imp id λe=>by omega,e.2⟩) ⟨hl.tr,Yk ht (aj _ HLOW.out.hsb HLOW.out.ab) hz.head,Yk ht (aj _ HLOW.out.hbs HLOW.out.a1) hz.hbs,Yk ht (aj _ HLOW.out.hbp HLOW.out.a2) hz.hbp⟩,Yk ht (λe=>hT _ (Va _) hsw.1 e.1) H,hl.hbt,hl.hbf,hl.hbq,λk q1 q2 e=>h6 k q1 q2 (HST.out _ _ (Nat.le_of_lt (Za H)) (ht.mono λk _ e=>e.1.imp id λe=>by omega) k e)⟩
 case hU=>exact λk hk=>by have:=HLOW.out.pj k hk;have:=g.out;omega
 case hIx =>
  rintro c pre A B' ⟨z,q,H,Q⟩ ht;exact⟨z,q,H,HJX.out _ _ _ Q (ht.mono λk _ e=>⟨by have:=g.out;omega,e.2⟩)⟩
 case h0=>exact⟨by simpa using b2.out,aP.out,HL4.out.hbt,HL4.out.hbf,HL4.out.hbq,aQ.out⟩
 case assign =>
  rintro L pre x W' K1 hi Z a0 b3;have HI:=Hd hi
  clear hi Z a0;gi_wp2_with fail;exact b3 _ _ (Zb.refl _ _) HI.out rfl
 case done =>
  rintro D W' hD a6 a0 ⟨z,H,Q,h4,h5,h6⟩ U;have ad:(j.map unF).take (R.rangeN [s,0] [s,1]).length=j.map unF:=List.take_of_length_le (by rw[HRNG.out,List.length_map,List.length_map];exact Va _)
  rw[ad] at z;have HE:Hid (∀o,W.heap.size<=(W'.putObj D o).heap.size/\JJ (j.map unF) (W'.putObj D o)):=Hd λo=>by have hsw:=g.out;have htp:=Qi (T:=(·=D)) W' D o rfl;exact⟨by have:=htp.size;omega,HJ.out _ _ _ z (htp.mono λk _ e=>⟨.inr (by omega),by rw[e];exact a6⟩) ((HLV.out _ _ z).far HLOW.out htp λk hk e=>by omega)⟩
  have ak:=Hd U;clear z H Q h4 h5 h6 a6 U ad;refine⟨by simp,.inl ⟨_,_,rfl,run_takeDeferred ak.out,?_⟩⟩;exact⟨_,results_none rfl _ _ _,⟨_,rfl⟩,(HE.out _).1,.inl (HE.out _).2⟩
 case stop =>
  rintro D c pre W' hD a6 a0 b6 ⟨rfl,q,H,Q⟩ U;have HE:Hid (∀o,W.heap.size<=(W'.putObj D o).heap.size/\JX q (W'.putObj D o)):=Hd λo=>by have hsw:=g.out;have htp:=Qi (T:=(·=D)) W' D o rfl;exact⟨by have:=htp.size;omega,HJX.out _ _ _ Q (htp.mono λk _ e=>⟨by omega,by rw[e];exact a6⟩)⟩
  have ak:=Hd U;have HQ:=Hd H;clear H Q U a6;gi_wp2_with fail;refine⟨by simp,.inl ⟨_,_,rfl,run_takeDeferred ak.out,?_⟩⟩;exact⟨_,results_none rfl _ _ _,⟨_,rfl⟩,(HE.out _).1,.inr ⟨q,HQ.out,(HE.out _).2⟩⟩
 case body =>
  rintro L pre x a' W' hl ⟨r,hr⟩ ⟨z,H,Q,h4,h5,h6⟩ rfl Z a0;have HH6:=Hd h6
  rw[HRNG.out] at Z;have hsw:=g.out
  have a9:pre.length<j.length:=by have:=Z.length_le;rw[List.length_append,List.length_singleton,List.length_map] at this;omega
  have hx:x=headF j[pre.length]:=by
   obtain⟨q,hq⟩:=Z;have:=Vs (λL=>L[pre.length]?) hq
   simp only[List.getElem?_append_left (show pre.length<(pre++[x]).length by simp),List.getElem?_append_right (Va pre.length),Nat.sub_self,List.getElem?_cons_zero,List.getElem?_map,List.getElem?_eq_getElem a9,Option.map_some] at this
   injection this
  obtain⟨y,hy⟩:∃y,y=j[pre.length]:=⟨_,rfl⟩;obtain⟨k,al,am,aR,aS⟩:=HGS.out y (by rw[hy];exact Vo a9);rw[<-hy] at hx;have aT:x.1=s::0::k:=by rw[hx];unfold headF;rw[al];rfl
  have aU:unF y=(k,y.2):=by unfold unF;rw[al];rfl
  have an:(j.map unF).take (pre++[x]).length=(j.map unF).take pre.length++[(k,y.2)]:=by rw[List.length_append,List.length_singleton,Zhb _ _ (by rw[List.length_map];exact a9),List.getElem_map,<-hy,aU]
  have aV:(j.map unF).take pre.length++[(k,y.2)] <+: j.map unF:=by rw[<-an];exact List.take_prefix _ _
  have hz:=HLV.out _ _ z;have cs:W'.cell? ⟨bs,0,none⟩=some (stp sb):=by rw[Vc _ _ _ _ _ _ hz.hbs];rfl
  have cp:W'.cell? ⟨bp,0,none⟩=some (.int .i64 (t:Int)):=by rw[Vc _ _ _ _ _ _ hz.hbp];rfl
  have HG:=Hd (aA.out W' k am hz);rw[aR] at HG;have hsl:=λw:World=>run_str_l (P:=Tryz.prog) Tryz.underlying9 w (s::0::k) 2 (by simp);rw[show (s::0::k).drop 2=k from rfl,show ((2:Nat):Int)=2 from rfl,<-aT] at hsl
  have aW:=Hd z;have HH2:=Hd H;have HHB:=Hd (And.intro Q (And.intro h4 h5));have HTK:=Hd an;have HPO:=Hd aV;have HSZ:=Hd a0;have b7:Hid (k.length<=64/\y.2.length<=4096):=Hd ⟨am,aS⟩;clear z H Q h4 h5 h6 Z a0 a9 hx al am aR aS aT aU an aV hz hsw hy hr;gi_wp2_with fail;refine⟨trivial,?_⟩;refine(CallsIn.inRound L (callsIn_wide.2 HG.out)).mono ?_;rintro e w6 ⟨rfl,aX,i⟩;have hsw:=g.out;have a7:∀q,W.heap.size<=q->¬PJ F p f q:=λq h e=>by have:=HLOW.out.pj q e;omega
  have ao:W.heap.size<=W'.heap.size:=Nat.le_of_lt (Za HH2.out);have HTO6:=Hd (HST.out.own ao i λk e=>.inl e);have G:Hid (∀k,W.heap.size<=k->k<E.heap.size->¬O w6 k):=Hd λk q1 q2 e=>HH6.out k q1 q2 (HST.out _ _ ao (i.mono λ_ _ e=>.inl e) k e);have aY:JJ ((j.map unF).take pre.length) w6:=HJ.out _ _ _ aW.out (i.mono λk _ e=>⟨.inl e,λo=>(HOL.out _ _ aW.out k o).1 e⟩) aX;have hy6:=Yk i (a7 _ (Va _)) HH2.out;have cy:w6.cell? ⟨W.heap.size,0,none⟩=some (.func (.yield l) #[] #[]):=by rw[Vc _ _ _ _ _ _ hy6];rfl
  have ap:=Hd (And.intro (Yk i (a7 _ (by omega)) HHB.out.1) (And.intro (Yk i (a7 _ (by omega)) HHB.out.2.1) (Yk i (a7 _ (by omega)) HHB.out.2.2)));obtain⟨fn,tmps,assign,body,aq,hR⟩:=HYR.out 1 _ (k,y.2) w6 aY HPO.out (by have:=i.size;have:=HSZ.out;omega);have HRR:=Hd hR;have HT6:=Hd i;have HY6:=Hd hy6;have b4:Hid (E.heap.size<=w6.heap.size):=Hd (by have:=i.size;have:=HSZ.out;omega);dsimp only[kvA] at aq;clear hR ao aX i aY hy6 a7 hsw cs cp HG hsl;gi_wp2_with fail;refine(roundIn_in (l2:=L) (Zgd HRR.out)).mono ?_;rintro e w7 ⟨u,(⟨rfl,aZ⟩ | ⟨rfl,a8⟩)⟩
  .have HE:Hid (TO O (λq=>q<E.heap.size) W' w7/\(JJ ((j.map unF).take (pre++[x]).length) w7/\w7.heap[W.heap.size]?=some (yldO l)/\w7.heap[C.heap.size]?=some (trpO tb)/\w7.heap[C.heap.size+1]?=some (Zar [s,0])/\w7.heap[C.heap.size+2]?=some (Zar [s,1])/\∀k,W.heap.size<=k->k<E.heap.size->¬O w7 k)):=Hd (by
    have hsw:=g.out;have hs6:=b4.out
    exact⟨(HTO6.out.mono λq _ e=>by have:=HLOW.out.pj q e;omega).trans (u.mono λq _ e=>by omega),by rw[HTK.out];exact aZ,u.keep (by omega) (G.out _ (by omega) (by omega)) HY6.out,u.keep (by omega) (G.out _ (by omega) (by omega)) ap.out.1,u.keep (by omega) (G.out _ (by omega) (by omega)) ap.out.2.1,u.keep (by omega) (G.out _ (by omega) (by omega)) ap.out.2.2,λk q1 q2=>u.off (by omega) (G.out k q1 q2)⟩)
   clear u aZ cy aq;gi_wp2_with fail;exact HE.out
  .have b8:w7.cell? ⟨bs,0,none⟩=some (stp sb):=by rw[Vc _ _ _ _ _ _ (HLX.out _ _ a8)];rfl
   have HE:Hid (TO O (λq=>q<E.heap.size) W' w7/\∃q,q <+: j.map unF/\JX q w7):=Hd (by
    have hsw:=g.out
    exact⟨(HTO6.out.mono λq _ e=>by have:=HLOW.out.pj q e;omega).trans (u.mono λq _ e=>by omega),_,HPO.out,a8⟩)
   have b5:=Hd (kheard_not w7 sb 0 (.inl (by decide)));clear u a8 cy aq;gi_wp2_with fail;refine⟨trivial,?_⟩;refine(CallsIn.inRound L (callsIn_wide.2 b5.out)).mono ?_;rintro e w8 ⟨rfl,e8⟩;obtain rfl:w7=w8:=e8.symm;gi_wp2_with fail;exact⟨HE.out.1,rfl,HE.out.2⟩
end
end
section
open Go.RowKit
theorem ops_any (w:World) (F:Ft) (D:Dk) (h:Xd w F D):Calls Tryz.prog 15 #[F.ptr] w λe a=>e=.returned (.int .i64 (D.ops:Int))/\w=a:=by obtain⟨b,c,d,f,g,i⟩:=h.cells;go_enter Tryz.func15,Tryz.ntmps15;go_wp2;go_ret;exact⟨rfl,rfl⟩
end
end Go.Proofs.YtfaobkmojlhbnaaGreatDoor
