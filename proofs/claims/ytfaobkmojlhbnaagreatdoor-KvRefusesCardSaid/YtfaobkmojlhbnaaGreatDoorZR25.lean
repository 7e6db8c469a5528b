/- Contracts of the functions that the statements of this seat reach, part 25: each says what the call answers and what it leaves of the memory. -/
import Derived.Test.YtfaobkmojlhbnaaGreatDoorZR24
import Derived.Test.YtfaobkmojlhbnaaGreatDoorZR18
import Derived.Test.YtfaobkmojlhbnaaGreatDoorZR23
import Derived.Test.YtfaobkmojlhbnaaGreatDoorZR6
import Derived.Test.YtfaobkmojlhbnaaGreatDoorZR5
import Derived.Test.YtfaobkmojlhbnaaGreatDoorZR3
import Derived.Test.YtfaobkmojlhbnaaGreatDoorZR2
set_option linter.unusedVariables false
set_option linter.unusedSimpArgs false
set_option maxRecDepth 100000
set_option maxHeartbeats 64000000
namespace Go.Proofs.YtfaobkmojlhbnaaGreatDoor
section
open Go.RowKit Go.Shelf Go.Lib
attribute [local go_sem] Oper.semAt_some
section
variable {n : Nat} {c : Int} {o k : Nat} {M : List KV} {sq : Int} {X : Nat → Prop} {dv sv : Value} {w w' : World}
theorem len_wgt:∀M:List KV,12*M.length<=Yi wF M
 | []=>by simp[Yi]
 | x::r=>by
  have:=len_wgt r
  have a:12<=wF x:=by
   unfold wF wP;have:12*1<=(12+x.1.tail.length)*(1+x.2.length / 190):=Nat.mul_le_mul (by omega) (by omega)
   omega
  rw[Yi,List.length_cons];omega
theorem St.few (h:St n c o k M sq X dv sv w) (s:UInt8):(inS s M).length<=1000/\M.length<=1000:=by have a:=len_wgt M;have h2:=h.wl;have h3:=h.n1.2;have b:(inS s M).length<=M.length:=List.length_filter_le _ _;omega
theorem St.z (h:St n c o k M sq X dv sv w):∃F p f j e a b J d B R,dv=Ft.ptr F/\sv=stp e/\KZp R a M b/\Tr n J d B w F p f R j/\w.heap[e]?=some (stO F f.q j sq (Yi wF M:Nat) 0)/\¬PJ F p f e/\(e≠j/\e≠0)/\(∀i,X i↔KJ F p f e i\/i=j) /\
  (∀l,Tr n J d B l F p f R j->l.heap[e]?=some (stO F f.q j sq (Yi wF M:Nat) 0)->St n c o k M sq X dv sv l):=by
 obtain⟨F,p,f,j,e,a,b,m,r,g,s,y,u⟩:=h.ex;obtain⟨J,d,B,R,t,v,A,x,C⟩:=g.pk.ex;exact⟨F,p,f,j,e,a,b,J,d,B,R,m,r,⟨v,by rw[x];exact g.pk.m255,s⟩,t,g.head,g.ap,g.ne,u,λl D E=>⟨⟨F,p,f,j,e,a,b,m,r,⟨⟨⟨J,d,B,R,D,v,A,x,C⟩,g.pk.n6,g.pk.m4,g.pk.m255⟩,E,g.ap,g.ne⟩,s,y,u⟩,h.n1,h.wl,h.sq0,h.kk⟩⟩
theorem kallf_any (w:World) (sb:Nat) (sp:Int):Calls Tryz.prog 28 #[stp sb,.int .i64 sp] w λe w'=>e=.returned (allF w.heap.size (w.heap.size+1))/\w'=(w.alloc (stpO sb)).alloc (izO sp):=by go_enter Tryz.func28,Tryz.ntmps28;go_wp2_with fail;go_ret;exact⟨rfl,rfl⟩
theorem all_begin {J:Jn} {seq:Int} {B:List (List UInt8)} {F:Ft} {p:Nat} {f:Pf} {R:Rp} {tb sb:Nat} {wt:Int} {sp:Int} {w w2:World} (h:Tr n J seq B w F p f R tb) (hh:w.heap[sb]?=some (stO F f.q tb sq wt 0)) (i:¬PJ F p f sb) (b:w2=(w.alloc (stpO sb)).alloc (izO sp)) :
  Below w.heap.size w w2/\w2.heap.size=w.heap.size+2/\KZ n J seq B F p f R tb sb sq wt w.heap.size (w.heap.size+1) sp w2/\LowZ F p f tb sb w.heap.size (w.heap.size+1) w2.heap.size:=by
 have j:w2.heap.size=w.heap.size+2:=by rw[b];simp
 have d:Below w.heap.size w w2:=by rw[b];exact(Zl w _).alloc (by simp) _
 have l:w2.heap[w.heap.size]?=some (stpO sb):=by rw[b];exact(Vv _ _ _ (by simp)).trans (Vg w _)
 have m:w2.heap[w.heap.size+1]?=some (izO sp):=by
  rw[b];have:=Vg (w.alloc (stpO sb)) (izO sp)
  rw[World.size_alloc] at this;exact this
 have a:∀k,PJ F p f k->k<w.heap.size:=λk g=>h.lp.lt g;have htl:=Za h.head;have hsl:=Za hh;have hnl:=h.lp.nib_lt;exact⟨d,j,⟨h.step d,(d.block _ hsl).trans hh,l,m⟩,⟨λk g=>by have:=a k g;omega,by omega,by omega,by omega,by omega,by omega,i,λe=>by have:=a _ e;omega,λe=>by have:=a _ e;omega⟩⟩
theorem kseq_st (h:St n c o k M sq X dv sv w):Calls Tryz.prog 27 #[sv] w λe w'=>e=.returned (.int .i64 sq)/\w'=w:=by
 obtain⟨F,p,f,l,g,a,b,J,i,B,R,rfl,rfl,j,t,d,_⟩:=h.z;have m:w.cell? ⟨g,3,none⟩=some (.int .i64 sq):=by rw[Vc _ _ _ _ _ _ d];rfl
 clear h j t d;go_enter Tryz.func27,Tryz.ntmps27;go_wp2_with fail;go_ret;exact⟨rfl,rfl⟩
theorem kops_st (h:St n c o k M sq X dv sv w):Calls Tryz.prog 15 #[dv] w λe w'=>e=.returned (.int .i64 (o:Int))/\w'=w:=by obtain⟨F,p,f,l,m,a,b,rfl,rfl,d,q⟩:=h.ex;obtain⟨D,g,r,i,s⟩:=d.dk;refine(ops_any w F D g).mono ?_;rintro e w' ⟨rfl,j⟩;exact⟨by rw[i],j.symm⟩
abbrev prsO (v:Value):Obj:=.cells #[v] 59 (0,0)
theorem same12_st (h:St n c o k M sq X dv sv w) (t:Nat) (ht:t<=255) {v:Value} (hv:rkPr.Is w v (inS (UInt8.ofNat t) M)) (ai:∀i,v.ownBlock=some i->¬X i) (H:Int) (aj:0<=H/\H<=1000000) :
  Calls Tryz.prog 29 #[sv,.int .i64 (t:Int),v,.int .i64 H] w λe w'=>e=.returned (.bool true)/\St n c o k M sq X dv sv w'/\Zb X w w':=by
 obtain⟨F,p,f,tb,sb,a,aB,J,seq,B,R,rfl,rfl,ak,Z,hh,a8,d,hX,S⟩:=h.z;obtain⟨IS,a5⟩:∃IS,IS=inS (UInt8.ofNat t) M:=⟨_,rfl⟩;rw[<-a5] at hv;obtain⟨av,cv,rfl,aC,aw⟩:=hv.form;unfold maxLen at aw;have hseq:=kall_seq (n:=n) (J:=J) (seq:=seq) (B:=B) (F:=F) (p:=p) (f:=f) (tb:=tb) (sb:=sb) (sq:=sq) (wt:=(Yi wF M:Nat)) (bs:=w.heap.size+4) (bp:=w.heap.size+5) ak 2 (by omega) t ht
 rw[<-a5] at hseq;obtain⟨W1,u⟩:∃x,x=(((w.alloc (prsO (.slice av IS.length cv))).alloc (izO H)).alloc (bolO false)).alloc (izO 0):=⟨_,rfl⟩;have a6:Below w.heap.size w W1:=by rw[u];exact(((Zl w _).alloc (by simp) _).alloc (by simp;omega) _).alloc (by simp;omega) _
 have a7:W1.heap.size=w.heap.size+4:=by rw[u];simp
 have v1:W1.heap[w.heap.size]?=some (prsO (.slice av IS.length cv)):=by rw[u];exact(Vv _ _ _ (by simp;omega)).trans ((Vv _ _ _ (by simp;omega)).trans ((Vv _ _ _ (by simp)).trans (Vg w _)))
 have a1:W1.heap[w.heap.size+1]?=some (izO H):=by
  rw[u];have:=Vg (w.alloc (prsO (.slice av IS.length cv))) (izO H)
  rw[World.size_alloc] at this;exact(Vv _ _ _ (by simp)).trans ((Vv _ _ _ (by simp)).trans this)
 have r1:W1.heap[w.heap.size+2]?=some (bolO false):=by
  rw[u];have:=Vg ((w.alloc (prsO (.slice av IS.length cv))).alloc (izO H)) (bolO false)
  rw[World.size_alloc,World.size_alloc] at this;exact(Vv _ _ _ (by simp)).trans this
 have k1:W1.heap[w.heap.size+3]?=some (izO 0):=by
  rw[u];have:=Vg (((w.alloc (prsO (.slice av IS.length cv))).alloc (izO H)).alloc (bolO false)) (izO 0)
  rw[World.size_alloc,World.size_alloc,World.size_alloc] at this;exact this
 obtain⟨y,a9⟩:∃y,y=(W1.alloc (stpO sb)).alloc (izO (t:Int)):=⟨_,rfl⟩;obtain⟨Y,aa,ab,I⟩:=all_begin (Z.step a6) ((a6.block _ (Za hh)).trans hh) a8 a9;rw[a7] at ab I aa;have v2:=(Y.block _ (Za v1)).trans v1
 have a2:=(Y.block _ (Za a1)).trans a1;have r2:=(Y.block _ (Za r1)).trans r1;have k2:=(Y.block _ (Za k1)).trans k1;have HAL:=Hd (kallf_any W1 sb (t:Int));rw[<-a9,a7] at HAL;have ad:Hid (Below w.heap.size w y):=Hd (a6.trans (Y.mono (by omega)));have HV2:=Hd (hv.below ad.out);have HZ2:=Hd ab;have HLOW:=Hd I;have HVV:=Hd v2;have HAA:=Hd a2;have HRR:=Hd r2;have HKK:=Hd k2;have HW1:=Hd u;have HS:=Hd (And.intro a7 aa);have HSEQ:=Hd hseq;have HXX:=Hd hX;have HCL:=Hd S;have ax:Hid (∀i,(Value.slice av IS.length cv).ownBlock=some i->¬PJ F p f i):=Hd λi U e=>ai i U ((hX i).2 (.inl (.inl e)));have HV0:=Hd hv;have C:Hid (∀k,PJ F p f k->k<w.heap.size):=Hd λk g=>Z.lp.lt g;have HNE:=Hd (And.intro a8 d);have HSB:=Hd (Za hh);have HEA:=Hd aj;have al:Hid (IS.length<=1000000):=Hd (by rw[a5];have:=(h.few (UInt8.ofNat t)).1;omega);have HNB:=Hd Z.lp.nib_lt;have HTB:=Hd (Za Z.head);clear h ak Z hh a8 d hX S a5 hseq u a6 a7 v1 a1 r1 k1 a9 Y aa ab I v2 a2 r2 k2 hv ai aj;refine Un (n:=3).1 ?_;refine callsIn_of_wp_marks Tryz.func29 rfl trivial ?_ rfl
 simp only[Tryz.ntmps29,List.size_toArray,List.length_cons,List.length_nil,Nat.reduceAdd,Nat.reduceSub,Array.replicate_succ,Array.replicate_zero,List.push_toArray,List.append_toArray,List.nil_append,List.cons_append];gi_wp2_with fail;rw[<-HW1.out];refine⟨trivial,?_⟩;refine(callsIn_wide.2 HAL.out).mono ?_;rintro e w5 ⟨rfl,e5⟩;obtain rfl:y=w5:=e5.symm;gi_wp2_with fail;rename_i K am;have HKO:=Hd am
 clear am
 refine rangeX (F:=Fence.wide) rfl (by omega) (gf:=56) (lb:=#[Qf (w.heap.size+4),Qf (w.heap.size+5)]) rfl trivial (enters_of Tryz.func56 (by kernel_rfl) rfl)
  HSEQ.out (λ_=>rfl)
  (λpre W=>KZ n J seq B F p f R tb sb sq (Yi wF M:Nat) (w.heap.size+4) (w.heap.size+5) (t:Int) W/\W.heap[w.heap.size+3]?=some (izO (pre.length:Int))/\(∀j:Nat,1<=j->j<=pre.length->H≠(j:Int))/\Zb (λk=>PJ F p f k\/k=w.heap.size+3) y W)
  (λc pre W=>c=.ret/\KZ n J seq B F p f R tb sb sq (Yi wF M:Nat) (w.heap.size+4) (w.heap.size+5) (t:Int) W/\W.heap[w.heap.size+2]?=some (bolO true)/\Zb (λk=>PJ F p f k\/k=w.heap.size+3\/k=w.heap.size+2) y W) ?hG (λs A h=>h.1) (λc s A h=>h.2.1.hbs) ?hLp noO Stays.none (λ_ _ _ _ e=>e.elim) ?hI ?hU ?hIx ?h0
  (λx a' A=>a'={ tmps:=#[stp sb,.int .i64 (t:Int),.slice av IS.length cv,.int .i64 H,undef,undef,Qf w.heap.size,Qf (w.heap.size+1),Qf (w.heap.size+1+1),Qf (w.heap.size+1+1+1),.string ⟨x.1.toArray⟩,.string ⟨x.2.toArray⟩,stp sb,.int .i64 (t:Int),allF (w.heap.size+4) (w.heap.size+4+1),.string ⟨x.1.toArray⟩,.string ⟨x.2.toArray⟩,undef,undef,undef,undef,undef,undef,undef,undef,undef,undef,undef,undef,undef,undef,undef,undef,undef,undef,undef,undef,undef,undef,undef,undef,undef,undef,undef,undef,undef,undef,undef],defers:=[] }) (λ_ _ _ _ h=>h) ?assign ?body ?done ?stop
 case hG =>
  intro W hb;exact⟨HZ2.out.far HLOW.out (Zb.of_below (T:=λk=>y.heap.size<=k) hb) λk g e=>by omega,HLOW.out.mono hb.size⟩
 case hLp=>exact λA A' h ht=>h.far HLOW.out ht λk g e=>by omega
 case hI =>
  rintro s A A' ⟨m,O,i3,P⟩ ht hl;replace ht:=ht.mono (T':=λk=>PJ F p f k\/y.heap.size<=k) λk _ e=>e.1;have hS:=HS.out
  refine⟨hl,Yk ht (λe=>?_) O,i3,P.then ht λi U e=>?_⟩
  .rcases e with e | e
   .have:=C.out _ e;omega
   .omega
  .rcases e with e | e
   .exact .inl e
   .omega
 case hU=>exact λk g=>by have:=C.out k g;have:=HS.out;omega
 case hIx =>
  rintro c s A A' ⟨i0,m,O,P⟩ ht;replace ht:=ht.mono (T':=λk=>y.heap.size<=k) λk _ e=>e.1;have hS:=HS.out
  exact⟨i0,m.far HLOW.out ht λk g e=>by omega,Yk ht (λe=>by omega) O,P.then ht λi U e=>by omega⟩
 case h0=>exact⟨HZ2.out,HKK.out,λj h1 V=>by simp at V;omega,Zb.refl _ _⟩
 case assign =>
  rintro L pre x W K1 U a0 a3 ay;have HI:=Hd U
  clear U a0 a3;gi_wp2_with fail;exact ay _ _ (Zb.refl _ _) HI.out rfl
 case done =>
  rintro D W hD _ a3 ⟨m,O,i3,P⟩ hK;rw[List.length_map] at O;have hS:=HS.out
  have E:∀k,w.heap.size<=k->k<y.heap.size->k≠w.heap.size+3->W.heap[k]?=y.heap[k]?:=λk h1 V h3=>P.block k V λe=>by
   rcases e with e | e
   .have:=C.out k e;omega
   .exact h3 e
  have kv:=(E w.heap.size (by omega) (by omega) (by omega)).trans HVV.out;have kr:=(E (w.heap.size+2) (by omega) (by omega) (by omega)).trans HRR.out;have cv:=(Vc _ _ 0 _ _ _ kv).trans (Eq.refl (some _));have ck:=(Vc _ _ 0 _ _ _ O).trans (Eq.refl (some (Value.int .i64 (IS.length:Int))));have cr:=(Vc _ _ 0 _ _ _ kr).trans (Eq.refl (some (Value.bool false)));have fr:=Zf kr 0;have ht6:=Zc W (w.heap.size+2) 0 (.bool true);have hK6:=Yk ht6 (by omega) hK;have an:(W.setCell ⟨w.heap.size+2,0,none⟩ (.bool true)).heap[w.heap.size+2]?=some (bolO true):=Ze kr _;have l:∀o,Zb (λk=>k=w.heap.size+2\/k=D) W ((W.setCell ⟨w.heap.size+2,0,none⟩ (.bool true)).putObj D o):=λo=>(ht6.mono λk _ e=>.inl e).trans (Qi _ D o (.inr rfl));have d:∀k,k<w.heap.size->¬(k=w.heap.size+2\/k=D):=λk g e=>by omega
  have HE:Hid (∀Q,St n c o k M sq X F.ptr (stp sb) ((W.setCell ⟨w.heap.size+2,0,none⟩ (.bool true)).putObj D Q)/\Zb X w ((W.setCell ⟨w.heap.size+2,0,none⟩ (.bool true)).putObj D Q)):=Hd λQ=>by
   have hz:=m.far (HLOW.out) (Zb.refl (λ_=>False) W) λk _ e=>e;have htb:=HLOW.out.htb;refine⟨HCL.out _ (m.tr.turned (l Q) (λk g=>d k ?_) (d _ ?_)) (Yk (l Q) (d _ HSB.out) m.head),((Zb.of_below ad.out).then P λi U e=>?_).then (l Q) λi U e=>absurd e (d i U)⟩
   .rcases g with e | e
    .exact C.out k e
    .rw[e];exact HNB.out
   .exact HTB.out
   .rcases e with e | e
    .exact(HXX.out i).2 (.inl (.inl e))
    .omega
  have ae:=Hd hK6;have HR6:=Hd an;have af:w.heap.size+2≠D:=by omega
  have hq:((IS.length:Int)==(IS.length:Int))=true:=beq_self_eq_true _;clear m O P ht6 l hK6 an hK d hS E kv kr;dsimp only;refine HKO.out _ _ ?_;gi_wp2_with fail;refine⟨by simp,.inl ⟨_,_,rfl,run_takeDeferred ae.out,?_⟩⟩;exact⟨_,Qn rfl rfl (Zcx ((World.putObj_heap_other af).trans HR6.out)),rfl,HE.out _⟩
 case stop =>
  rintro D c' pre W hD _ a3 ao ⟨rfl,m,O,P⟩ hK;have hS:=HS.out
  have l:=λQ=>Qi (T:=(·=D)) W D Q rfl;have d:∀k,k<w.heap.size->¬k=D:=λk g e=>by omega
  have HE:Hid (∀Q,St n c o k M sq X F.ptr (stp sb) (W.putObj D Q)/\Zb X w (W.putObj D Q)):=Hd λQ=>by
   refine⟨HCL.out _ (m.tr.turned (l Q) (λk g=>d k ?_) (d _ HTB.out)) (Yk (l Q) (d _ HSB.out) m.head),((Zb.of_below ad.out).then P λi U e=>?_).then (l Q) λi U e=>absurd e (d i U)⟩
   .rcases g with e | e
    .exact C.out k e
    .rw[e];exact HNB.out
   .rcases e with e | e | e
    .exact(HXX.out i).2 (.inl (.inl e))
    .omega
    .omega
  have ae:=Hd hK;have HR6:=Hd O;have af:w.heap.size+2≠D:=by omega
  clear m O P hK ao d hS l;gi_wp2_with fail;refine⟨by simp,.inl ⟨_,_,rfl,run_takeDeferred ae.out,?_⟩⟩;exact⟨_,Qn rfl rfl (Zcx ((World.putObj_heap_other af).trans HR6.out)),rfl,HE.out _⟩
 case body =>
  rintro L pre x a' W hl ⟨r,hr⟩ ⟨m,O,i3,P⟩ rfl a0 a3;have hS:=HS.out
  have E:∀k,w.heap.size<=k->k<y.heap.size->k≠w.heap.size+3->W.heap[k]?=y.heap[k]?:=λk h1 V h3=>P.block k V λe=>by
   rcases e with e | e
   .have:=C.out k e;omega
   .exact h3 e
  have kv:=(E w.heap.size (by omega) (by omega) (by omega)).trans HVV.out;have ka:=(E (w.heap.size+1) (by omega) (by omega) (by omega)).trans HAA.out;have kr:=(E (w.heap.size+2) (by omega) (by omega) (by omega)).trans HRR.out;have ag:pre.length<IS.length:=by have:=a0.length_le;rw[List.length_append,List.length_singleton,List.length_map] at this;omega
  have ap:rkPr.Is W (.slice av IS.length cv) IS:=HV2.out.turned P λk g e=>by
   rcases e with e | e
   .exact ax.out k g e
   .obtain⟨b0,o0,rfl,az,_⟩:=pr_at HV0.out pre.length ag;have hb0:=World.block_lt_of_cell? w _ az;simp only[Value.ownBlock,Option.map_some,Option.some.injEq] at g;simp only at hb0;omega
  have a4:unF IS[pre.length]=x:=by
   obtain⟨q,hq⟩:=a0;have:=Vs (λL=>L[pre.length]?) hq
   simp only[List.getElem?_append_left (show pre.length<(pre++[x]).length by simp),List.getElem?_append_right (Va pre.length),Nat.sub_self,List.getElem?_cons_zero,List.getElem?_map,List.getElem?_eq_getElem ag,Option.map_some] at this
   injection this with this;exact this.symm
  obtain⟨b,aD,rfl,c0,c1,c2⟩:=pr_at ap pre.length ag;rw[show IS[pre.length].1.tail=x.1 by rw[<-a4];rfl] at c1
  rw[show IS[pre.length].2=x.2 by rw[<-a4];rfl] at c2
  have cv:=(Vc _ _ 0 _ _ _ kv).trans (Eq.refl (some _));have ca:=(Vc _ _ 0 _ _ _ ka).trans (Eq.refl (some (Value.int .i64 H)));have ck:=(Vc _ _ 0 _ _ _ O).trans (Eq.refl (some (Value.int .i64 (pre.length:Int))));have fk:=Zf O 0;have hd:decide ((IS.length:Int)<=(pre.length:Int))=false:=Vb (by omega);have aE:decide (IS.length<=pre.length)=false:=Vb (by omega);obtain⟨aF,aG⟩:(0:Int)<=(pre.length:Int)/\(pre.length:Int)<(IS.length:Int):=by omega
  have aq:=al.out;have aH:IntKind.i64.wrap ((pre.length:Int)+1)=(pre.length:Int)+1:=Vf _ (by omega);have ht9:=Zc W (w.heap.size+3) 0 (.int .i64 ((pre.length:Int)+1));have ah:(W.setCell ⟨w.heap.size+3,0,none⟩ (.int .i64 ((pre.length:Int)+1))).heap[w.heap.size+3]?=some (izO ((pre++[x]).length:Int)):=by rw[List.length_append];exact Ze O _
  have aA:=(Vc _ _ 0 _ _ _ ah).trans (Eq.refl (some (Value.int .i64 ((pre++[x]).length:Int))));rw[List.length_append,List.length_singleton] at aA;have ka9:=Yk ht9 (by omega) ka;have ca9:=(Vc _ _ 0 _ _ _ ka9).trans (Eq.refl (some (Value.int .i64 H)));have kr9:=Yk ht9 (by omega) kr;have cr9:=(Vc _ _ 0 _ _ _ kr9).trans (Eq.refl (some (Value.bool false)));have fr9:=Zf kr9 0;have hz9:=m.far (N:=y.heap.size) (W':=W) HLOW.out (Zb.refl (λ_=>False) W) λk _ e=>e;have G:∀k,k<w.heap.size->¬k=w.heap.size+3:=λk g e=>by omega
  have ar:KZ n J seq B F p f R tb sb sq (Yi wF M:Nat) (w.heap.size+4) (w.heap.size+5) (t:Int) (W.setCell ⟨w.heap.size+3,0,none⟩ (.int .i64 ((pre.length:Int)+1))):=⟨m.tr.turned ht9 (λk g=>G k (g.elim (C.out k) λe=>by rw[e];exact HNB.out)) (G _ HTB.out),Yk ht9 (G _ HSB.out) m.head,Yk ht9 (by omega) m.hbs,Yk ht9 (by omega) m.hbp⟩;have HALL:=Hd (And.intro (ht9.mono (T':=λk=>k<y.heap.size) λk _ e=>by omega) (And.intro ar (And.intro ah (And.intro i3 (P.then ht9 λi U e=>.inr e)))));clear m O i3 P hr hl a0 a3 ht9 ah ar hz9 G ka ka9 kv ap a4 E aq;by_cases he:(pre.length:Int)+1=H
  .have HE:=Hd he
   have hq:(((pre.length:Int)+1)==H)=true:=by rw[he];exact beq_self_eq_true _
   have au:Hid (Zb (λk=>k<y.heap.size) W ((W.setCell ⟨w.heap.size+3,0,none⟩ (.int .i64 ((pre.length:Int)+1))).setCell ⟨w.heap.size+2,0,none⟩ (.bool true))/\KZ n J seq B F p f R tb sb sq (Yi wF M:Nat) (w.heap.size+4) (w.heap.size+5) (t:Int) ((W.setCell ⟨w.heap.size+3,0,none⟩ (.int .i64 ((pre.length:Int)+1))).setCell ⟨w.heap.size+2,0,none⟩ (.bool true))/\((W.setCell ⟨w.heap.size+3,0,none⟩ (.int .i64 ((pre.length:Int)+1))).setCell ⟨w.heap.size+2,0,none⟩ (.bool true)).heap[w.heap.size+2]?=some (bolO true)/\Zb (λk=>PJ F p f k\/k=w.heap.size+3\/k=w.heap.size+2) y ((W.setCell ⟨w.heap.size+3,0,none⟩ (.int .i64 ((pre.length:Int)+1))).setCell ⟨w.heap.size+2,0,none⟩ (.bool true))):=Hd (by
    have V:=Zc (W.setCell ⟨w.heap.size+3,0,none⟩ (.int .i64 ((pre.length:Int)+1))) (w.heap.size+2) 0 (.bool true);have G:∀k,k<w.heap.size->¬k=w.heap.size+2:=λk g e=>by omega
    obtain⟨q1,q2,q3,q4,q5⟩:=HALL.out
    exact⟨q1.trans (V.mono λk _ e=>by omega),⟨q2.tr.turned V (λk g=>G k (g.elim (C.out k) λe=>by rw[e];exact HNB.out)) (G _ HTB.out),Yk V (G _ HSB.out) q2.head,Yk V (by omega) q2.hbs,Yk V (by omega) q2.hbp⟩,Ze kr9 _,(q5.mono λk _ e=>e.imp id .inl).then V λi U e=>.inr (.inr e)⟩)
   clear he hS kr9;gi_wp2_with fail;exact⟨.none au.out.1,rfl,au.out.2⟩
  .have HE:=Hd he
   have hq:(((pre.length:Int)+1)==H)=false:=beq_false_of_ne he;clear he hS kr9;gi_wp2_with fail;refine⟨.none HALL.out.1,HALL.out.2.1,HALL.out.2.2.1,λj h1 V=>?_,HALL.out.2.2.2.2⟩;rw[List.length_append,List.length_singleton] at V;rcases Ua pre.length j with h3 | h3
   .obtain rfl:j=pre.length+1:=by omega
    have:=HE.out;intro e;apply this;omega
   .exact HALL.out.2.2.2.1 j h1 h3
end
end
section
open Go.RowKit Go.Shelf Go.Lib
def getE (M:List KV) (sp:Int) (key:List UInt8):(List UInt8 × Bool) × Int:=if Zea sp key then (Zv M (UInt8.ofNat sp.toNat::key),0) else (([],false),120)
section
variable {n : Nat} {c : Int} {o k : Nat} {M : List KV} {sq : Int} {X : Nat → Prop} {dv sv : Value} {w w' : World}
theorem kvget_st (h:St n c o k M sq X dv sv w) (sp:Int) (key:List UInt8):Calls Tryz.prog 22 #[sv,.int .i64 sp,.string ⟨key.toArray⟩] w λe w'=>e=.returned (txtR (getE M sp key).1.1 (getE M sp key).1.2 (getE M sp key).2)/\St n c o k M sq X dv sv w'/\Zb X w w':=by
 obtain⟨F,p,f,H,l,a,m,rfl,rfl,j,u,z,x⟩:=h.ex;have HRT:=Hd (kright_any w sp key)
 obtain⟨I,J,L,N,O,R⟩:=j.cells;obtain⟨G,q⟩:∃G,G=getE M sp key:=⟨_,rfl⟩;rw[<-q]
 cases d:Zea sp key with
 | false =>
  rw[d] at HRT;have g:G=(([],false),120):=by rw[q,getE,if_neg (by simp[d])]
  subst g;have HE:=Hd h
  clear h j u z x q d I J L N O;go_enter Tryz.func22,Tryz.ntmps22;go_wp2_with fail;refine HRT.out.mono ?_;rintro e A ⟨rfl,B⟩;obtain rfl:w=A:=B.symm;go_wp2_with fail;exact Vn (v:=txtR [] false 120) (by simp[results,Tryz.results22,go_sem]) rfl ⟨rfl,HE.out,Zb.refl _ _⟩
 | true =>
  rw[d] at HRT;have C:∃s:Nat,sp=(s:Int)/\s<=255/\key.length<=64:=by unfold Zea at d;simp only[Bool.and_eq_true,decide_eq_true_eq] at d;exact⟨sp.toNat,by omega,by omega,d.2.2⟩
  obtain⟨s,rfl,S,D⟩:=C;have g:G=(Zv M (UInt8.ofNat s::key),0):=by rw[q,getE,if_pos d];rfl
  subst g;have HG:=Hd (kget_ks j u s key S D)
  obtain⟨v,P⟩:∃v,v=(Zv M (UInt8.ofNat s::key)).1:=⟨_,rfl⟩;obtain⟨b,Q⟩:∃b,b=(Zv M (UInt8.ofNat s::key)).2:=⟨_,rfl⟩;dsimp only;rw[<-P,<-Q] at HG ⊢;have E:Hid (∀w',KS n (mK n) k c o F p H l sq (Yi wF M:Nat) 0 a a w' f->St n c o k M sq X F.ptr (stp l) w'):=Hd λw' D=>⟨⟨F,p,f,H,l,a,m,rfl,rfl,D,u,z,x⟩,h.n1,h.wl,h.sq0,h.kk⟩
  have T:=Hd x;clear h j u z x q d I J L N O P Q;go_enter Tryz.func22,Tryz.ntmps22;go_wp2_with fail;refine HRT.out.mono ?_;rintro e A ⟨rfl,B⟩;obtain rfl:w=A:=B.symm;go_wp2_with fail;refine HG.out.mono ?_;rintro e y ⟨rfl,r,t⟩;have HE:Hid (St n c o k M sq X F.ptr (stp l) y/\Zb X w y):=Hd ⟨E.out _ r,t.mono λi _ e=>(T.out i).2 (.inl (.inl e))⟩;have HH:=Hd (kheard_not y l 0 (.inl (by decide)));rw[show Qm 0=0 by decide] at HH
  clear r t HG R;go_wp2_with fail;refine HH.out.mono ?_;rintro e U ⟨rfl,j⟩;obtain rfl:y=U:=j.symm;go_wp2_with fail;exact Vn (v:=txtR v b 0) (by simp[results,Tryz.results22,go_sem]) rfl ⟨rfl,HE.out.1,HE.out.2⟩
end
end
section
open Go.RowKit Go.Shelf Go.Lib
variable {n:Nat}{F:Ft}
theorem Sim.holds {P:Pg} {R:Rp} {seq:Int} {B:List (List UInt8)} {b:List KV} {top:Nat} (h:Sim n P R seq B) (d:Tre R.abort b) (hl:P.J.last<=top) (ht:top<4611686018427387904):Holds n R.pages.length top b P.J.D:=by have a:=h.live;obtain⟨e,f,c⟩:=a.im;exact⟨a.flat,a.dok,a.hn,a.doff,ht,R,seq,B,⟨e,f,c.top hl ht⟩,h.onB,d,rfl⟩
theorem kformat_any {w:World} {D x:Dk} {J:Jn} (u:Xd w F D) (hnb:Nib w) (hn:D.n=n) (hn1:256<=n) (hn2:n<=1100) (v:D.format=(0,x)) (e2:x.openJ=(0,J)) (hl:Live n J 0 (zeroB n) Zeh) (h3:J.last<=1) (h4:J.D.cut<0) (h5:J.D.ops<=2*n+5):
  Calls Tryz.prog 26 #[F.ptr] w λe w'=>e=.returned (.int .i64 0)/\∃c,Xd w' F c/\Nib w'/\Holds n (mK n) 2 [] c/\c.cut=J.D.cut/\c.ops<=2*n+13/\Zb F.has w w':=by
 have a:=Hd (Zbt w F D u);rw[hn] at a;have O:decide ((n:Int)<256)=false:=Vb (by omega);have Q:decide (n<256)=false:=Vb (by omega);obtain⟨k,P,R,d⟩:=pformat_live hl (by omega) (by omega) h4 (by omega) (by omega);have l:(Rp.begun ((n - 2) / 2)).abort=Rp.begun ((n - 2) / 2):=rfl;have f:(Rp.begun ((n - 2) / 2)).pages.length=mK n:=by unfold Rp.begun mK;simp
 have m:Holds n (mK n) 2 [] k.D:=by have:=d.sim.holds (b:=[]) (top:=2) (by rw[l];exact tre_begun _) (by rw[d.pj];have:=d.last;omega) (by omega);rw[f,d.pj] at this;exact this
 have g:Hid (Holds n (mK n) 2 [] k.D/\k.D.cut=J.D.cut/\k.D.ops<=2*n+13):=Hd ⟨m,d.cut,by have:=d.ops;omega⟩;have HF:=Hd (format_any w F D u hnb);rw[v] at HF;have E2:=Hd e2;have y:J.D.n=n:=hl.hn;have z:Hid (∀W p,JAt W F p J->Nib W->Calls Tryz.prog 55 #[jptr p] W λe w'=>e=.returned (.int .i64 0)/\JAt w' F p k/\Zb (JT F p) W w'):=Hd λW p o G=>by have:=pformat_any W F p J o G (by omega) (by omega) (by rw[hl.hseq];decide) (by rw[hl.hseq];decide);rw[d.fmt] at this;exact this
 have C:=Hd (And.intro u hnb);have HTU:=Hd λW=>Zfz W 0;rw[show Qm 0=0 by decide] at HTU
 clear v e2 hl h3 h4 h5 d l f m y hn u hnb hn1 hn2;go_enter Tryz.func26,Tryz.ntmps26;go_wp2_with fail;refine a.out.mono ?_;rintro e H ⟨rfl,v⟩;obtain rfl:w=H:=v;go_wp2_with fail;refine HF.out.mono ?_;rintro e I ⟨rfl,h,A⟩;have HN2:=Hd (C.out.2.turnedD C.out.1 A)
 have q:=Hd (open_good I F x h HN2.out E2.out);have HD2:=Hd h;have HT2:=Hd A;clear h A HF a;go_wp2_with fail;refine q.out.mono ?_;rintro e L ⟨p,rfl,o,E,B⟩;have HN3:=Hd (HN2.out.turnedD HD2.out B);have HPW:=Hd (z.out L p o HN3.out);have HJ3:=Hd o;have HP:=Hd E;have HT3:=Hd (HT2.out.trans B);clear o E B q;go_wp2_with fail;refine HPW.out.mono ?_;rintro e r ⟨rfl,s,j⟩
 have t:Hid (∃c,Xd r F c/\Nib r/\Holds n (mK n) 2 [] c/\c.cut=J.D.cut/\c.ops<=2*n+13/\Zb F.has w r):=Hd ⟨k.D,s.disk,HN3.out.turned HJ3.out j,g.out.1,g.out.2.1,g.out.2.2,HT3.out.then j λi S e=>by
  rcases e with e | e
  .exact e
  .have:=HP.out;have:=HT2.out.size;omega⟩
 clear s j;go_wp2_with fail;refine(HTU.out r).mono ?_;rintro e M ⟨rfl,N⟩;obtain rfl:r=M:=N.symm;go_wp2_with fail;go_ret;exact⟨rfl,t.out⟩
theorem st_opened {k:Nat} {b M:List KV} {sq:Int} {w':World} {D:Dk} {p:Nat} {f:Pf} {tb sb c:Nat} {sums:Option (List UInt8)} (a:KS n (mK n) k D.cut c F p tb sb sq (Yi wF M:Nat) 0 b b w' f) (hE:Qe b M sums) (hS:SumsAre sums sq (Yi wF M:Nat)) (hn1:256<=n) (hn2:n<=1100) (hwl:Yi wF M<=6*n) (hsq:0<=sq/\sq<=(k:Int)) (hk:k<=1000000):
  St n D.cut c k M sq (λi=>KJ F p f sb i\/i=tb) F.ptr (stp sb) w':=⟨⟨F,p,f,tb,sb,b,sums,rfl,rfl,a,hE,hS,λi=>Iff.rfl⟩,⟨hn1,hn2⟩,hwl,hsq,hk⟩
theorem begun12_any (w:World) (hnb:Nib w) (n:Nat) (hn1:256<=n) (hn2:n<=1100):
  Calls Tryz.prog 12 #[.int .i64 (n:Int)] w λe r=>∃c o X d g,e=.returned (.tuple #[d,g])/\(∃F:Ft,d=F.ptr)/\(∃s,g=stp s)/\St n c o 0 [] 0 X d g r/\c<0/\o<=3*n+14/\Below w.heap.size w r/\∀i,X i->w.heap.size<=i:=by
 obtain⟨D1,J,R,S,T,U,G,V⟩:=begun_plain (n:=n) (by omega) (by omega);have H:Hid (∀W F,Xd W F (Dk.new n)->Nib W->Calls Tryz.prog 26 #[Ft.ptr F] W λe r=>e=.returned (.int .i64 0)/\∃a,Xd r F a/\Nib r/\Holds n (mK n) 2 [] a/\a.cut=J.D.cut/\a.ops<=2*n+13/\Zb F.has W r):=Hd λW F I L=>kformat_any I L rfl hn1 hn2 R S T U G V
 obtain⟨Y,Z,m3,m4⟩:=mK_le hn1 hn2;have N:Hid (∀W F D,Xd W F D->Nib W->Holds n (mK n) 2 [] D->D.ops<=2*n+13->Calls Tryz.prog 24 #[Ft.ptr F] W (KOpenEnd n (mK n) 0 [] 0 0 W F D)):=Hd λW F D I L hh ho=>kopen_any (k:=0) I L hh hn1 hn2 Y Z Qe.nil (.inl ⟨rfl,rfl,rfl⟩) ⟨by omega,by omega⟩ ⟨by omega,by omega⟩ (by omega)
 have b:=Hd (new_some w n ⟨by omega,by omega⟩);have HNB:=Hd hnb;have O:Hid (J.D.cut<0/\256<=n/\n<=1100):=Hd ⟨G,hn1,hn2⟩;clear R S T U G V Y Z m3 m4 hnb hn1 hn2;go_enter Tryz.func12,Tryz.ntmps12;go_wp2_with fail;refine b.out.mono ?_;rintro e w1 ⟨F,rfl,u,hF,h⟩;have HFW:=Hd (H.out w1 F u (HNB.out.below h));have HB1:=Hd h;have j:Hid (∀i,F.has i->w.heap.size<=i):=Hd λi t=>hF i t;clear u hF h b;go_wp2_with fail;refine HFW.out.mono ?_;rintro e w2 ⟨rfl,a,v,x,y,z,l,A⟩;have HOW:=Hd (N.out w2 F a v x y l);have m:Hid (a.cut<0/\a.ops<=2*n+13):=Hd ⟨by rw[z];exact O.out.1,l⟩;have q:Hid (Below w.heap.size w w2):=Hd (HB1.out.trans (A.below HB1.out.size j.out));clear v x y z l A HFW;go_wp2_with fail;refine HOW.out.mono ?_;rintro e w3 (⟨p,f,tb,sb,o',rfl,B,P,C,Q,E⟩ | ⟨hc,_⟩)
 .have HE:Hid (∃c o X d g,Ending.returned (.tuple #[F.ptr,stp sb])=Ending.returned (.tuple #[d,g])/\(∃F:Ft,d=F.ptr)/\(∃s,g=stp s)/\St n c o 0 [] 0 X d g w3/\c<0/\o<=3*n+14/\Below w.heap.size w w3/\∀i,X i->w.heap.size<=i):=Hd (by
   have hz:(0:Int)=((Yi wF []:Nat):Int):=rfl;refine⟨_,_,_,_,_,rfl,⟨F,rfl⟩,⟨sb,rfl⟩,st_opened (M:=[]) (sums:=none) B Qe.nil (.inl ⟨rfl,rfl,rfl⟩) O.out.2.1 O.out.2.2 (Vl _) ⟨Int.le_refl _,Int.le_refl _⟩ (by omega),m.out.1,by have:=m.out.2;omega,q.out.trans (E.below q.out.size j.out),λi t=>?_⟩;have h2:=q.out.size;rcases t with t | t
   .rcases C i t with e | e
    .exact j.out i e
    .omega
   .omega)
  clear B P C Q E HOW;go_wp2_with fail;go_ret2;exact HE.out
 .have:=m.out.1;omega
end
section
open Go.RowKit Go.Shelf Go.Lib
structure SL (N:Nat) (w0:World) (n:Nat) (c:Int) (o k:Nat) (M:List KV) (sq:Int) (X:Nat->Prop) (dv sv:Value) (w:World):Prop where
 st:St n c o k M sq X dv sv w
 own:∀i,X i->N<=i
 below:Below N w0 w
 base:N<=w.heap.size
section
variable {N : Nat} {w0 : World} {n : Nat} {c : Int} {o o' k k' : Nat} {M M' : List KV} {sq sq' : Int} {X X' : Nat → Prop} {dv sv : Value} {w w' : World}
theorem SL.step (h:SL N w0 n c o k M sq X dv sv w) (hb:Below w.heap.size w w'):SL N w0 n c o k M sq X dv sv w':=⟨h.st.step hb,h.own,h.below.trans (hb.mono h.base),Vk h.base hb.size⟩
theorem SL.to (h:SL N w0 n c o k M sq X dv sv w) (h2:St n c o' k' M' sq' X' dv sv w') (hx:∀i,X' i->X i\/w.heap.size<=i) (ht:Zb X w w'):SL N w0 n c o' k' M' sq' X' dv sv w' :=
 ⟨h2,λi a=>(hx i a).elim (h.own i) λe=>Vk h.base e,h.below.trans (ht.below h.base h.own),Vk h.base ht.size⟩
theorem SL.read (h:SL N w0 n c o k M sq X dv sv w) (h2:St n c o k M sq X dv sv w') (ht:Zb X w w'):SL N w0 n c o k M sq X dv sv w':=h.to h2 (λ_ a=>.inl a) ht
theorem Zho (h:SL N w0 n c o k M sq X dv sv w) (hc:c<0) (l:o+(8+16*mK n)<=1048576) (hk:k<1000000) {v:Value} {ps:List Ya} (hv:Zbe.Is w v ps) (a:∀i,v.ownBlock=some i->¬X i) (hl:ps.length<=12) :
  Calls Tryz.prog 20 #[sv,v] w λe w'=>e=.returned (.int .i64 (commitE (6*n) M ps))/\Zb X w w' /\
   (((commitE (6*n) M ps≠0\/ps=[])/\SL N w0 n c o k M sq X dv sv w')\/((commitE (6*n) M ps=0/\ps≠[])/\∃o' X',o'<=o+(8+16*mK n)/\SL N w0 n c o' (k+1) (Zbw M ps) (sq+1) X' dv sv w'/\∀i,X' i->X i\/w.heap.size<=i)):=by
 refine(kcommit_st h.st hc l hk hv a hl).mono ?_;rintro e w' ⟨g,b,⟨d,f⟩ | ⟨d,o',X',f,m,j⟩⟩
 .exact⟨g,b,.inl ⟨d,h.read f b⟩⟩
 .exact⟨g,b,.inr ⟨d,o',X',f,h.to m j b,j⟩⟩
end
theorem begun12_sl {N:Nat} {w0 w:World} (hnb:Nib w) (hb:Below N w0 w) (hN:N<=w.heap.size) (n:Nat) (hn1:256<=n) (hn2:n<=1100) :
  Calls Tryz.prog 12 #[.int .i64 (n:Int)] w λe w'=>∃c o X dv s,e=.returned (.tuple #[dv,stp s])/\SL N w0 n c o 0 [] 0 X dv (stp s) w'/\c<0/\o<=3*n+14/\Below w.heap.size w w'/\∀i,X i->w.heap.size<=i:=by
 refine(begun12_any w hnb n hn1 hn2).mono ?_;rintro e w' ⟨c,o,X,dv,sv,rfl,_,⟨s,rfl⟩,d,f,g,a,b⟩;exact⟨c,o,X,dv,s,rfl,⟨d,λi h=>Vk hN (b i h),hb.trans (a.mono hN),Vk hN a.size⟩,f,g,a,b⟩
end
end Go.Proofs.YtfaobkmojlhbnaaGreatDoor
