/- Contracts of the functions that the statements of this seat reach, part 21: each says what the call answers and what it leaves of the memory. -/
import Derived.Test.YtfaobkmojlhbnaaGreatDoorZR18
import Derived.Test.YtfaobkmojlhbnaaGreatDoorZR19
import Derived.Lib.AppendZeros
set_option linter.unusedVariables false
set_option linter.unusedSimpArgs false
set_option maxRecDepth 100000
set_option maxHeartbeats 64000000
namespace Go.Proofs.YtfaobkmojlhbnaaGreatDoor
section
open Go.RowKit Go.Shelf Go.Lib
structure SumAt (KSw:World->Prop) (mp:Nat) (kv:List ((Int × List UInt8) × Value)) (g g2:Nat) (P:Ya) (W:World):Prop where
 ks:KSw W
 map:VMap nmV W mp kv
 box:W.heap[g]?=some (.cells #[.int .i64 P.sp,.string ⟨P.key.toArray⟩,.string ⟨P.val.toArray⟩,.bool P.gone] 66)
 nbx:W.heap[g2]?=some (.cells #[.int .i64 P.sp,.string ⟨P.key.toArray⟩] 130)
theorem run_makeMap_nm (w:World):(Instr.makeMap 128 none).run Tryz.prog w=.ok (.map (some w.heap.size)) (w.alloc (.map #[] 0)):=by rfl
section
variable {n m k : Nat} {c : Int} {o : Nat} {F : Ft} {p tb sb : Nat} {sq wt off : Int} {a b M : List KV} {sums : Option (List UInt8)} {w : World} {f : Pf}
theorem ksum_any (h:KS n m k c o F p tb sb sq wt off a b w f) (hE:Qe a M sums) (hwt:wt=(Yi wF M:Nat)) (aQ:Yi wF M<=1000000) {v:Value} {ps:List Ya} (hv:Zbe.Is w v ps) (ae:∀i,v.ownBlock=some i->¬PJ F p f i) (hr:∀q∈ps,q.right=true) (hl:ps.length<=1000) :
  Calls Tryz.prog 39 #[stp sb,v] w λe w'=>e=.returned (.tuple #[.int .i64 (Yi wF (Zbw M ps):Nat),.int .i64 0])/\KS n m k c o F p tb sb sq wt off a b w' f/\Zb (PJ F p f) w w':=by
 obtain⟨va,vc,rfl,aR,aI⟩:=hv.form;unfold maxLen at aI;have HV:Hid (∀W,Zb (PJ F p f) w W->Zbe.Is W (.slice va ps.length vc) ps):=Hd λW ht=>hv.turned ht ae
 have aq:Hid (∀(W:World) (sp:Nat) (O:List UInt8),sp<=255->O.length<=64->KS n m k c o F p tb sb sq wt off a b W f->Calls Tryz.prog 45 #[stp sb,.int .i64 (sp:Int),.string ⟨O.toArray⟩] W λe w'=>e=.returned (txtR (Zv M (UInt8.ofNat sp::O)).1 (Zv M (UInt8.ofNat sp::O)).2 0)/\KS n m k c o F p tb sb sq wt off a b w' f/\Zb (PJ F p f) W w'):=Hd λW sp O h1 h2 U=>kget_ks U hE sp O h1 h2;have HM:=Hd hE.rise;have ar:Hid (∀x∈M,x.2.length<=4096):=Hd hE.val;have HR:=Hd hr;have aJ:Hid (∀i,PJ F p f i->i<w.heap.size):=Hd λi hi=>h.lt (.inl hi)
 have aK:Hid (∀W W',KS n m k c o F p tb sb sq wt off a b W f->Zb (·=w.heap.size) W W'->KS n m k c o F p tb sb sq wt off a b W' f):=Hd λW W' hk ht=>hk.turned ht (λi hi e=>by
  have aS:i<w.heap.size:=hi.elim (λx=>h.lt x) λx=>by rw[x];exact h.pk.tlt.2.2.1
  omega) λe=>by have:=h.pk.tlt.1;omega
 have c4:=h.cells.2.2.2.2.1;have aL:(w.alloc (.map #[] 0)).cell? ⟨sb,4,none⟩=some (.int .i64 wt):=Zi ((Ve _ _).alloc (Va _) _) _ _ c4;have HW:=Hd hwt;have aj:Below w.heap.size w (w.alloc (.map #[] 0)):=(Ve _ _).alloc (Va _) _;have a4:Hid (KS n m k c o F p tb sb sq wt off a b (w.alloc (.map #[] 0)) f/\VMap nmV (w.alloc (.map #[] 0)) w.heap.size []/\Zb (PJ F p f) w (w.alloc (.map #[] 0))):=Hd ⟨h.step aj,VMap.made w,Zb.of_below aj⟩;have hmk:=run_makeMap_nm w;have aT:Hid (sb<w.heap.size/\w.heap.size+1=(w.alloc (.map #[] 0)).heap.size):=Hd ⟨Za h.head,by simp⟩;clear aj hE hwt hr h hv ae;go_enter Tryz.func39,Tryz.ntmps39;go_wp2_with fail;clear hmk aL c4;go_loopw [7,24] (λy x wr=>∃(i:Nat) (C:List ((Int × List UInt8) × Value)),i<=ps.length/\x=.int .i64 (i:Int)/\y=.int .i64 (Yi wF (Zbw M (ps.take i)):Nat)/\Zes M ps i C/\VMap nmV wr w.heap.size C/\KS n m k c o F p tb sb sq wt off a b wr f/\Zb (PJ F p f) w wr) (λ_ x _=>ps.length - (intOf x).toNat)
 case atStart=>exact⟨0,[],Vl _,rfl,by rw[HW.out];rfl,Zes.zero M ps,a4.out.2.1,a4.out.1,a4.out.2.2⟩
 case round =>
  clear a4;obtain⟨i,C,aM,rfl,rfl,a5,t,a6,u⟩:=hrel;by_cases A:i<ps.length
  .have e1:decide ((i:Int)<(ps.length:Int))=true:=Vd (by omega)
   obtain⟨e0,e2⟩:(0:Int)<=(i:Int)/\(i:Int)<(ps.length:Int):=by omega
   have aU:IntKind.i64.wrap ((i:Int)+1)=(i:Int)+1:=Vf _ (by omega);obtain⟨vb,vo,rfl,k0,k1,k2,k3⟩:=put_at (HV.out _ u) i A;obtain⟨P,hP⟩:∃P,P=ps[i]:=⟨_,rfl⟩;rw[<-hP] at k0 k1 k2 k3;have ak:P.right=true:=by rw[hP];exact HR.out _ (Vo A)
   obtain⟨b1,b2,b3,b4,b5⟩:=Zay ak;obtain⟨s,hs⟩:∃s:Nat,P.sp=(s:Int):=⟨P.sp.toNat,by omega⟩;have hMi:=Zgn (ps.take i) HM.out
   obtain⟨Mi,r⟩:∃Mi,Mi=Zbw M (ps.take i):=⟨_,rfl⟩;have al:Yi wF Mi<=7000000:=by have:=sum_bound HM.out (ps.take i) λq hq=>HR.out q (Vr hq);rw[List.length_take] at this;rw[r];omega
   rw[<-r] at hMi ⊢;have hwl:=wM_le hMi ak
   have I:=wM_app hMi P;have D:Zbw M (ps.take (i+1))=appP Mi P:=by rw[Zhb ps i A,appA_snoc,<-r,hP]
   have aV:=Hd D;obtain⟨g,l⟩:∃g,g=wOf Mi P.name:=⟨_,rfl⟩;have au:(∃q∈ps.take i,(q.sp,q.key)=(P.sp,P.key))\/¬∃q∈ps.take i,(q.sp,q.key)=(P.sp,P.key):=Classical.em _
   have av:Hid ((Zbv C (P.sp,P.key)=some (.int .i64 (g:Int)))\/(Zbv C (P.sp,P.key)=none/\g=wOf M P.name)):=Hd (by
    have hz:=a5 (P.sp,P.key);rcases au with hm | hm
    .rw[if_pos hm,<-r] at hz;exact .inl (by rw[hz,l];rfl)
    .rw[if_neg hm] at hz
     refine .inr ⟨hz,?_⟩;rw[l,r,hP]
     exact Zes.free HM.out A HR.out (by rw[<-hP];exact hm))
   have E:Hid (∀G,(∀x,Zbv G x=if x=(P.sp,P.key) then some (.int .i64 (P.w:Nat)) else Zbv C x)->Zes M ps (i+1) G):=Hd λG U=>a5.step HM.out A HR.out (by rw[<-hP];exact U)
   obtain⟨T,aw⟩:∃T,T=Yi wF Mi:=⟨_,rfl⟩;obtain⟨SN,am⟩:∃SN,SN=Yi wF (appP Mi P):=⟨_,rfl⟩;obtain⟨H,a7⟩:∃H,H=P.w:=⟨_,rfl⟩;rw[<-aw] at al I hwl ⊢;rw[<-am,<-a7,<-l] at I hwl;have ax:Hid (SN+g=T+H/\T<=7000000/\SN<=T+6000/\H<=6000/\g<=T):=Hd ⟨I,al,hwl⟩
   have af:Hid (SN=Yi wF (Zbw M (ps.take (i+1)))):=Hd (by rw[D,am])
   have ay:Hid (H=if P.gone then 0 else wK P.key P.val.length):=Hd (by rw[a7];unfold Ya.w;split<;>rfl)
   have HN:Hid (P.name=UInt8.ofNat s::P.key):=Hd (by unfold Ya.name Ya.s;rw[hs];rfl);rw[<-a7] at E;have HB:Hid (P.key.length<=64/\P.val.length<=4096/\s<=255/\P.sp=(s:Int)):=Hd ⟨b3,b4,by omega,hs⟩;obtain⟨W1,Q⟩:∃W1,W1=wr.alloc (.cells #[.int .i64 P.sp,.string ⟨P.key.toArray⟩,.string ⟨P.val.toArray⟩,.bool P.gone] 66):=⟨_,rfl⟩;obtain⟨W2,X⟩:∃W2,W2=W1.alloc (.cells #[.int .i64 P.sp,.string ⟨P.key.toArray⟩] 130):=⟨_,rfl⟩;have az:W1.heap.size=wr.heap.size+1:=by rw[Q];simp
   have aA:Below wr.heap.size wr W1:=by rw[Q];exact(Ve _ _).alloc (Va _) _
   have an:Below W1.heap.size W1 W2:=by rw[X];exact(Ve _ _).alloc (Va _) _
   have J:Below wr.heap.size wr W2:=aA.trans (an.mono (by omega));have aB:W1.heap[wr.heap.size]?=some (.cells #[.int .i64 P.sp,.string ⟨P.key.toArray⟩,.string ⟨P.val.toArray⟩,.bool P.gone] 66):=by rw[Q];exact Vg wr _
   have Y:Hid (SumAt (λW=>KS n m k c o F p tb sb sq wt off a b W f) w.heap.size C wr.heap.size (wr.heap.size+1) P W2):=Hd ⟨a6.step J,t.keep (J.block _ t.lt),(an.block _ (by omega)).trans aB,by rw[<-az,X];exact Vg W1 _⟩;have aC:Hid (Zb (PJ F p f) w W2):=Hd (u.trans (Zb.of_below J));have aD:Hid (w.heap.size<wr.heap.size):=Hd t.lt;have hlkr:=Y.out.map.run_look_ok keyed_nm Tryz.underlying128 (.int .i64 0) (λw=>by rfl) (P.sp,P.key);clear aA an J aB a6 t u a5 hP ak b1 b2 b3 b4 b5 hMi r al hwl I D l au aw am a7;obtain⟨a8,L⟩:∃a8,a8=(Zbv C (P.sp,P.key)).isSome:=⟨_,rfl⟩;obtain⟨z0,a9⟩:∃z0,z0=(Zbv C (P.sp,P.key)).getD (.int .i64 0):=⟨_,rfl⟩;rw[<-L,<-a9,X,Q] at hlkr
   have aN:Hid ((a8=true/\z0=.int .i64 (g:Int))\/(a8=false/\z0=.int .i64 0/\g=wOf M P.name)):=Hd (by
    rcases av.out with U | ⟨U,aO⟩
    .exact .inl ⟨by rw[L,U];rfl,by rw[a9,U];rfl⟩
    .exact .inr ⟨by rw[L,U];rfl,by rw[a9,U];rfl,aO⟩)
   clear L a9 av az hs;go_upto_if 40 with fail;rw[<-Q,<-X];clear hlkr Q X;go_cut [11] (λx wx=>x=.int .i64 (g:Int)/\SumAt (λW=>KS n m k c o F p tb sb sq wt off a b W f) w.heap.size C wr.heap.size (wr.heap.size+1) P wx/\Zb (PJ F p f) w wx)
   case first =>
    rcases aN.out with ⟨rfl,rfl⟩ | ⟨rfl,rfl,l⟩
    .go_wp2_with fail;go_meet;exact⟨rfl,Y.out,aC.out⟩
    .have hbx:=Y.out.box
     have q0:W2.cell? ⟨wr.heap.size,0,none⟩=some (.int .i64 P.sp):=by rw[Vc _ _ _ _ _ _ hbx];rfl
     have q1:W2.cell? ⟨wr.heap.size,1,none⟩=some (.string ⟨P.key.toArray⟩):=by rw[Vc _ _ _ _ _ _ hbx];rfl
     have ao:=Hd (aq.out W2 s P.key HB.out.2.2.1 HB.out.1 Y.out.ks);have hsp:=HB.out.2.2.2;rw[<-HN.out] at ao;rw[hsp] at q0;have HWAS:=Hd l;clear l hbx hsp;go_wp2_with fail;refine ao.out.mono ?_;rintro e w3 ⟨rfl,aE,Z⟩
     have ap:Hid (SumAt (λW=>KS n m k c o F p tb sb sq wt off a b W f) w.heap.size C wr.heap.size (wr.heap.size+1) P w3):=Hd (by
      have hn:∀i,w.heap.size<=i->¬PJ F p f i:=λi hi U=>by have:=aJ.out i U;omega
      have h1:=Y.out;have hz:=aD.out
      exact⟨aE,h1.map.keep (Z.block _ h1.map.lt (hn _ (Va _))),(Z.block _ (Za h1.box) (hn _ (by omega))).trans h1.box,(Z.block _ (Za h1.nbx) (hn _ (by omega))).trans h1.nbx⟩)
     have ag:Hid (Zb (PJ F p f) w w3):=Hd (aC.out.trans Z);clear aE Z ao q0 q1
     cases a0:(Zv M P.name).2 with
     | false =>
      have aa:g=0:=by rw[HWAS.out];unfold wOf;rw[a0];rfl
      subst aa;clear a0 HWAS;go_wp2_with fail;go_meet;exact⟨rfl,ap.out,ag.out⟩
     | true =>
      obtain⟨V,hV⟩:∃V,V=(Zv M P.name).1:=⟨_,rfl⟩;rw[<-hV];have aF:V.length<=4096:=by rw[hV];exact ar.out _ (Zcu a0)
      have aa:g=wK P.key V.length:=by rw[HWAS.out];unfold wOf;rw[a0,if_pos rfl,<-hV];rfl
      have q1:w3.cell? ⟨wr.heap.size,1,none⟩=some (.string ⟨P.key.toArray⟩):=by rw[Vc _ _ _ _ _ _ ap.out.box];rfl
      have HWT:=Hd (Zic w3 P.key V.length HB.out.1 aF);rw[<-aa] at HWT;clear a0 HWAS aa hV aF;go_wp2_with fail;refine HWT.out.mono ?_;rintro e B ⟨rfl,e4⟩;obtain rfl:w3=B:=e4.symm;go_wp2_with fail;go_meet;exact⟨rfl,ap.out,ag.out⟩
   obtain⟨rfl,ab,u⟩:=hcut
   have ah:Hid (∀(W:World) (G:List ((Int × List UInt8) × Value)) (z:Value),SumAt (λW=>KS n m k c o F p tb sb sq wt off a b W f) w.heap.size G wr.heap.size (wr.heap.size+1) P W->Zb (PJ F p f) w W->∃W',(Instr.mapUpdate 128 (.map (some w.heap.size)) (nmV (P.sp,P.key)) z).run Tryz.prog W=.ok () W'/\SumAt (λW=>KS n m k c o F p tb sb sq wt off a b W f) w.heap.size (vSet G (P.sp,P.key) z) wr.heap.size (wr.heap.size+1) P W'/\Zb (PJ F p f) w W'):=Hd λW G z ha ht=>by
    obtain⟨W',r1,r2,r3⟩:=ha.map.run_put keyed_nm Tryz.underlying128 (P.sp,P.key) z;have hz:=aD.out
    exact⟨W',r1,⟨aK.out _ _ ha.ks r3,r2,(r3.block _ (Za ha.box) (by omega)).trans ha.box,(r3.block _ (Za ha.nbx) (by omega)).trans ha.nbx⟩,ht.then r3 λi hi e=>by omega⟩
   obtain⟨B,r4,d,N⟩:=ah.out wc C (.int .i64 0) ab u;have n0:wc.cell? ⟨wr.heap.size+1,0,none⟩=some (.int .i64 P.sp):=by rw[Vc _ _ _ _ _ _ ab.nbx];rfl
   have n1:wc.cell? ⟨wr.heap.size+1,1,none⟩=some (.string ⟨P.key.toArray⟩):=by rw[Vc _ _ _ _ _ _ ab.nbx];rfl
   have m0:B.cell? ⟨wr.heap.size+1,0,none⟩=some (.int .i64 P.sp):=by rw[Vc _ _ _ _ _ _ d.nbx];rfl
   have m1:B.cell? ⟨wr.heap.size+1,1,none⟩=some (.string ⟨P.key.toArray⟩):=by rw[Vc _ _ _ _ _ _ d.nbx];rfl
   have x1:B.cell? ⟨wr.heap.size,1,none⟩=some (.string ⟨P.key.toArray⟩):=by rw[Vc _ _ _ _ _ _ d.box];rfl
   have x2:B.cell? ⟨wr.heap.size,2,none⟩=some (.string ⟨P.val.toArray⟩):=by rw[Vc _ _ _ _ _ _ d.box];rfl
   have x3:B.cell? ⟨wr.heap.size,3,none⟩=some (.bool P.gone):=by rw[Vc _ _ _ _ _ _ d.box];rfl
   obtain⟨ad,a1⟩:∃q,q=Yi wF (Zbw M (ps.take (i+1))):=⟨_,rfl⟩;rw[<-a1] at af;have HNUM:=Hd (show ad+g=T+H/\T<=7000000/\ad<=T+6000/\H<=6000/\g<=T by rw[<-af.out];exact ax.out)
   have aG:=Hd a1;clear ab u a1
   cases R:P.gone with
   | true =>
    have a2:H=0:=by rw[ay.out,R,if_pos rfl]
    rw[R] at x3;have hlk:=d.map.run_look keyed_nm Tryz.underlying128 (.int .i64 0) (λw=>by rfl) (P.sp,P.key)
    rw[Zec,if_pos rfl,Option.getD_some] at hlk;have a3:Hid (Zes M ps (i+1) (vSet C (P.sp,P.key) (.int .i64 0))/\VMap nmV B w.heap.size (vSet C (P.sp,P.key) (.int .i64 0))/\KS n m k c o F p tb sb sq wt off a b B f/\Zb (PJ F p f) w B):=Hd ⟨E.out _ λx=>by rw[Zec,a2];rfl,d.map,d.ks,N⟩
    have g1:IntKind.i64.wrap (0 - (g:Int))=-(g:Int):=by rw[Vf _ (by have:=HNUM.out;omega)];omega
    have aW:IntKind.i64.wrap (-(g:Int))=-(g:Int):=Vf _ (by have:=HNUM.out;omega);have g2:IntKind.i64.wrap ((T:Int)+-(g:Int))=(ad:Int):=by rw[Vf _ (by have:=HNUM.out;omega)];have:=HNUM.out;omega
    clear d N a2 R;go_wp2_with fail;go_roundw
    case rel=>exact⟨i+1,_,A,by go_num,by rw[aG.out],a3.out⟩
    case measure=>simp[intOf];omega
   | false =>
    have a2:H=wK P.key P.val.length:=by rw[ay.out,R,if_neg (by simp)]
    rw[R] at x3;have HWT:=Hd (Zic B.drew P.key P.val.length HB.out.1 HB.out.2.1)
    rw[<-a2] at HWT;obtain⟨w5,r5,j,ai⟩:=ah.out B.drew _ (.int .i64 (H:Int)) ⟨d.ks.step (Ve _ _).drew,d.map.keep rfl,d.box,d.nbx⟩ N.drew;have hlk:=j.map.run_look keyed_nm Tryz.underlying128 (.int .i64 0) (λw=>by rfl) (P.sp,P.key)
    rw[Zec,if_pos rfl,Option.getD_some] at hlk;have y0:w5.cell? ⟨wr.heap.size+1,0,none⟩=some (.int .i64 P.sp):=by rw[Vc _ _ _ _ _ _ j.nbx];rfl
    have z1:w5.cell? ⟨wr.heap.size,1,none⟩=some (.string ⟨P.key.toArray⟩):=by rw[Vc _ _ _ _ _ _ j.box];rfl
    have z2:w5.cell? ⟨wr.heap.size,2,none⟩=some (.string ⟨P.val.toArray⟩):=by rw[Vc _ _ _ _ _ _ j.box];rfl
    have y1:w5.cell? ⟨wr.heap.size+1,1,none⟩=some (.string ⟨P.key.toArray⟩):=by rw[Vc _ _ _ _ _ _ j.nbx];rfl
    have a3:Hid (Zes M ps (i+1) (vSet (vSet C (P.sp,P.key) (.int .i64 0)) (P.sp,P.key) (.int .i64 (H:Int)))/\VMap nmV w5 w.heap.size (vSet (vSet C (P.sp,P.key) (.int .i64 0)) (P.sp,P.key) (.int .i64 (H:Int)))/\KS n m k c o F p tb sb sq wt off a b w5 f/\Zb (PJ F p f) w w5):=Hd ⟨E.out _ λx=>by
     rw[Zec,Zec]
     split<;>rfl,j.map,j.ks,ai⟩
    have g1:IntKind.i64.wrap ((H:Int) - (g:Int))=(H:Int) - (g:Int):=Vf _ (by have:=HNUM.out;omega);have g2:IntKind.i64.wrap ((T:Int)+((H:Int) - (g:Int)))=(ad:Int):=by rw[Vf _ (by have:=HNUM.out;omega)];have:=HNUM.out;omega
    have aP:Hid ((w5.cell? ⟨wr.heap.size+1,0,none⟩=some (.int .i64 P.sp))/\(w5.cell? ⟨wr.heap.size+1,1,none⟩=some (.string ⟨P.key.toArray⟩))/\(w5.cell? ⟨wr.heap.size,1,none⟩=some (.string ⟨P.key.toArray⟩))/\(w5.cell? ⟨wr.heap.size,2,none⟩=some (.string ⟨P.val.toArray⟩))):=Hd ⟨y0,y1,z1,z2⟩;have aH:(B.cell? ⟨wr.heap.size+1,0,none⟩=some (.int .i64 P.sp))/\(B.cell? ⟨wr.heap.size+1,1,none⟩=some (.string ⟨P.key.toArray⟩))/\(B.cell? ⟨wr.heap.size,1,none⟩=some (.string ⟨P.key.toArray⟩))/\(B.cell? ⟨wr.heap.size,2,none⟩=some (.string ⟨P.val.toArray⟩)):=⟨m0,m1,x1,x2⟩;clear d N a2 R j ai;go_wp2_with fail;refine rgA (S:=(λW:World=>(W.cell? ⟨wr.heap.size+1,0,none⟩=some (.int .i64 P.sp))/\(W.cell? ⟨wr.heap.size+1,1,none⟩=some (.string ⟨P.key.toArray⟩))/\(W.cell? ⟨wr.heap.size,1,none⟩=some (.string ⟨P.key.toArray⟩))/\(W.cell? ⟨wr.heap.size,2,none⟩=some (.string ⟨P.val.toArray⟩)))) aH (λhH=>?_);refine tdI [0,1,2,3,4,5,6] ?_
    iterate 7
     refine tdS (v:=?_) ?_ hH ?_;rotate_left
     .rintro w ⟨u0,u1,u2,u3⟩;go_simp;try with_reducible rfl
     try simp only[Act.put,zA,zB,zC]
    refine tdE ?_;refine rdA 7 rfl (λK hK=>?_);go_simp;refine HWT.out.mono ?_;rintro e w6 ⟨rfl,e6⟩;obtain rfl:B.drew=w6:=e6.symm;go_wp2_with fail;refine hK.out _ _ hH (λhH=>?_);clear hK K;try simp only[Act.put,zA,zB,zC]
    refine rdA 8 rfl (λK hK=>?_);go_simp;refine hK.out _ _ aP.out (λhH=>?_);clear hK K;try simp only[Act.put,zA,zB,zC]
    refine dnA ?_;clear hH aH;go_wp2_with fail;go_roundw
    case rel=>exact⟨i+1,_,A,by go_num,by rw[aG.out],a3.out⟩
    case measure=>simp[intOf];omega
  .obtain rfl:i=ps.length:=by omega
   have e1:decide ((ps.length:Int)<(ps.length:Int))=false:=Vb (by omega);have e3:decide (ps.length<ps.length)=false:=Vb (by omega);have HE:Hid (KS n m k c o F p tb sb sq wt off a b wr f/\Zb (PJ F p f) w wr):=Hd ⟨a6,u⟩;rw[List.take_length];clear a5 t a6 u aM A;go_wp2_with fail;go_ret2;exact⟨rfl,HE.out⟩
end
end
end Go.Proofs.YtfaobkmojlhbnaaGreatDoor
