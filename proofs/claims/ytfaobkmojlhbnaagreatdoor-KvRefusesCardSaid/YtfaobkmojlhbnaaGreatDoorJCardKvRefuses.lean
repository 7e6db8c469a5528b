/- The card CardKvRefuses: for every input the law answers true, and what came in reads as it did; with what it needs ahead. -/
import Derived.Test.YtfaobkmojlhbnaaGreatDoorZR26
import Derived.Test.YtfaobkmojlhbnaaGreatDoorZR27
import Derived.Deep.Cut
import Derived.Deep.DeepCutAuto
import Derived.Deep.CutBlock
import Derived.Deep.CutRange
import Derived.Lib.AppendZeros
import Derived.Test.YtfaobkmojlhbnaaGreatDoorCards
import Derived.Test.YtfaobkmojlhbnaaGreatDoorTie
set_option linter.unusedVariables false
set_option linter.unusedSimpArgs false
set_option maxRecDepth 100000
set_option maxHeartbeats 64000000
namespace Go.Proofs.YtfaobkmojlhbnaaGreatDoor
section
open Go.RowKit Go.Shelf Go.Lib
variable {w0 w:World}{dv sv:Value}{N n k:Nat}
attribute [local go_sem] Oper.semAt_some
def Kd (N:Nat) (w0:World) (n k:Nat) (dv sv:Value) (w:World):Prop:=∃c o q M sq X,c<0/\o<=3*n+14+k*(8+16*mK n)/\q<=k/\SL N w0 n c o q M sq X dv sv w
theorem Kd.mono {a:Nat} (h:Kd N w0 n k dv sv w) (hk:k<=a):Kd N w0 n a dv sv w:=by obtain⟨c,o,q,M,b,X,d,f,g,e⟩:=h;exact⟨c,o,q,M,b,X,d,by have:=Ug (8+16*mK n) hk;omega,by omega,e⟩
theorem kcommit_kd {w':World} (h:Kd N w0 n k dv sv w) (hn:n<=1055) (hk:k<=40) {v:Value} {ps:List Ya} (hb:Below w.heap.size w w') (hv:Zbe.Mine w.heap.size w' v ps) (hl:ps.length<=12):
  Calls Tryz.prog 20 #[sv,v] w' λe w'=>∃z,e=.returned (.int .i64 z)/\Kd N w0 n (k+1) dv sv w':=by
 obtain⟨c,o,q,M,f,X,b,s,t,a⟩:=h;have hm:=mK_le a.st.n1.1 a.st.n1.2
 have d:(k+1)*(8+16*mK n)=k*(8+16*mK n)+(8+16*mK n):=Nat.succ_mul _ _;have j:k*(8+16*mK n)<=40*1063:=Nat.mul_le_mul hk (by omega);refine(Zho (a.step hb) b (by omega) (by omega) hv.is (λi l e=>by have:=(hv.lt l).1;have:=a.st.lt e;omega) hl).mono ?_;rintro e u ⟨rfl,_,⟨_,g⟩ | ⟨_,m,p,x,r,_⟩⟩
 .exact⟨_,rfl,c,o,q,M,f,X,b,by omega,by omega,g⟩
 .exact⟨_,rfl,c,m,q+1,_,_,p,b,by omega,by omega,r⟩
structure L2 (N2 N:Nat) (w0:World) (n:Nat) (c:Int) (o q:Nat) (M:List KV) (sq:Int) (X:Nat->Prop) (dv sv:Value) (j g:Nat) (vw:Value) (rows:List Rw) (Dl:List Nat) (W:World):Prop where
 sl:SL N w0 n c o q M sq X dv sv W
 low:N2<=g
 box:W.heap[g]?=some (izO (j:Int))
 was:Was N2 M vw rows W
 len:rows.length=j
 mks:Zew N2 Dl W
theorem kvrefuses_walk (w:World) (hn:Nib w) (sc:Int) (h1:-9223372036854775808<=sc) (h2:sc<=9223372036854775807) (v:Value) (xs:List (List PutR)) (hv:Zei rdPutRs w v xs) (v':Value) (ys:List PutR) (aE:Zei rdPutR w v' ys) (aa:Bool):
  Calls Tryz.prog 8 #[.int .i64 sc,v,v',.bool aa] w λe w'=>e=.returned (.bool true)/\Below w.heap.size w w':=by
 obtain⟨a,b7,rfl,cc,a1⟩:=hv.form;obtain⟨ay,cy,rfl,c8,b8⟩:=aE.form;unfold maxLen at a1 b8;have HSH:=Hd (shown12_any w hn)
 have aF:=Hd (λw=>size12_any w sc h1 h2);have hn1:=sizeK_le sc;generalize sizeK sc=n at aF hn1;have HV:=Hd hv;have HV':=Hd aE;have HN:=Hd hn;have ak:Hid (256<=n/\n<=1055):=Hd hn1;clear hv aE hn hn1;refine Un (n:=3).1 ?_;refine callsIn_of_wp_marks Tryz.func8 rfl trivial ?_ rfl;simp only[Tryz.ntmps8,List.size_toArray,List.length_cons,List.length_nil,Nat.reduceAdd,Nat.reduceSub,Array.replicate_succ,Array.replicate_zero,List.push_toArray,List.append_toArray,List.nil_append,List.cons_append];refine wpIn_wide.2 ?_;go_wp2_with fail;refine HSH.out.mono ?_;rintro e l ⟨rfl,I⟩;have HBG:=Hd (begun12_sl (N:=l.heap.size) (w0:=l) (HN.out.below I) (Ve _ _) (Va _) n ak.out.1 (by have:=ak.out.2;omega));have HB1:=Hd I;clear I;go_wp2_with fail;refine(aF.out _).mono ?_;rintro e w2 ⟨rfl,e2⟩;obtain rfl:l=w2:=e2;go_wp2_with fail;refine HBG.out.mono ?_;rintro e w3 ⟨c,o,X,dv,sb,rfl,hs3,hc,ho,bS,hX⟩;have HK:Hid (Kd l.heap.size l n 0 dv (stp sb) w3):=Hd ⟨c,o,0,_,_,X,hc,by omega,Va _,hs3⟩;clear hs3 hc ho bS hX HSH HBG aF;go_upto_block 0 with fail;go_cut [] from 12 to 147 (λwx=>Kd l.heap.size l n 8 dv (stp sb) wx)
 case first =>
  go_wp2_with fail;go_loopw [12] (λi wr=>∃(k:Nat),k<=xs.length/\k<=8/\i=.int .i64 (k:Int)/\Kd l.heap.size l n k dv (stp sb) wr) (λi _=>xs.length - (intOf i).toNat)
  case atStart=>exact⟨0,Vl _,Vl _,rfl,HK.out⟩
  case round =>
   clear HK;obtain⟨k,hk,ab,rfl,al⟩:=hrel;have HKD:=Hd al
   clear al;by_cases H:k<xs.length
   .have hd:decide ((k:Int)<(xs.length:Int))=true:=by simpa using H
    have c9:decide (k<xs.length)=true:=Vd H;by_cases h8:k<8
    .have am:decide ((k:Int)<8)=true:=by simp;omega
     have bT:decide (k<8)=true:=by simp;omega
     obtain⟨i0,i1⟩:(0:Int)<=(k:Int)/\(k:Int)<(xs.length:Int):=by omega
     have b9:Below w.heap.size w wr:=HB1.out.trans ((show Below l.heap.size l wr by obtain⟨_,_,_,_,_,_,_,_,_,h4⟩:=HKD.out;exact h4.below).mono HB1.out.size)
     obtain⟨b,o,u,rfl,c0,hu⟩:=puts_at (HV.out.below b9) k H;rw[Nat.mul_one] at c0;obtain⟨zs,ba⟩:∃zs,zs=xs[k]:=⟨_,rfl⟩;rw[<-ba] at hu;obtain⟨au,cu,rfl,_,_⟩:=hu.form;have HPT:=Hd (puts_any wr hu false)
     have an:Hid (k<xs.length/\k<8):=Hd ⟨H,h8⟩;have ao:IntKind.i64.wrap ((k:Int)+1)=(k:Int)+1:=Vf _ (by omega);clear ba hu b9 H h8 hk ab;go_wp2_with fail;refine HPT.out.mono ?_;rintro e w4 ⟨u4,rfl,bb,ad⟩;have HCM:=Hd (kcommit_kd HKD.out ak.out.2 (by have:=an.out;omega) ad bb (by rw[List.length_map,List.length_take];omega));clear bb ad;go_wp2_with fail;refine HCM.out.mono ?_;rintro e w5 ⟨z,rfl,bc⟩;have HK5:=Hd bc;clear bc;go_wp2_with fail;go_roundw
     case rel=>exact⟨k+1,an.out.1,an.out.2,by go_num,HK5.out⟩
     case measure=>have:=an.out.1;simp[intOf];omega
    .have am:decide ((k:Int)<8)=false:=by simp;omega
     have bT:decide (k<8)=false:=by simp;omega
     have bU:decide (k<xs.length)=true:=Vd H;have aG:Hid (Kd l.heap.size l n 8 dv (stp sb) wr):=Hd (HKD.out.mono ab);clear H h8 hk ab;go_wp2_with fail;go_meet;exact aG.out
   .have hd:decide ((k:Int)<(xs.length:Int))=false:=by simp;omega
    have bU:decide (k<xs.length)=false:=Vb H;have aG:Hid (Kd l.heap.size l n 8 dv (stp sb) wr):=Hd (HKD.out.mono ab);clear H hk ab;go_wp2_with fail;go_meet;exact aG.out
 case rest =>
  have al:=hcut;clear hcut HK;obtain⟨c1,o1,S,M,sq,X1,bd,be,ap,hsl⟩:=al;have HST:=Hd hsl;have ae:Hid (c1<0/\o1<=3*n+14+8*(8+16*mK n)/\S<=8):=Hd ⟨bd,be,ap⟩;clear hsl bd be ap;have aH:∀i,X1 i->i<wc.heap.size:=λi hi=>HST.out.st.lt hi;have HX1:=Hd aH;have aq:Hid ((∀i,X1 i\/i=0->i<wc.heap.size)/\l.heap.size<=wc.heap.size):=Hd ⟨λi hi=>hi.elim (aH i) λe=>by rw[e];exact HST.out.st.nib.1,HST.out.base⟩;obtain⟨W0,ar⟩:∃W0,W0=wc.alloc (izO 0):=⟨_,rfl⟩;have bf:Below wc.heap.size wc W0:=by rw[ar];exact Zl wc _
  have ax:W0.heap[wc.heap.size]?=some (izO 0):=by rw[ar];exact Vg wc _
  have bg:Hid (L2 wc.heap.size l.heap.size l n c1 o1 S M sq X1 dv (stp sb) 0 wc.heap.size (.slice none 0 0) [] [] W0):=Hd ⟨HST.out.step bf,Va _,ax,Was.nil,rfl,Zew.nil _ _⟩;have HW0:=Hd ar;clear aH bf ax ar;go_upto_block 2 with fail;rw[<-HW0.out];go_wp2_with fail
  refine wp_loop_ghost_k (λgk a9 w9=>∃(Dl:List Nat) (j g:Nat) (d:List Rw),∃aI aJ bh bi bj bk bl aK aL bm bn bo bq br bt aM aN aO aP aQ aR aS aT aU aV aW aX aY,(aJ=Qf g/\gk=4 - j/\j<=4/\L2 wc.heap.size l.heap.size l n c1 o1 S M sq X1 dv (stp sb) j g aI d Dl w9)/\a9={ tmps:=#[.int .i64 sc,.slice a xs.length b7,.slice ay ys.length cy,.bool aa,undef,undef,undef,undef,.bool false,.bool true,dv,stp sb,u12,aI,aJ,bh,bi,bj,u18,u19,u20,u21,u22,u23,u24,u25,u26,u27,u28,u29,u30,u31,u32,u33,u34,u35,u36,u37,u38,u39,u40,u41,u42,u43,u44,u45,u46,u47,u48,u49,u50,u51,u52,u53,bk,bl,aK,aL,bm,bn,bo,bq,br,bt,aM,aN,aO,aP,aQ,aR,aS,aT,aU,aV,aW,aX,aY,u77,u78,u79,u80,u81,u82,u83,u84,u85,u86,u87,u88,u89,u90,u91,u92,u93,u94,u95,u96,u97,u98,u99,u100,u101,u102,u103,u104,u105,u106,u107,u108,u109,u110,u111,u112,u113,u114,u115,u116,u117,u118,u119,u120,u121,u122,u123,u124,u125,u126,u127,u128,u129,u130,u131,u132,u133,u134,u135,u136,u137,u138,u139,u140,u141,u142,u143,u144,u145,u146,u147],defers:=Dl.map mark }) 4 ?_ ?_
  .refine⟨[],0,wc.heap.size,[],?_⟩;(repeat apply Exists.intro);refine⟨⟨rfl,rfl,Vl _,bg.out⟩,rfl⟩
  rintro gk a9 W0 ⟨Dl,j,g,d,aI,aJ,bh,bi,bj,bk,bl,aK,aL,bm,bn,bo,bq,br,bt,aM,aN,aO,aP,aQ,aR,aS,aT,aU,aV,aW,aX,aY,⟨rfl,rfl,Q,a1⟩,rfl⟩ JJ KK hJ hK;clear bg HW0;obtain⟨aZ,az,rfl,_⟩:=a1.was.mine.is.form;have HL:=Hd a1
  have bV:=Hd (λa w h=>hK a w h);have HJJ:=Hd (λk a w h=>hJ k a w h);have cg:=(Vc _ _ 0 _ _ _ a1.box).trans (Eq.refl (some (Value.int .i64 (j:Int))));clear a1;by_cases hj:j<4
  .have hd:decide ((j:Int)<4)=true:=Vd (by omega)
   have am:decide (j<4)=true:=Vd hj;obtain⟨t,O⟩:∃t,t=j*85:=⟨_,rfl⟩;have ao:IntKind.i64.wrap ((j:Int)*85)=(t:Int):=by rw[Vf _ (by omega)];omega
   have bu:Hid (t<=255):=Hd (by omega);have HT:=Hd O;have HSL:=Hd HL.out.sl;have a2:Hid (j<4):=Hd hj;clear O hj Q;obtain⟨F,p,f,tb,G,a0,ca,J,seq,B,R,bw,bx,b0,af,hh,bz,a3,hX,V⟩:=HSL.out.st.z;obtain rfl:G=sb:=by injection bx with h1;injection h1 with h2;injection h2 with h3;exact h3.symm
   obtain⟨W1,a5⟩:∃W1,W1=W0.alloc (prsO (.slice none 0 0)):=⟨_,rfl⟩;have I:Below W0.heap.size W0 W1:=by rw[a5];exact Zl W0 _
   have bA:W1.heap.size=W0.heap.size+1:=by rw[a5];simp
   have b1:W1.heap[W0.heap.size]?=some (prsO (.slice none 0 0)):=by rw[a5];exact Vg W0 _
   obtain⟨w2,b2⟩:∃w2,w2=(W1.alloc (stpO G)).alloc (izO (t:Int)):=⟨_,rfl⟩;obtain⟨b3,bB,bC,ag⟩:=all_begin (af.step I) ((I.block _ (Za hh)).trans hh) bz b2;have hseq:=kall_seq (n:=n) (J:=J) (seq:=seq) (B:=B) (F:=F) (p:=p) (f:=f) (tb:=tb) (sb:=G) (sq:=sq) (wt:=(Yi wF M:Nat)) (bs:=W1.heap.size) (bp:=W1.heap.size+1) b0 2 (by omega) t bu.out
   have bD:=(b3.block _ (Za b1)).trans b1;have HAL:=Hd (kallf_any W1 G (t:Int));rw[<-b2] at HAL;have y:Below W0.heap.size W0 w2:=I.trans (b3.mono (by omega));have hnb:=af.lp.nib_lt;have htl:=Za af.head;have hsl0:=Za hh;have bE:Hid (∀k,PJ F p f k->k<W0.heap.size):=Hd λk hk=>af.lp.lt hk;have U:Hid (GathO F p f tb G W1.heap.size (W1.heap.size+1) W0.heap.size w2.heap.size):=Hd ⟨ag,by omega,λe=>by have:=bE.out _ e;omega,by omega,by omega,by omega,by omega,by omega⟩;have bF:Hid (GathK n J seq B F p f R tb G sq (Yi wF M:Nat) W1.heap.size (W1.heap.size+1) t W0.heap.size w2 [] w2):=Hd ⟨bC,⟨_,bD,RK.Mine.nil _ _⟩,Zb.refl _ _⟩;have cg1:=(I.cell (p:=⟨g,0,none⟩) (World.block_lt_of_cell? _ _ cg)).trans cg;rw[a5] at cg1;have HW1:=Hd a5;have HSS:=Hd (And.intro bA bB);have HSEQ:=Hd hseq;have HB02:=Hd y;have HCL:=Hd V;have HXX:=Hd hX;have cd:Hid (0<W0.heap.size/\tb<W0.heap.size/\G<W0.heap.size):=Hd ⟨hnb,htl,hsl0⟩;have HEN:=Hd (gath_all b0.enc t);have bG:Hid ((inS (UInt8.ofNat t) M).length<=1000):=Hd (HSL.out.st.few (UInt8.ofNat t)).1;have HDV:=Hd bw;clear bw b0 af hh bz a3 hX V a5 I bA b1 b2 b3 bB bC ag hseq bD y hnb htl hsl0 bx;go_upto_block 4 with fail;rw[<-HW1.out]
   refine(show Calls Tryz.prog _ #[stp G,.int .i64 (t:Int)] W1 _ from HAL.out).mono ?_
   rintro e w8 ⟨rfl,e8⟩;obtain rfl:w2=w8:=e8.symm;go_upto_block 4 with fail;refine(wpIn_wide (n:=3)).1 ?_;gi_wp2_with fail;rename_i K2 bH;have HKO:=Hd bH
   clear bH
   refine rangeX (F:=Fence.wide) rfl (by omega) (gf:=56) (lb:=#[Qf W1.heap.size,Qf (W1.heap.size+1)]) rfl trivial (enters_of Tryz.func56 (by kernel_rfl) rfl)
    HSEQ.out (λ_=>rfl)
    (λpre W=>GathK n J seq B F p f R tb G sq (Yi wF M:Nat) W1.heap.size (W1.heap.size+1) t W0.heap.size w2 pre W) (λc pre W=>False)
    ?hG (λs A h=>h.kz) (λc s A h=>h.elim) ?hLp (ownP W0.heap.size) (ownP_stays U.out) (λs A h=>GathK.own U.out h) (λs A B h O hl=>h.keep U.out O hl) ?hU (λ_ _ _ _ h=>h.elim) bF.out
    (λx a' A=>a'={ tmps:=#[Value.int IntKind.i64 sc,Value.slice a xs.length b7,Value.slice ay ys.length cy,Value.bool aa,undef,undef,undef,undef,Value.bool false,Value.bool true,dv,stp G,u12,Value.slice aZ d.length az,Qf g,Value.pointer (some { block:=W0.heap.size,off:=0 }),Value.string { data:=x.fst.toArray },Value.string { data:=x.snd.toArray },u18,u19,u20,u21,u22,u23,u24,u25,u26,u27,u28,u29,u30,u31,u32,u33,u34,u35,u36,u37,u38,u39,u40,u41,u42,u43,u44,u45,u46,u47,u48,u49,u50,u51,u52,u53,Value.int IntKind.i64 ↑j,Value.bool true,aK,aL,stp G,Value.int IntKind.i64 ↑j,Value.int IntKind.i64 ↑t,allF W1.heap.size (W1.heap.size+1),Value.string { data:=x.fst.toArray },Value.string { data:=x.snd.toArray },aM,aN,aO,aP,aQ,aR,aS,aT,aU,aV,aW,aX,aY,u77,u78,u79,u80,u81,u82,u83,u84,u85,u86,u87,u88,u89,u90,u91,u92,u93,u94,u95,u96,u97,u98,u99,u100,u101,u102,u103,u104,u105,u106,u107,u108,u109,u110,u111,u112,u113,u114,u115,u116,u117,u118,u119,u120,u121,u122,u123,u124,u125,u126,u127,u128,u129,u130,u131,u132,u133,u134,u135,u136,u137,u138,u139,u140,u141,u142,u143,u144,u145,u146,u147],defers:=[] }) (λ_ _ _ _ h=>h) ?assign ?body ?done ?stop
   case hG =>
    intro W hb;exact⟨bF.out.kz.far U.out.low (Zb.of_below (T:=λk=>w2.heap.size<=k) hb) λk hk e=>by omega,U.out.low.mono hb.size⟩
   case hLp=>exact λA A' h O=>h.far U.out.low O λk hk e=>by omega
   case hU=>exact λk hk=>by have:=bE.out k hk;have:=HSS.out;omega
   case assign =>
    rintro L pre x W K1 hi aA a7 bW;have HI:=Hd hi
    clear hi aA a7;gi_wp2_with fail;exact bW _ _ (Zb.refl _ _) HI.out rfl
   case stop =>
    rintro D c' pre W hD _ a7 cb h hK;exact h.elim
   case body =>
    rintro L pre x a' W hl ⟨r,hr⟩ P rfl aA a7;have H:pre.length<1000:=by have:=aA.length_le;rw[List.length_append,List.length_singleton,List.length_map] at this;have:=bG.out;omega
    obtain⟨av,m,cv,a4,m4,c4,W3,p1,p2,p3,p4,p5⟩:=P.step U.out x bu.out (by omega);have cp:=(Vc _ _ 0 _ _ _ p1).trans (Eq.refl (some (Value.slice av m cv)))
    have hgb:W.heap[g]?=some (izO (j:Int)):=by
     have ax:=Za HL.out.box;have hs:=HSS.out;refine(P.turned.block _ (by have:=HB02.out.size;omega) ?_).trans ((HB02.out.block _ ax).trans HL.out.box);rintro(e | e)
     .exact absurd (HX1.out g ((HXX.out g).2 (.inl (.inl e)))) (by have:=HL.out.low;omega)
     .omega
    have cg:=(Vc _ _ 0 _ _ _ hgb).trans (Eq.refl (some (Value.int .i64 (j:Int))));clear hgb;have bI:(Builtin.append_ #[59,59] 59 #[.slice av m cv,.slice (some ⟨W.heap.size,0,none⟩) 1 1]).run Tryz.prog (W.alloc (.cells #[.int .i64 (t:Int),.string ⟨x.1.toArray⟩,.string ⟨x.2.toArray⟩] 61))=.ok (.slice a4 m4 c4) W3:=p2;have fp:=Zf p3 0;have cp3:=(Vc _ _ 0 _ _ _ p3).trans (Eq.refl (some (Value.slice av m cv)));have HALL:=Hd (And.intro p4 p5);have HP2:=Hd bI;clear bI p1 p2 p3 p4 p5 P hr hl aA a7 H;gi_wp2_with (gi_at_builtin;refine Zex rfl (.tmp 64) (.tmp 70) 59 59 rfl _ _ rfl rfl HP2.out ?_);exact HALL.out
   case done =>
    rintro D W hD _ a7 P hK;have hsS:=HSS.out
    have y:=HB02.out;obtain⟨av,p1,p2⟩:=P.row;rw[HEN.out] at p2;have hT:Zb X1 W0 W:=(Zb.of_below y).then P.turned λi hi e=>e.elim (λe=>(HXX.out i).2 (.inl (.inl e))) λe=>absurd hi (by omega);have hsl:=HSL.out.read (HCL.out W P.kz.tr P.kz.head) hT;have hgb:=(hT.block g (Za HL.out.box) λe=>by have:=HX1.out g e;have:=HL.out.low;omega).trans HL.out.box;have hwas:=HL.out.was.turned hT HX1.out;have bJ:D∉Dl:=λe=>by have:=Za (HL.out.mks.at_ D e).2;have:=y.size;omega
    have bX:wc.heap.size<=W0.heap.size:=by have:=HL.out.low;have:=Za HL.out.box;omega
    have a8:=(HL.out.mks.turned hT HX1.out).cons (D:=D) (by have:=y.size;omega) hK bJ;obtain⟨aw,cw,rfl,_⟩:=p2.is.form;have hl':=HL.out.len;have p3:rkPr.Mine wc.heap.size W (.slice aw (inS (UInt8.ofNat t) M).length cw) (inS (UInt8.ofNat (d.length*85)) M):=by rw[hl',<-HT.out];exact p2.base_le (by have:=y.size;omega)
    obtain⟨v',W3,q1,q2,q3⟩:=hwas.add p3 (by have:=hT.size;omega) (by rw[hl'];have:=a2.out;omega)
    have bK:(Builtin.append_ #[75,75] 75 #[.slice aZ d.length az,.slice (some ⟨W.heap.size,0,none⟩) 1 1]).run Tryz.prog (W.alloc (.cells #[.slice aw (inS (UInt8.ofNat t) M).length cw] 59))=.ok v' W3:=q1
    have a3:∀k o,W.heap[k]?=some o->(∀c,o≠Obj.cells c 59 (0,0))->W3.heap[k]?=some o:=λk o h1 h2=>(q3.block k (Za h1) λe=>by
     obtain⟨_,c,hc⟩:=e
     exact h2 c (Ud (h1.symm.trans hc))).trans h1
    have bL:=a3 g _ hgb (λc e=>by cases e);have cg3:=(Vc _ _ 0 _ _ _ bL).trans (Eq.refl (some (Value.int .i64 (j:Int))));have cp:=(Vc _ _ 0 _ _ _ p1).trans (Eq.refl (some (Value.slice aw (inS (UInt8.ofNat t) M).length cw)));have ad:Below W3.heap.size W3 (W3.alloc (.cells #[.int .i64 ((j:Int)+1)] 3)):=Zl W3 _;have bM:(W3.alloc (.cells #[.int .i64 ((j:Int)+1)] 3)).heap[W3.heap.size]?=some (izO ((j+1:Nat):Int)):=Vg W3 _;have Y:Zb (λ_=>False) W3 (W3.alloc (.cells #[.int .i64 ((j:Int)+1)] 3)):=Zb.of_below ad;have hs3:wc.heap.size<=W3.heap.size:=by have:=q3.size;have:=hT.size;omega
    have bY:Hid (L2 wc.heap.size l.heap.size l n c1 o1 S M sq X1 dv (stp G) (j+1) W3.heap.size v' (d++[(aw,(inS (UInt8.ofNat t) M).length,cw)]) (D::Dl) (W3.alloc (.cells #[.int .i64 ((j:Int)+1)] 3))):=Hd
     ⟨hsl.beside (B:=wc.heap.size) ((q3.mono λk _ e=>e.1).trans (Y.mono λk _ e=>e.elim)) (λk e=>e) aq.out.1 aq.out.2,
      hs3,bM,q2.keep λk c T _ _ h3=>Y.block k (Za h3) λe=>e,
      by rw[List.length_append,hl'];rfl,
      a8.keep λD' _ h2=>(Y.block D' (Za (a3 D' _ h2 (λc e=>by cases e))) λe=>e).trans (a3 D' _ h2 (λc e=>by cases e))⟩
    have bN:IntKind.i64.wrap ((j:Int)+1)=(j:Int)+1:=Vf _ (by have:=a2.out;omega);have HJ5:=a2;have HQ1:=Hd bK;clear bK hsS y p1 p2 hT hsl hgb hwas bJ bX a8 p3 q1 q2 q3 a3 bL ad bM Y hs3 P hD a7 hK hl';dsimp only;refine HKO.out _ _ ?_;go_wp2_with (at_builtin;refine Lib.wpList_append_run _ rfl _ _ _ _ rfl _ _ rfl rfl _ _ HQ1.out ?_);refine Handed.intro (4 - (j+1)) (by have:=HJ5.out;omega) (HJJ.out _ _ _ ⟨D::Dl,j+1,W3.heap.size,d++[(aw,(inS (UInt8.ofNat t) M).length,cw)],?_⟩);(repeat apply Exists.intro);refine⟨⟨rfl,rfl,by have:=HJ5.out;omega,bY.out⟩,rfl⟩
  .have hd:decide ((j:Int)<4)=false:=Vb (by omega)
   have am:decide (j<4)=false:=Vb hj;have HQ:=Hd (kseq_st HL.out.sl.st);have HOP:=Hd (kops_st HL.out.sl.st);have bO:Below w.heap.size w W0:=HB1.out.trans (HL.out.sl.below.mono HB1.out.size);have HPT:=Hd (puts_any W0 (HV'.out.below bO) aa);have HSL:=Hd HL.out.sl;have HWS:=Hd HL.out.was;have HMK:=Hd HL.out.mks;have bP:Hid (d.length=4):=Hd (by rw[HL.out.len];omega);obtain⟨ps,b4⟩:∃ps,ps=(ys.take 12).map (Zck aa):=⟨_,rfl⟩;have bZ:Hid (ps.length<=12):=Hd (by rw[b4,List.length_map,List.length_take];omega);rw[<-b4] at HPT;clear hj Q bO b4 HL bV HJJ hK hJ;go_wp2_with fail;refine HQ.out.mono ?_;rintro e w5 ⟨rfl,e5⟩;obtain rfl:W0=w5:=e5.symm;go_wp2_with fail;refine HOP.out.mono ?_;rintro e w5 ⟨rfl,e5⟩;obtain rfl:W0=w5:=e5.symm;go_wp2_with fail;refine HPT.out.mono ?_;rintro e w6 ⟨u6,rfl,aB,aC⟩;obtain⟨a6,c6,rfl,_⟩:=aB.is.form;obtain⟨E,hE⟩:∃E,E=commitE (6*n) M ps:=⟨_,rfl⟩;have hEc:=commitE_cases (6*n) M ps;have HCM:=Hd (Zho (HSL.out.step aC) ae.out.1 (by have h1:=mK_le HSL.out.st.n1.1 HSL.out.st.n1.2;have h2:=ae.out.2.1;have h3:=ak.out;omega) (by have:=ae.out;omega) aB.is (λi hi e=>by have:=(aB.lt hi).1;have:=HX1.out i e;have:=(HWS.out.mine);have:=HSL.out.st.lt e;omega) bZ.out);rw[<-hE] at HCM hEc;have HEC:=Hd hEc
   have aD:=Hd (HWS.out.turned (Zb.of_below (T:=λ_=>False) aC) λ_ e=>e.elim);have HMK6:=Hd (HMK.out.turned (Zb.of_below (T:=λ_=>False) aC) λ_ e=>e.elim);clear aB aC hE hEc;go_wp2_with fail;refine HCM.out.mono ?_;rintro e w7 ⟨rfl,b5,ah⟩;have HMK7:=Hd (HMK6.out.turned b5 HX1.out);have HWS7:=Hd (aD.out.turned b5 HX1.out);clear b5;by_cases ai:E=0
   .subst ai
    have Z:Hid (∀{c2:Int} {o' q':Nat} {M':List KV} {X':Nat->Prop} (W:World),SL l.heap.size l n c1 o' q' M' c2 X' dv (stp sb) w7->Zb (λk=>wc.heap.size<=k/\w7.heap[k]?=some (.deferred (some []))) w7 W->Below w.heap.size w W):=Hd λW hs O=>HB1.out.trans ((hs.below.trans (O.below hs.base λk e=>by have:=e.1;have:=aq.out.2;omega)).mono HB1.out.size);rcases ah with ⟨hz,q⟩ | ⟨⟨_,hz⟩,o',X',_,q,_⟩
    .have hz:ps=[]:=hz.resolve_left λe=>e rfl
     have ap:((ps.length:Int)==0)=true:=by rw[hz];rfl
     have c3:(sq==sq+1)=false:=beq_false_of_ne (by omega);have ao:IntKind.i64.wrap (sq+1)=sq+1:=Vf _ (by have:=q.st.sq0;have:=ae.out;omega);have HQ7:=Hd (kseq_st q.st);have HO7:=Hd (kops_st q.st);have HS7:=Hd q;clear hz q;go_wp2_with fail;refine HQ7.out.mono ?_;rintro e w8 ⟨rfl,e8⟩;obtain rfl:w7=w8:=e8.symm;go_wp2_with fail;refine HQ7.out.mono ?_;rintro e w8 ⟨rfl,e8⟩;obtain rfl:w7=w8:=e8.symm;go_wp2_with fail;refine HO7.out.mono ?_;rintro e w8 ⟨rfl,e8⟩;obtain rfl:w7=w8:=e8.symm;go_wp2_with fail;refine Zfb (N:=wc.heap.size) Dl _ HMK7.out λW O=>?_;exact⟨.bool true,by simp[results,Tryz.results8,go_sem],rfl,Z.out W HS7.out O⟩
    .have ap:decide (0<(ps.length:Int))=true:=Vd (by have:=List.length_pos_iff.2 hz;omega);have c3:decide (0<ps.length)=true:=Vd (List.length_pos_iff.2 hz);have ao:IntKind.i64.wrap (sq+1)=sq+1:=Vf _ (by have:=q.st.sq0;have:=ae.out;omega);have HQ7:=Hd (kseq_st q.st);have HS7:=Hd q;clear hz q;go_wp2_with fail;refine HQ7.out.mono ?_;rintro e w8 ⟨rfl,e8⟩;obtain rfl:w7=w8:=e8.symm;go_wp2_with fail;refine Zfb (N:=wc.heap.size) Dl _ HMK7.out λW O=>?_;exact⟨.bool true,by simp[results,Tryz.results8,go_sem],rfl,Z.out W HS7.out O⟩
   .have ce:(E==0)=false:=beq_false_of_ne ai
    have q:SL l.heap.size l n c1 o1 S M sq X1 dv (stp sb) w7:=by
     rcases ah with ⟨_,h⟩ | ⟨⟨h,_⟩,_⟩
     .exact h
     .exact absurd h ai
    have HS7:=Hd q;have bQ:E=120\/E=121:=HEC.out.resolve_left ai;have HEE:=Hd bQ;clear q ah ai bQ HCM;go_wp2_with fail;go_loopw [22] (λi wr=>∃j:Nat,j<=4/\i=.int .i64 (j:Int)/\SL l.heap.size l n c1 o1 S M sq X1 dv (stp sb) wr/\Was wc.heap.size M (.slice aZ d.length az) d wr/\Zew wc.heap.size Dl wr) (λi _=>4 - (intOf i).toNat)
    case atStart=>exact⟨0,by omega,rfl,HS7.out,HWS7.out,HMK7.out⟩
    case round =>
     clear HS7 HWS7 HMK7 aD HMK6 HWS HMK;obtain⟨j,hj,rfl,hsl,aj,a8⟩:=hrel;have HMK:=Hd a8
     have HWS:=Hd aj;have HSL:=Hd hsl;by_cases Q:j<4
     .have hd:decide ((j:Int)<4)=true:=Vd (by omega)
      have am:decide (j<4)=true:=Vd Q;have b6:j<d.length:=by rw[bP.out];exact Q
      obtain⟨e0,e2⟩:(0:Int)<=(j:Int)/\(j:Int)<(d.length:Int):=by omega
      obtain⟨rb,ro,rfl,hrc⟩:=aj.mine.is.at j b6;replace hrc:=hrc 0 (by decide);rw[show ro+j*rkRw.n+0=ro+j from by show ro+j*1+0=_;omega,show (rkRw.C d[j])[0]?=some d[j].v from rfl] at hrc
      obtain⟨t,O⟩:∃t,t=j*85:=⟨_,rfl⟩;have ao:IntKind.i64.wrap ((j:Int)*85)=(t:Int):=by rw[Vf _ (by omega)];omega
      have bN:IntKind.i64.wrap ((j:Int)+1)=(j:Int)+1:=Vf _ (by omega);have hrow:=(aj.each j b6);rw[<-O] at hrow;have HSM:=Hd (same12_st hsl.st t (by omega) hrow.is (λi hi e=>by have:=(hrow.lt hi).1;have:=HX1.out i e;omega) 0 ⟨Int.le_refl _,by omega⟩);obtain⟨rv,bR⟩:∃rv,rv=d[j].v:=⟨_,rfl⟩;rw[<-bR] at HSM hrc;have a2:Hid (j<4):=Hd Q;clear O hrow bR hsl aj a8 Q hj b6;go_wp2_with fail;refine HSM.out.mono ?_;rintro e w8 ⟨rfl,h8,t8⟩;have c5:Hid (SL l.heap.size l n c1 o1 S M sq X1 dv (stp sb) w8/\Was wc.heap.size M (.slice (some ⟨rb,ro,none⟩) d.length az) d w8/\Zew wc.heap.size Dl w8):=Hd ⟨HSL.out.read h8 t8,HWS.out.turned t8 HX1.out,HMK.out.turned t8 HX1.out⟩;clear h8 t8 hrc;go_wp2_with fail;go_roundw
      case rel=>exact⟨j+1,a2.out,by go_num,c5.out⟩
      case measure=>have:=a2.out;simp[intOf];omega
     .obtain rfl:j=4:=by omega
      have c7:=Hd (kseq_st hsl.st);have HO8:=Hd (kops_st hsl.st);have Z:Hid (∀(W:World),Zb (λk=>wc.heap.size<=k/\wr.heap[k]?=some (.deferred (some []))) wr W->Below w.heap.size w W):=Hd λW O=>HB1.out.trans ((HSL.out.below.trans (O.below HSL.out.base λk e=>by have:=e.1;have:=aq.out.2;omega)).mono HB1.out.size);clear hsl aj a8 hj Q;rcases HEE.out with rfl | rfl
      all_goals
       go_wp2_with fail
       refine c7.out.mono ?_
       rintro e w9 ⟨rfl,e9⟩
       obtain rfl:wr=w9:=e9.symm
       go_wp2_with fail
       refine HO8.out.mono ?_
       rintro e w9 ⟨rfl,e9⟩
       obtain rfl:wr=w9:=e9.symm
       go_wp2_with fail
       refine Zfb (N:=wc.heap.size) Dl _ HMK.out λW O=>?_
       exact⟨.bool true,by simp[results,Tryz.results8,go_sem],rfl,Z.out W O⟩
end
end Go.Proofs.YtfaobkmojlhbnaaGreatDoor
namespace Go.Proofs.YtfaobkmojlhbnaaGreatDoor.cardKvRefuses
open Go.ChangeShapes Go.WideShapes Go.ChangeAt Go.RowKit Go.Deep
open Go.ChangeMaps (open_string shut_string)
theorem gTab : Tryz.prog.globalNamed "usance/wire.nibbles" = some 0 := by kernel_rfl
theorem gTabType : (Tryz.prog.globals[0]?).map (·.type) = some 230 := by kernel_rfl
theorem cellsTab : Tryz.prog.cellsOf 230 = 16 := by kernel_rfl
theorem cellsU32 : Tryz.prog.cellsOf 213 = 1 := by kernel_rfl
theorem table {W : World} (h : laidMetH Tryz.prog Rows.kvRefusesRow.laid W) : Nib W := by
  have ht : Lib.TabIs Tryz.prog W "usance/wire.nibbles" .u32 [0, 498536548, 997073096, 651767980, 1994146192, 1802195444, 1303535960, 1342533948, 3988292384, 4027552580, 3604390888, 3412177804, 2607071920, 2262029012, 2685067896, 3183342108] :=
    Lib.tabIs_of_head (rest := []) gTab gTabType Tryz.underlying230 Tryz.underlying213 cellsU32 cellsTab h
  intro i hi
  rw [ht.cell gTab i (by simpa using hi)]
  have e : ∀ i : Fin 16, ([0, 498536548, 997073096, 651767980, 1994146192, 1802195444, 1303535960, 1342533948, 3988292384, 4027552580, 3604390888, 3412177804, 2607071920, 2262029012, 2685067896, 3183342108] : List Int).getD i.val 0 = ((UsCrc.nib.getD i.val 0 : Nat) : Int) := by decide
  rw [e ⟨i, hi⟩]
theorem contract (H : Type) (enc : TypeId × Value → H) (W : World) (base : Nat) (args : Array Value) (ds gs : List (DataW H)) (before : List MemPlace)
    (hval : ∀ (j : Nat) t v, Tryz.f8.params[j]? = some t → args[j]? = some v → Value.okWide Tryz.prog W .any base t v)
    (hW : DataW.Whole enc Tryz.prog Tryz.f8.params.toList Rows.kvRefusesSpec.vars false W args.toList ds gs before) (hL : laidMetH Tryz.prog Rows.kvRefusesRow.laid W)
    (hsz : (DataW.weightsEach Tryz.prog (Tryz.f8.params.toList ++ (OpenSpec.ofChange Rows.kvRefusesSpec).bare.plain.varTypes Tryz.prog) (ds ++ gs)).all (· ≤ reachBytes) = true) :
    Calls Tryz.prog 8 args W fun e W' => ∃ v, e = .returned v ∧ Rows.kvRefusesSpec.post enc Tryz.prog Tryz.f8 false true false false W args v W' := by
  have hW' := hW
  obtain ⟨p, q, hA0, hV, rfl, hfz, hnd⟩ := hW
  have hA : DataW.TrodAll enc Tryz.prog W 0 (fun _ => true) true Tryz.f8.params.toList args.toList ds p := hA0
  rw [Tryz.params8] at hA hval hsz
  obtain ⟨v0, vs0, d0, ds0, p0, q0, hargs, rfl, rfl, h0, r0⟩ := trodAll_cons hA
  obtain ⟨v1, vs1, d1, ds1, p1, q1, rfl, rfl, rfl, h1, r1⟩ := trodAll_cons r0
  obtain ⟨v2, vs2, d2, ds2, p2, q2, rfl, rfl, rfl, h2, r2⟩ := trodAll_cons r1
  obtain ⟨v3, vs3, d3, ds3, p3, q3, rfl, rfl, rfl, h3, r3⟩ := trodAll_cons r2
  obtain ⟨rfl, rfl, rfl⟩ := trodAll_nil r3
  obtain rfl : args = #[v0, v1, v2, v3] := by cases args; simp_all
  obtain ⟨rfl, rfl⟩ := trodVars_none hV
  have k0 := h0
  have lt0 : ∀ x ∈ p0, x.block < W.heap.size := by obtain ⟨m, hm⟩ := k0; exact DataW.trod_lt m _ _ _ hm
  have k1 := h1
  have lt1 : ∀ x ∈ p1, x.block < W.heap.size := by obtain ⟨m, hm⟩ := k1; exact DataW.trod_lt m _ _ _ hm
  have k2 := h2
  have lt2 : ∀ x ∈ p2, x.block < W.heap.size := by obtain ⟨m, hm⟩ := k2; exact DataW.trod_lt m _ _ _ hm
  have k3 := h3
  have lt3 : ∀ x ∈ p3, x.block < W.heap.size := by obtain ⟨m, hm⟩ := k3; exact DataW.trod_lt m _ _ _ hm
  simp only [List.append_nil, List.nil_append, List.cons_append] at hsz
  obtain ⟨x0, rfl, rfl, rfl, w0⟩ := open_int Tryz.underlying3 (hval 0 3 v0 rfl rfl) h0
  have b0 := wf_int64 w0
  obtain ⟨xs1, ir1⟩ := open_row rdPutRs (by decide) Tryz.underlying31 (hval 1 31 v1 rfl rfl) h1 (light_arg (j := 1) hsz rfl rfl)
  obtain ⟨xs2, ir2⟩ := open_row rdPutR (by decide) Tryz.underlying42 (hval 2 42 v2 rfl rfl) h2 (light_arg (j := 2) hsz rfl rfl)
  obtain ⟨x3, rfl, rfl, rfl⟩ := open_bool Tryz.underlying4 (hval 3 4 v3 rfl rfl) h3
  have hnib := table hL
  clear hA0
  refine (kvrefuses_walk W hnib x0 b0.1 b0.2 v1 xs1 ir1 v2 xs2 ir2 x3).mono fun e W' ⟨he, bel⟩ => ?_
  subst he
  exact ⟨_, rfl, _, _, _, [], _, [], hW', trodAll_mk1 (shut_bool Tryz.underlying4 _), (trodAll_cons_mk (Below.trod laidOut (by kernel_rfl) (of_decide_eq_true (by kernel_rfl)) k0 bel lt0) (trodAll_cons_mk (Below.trod laidOut (by kernel_rfl) (of_decide_eq_true (by kernel_rfl)) k1 bel lt1) (trodAll_cons_mk (Below.trod laidOut (by kernel_rfl) (of_decide_eq_true (by kernel_rfl)) k2 bel lt2) (trodAll_cons_mk (Below.trod laidOut (by kernel_rfl) (of_decide_eq_true (by kernel_rfl)) k3 bel lt3) trodAll_mk0)))), rfl, bel.frame _, fun h => by cases h⟩
noncomputable def laidWorld (os : Os) : World :=
  { World.holding Tryz.prog os ⟨#[], #[], []⟩ with heap := (World.holding Tryz.prog os ⟨#[], #[], []⟩).heap.modify 0 fun
      | .cells _ t frozen => .cells #[.int .u32 0, .int .u32 498536548, .int .u32 997073096, .int .u32 651767980, .int .u32 1994146192, .int .u32 1802195444, .int .u32 1303535960, .int .u32 1342533948, .int .u32 3988292384, .int .u32 4027552580, .int .u32 3604390888, .int .u32 3412177804, .int .u32 2607071920, .int .u32 2262029012, .int .u32 2685067896, .int .u32 3183342108] t frozen
      | o => o }
theorem laid_met (os : Os) : laidMet Tryz.prog Rows.kvRefusesRow.laid ((laidWorld os).forCall (fun _ _ => 0) ⟨#[], #[.int .i64 0, .slice none 0 0, .slice none 0 0, .bool false], []⟩).memory :=
  laidMet_of_run' 8 (by kernel_rfl) (by kernel_rfl)
theorem reads (os : Os) {H : Type} (enc : TypeId × Value → H) : ∃ places, DataW.whole enc Tryz.prog ((laidWorld os).forCall (fun _ _ => 0) ⟨#[], #[.int .i64 0, .slice none 0 0, .slice none 0 0, .bool false], []⟩).memory Tryz.f8.params.toList Rows.kvRefusesSpec.vars false (#[.int .i64 0, .slice none 0 0, .slice none 0 0, .bool false] : Array Value).toList 8 = some ([.lit (.int .i64 0), .nil, .nil, .lit (.bool false)], [], places) :=
  ⟨[], by kernel_rfl⟩
theorem lifted (os : Os) (started : os.Started) (H : Type) (enc : TypeId × Value → H) (F : Stop.Interp) :
    ReturnsInHanded {} Tryz.checked os 8 .any ((OpenSpec.ofChange Rows.kvRefusesSpec).preRow enc Tryz.prog Tryz.f8 Rows.kvRefusesRow.domain false Rows.kvRefusesRow.laid) (((OpenSpec.ofChange Rows.kvRefusesSpec).at F).post enc Tryz.prog Tryz.f8 false true false false) := by
  obtain ⟨places, hx⟩ := reads os enc
  refine returnsInHanded_of_row (C := Tryz.checked) (s := OpenSpec.ofChange Rows.kvRefusesSpec) own started (by kernel_rfl) Tryz.func8
    (witness_row_at (enc := enc) (C := Tryz.checked) false (laidWorld os) #[.int .i64 0, .slice none 0 0, .slice none 0 0, .bool false] rfl (by kernel_rfl) (by kernel_rfl) (by kernel_rfl)
      (OpenSpec.preRow_of_cond 8 hx (by kernel_rfl) (fun k hk => by cases hk) (by kernel_rfl) (laid_met os))) ?_
  intro W base args ds gs before hval hW _ hcond hsz hL _ _
  exact contract H enc W base args ds gs before hval hW hL hsz
theorem said : Rows.KvRefusesSaid :=
  OpenClaim.holds_of_cond 8 Tryz.f8 rfl rfl rfl rfl rfl rfl rfl ⟨rfl, rfl, rfl, rfl, rfl⟩ rfl rfl rfl rfl rfl (by kernel_rfl) Tryz.func8 (by kernel_rfl)
    (of_decide_eq_true (by kernel_rfl)) (by unfold Func.isWrapper; first | (rw [if_pos (by decide +kernel)]; kernel_rfl) | (rw [if_neg (by decide +kernel)]; exact ⟨rfl, rfl⟩))
    (fun os started H enc _ F => by rw [OpenClaim.pre_eq_preRow]; exact lifted os started H enc F)
theorem plain (f : FuncId) (fn : Func) (hf : Tryz.pinned.checked.prog.funcNamed "usance/usancelaw12.KvRefuses" = some f) (hfn : Tryz.pinned.checked.prog.funcs[f]? = some fn) :
    false = Tryz.pinned.checked.prog.looks [] ∧ ∀ (j : Nat) t, fn.params[j]? = some t → Tryz.pinned.checked.prog.wantsStandIn t = false := by
  obtain rfl : f = 8 := Option.some.inj ((show Tryz.prog.funcNamed "usance/usancelaw12.KvRefuses" = some 8 by kernel_rfl).symm.trans hf) |>.symm
  obtain rfl : fn = Tryz.f8 := (Option.some.inj (Tryz.func8.symm.trans hfn)).symm
  refine ⟨by kernel_rfl, fun j t ht => ?_⟩
  rw [Tryz.params8] at ht
  have hm := Array.mem_of_getElem? ht
  simp only [List.mem_toArray, List.mem_cons, List.not_mem_nil, or_false] at hm
  rcases hm with rfl | rfl | rfl | rfl
  · exact (show Tryz.prog.wantsStandIn 3 = false by kernel_rfl)
  · exact (show Tryz.prog.wantsStandIn 31 = false by kernel_rfl)
  · exact (show Tryz.prog.wantsStandIn 42 = false by kernel_rfl)
  · exact (show Tryz.prog.wantsStandIn 4 = false by kernel_rfl)
theorem proved : Rows.KvRefusesCardSaid :=
  Claim7.holds_tied_plain_at .later [] _ _ _ _ said (fun _ h => by cases h) (by kernel_rfl) (fun _ h => by cases h) kvRefuses_row_tie rfl ⟨rfl, rfl⟩ (by kernel_rfl) rfl plain (by kernel_rfl)
#print axioms proved
end Go.Proofs.YtfaobkmojlhbnaaGreatDoor.cardKvRefuses
