/- Contracts of the functions that the statements of this seat reach, part 20: each says what the call answers and what it leaves of the memory. -/
import Derived.Test.YtfaobkmojlhbnaaGreatDoorZR19
import Derived.Lib.AppendZeros
set_option linter.unusedVariables false
set_option linter.unusedSimpArgs false
set_option maxRecDepth 100000
set_option maxHeartbeats 64000000
namespace Go.Proofs.YtfaobkmojlhbnaaGreatDoor
section
open Go.RowKit Go.Shelf Go.Lib
theorem run_makeMap_st (w:World):(Instr.makeMap 133 none).run Tryz.prog w=.ok (.map (some w.heap.size)) (w.alloc (.map #[] 0)):=by rfl
section
variable {n m k : Nat} {c : Int} {o : Nat} {F : Ft} {p tb sb : Nat} {sq wt off : Int} {a b M : List KV} {sums : Option (List UInt8)} {w : World} {f : Pf}
theorem kall_any (h:KS n m k c o F p tb sb sq wt off a b w f) (hE:Qe a M sums) {V W:Nat} (C:∀l,Zab l<=W->Roomy m l) (hsum:sumsW sums<=22) (aV:V+22<=W) (aW:Yi wF M<=V) {v:Value} {ps:List Ya} (ay:Yi wF (Zbw M ps)<=V)
  (hv:Zbe.Is w v ps) (ai:∀i,v.ownBlock=some i->¬KJ F p f sb i) (hr:∀q∈ps,q.right=true) (hl:ps.length<=1000) (g t:Int) (hs1:I64 g) (aa:I64 t) :
  Calls Tryz.prog 42 #[stp sb,v,smV g t] w λe w'=>e=.returned (.int .i64 0)/\Xe n m k c o F p tb sb sq wt off (Zcd (layT (dropT a ps) ps ps.length) [] (Zaq g++Zaq t)) b w f w':=by
 obtain⟨va,vc,rfl,b7,aX⟩:=hv.form;unfold maxLen at aX;have aY:Zab a<=W:=by have:=hE.light;omega
 have an:=Hd λi=>Qe.dropT (ps.take i) hE;have az:Hid (∀i,Zab (dropT a (ps.take i))<=W):=Hd λi=>by have h1:=(an.out i).light;have h2:=dropA_light (ps.take i) hE.rise;omega
 have aA:Hid (∀i,i<ps.length->(ps.getD i default).gone=false->Zej ps i->∀j,j<=1+(ps.getD i default).val.length / 190->Zab (layK (layT (dropT a ps) ps i) (ps.getD i default).s (ps.getD i default).key (ps.getD i default).val j)<=W):=Hd λi hi hg aZ j hj=>by have:=hE.lay_light hr ay hi hg aZ hj;omega
 have aB:Hid (Zab (layT (dropT a ps) ps ps.length)<=W):=Hd (by
  have h1:=Qe.dropT ps hE;have h2:=(h1.layT (dropA_no hE.rise ps) hr ps.length (Va _)).light;rw[layA_all hE.rise ps] at h2
  omega)
 have T:Hid (∀(W1:World) (U:Pf) (i:Nat) (X:Nat) (key:List UInt8),X<=255->key.length<=64->KS n m k c o F p tb sb sq wt off (dropT a (ps.take i)) b W1 U->Calls Tryz.prog 63 #[stp sb,.int .i64 (X:Int),.string ⟨key.toArray⟩] W1 λe w'=>(∃z,e=.returned (.tuple #[.int .i64 z,.int .i64 0]))/\Xe n m k c o F p tb sb sq wt off (dropV (dropT a (ps.take i)) (UInt8.ofNat X) key) b W1 U w'):=Hd λW1 U i X key x1 x2 H=>kdrop_any H (an.out i) C (az.out i) X key x1 x2;have aj:Hid (∀(W1:World) (U:Pf) (i:Nat) (X:Nat),i<ps.length->(ps.getD i default).gone=false->Zej ps i->X<=255->UInt8.ofNat X=(ps.getD i default).s->(ps.getD i default).key.length<=64->(ps.getD i default).val.length<=4096->KS n m k c o F p tb sb sq wt off (layT (dropT a ps) ps i) b W1 U->Calls Tryz.prog 64 #[stp sb,.int .i64 (X:Int),.string ⟨(ps.getD i default).key.toArray⟩,.string ⟨(ps.getD i default).val.toArray⟩] W1 λe w'=>e=.returned (.int .i64 0)/\Xe n m k c o F p tb sb sq wt off (layT (dropT a ps) ps (i+1)) b W1 U w'):=Hd λW1 U i X x1 x2 x3 x4 x5 x6 x7 H=>by have hy:=klay_any H C X (ps.getD i default).key (ps.getD i default).val x4 x6 x7 (by rw[x5];exact aA.out i x1 x2 x3);rw[x5] at hy;rw[layT,if_neg (by rintro(q | q);(rw[x2] at q;cases q);exact q x3)];exact hy
 have aC:Hid (∀(W1:World) (U:Pf),KS n m k c o F p tb sb sq wt off (layT (dropT a ps) ps ps.length) b W1 U->Calls Tryz.prog 65 #[stp tb,.string ⟨#[]⟩,.string ⟨(Zaq g++Zaq t).toArray⟩] W1 λe w'=>e=.returned (.int .i64 0)/\Xe n m k c o F p tb sb sq wt off (Zcd (layT (dropT a ps) ps ps.length) [] (Zaq g++Zaq t)) b W1 U w'):=Hd λW1 U H=>H.put (C _ aB.out) (key:=[]) (by simp) (by
  have z1:=Zdi g hs1.1 hs1.2;have z2:=Zdi t aa.1 aa.2
  rw[List.length_append];omega)
 have HR:=Hd hr;have HV:Hid (∀W,Zb (KJ F p f sb) w W->Zbe.Is W (.slice va ps.length vc) ps):=Hd λW ht=>hv.turned ht ai
 have I:Hid (∀i,KJ F p f sb i\/i=0\/i=tb->i<w.heap.size):=Hd λi hi=>by
  rcases hi with hi | hi | hi
  .exact h.lt hi
  .rw[hi];exact h.pk.tlt.2.2.1
  .rw[hi];exact h.pk.tlt.1
 have ab:=Hd hs1;have HW1:=Hd aa;obtain⟨W0,Y⟩:∃W0,W0=(w.alloc (smO g t)).alloc (.map #[] 0):=⟨_,rfl⟩;have ao:Below w.heap.size w W0:=by rw[Y];exact((Ve _ _).alloc (Va _) _).alloc (by simp) _
 have aD:VMap strV W0 (w.heap.size+1) []:=by have:=VMap.made (enc:=strV) (w.alloc (smO g t));rw[Y];simpa using this
 have aE:W0.heap[w.heap.size]?=some (smO g t):=by rw[Y];exact(Vv _ _ _ (by simp)).trans (Vg w _)
 have aF:Hid (VMap strV W0 (w.heap.size+1) []/\KS n m k c o F p tb sb sq wt off a b W0 f/\Zb (KJ F p f sb) w W0/\W0.heap[w.heap.size]?=some (smO g t)):=Hd ⟨aD,h.step ao,Zb.of_below ao,aE⟩;have hmk:=run_makeMap_st (w.alloc (smO g t));clear ao aD aE hE hr h hv ai C hsum aV aW ay aY an az aA aB hs1 aa;go_enter Tryz.func42,Tryz.ntmps42;go_upto_block 0 with fail;rw[<-Y];clear hmk Y;go_wp2_with fail;go_loopw [20] (λx wr=>∃(i:Nat) (kv:List (List UInt8 × Value)),i<=ps.length/\x=.int .i64 (i:Int)/\Zgf ps i kv/\VMap strV wr (w.heap.size+1) kv/\KS n m k c o F p tb sb sq wt off a b wr f/\Zb (KJ F p f sb) w wr/\wr.heap[w.heap.size]?=some (smO g t)) (λx _=>ps.length - (intOf x).toNat)
 case atStart=>exact⟨0,[],Vl _,rfl,Zgf.zero ps,aF.out⟩
 case round =>
  clear aF;obtain⟨i,kv,Z,rfl,ad,y,a0,D,hnow⟩:=hrel;by_cases d:i<ps.length
  .have e1:decide ((i:Int)<(ps.length:Int))=true:=Vd (by omega)
   obtain⟨e0,e2⟩:(0:Int)<=(i:Int)/\(i:Int)<(ps.length:Int):=by omega
   have aG:IntKind.i64.wrap ((i:Int)+1)=(i:Int)+1:=Vf _ (by omega);obtain⟨vb,vo,rfl,k0,k1,k2,k3⟩:=put_at (HV.out _ D) i d;obtain⟨P,N⟩:∃P,P=ps[i]:=⟨_,rfl⟩;rw[<-N] at k0 k1 k2 k3;obtain⟨b1,b2,b3,b4,b5⟩:=Zay (HR.out _ (Vo d));rw[<-N] at b1 b2 b3 b4 b5;obtain⟨s,O⟩:∃s:Nat,P.sp=(s:Int):=⟨P.sp.toNat,by omega⟩;obtain⟨W1,r⟩:∃W1,W1=wr.alloc (.cells #[.int .i64 P.sp,.string ⟨P.key.toArray⟩,.string ⟨P.val.toArray⟩,.bool P.gone] 66):=⟨_,rfl⟩;have u:Below wr.heap.size wr W1:=by rw[r];exact(Ve _ _).alloc (Va _) _
   have a5:=Zct W1 s 0 P.key (by omega) (by omega) b3;have aH:Ye (UInt8.ofNat s) 0 P.key=nm0 ps[i]:=by rw[<-N];unfold nm0 Ya.s;rw[O];rfl
   rw[aH] at a5;have HPL:=Hd a5
   have ae:W1.heap[wr.heap.size]?=some (.cells #[.int .i64 P.sp,.string ⟨P.key.toArray⟩,.string ⟨P.val.toArray⟩,.bool P.gone] 66):=by rw[r];exact Vg wr _
   have aI:Hid (VMap strV W1 (w.heap.size+1) kv/\KS n m k c o F p tb sb sq wt off a b W1 f/\Zb (KJ F p f sb) w W1/\W1.heap[w.heap.size]?=some (smO g t)):=Hd ⟨y.keep (u.block _ y.lt),a0.step u,D.trans (Zb.of_below u),(u.block _ (Za hnow)).trans hnow⟩;have HLO:=Hd ad;have hsI:=O;clear ad y a0 D hnow u ae a5 aH N b1 b2 b4 b5;go_wp2_with fail;rw[O] at r;rw[<-r];refine HPL.out.mono ?_;rintro e E ⟨rfl,a6⟩;obtain⟨a1,a2,a3,a4⟩:=aI.out;have a1:=a1.keep (a6.block _ a1.lt);have a2:=a2.step a6;have a3:=a3.trans (Zb.of_below a6);have a4:=(a6.block _ (Za a4)).trans a4;obtain⟨w3,r3,c1,c2⟩:=a1.run_put (keyed_str Tryz.underlying9) Tryz.underlying133 (nm0 ps[i]) (.int .i64 (i:Int))
   have b0:Hid (Zgf ps (i+1) (vSet kv (nm0 ps[i]) (.int .i64 (i:Int)))/\VMap strV w3 (w.heap.size+1) (vSet kv (nm0 ps[i]) (.int .i64 (i:Int)))/\KS n m k c o F p tb sb sq wt off a b w3 f/\Zb (KJ F p f sb) w w3/\w3.heap[w.heap.size]?=some (smO g t)):=Hd ⟨HLO.out.step d,c1,a2.turned c2 (λj hj e=>by
    have:=I.out j (by rcases hj with hj | hj;exact .inl hj;exact .inr (.inl hj))
    omega) (λe=>by have:=I.out tb (.inr (.inr rfl));omega),a3.then c2 (λj hj e=>by omega),(c2.block _ (Za a4) (by omega)).trans a4⟩
   clear a6 a1 a2 a3 a4 c1 c2 HLO aI HPL r k0 k1 k2 k3 O hsI;go_wp2_with fail;go_roundw
   case rel=>exact⟨i+1,_,d,by go_num,b0.out⟩
   case measure=>simp[intOf];omega
  .obtain rfl:i=ps.length:=by omega
   have e1:decide ((ps.length:Int)<(ps.length:Int))=false:=Vb (by omega);have e3:decide (ps.length<ps.length)=false:=Vb (by omega);have HLO:=Hd ad;obtain⟨E,ap⟩:∃E,E=wr:=⟨_,rfl⟩;rw[<-ap] at y a0 D hnow ⊢;clear ap wr
   have G:Hid (∀W,Zb (KJ F p f sb) E W->VMap strV W (w.heap.size+1) kv/\W.heap[w.heap.size]?=some (smO g t)/\Zbe.Is W (.slice va ps.length vc) ps):=Hd λW ht =>
    ⟨y.keep (ht.block _ y.lt λe=>by have:=I.out _ (.inl e);omega),(ht.block _ (Za hnow) λe=>by have:=I.out _ (.inl e);omega).trans hnow,HV.out _ (D.trans ht)⟩
   have b8:=Hd D;have a7:Hid (Xe n m k c o F p tb sb sq wt off (dropT a (ps.take 0)) b E f E):=Hd (Xe.same a0);have aq:Hid (∀a' W,Xe n m k c o F p tb sb sq wt off a' b E f W->Xe n m k c o F p tb sb sq wt off a' b w f W):=Hd λa' W H=>Xe.comp rfl (λ_ h=>.inl h) D H;clear ad y a0 D hnow Z d;go_upto_block 2 with fail;go_wp2_with fail;clear e1 e3;go_loopw [35] (λx wr=>∃i:Nat,i<=ps.length/\x=.int .i64 (i:Int)/\Xe n m k c o F p tb sb sq wt off (dropT a (ps.take i)) b E f wr) (λx _=>ps.length - (intOf x).toNat)
   case atStart=>exact⟨0,Vl _,rfl,a7.out⟩
   case round =>
    clear a7;obtain⟨i,Z,rfl,ar⟩:=hrel;obtain⟨fr,A,q1,q2,Q⟩:=ar;by_cases d:i<ps.length
    .have e1:decide ((i:Int)<(ps.length:Int))=true:=Vd (by omega)
     obtain⟨e0,e2⟩:(0:Int)<=(i:Int)/\(i:Int)<(ps.length:Int):=by omega
     have aG:IntKind.i64.wrap ((i:Int)+1)=(i:Int)+1:=Vf _ (by omega);obtain⟨vb,vo,rfl,k0,k1,k2,k3⟩:=put_at (G.out _ Q).2.2 i d;obtain⟨P,N⟩:∃P,P=ps[i]:=⟨_,rfl⟩;rw[<-N] at k0 k1 k2 k3;obtain⟨b1,b2,b3,b4,b5⟩:=Zay (HR.out _ (Vo d));rw[<-N] at b1 b2 b3 b4 b5;obtain⟨s,O⟩:∃s:Nat,P.sp=(s:Int):=⟨P.sp.toNat,by omega⟩;obtain⟨W1,r⟩:∃W1,W1=wr.alloc (.cells #[.int .i64 P.sp,.string ⟨P.key.toArray⟩,.string ⟨P.val.toArray⟩,.bool P.gone] 66):=⟨_,rfl⟩;have u:Below wr.heap.size wr W1:=by rw[r];exact(Ve _ _).alloc (Va _) _
     have au:=T.out W1 fr i s P.key (by omega) b3 (A.step u);rw[show dropV (dropT a (ps.take i)) (UInt8.ofNat s) P.key=dropT a (ps.take (i+1)) by rw[Zhb ps i d,dropT_snoc,<-N];unfold Ya.s;rw[O];rfl] at au
     have aJ:=Hd au;have J:Hid (∀W,Xe n m k c o F p tb sb sq wt off (dropT a (ps.take (i+1))) b W1 fr W->Xe n m k c o F p tb sb sq wt off (dropT a (ps.take (i+1))) b E f W):=Hd λW H=>Xe.comp q1 q2 Q (H.ahead u);clear au u A q1 q2 Q N b1 b2 b3 b4 b5;go_wp2_with fail;rw[O] at r;rw[<-r];refine aJ.out.mono ?_;rintro e w3 ⟨⟨z,rfl⟩,ak⟩;have HT3:=Hd (J.out _ ak);clear ak aJ J r;go_wp2_with fail;go_roundw
     case rel=>exact⟨i+1,d,by go_num,HT3.out⟩
     case measure=>simp[intOf];omega
    .obtain rfl:i=ps.length:=by omega
     have e1:decide ((ps.length:Int)<(ps.length:Int))=false:=Vb (by omega);have e3:decide (ps.length<ps.length)=false:=Vb (by omega)
     have a7:Hid (Xe n m k c o F p tb sb sq wt off (layT (dropT a ps) ps 0) b E f wr):=Hd (Xe.comp q1 q2 Q (Xe.same (by
      rw[List.take_length] at A
      exact A)))
     clear A q1 q2 Q Z d;go_upto_block 4 with fail;go_wp2_with fail;clear e1 e3;go_loopw [54] (λx wr=>∃i:Nat,i<=ps.length/\x=.int .i64 (i:Int)/\Xe n m k c o F p tb sb sq wt off (layT (dropT a ps) ps i) b E f wr) (λx _=>ps.length - (intOf x).toNat)
     case atStart=>exact⟨0,Vl _,rfl,a7.out⟩
     case round =>
      clear a7 T;obtain⟨i,Z,rfl,ar⟩:=hrel;obtain⟨fr,A,q1,q2,Q⟩:=ar;by_cases d:i<ps.length
      .have e1:decide ((i:Int)<(ps.length:Int))=true:=Vd (by omega)
       obtain⟨e0,e2⟩:(0:Int)<=(i:Int)/\(i:Int)<(ps.length:Int):=by omega
       have aG:IntKind.i64.wrap ((i:Int)+1)=(i:Int)+1:=Vf _ (by omega);obtain⟨vb,vo,rfl,k0,k1,k2,k3⟩:=put_at (G.out _ Q).2.2 i d;obtain⟨P,N⟩:∃P,P=ps[i]:=⟨_,rfl⟩;obtain⟨z,av,aK,aL⟩:=HLO.out.says i d;have R:Hid (ps.getD i default=P):=Hd (by rw[N];exact getD_at d);rw[<-N] at k0 k1 k2 k3 av;obtain⟨b1,b2,b3,b4,b5⟩:=Zay (HR.out _ (Vo d));rw[<-N] at b1 b2 b3 b4 b5;obtain⟨s,O⟩:∃s:Nat,P.sp=(s:Int):=⟨P.sp.toNat,by omega⟩;obtain⟨W1,r⟩:∃W1,W1=wr.alloc (.cells #[.int .i64 P.sp,.string ⟨P.key.toArray⟩,.string ⟨P.val.toArray⟩,.bool P.gone] 66):=⟨_,rfl⟩;have u:Below wr.heap.size wr W1:=by rw[r];exact(Ve _ _).alloc (Va _) _
       have ae:W1.heap[wr.heap.size]?=some (.cells #[.int .i64 P.sp,.string ⟨P.key.toArray⟩,.string ⟨P.val.toArray⟩,.bool P.gone] 66):=by rw[r];exact Vg wr _
       have aM:=Hd ae;have HK1:=Hd (A.step u);have b6:Hid (∀W,Below W1.heap.size W1 W->VMap strV W (w.heap.size+1) kv):=Hd λW hb=>(G.out _ (Q.trans ((Zb.of_below u).trans (Zb.of_below hb)))).1;have J:Hid (∀a' W,Xe n m k c o F p tb sb sq wt off a' b W1 fr W->Xe n m k c o F p tb sb sq wt off a' b E f W):=Hd λa' W H=>Xe.comp q1 q2 Q (H.ahead u);have HPL:=Hd (Zct W1 s 0 P.key (by omega) (by omega) b3);have aN:Hid (Ye (UInt8.ofNat s) 0 P.key=nm0 P):=Hd (by unfold nm0 Ya.s;rw[O];rfl);have HB:Hid (s<=255/\UInt8.ofNat s=P.s/\P.key.length<=64/\P.val.length<=4096):=Hd ⟨by omega,by unfold Ya.s;rw[O];rfl,b3,b4⟩;have HZ:=Hd av;have HZ3:=Hd aL;have HZ2:=Hd aK;rw[aN.out] at HPL;clear u ae A q1 q2 Q N b1 b2 b3 b4 b5 av aK aL aN;have B:Hid (((ps.getD i default).gone=true\/¬Zej ps i)->Xe n m k c o F p tb sb sq wt off (layT (dropT a ps) ps (i+1)) b E f W1):=Hd λH=>by rw[layT,if_pos H];exact J.out _ _ (Xe.same HK1.out)
       cases L:P.gone with
       | true =>
        have HE:Hid (Xe n m k c o F p tb sb sq wt off (layT (dropT a ps) ps (i+1)) b E f W1):=Hd (B.out (.inl (by rw[R.out];exact L)));rw[L] at k3 r;clear L B;go_wp2_with fail;rw[O] at r;rw[<-r];go_roundw
        case rel=>exact⟨i+1,d,by go_num,HE.out⟩
        case measure=>simp[intOf];omega
       | false =>
        rw[L] at k3 r;go_wp2_with fail;rw[O] at r;rw[<-r];clear r;refine HPL.out.mono ?_;rintro e w5 ⟨rfl,af⟩;have hlk:=(b6.out w5 af).run_look (keyed_str Tryz.underlying9) Tryz.underlying133 (.int .i64 0) (λw=>by rfl) (nm0 P)
        rw[HZ.out,Option.getD_some] at hlk;have HB5:=Hd af
        have aw:Hid (w5.heap[wr.heap.size]?=some (.cells #[.int .i64 P.sp,.string ⟨P.key.toArray⟩,.string ⟨P.val.toArray⟩,.bool P.gone] 66)):=Hd ((af.block _ (Za aM.out)).trans aM.out);clear af HPL;by_cases ag:z=i
        .have hlast:=HZ3.out.1 ag
         have d1:decide ((z:Int)=(i:Int))=true:=Vd (by omega);subst ag;have x0:w5.cell? ⟨wr.heap.size,0,none⟩=some (.int .i64 (s:Int)):=by rw[Vc _ _ _ _ _ _ aw.out,<-O];rfl
         have x1:w5.cell? ⟨wr.heap.size,1,none⟩=some (.string ⟨P.key.toArray⟩):=by rw[Vc _ _ _ _ _ _ aw.out];rfl
         have x2:w5.cell? ⟨wr.heap.size,2,none⟩=some (.string ⟨P.val.toArray⟩):=by rw[Vc _ _ _ _ _ _ aw.out];rfl
         have ax:=aj.out w5 fr z s d (by rw[R.out];exact L) hlast HB.out.1 (by rw[R.out];exact HB.out.2.1) (by rw[R.out];exact HB.out.2.2.1) (by rw[R.out];exact HB.out.2.2.2) (HK1.out.step HB5.out);rw[R.out] at ax;have HLY:=Hd ax;clear ax L B hlast O;go_wp2_with fail;refine HLY.out.mono ?_;rintro e w6 ⟨rfl,al⟩;have HT6:=Hd (J.out _ _ (al.ahead HB5.out));clear al HLY hlk;go_wp2_with fail;go_roundw
         case rel=>exact⟨z+1,d,by go_num,HT6.out⟩
         case measure=>simp[intOf];omega
        .have d1:decide ((z:Int)=(i:Int))=false:=Vb (by omega)
         have d2:((z:Int)==(i:Int))=false:=by rw[beq_eq_false_iff_ne];omega
         have d3:((z:Int) != (i:Int))=true:=by rw[bne_iff_ne];omega
         have HE:Hid (Xe n m k c o F p tb sb sq wt off (layT (dropT a ps) ps (i+1)) b E f w5):=Hd ((B.out (.inr λhl=>ag (HZ3.out.2 hl))).step HB5.out);clear L B ag;go_wp2_with fail;go_roundw
         case rel=>exact⟨i+1,d,by go_num,HE.out⟩
         case measure=>simp[intOf];omega
      .obtain rfl:i=ps.length:=by omega
       have e1:decide ((ps.length:Int)<(ps.length:Int))=false:=Vb (by omega);have e3:decide (ps.length<ps.length)=false:=Vb (by omega);have hnow:=(G.out _ Q).2.1;have cS:wr.cell? ⟨sb,2,none⟩=some (stp tb):=A.cells.2.2.1;have c0:wr.cell? ⟨w.heap.size,0,none⟩=some (.int .i64 g):=by rw[Vc _ _ _ _ _ _ hnow];rfl
       have c1:wr.cell? ⟨w.heap.size,1,none⟩=some (.int .i64 t):=by rw[Vc _ _ _ _ _ _ hnow];rfl
       have ah:=And.intro cS (And.intro c0 c1);have HKR:=Hd A;have J:Hid (∀a' W,Xe n m k c o F p tb sb sq wt off a' b wr fr W->Xe n m k c o F p tb sb sq wt off a' b E f W):=Hd λa' W H=>Xe.comp q1 q2 Q H
       have aO:Hid (¬KJ F p fr sb w.heap.size):=Hd λe=>by
        have ap:=Za (G.out E (Zb.refl _ _)).2.1;rcases e with (e | e) | e
        .have:=I.out _ (.inl (.inl (.inl e)));omega
        .rcases q2 _ e with e | e
         .have:=I.out _ (.inl (.inl (.inr e)));omega
         .omega
        .have:=I.out _ (.inl (.inr e));omega
       have aP:=Hd (putInt_any (.slice none 0 0) [] g wr.drew (IsB.nil _) (by simp) ab.out.1 ab.out.2);rw[List.nil_append] at aP;clear A q1 q2 Q Z d hnow cS c0 c1 aj;go_wp2_with fail;refine rgA (S:=(λW:World=>(W.cell? ⟨sb,2,none⟩=some (stp tb))/\(W.cell? ⟨w.heap.size,0,none⟩=some (.int .i64 g))/\(W.cell? ⟨w.heap.size,1,none⟩=some (.int .i64 t)))) ah (λhH=>?_);refine tdI [0,1,2,3,4,5,7,8] ?_
       iterate 8
        refine tdS (v:=?_) ?_ hH ?_;rotate_left
        .rintro w ⟨o0,o1,o2⟩;go_simp;try with_reducible rfl
        try simp only[Act.put,zA,zB,zC]
       refine tdE ?_;refine rdA 6 rfl (λK hK=>?_);go_simp;refine aP.out.mono ?_;rintro e w3 ⟨u3,rfl,aQ,hb3⟩;have hb3:=(Ve wr.heap.size wr).drew.trans hb3
       have aR:=Hd (HKR.out.step hb3);have hH3:=And.intro aR.out.cells.2.2.1 (And.intro (Zi hb3 _ _ ah.2.1) (Zi hb3 _ _ ah.2.2));have HP2:=Hd (putInt_any u3 (Zaq g) t w3 aQ.isB (by have:=(Zdi g ab.out.1 ab.out.2).2;omega) HW1.out.1 HW1.out.2);have HB3:=Hd hb3;clear aQ hb3;go_wp2_with fail;refine hK.out _ _ hH3 (λhH=>?_);clear hH3;clear hK K;try simp only[Act.put,zA,zB,zC]
       refine rdA 9 rfl (λK hK=>?_);go_simp;refine HP2.out.mono ?_;rintro e w4 ⟨u4,rfl,aS,a8⟩;have HK4:=Hd (aR.out.step a8)
       have aT:=And.intro HK4.out.cells.2.2.1 (And.intro (Zi a8 _ _ hH.2.1) (Zi a8 _ _ hH.2.2));have hst4:=run_str (P:=Tryz.prog) aS.isB 77 9 5 Tryz.underlying77 Tryz.underlying5 Tryz.underlying9;have HB4:=Hd (HB3.out.trans (a8.mono HB3.out.size));clear aS a8;go_wp2_with fail;refine hK.out _ _ aT (λhH=>?_);clear aT;clear hK K;try simp only[Act.put,zA,zB,zC]
       refine rdA 10 rfl (λK hK=>?_);go_simp;refine hK.out _ _ hH (λ_=>?_);clear hK K;try simp only[Act.put,zA,zB,zC]
       refine rdA 11 rfl (λK hK=>?_);go_simp;refine(aC.out w4 fr HK4.out).mono ?_;rintro e w5 ⟨rfl,am⟩;have HE5:=Hd (aq.out _ _ (J.out _ _ (am.ahead HB4.out)))
       obtain⟨f5,k5,_,_,t5⟩:=am;have a9:w.heap.size<w4.heap.size:=World.block_lt_of_cell? w4 _ hH.2.1
       have aU:=And.intro k5.cells.2.2.1 (And.intro ((World.cell?_of_block (a:=⟨w.heap.size,0,none⟩) (t5.block _ a9 aO.out)).trans hH.2.1) ((World.cell?_of_block (a:=⟨w.heap.size,1,none⟩) (t5.block _ a9 aO.out)).trans hH.2.2));clear a9;clear k5 t5;go_wp2_with fail;refine hK.out _ _ aU (λhH=>?_);clear aU;clear hK K;try simp only[Act.put,zA,zB,zC]
       refine tkB 12 rfl (v:=?_) ?_ hH ?_;rotate_left
       .rintro w ⟨o0,o1,o2⟩;go_simp;try with_reducible rfl
       try simp only[Act.put,zA,zB,zC]
       refine dnA ?_;clear hH ah;go_wp2_with fail;go_ret;exact⟨rfl,HE5.out⟩
end
end
end Go.Proofs.YtfaobkmojlhbnaaGreatDoor
