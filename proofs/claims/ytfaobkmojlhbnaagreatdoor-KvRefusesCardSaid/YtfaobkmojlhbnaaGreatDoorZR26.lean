/- Contracts of the functions that the statements of this seat reach, part 26: each says what the call answers and what it leaves of the memory. -/
import Derived.Test.YtfaobkmojlhbnaaGreatDoorZR25
set_option linter.unusedVariables false
set_option linter.unusedSimpArgs false
set_option maxRecDepth 100000
set_option maxHeartbeats 64000000
namespace Go.Proofs.YtfaobkmojlhbnaaGreatDoor
section
open Go.RowKit Go.Shelf Go.Lib
attribute [local go_sem] Oper.semAt_some
def shPs:List Ya:=[⟨1,[97],[120],false⟩,⟨2,[97],[121],false⟩,⟨1,[97],[122],false⟩]
def shM:List KV:=[([1,97],[122]),([2,97],[121])]
theorem sh_app:Zbw [] shPs=shM:=by decide
theorem sh_right:∀q∈shPs,q.right=true:=by decide
theorem sh_E:commitE (6*300) [] shPs=0:=by
 have a:¬∃q∈shPs,q.right=false:=by rintro⟨q,b,e⟩;rw[sh_right q b] at e;cases e
 have c:¬shPs=[]:=by unfold shPs;simp
 have d:Yi wF shM=28:=by decide
 rw[commitE,if_neg a,if_neg c,sh_app,d,if_neg (by omega)]
def shQ:List Ya:=[⟨256,[99],[120],false⟩]
theorem sh_F:commitE (6*300) shM shQ=120:=by rw[commitE,if_pos ⟨⟨256,[99],[120],false⟩,by simp[shQ],by decide⟩]
theorem sh_g1:getE shM 1 [97]=(([122],true),0):=by decide
theorem sh_g2:getE shM 3 [97]=(([],false),0):=by decide
theorem sh_in:inS (UInt8.ofNat 1) shM=[([1,97],[122])]:=by decide
theorem sh_mK:mK 300=18:=by decide
theorem shown12_any (w:World) (hnb:Nib w):Calls Tryz.prog 10 #[] w λe w'=>e=.returned (.bool true)/\Below w.heap.size w w':=by
 obtain⟨W0,t⟩:∃W0,W0=w.alloc (bolO false):=⟨_,rfl⟩;have a5:Below w.heap.size w W0:=by rw[t];exact Zl w _
 have ad:W0.heap[w.heap.size]?=some (bolO false):=by rw[t];exact Vg w _
 have ae:=Hd (begun12_sl (N:=w.heap.size+1) (w0:=W0) (hnb.below a5) (Ve _ _) (by rw[t];simp) 300 (by omega) (by omega));have HR0:=Hd ad;have HB0:=Hd a5;have HW0:=Hd t;clear a5 ad hnb t;refine Un (n:=3).1 ?_;refine callsIn_of_wp_marks Tryz.func10 rfl trivial ?_ rfl;simp only[Tryz.ntmps10,List.size_toArray,List.length_cons,List.length_nil,Nat.reduceAdd,Nat.reduceSub,Array.replicate_succ,Array.replicate_zero,List.push_toArray,List.append_toArray,List.nil_append,List.cons_append];refine wpIn_wide.2 ?_;go_wp2_with fail;rw[<-HW0.out];refine(show Calls Tryz.prog _ #[.int .i64 300] W0 _ from ae.out).mono ?_
 rintro e w1 ⟨c,o,X,dv,sb,rfl,a6,hc,ho,ao,hX⟩;have hm:mK 300=18:=by decide
 obtain⟨W1,u⟩:∃W1,W1=w1.alloc (.cells (Zbe.V shPs).toArray 66):=⟨_,rfl⟩;have v:Below w1.heap.size w1 W1:=by rw[u];exact Zl w1 _
 have g:Zbe.Is W1 (.slice (some ⟨w1.heap.size,0,none⟩) 3 3) shPs:=by rw[u];exact RK.lits (r:=Zbe) w1 shPs _ rfl (by decide)
 have j:=Hd (Zho (a6.step v) hc (by rw[hm];omega) (by omega) g (λi S e=>by
  simp only[Value.ownBlock,Option.map_some,Option.some.injEq] at S
  have:=a6.st.lt e;omega) (by decide))
 rw[sh_E] at j;rw[show (Zbe.V shPs).toArray=#[.int .i64 1,.string ⟨#[97]⟩,.string ⟨#[120]⟩,.bool false,.int .i64 2,.string ⟨#[97]⟩,.string ⟨#[121]⟩,.bool false,.int .i64 1,.string ⟨#[97]⟩,.string ⟨#[122]⟩,.bool false] from rfl] at u
 have HC:Hid (c<0/\o<=914):=Hd ⟨hc,by omega⟩;clear a6 hc ho ao hX v g hm ae;go_wp2_with fail;rw[<-u];clear u;refine j.out.mono ?_;rintro e w3 ⟨rfl,_,⟨(hf | hf),_⟩ | ⟨_,o',X',ho',hs3,_⟩⟩
 .exact absurd rfl hf
 .unfold shPs at hf;cases hf
 rw[sh_app] at hs3;have HG1:=Hd (kvget_st hs3.st 1 [97])
 rw[sh_g1] at HG1;have HS3:=Hd hs3
 have ap:Hid (o'<=1300):=Hd (by have:=HC.out;have:=sh_mK;omega);clear hs3 ho' j;go_wp2_with fail;refine HG1.out.mono ?_;rintro e w4 ⟨rfl,h4,t4⟩;have HS4:=Hd (HS3.out.read h4 t4);have HG2:=Hd (kvget_st HS4.out.st 3 [97]);rw[sh_g2] at HG2;clear h4 t4 HG1;go_wp2_with fail;refine HG2.out.mono ?_;rintro e w5 ⟨rfl,h5,t5⟩;have hs5:=HS4.out.read h5 t5;obtain⟨W5,C⟩:∃W5,W5=w5.alloc (.cells (Zbe.V shQ).toArray 66):=⟨_,rfl⟩;have v:Below w5.heap.size w5 W5:=by rw[C];exact Zl w5 _
 have g:Zbe.Is W5 (.slice (some ⟨w5.heap.size,0,none⟩) 1 1) shQ:=by rw[C];exact RK.lits (r:=Zbe) w5 shQ _ rfl (by decide)
 have j:=Hd (Zho (hs5.step v) HC.out.1 (by have:=sh_mK;have:=ap.out;omega) (by omega) g (λi S e=>by
  simp only[Value.ownBlock,Option.map_some,Option.some.injEq] at S
  have:=hs5.st.lt e;omega) (by decide))
 rw[sh_F] at j;rw[show (Zbe.V shQ).toArray=#[.int .i64 256,.string ⟨#[99]⟩,.string ⟨#[120]⟩,.bool false] from rfl] at C
 clear h5 t5 hs5 v g HG2;go_wp2_with fail;rw[<-C];clear C;refine j.out.mono ?_;rintro e d ⟨rfl,_,⟨_,E⟩ | ⟨⟨hf,_⟩,_⟩⟩;rotate_left
 .cases hf
 obtain⟨F,p,f,tb,b,a,ax,J,seq,B,R,rfl,af,ag,G,hh,ah,aq,hX,l⟩:=E.st.z;obtain rfl:b=sb:=by injection af with h1;injection h1 with h2;injection h2 with h3;exact h3.symm
 obtain⟨W6,H⟩:∃W6,W6=d.alloc (izO 0):=⟨_,rfl⟩;have U:Below d.heap.size d W6:=by rw[H];exact Zl d _
 have a3:W6.heap.size=d.heap.size+1:=by rw[H];simp
 have a7:W6.heap[d.heap.size]?=some (izO 0):=by rw[H];exact Vg d _
 obtain⟨w7,a8⟩:∃w7,w7=(W6.alloc (stpO b)).alloc (izO ((1:Nat):Int)):=⟨_,rfl⟩;obtain⟨a9,ai,aj,I⟩:=all_begin (G.step U) ((U.block _ (Za hh)).trans hh) ah a8;have hseq:=kall_seq (n:=300) (J:=J) (seq:=seq) (B:=B) (F:=F) (p:=p) (f:=f) (tb:=tb) (sb:=b) (sq:=1) (wt:=(Yi wF shM:Nat)) (bs:=W6.heap.size) (bp:=W6.heap.size+1) ag 2 (by omega) 1 (by omega)
 rw[sh_in] at hseq;have hk7:=(a9.block _ (Za a7)).trans a7
 have ak:=Hd (kallf_any W6 b ((1:Nat):Int));rw[<-a8] at ak;have HSL:=Hd E;have HZ7:=Hd aj;have HLOW:=Hd I;have HK7:=Hd hk7;have HW6:=Hd H;have HSS:=Hd (And.intro a3 ai);have HSEQ:=Hd hseq;have a4:Hid (Below d.heap.size d w7):=Hd (U.trans (a9.mono (by omega)));have HCL:=Hd l;have HXX:=Hd hX;have Y:Hid (∀k,PJ F p f k->k<d.heap.size/\w.heap.size+1<=k):=Hd λk P=>⟨G.lp.lt P,E.own k ((hX k).2 (.inl (.inl P)))⟩;have aa:Hid (0<d.heap.size/\tb<d.heap.size/\b<d.heap.size):=Hd ⟨G.lp.nib_lt,Za G.head,Za hh⟩;have m:Hid (d.heap[w.heap.size]?=some (bolO false)):=Hd ((E.below.block _ (by omega)).trans HR0.out);clear E ag G hh ah aq hX l H U a3 a7 a8 a9 ai aj I hseq hk7 af j;go_upto_block 0 with fail;rw[<-HW6.out];refine(show Calls Tryz.prog _ #[stp b,.int .i64 1] W6 _ from ak.out).mono ?_
 rintro e w8 ⟨rfl,e8⟩;obtain rfl:w7=w8:=e8.symm;go_upto_block 0 with fail;refine(wpIn_wide (n:=3)).1 ?_;gi_wp2_with fail;rename_i K al;have HKO:=Hd al
 clear al
 refine rangeX (F:=Fence.wide) rfl (by omega) (gf:=56) (lb:=#[Qf W6.heap.size,Qf (W6.heap.size+1)]) rfl trivial (enters_of Tryz.func56 (by kernel_rfl) rfl)
  HSEQ.out (λ_=>rfl)
  (λpre W=>KZ 300 J seq B F p f R tb b 1 (Yi wF shM:Nat) W6.heap.size (W6.heap.size+1) ((1:Nat):Int) W/\W.heap[d.heap.size]?=some (izO (pre.length:Int))/\Zb (λk=>PJ F p f k\/k=d.heap.size) w7 W)
  (λc pre W=>False) ?hG (λs A h=>h.1) (λc s A h=>h.elim) ?hLp noO Stays.none (λ_ _ _ _ e=>e.elim) ?hI ?hU ?hIx ?h0
  (λx a' A=>a'={ tmps:=#[Value.pointer (some { block:=w.heap.size,off:=0 }),F.ptr,stp b,Value.int IntKind.i64 0,Value.string { data:=#[122] },Value.bool true,Value.int IntKind.i64 0,Value.string { data:=#[] },Value.bool false,Value.int IntKind.i64 0,Value.int IntKind.i64 120,Value.pointer (some { block:=d.heap.size,off:=0 }),Value.string { data:=x.fst.toArray },Value.string { data:=x.snd.toArray },Value.tuple #[F.ptr,stp b],Value.tuple #[F.ptr,stp b],F.ptr,stp b,stp b,Value.bool false,stp b,Value.agg #[Value.int IntKind.i64 1,Value.string { data:=#[97] },Value.string { data:=#[120] },Value.bool false],Value.agg #[Value.int IntKind.i64 2,Value.string { data:=#[97] },Value.string { data:=#[121] },Value.bool false],Value.agg #[Value.int IntKind.i64 1,Value.string { data:=#[97] },Value.string { data:=#[122] },Value.bool false],Value.slice (some { block:=w1.heap.size,off:=0 }) 3 3,Value.int IntKind.i64 0,txtR [122] true 0,stp b,txtR [122] true 0,Value.string { data:=#[122] },Value.bool true,Value.int IntKind.i64 0,txtR [] false 0,stp b,txtR [] false 0,Value.string { data:=#[] },Value.bool false,Value.int IntKind.i64 0,stp b,Value.agg #[Value.int IntKind.i64 256,Value.string { data:=#[99] },Value.string { data:=#[120] },Value.bool false],Value.slice (some { block:=w5.heap.size,off:=0 }) 1 1,Value.int IntKind.i64 120,stp b,allF W6.heap.size (W6.heap.size+1),Value.string { data:=x.fst.toArray },Value.string { data:=x.snd.toArray },undef,undef,undef,undef,undef,undef,undef,undef,undef,undef,undef,undef,undef,undef,undef,undef,undef,undef,undef,undef,undef,undef,undef,undef,undef,undef,undef,undef,undef,undef,undef,undef,undef,undef,undef,undef,undef,undef],defers:=[] }) (λ_ _ _ _ h=>h) ?assign ?body ?done ?stop
 case hG =>
  intro W hb;exact⟨HZ7.out.far HLOW.out (Zb.of_below (T:=λk=>w7.heap.size<=k) hb) λk P e=>by omega,HLOW.out.mono hb.size⟩
 case hLp=>exact λA A' h ht=>h.far HLOW.out ht λk P e=>by omega
 case hI =>
  rintro s A A' ⟨Q,Z,i4⟩ ht hl;replace ht:=ht.mono (T':=λk=>PJ F p f k\/w7.heap.size<=k) λk _ e=>e.1;have hS:=HSS.out
  refine⟨hl,Yk ht (λe=>?_) Z,i4.then ht λi S e=>?_⟩
  .rcases e with e | e
   .have:=(Y.out _ e).1;omega
   .omega
  .rcases e with e | e
   .exact .inl e
   .omega
 case hU=>exact λk P=>by have:=(Y.out k P).1;have:=HSS.out;omega
 case hIx=>exact λc s A A' h ht=>h
 case h0=>exact⟨HZ7.out,HK7.out,Zb.refl _ _⟩
 case assign =>
  rintro L pre x W K1 S a0 M ar;have HI:=Hd S
  clear S a0 M;gi_wp2_with fail;exact ar _ _ (Zb.refl _ _) HI.out rfl
 case done =>
  rintro D W hD _ M ⟨Q,Z,i4⟩ hK;have hS:=HSS.out
  have a1:W.heap[w.heap.size]?=some (bolO false):=by
   refine(i4.block _ ?_ ?_).trans ((a4.out.block _ ?_).trans m.out)
   .have:=Za m.out;omega
   .rintro(e | e)
    .have:=(Y.out _ e).2;omega
    .have:=Za m.out;omega
   .exact Za m.out
  have ab:SL (w.heap.size+1) W0 300 c o' 1 shM 1 X' F.ptr (stp b) W:=by
   have O:∀k,k<d.heap.size->¬k=d.heap.size:=λk P e=>by omega
   have ht:Zb X' d W:=(Zb.of_below a4.out).then i4 λi S e=>by
    rcases e with e | e
    .exact(HXX.out i).2 (.inl (.inl e))
    .omega
   exact HSL.out.read (HCL.out W Q.tr Q.head) ht
  have HQ:=Hd (kseq_st ab.st);have ck:=(Vc _ _ 0 _ _ _ Z).trans (Eq.refl (some (Value.int .i64 1)));have cr:=(Vc _ _ 0 _ _ _ a1).trans (Eq.refl (some (Value.bool false)));have fr:=Zf a1 0;have ht6:=Zc W w.heap.size 0 (.bool true);have am:w.heap.size≠D:=by have:=Za m.out;omega
  have au:=Hd (Yk ht6 (λe=>am e.symm) hK);have av:Hid ((W.setCell ⟨w.heap.size,0,none⟩ (.bool true)).heap[w.heap.size]?=some (bolO true)):=Hd (Ze a1 _);have a2:Below w.heap.size w W:=HB0.out.trans (ab.below.mono (by omega))
  have HE:Hid (∀o,Below w.heap.size w ((W.setCell ⟨w.heap.size,0,none⟩ (.bool true)).putObj D o)):=Hd λo=>a2.trans (((ht6.mono (T':=λk=>k=w.heap.size\/k=D) λk _ e=>.inl e).trans (Qi _ D o (.inr rfl))).below a2.size λk e=>by
   have:=a2.size;rcases e with e | e
   .omega
   .have:=Za m.out;omega)
  clear Q Z i4 hK hS a1 ab ht6 a2;dsimp only;refine HKO.out _ _ ?_;go_wp2_with fail;refine HQ.out.mono ?_;rintro e w9 ⟨rfl,e9⟩;obtain rfl:W=w9:=e9.symm;go_wp2_with fail;refine⟨by simp,.inl ⟨_,_,rfl,run_takeDeferred au.out,?_⟩⟩;exact⟨_,Qn rfl rfl (Zcx ((World.putObj_heap_other am).trans av.out)),rfl,HE.out _⟩
 case stop =>
  rintro D c' pre W hD _ M ay h hK;exact h.elim
 case body =>
  rintro L pre x a' W hl ⟨r,hr⟩ ⟨Q,Z,i4⟩ rfl a0 M
  have aw:pre=[]/\x=([97],[122]):=by
   obtain⟨q,hq⟩:=a0
   cases pre with
   | nil =>
    simp only[List.nil_append,List.cons_append,List.map_cons,List.map_nil,List.cons.injEq] at hq;exact⟨rfl,hq.1⟩
   | cons y r =>
    have:=Vs List.length hq;simp at this
  obtain⟨rfl,rfl⟩:=aw;have hS:=HSS.out
  have ck:=(Vc _ _ 0 _ _ _ Z).trans (Eq.refl (some (Value.int .i64 0)));have fk:=Zf Z 0;have ht9:=Zc W d.heap.size 0 (.int .i64 1);have O:∀k,k<d.heap.size->¬k=d.heap.size:=λk P e=>by omega
  have an:KZ 300 J seq B F p f R tb b 1 (Yi wF shM:Nat) W6.heap.size (W6.heap.size+1) ((1:Nat):Int) (W.setCell ⟨d.heap.size,0,none⟩ (.int .i64 1)):=⟨Q.tr.turned ht9 (λk P=>O k (P.elim (λe=>(Y.out k e).1) λe=>by rw[e];exact aa.out.1)) (O _ aa.out.2.1),Yk ht9 (O _ aa.out.2.2) Q.head,Yk ht9 (by omega) Q.hbs,Yk ht9 (by omega) Q.hbp⟩;have HALL:=Hd (And.intro (ht9.mono (T':=λk=>k<w7.heap.size) λk _ e=>by omega) (And.intro an (And.intro (Ze Z (i:=0) (.int .i64 1)) (i4.then ht9 λi S e=>.inr e))));clear Q Z i4 hr hl a0 M ht9 an O hS;gi_wp2_with fail;exact⟨.none HALL.out.1,HALL.out.2.1,HALL.out.2.2.1,HALL.out.2.2.2⟩
end
end Go.Proofs.YtfaobkmojlhbnaaGreatDoor
