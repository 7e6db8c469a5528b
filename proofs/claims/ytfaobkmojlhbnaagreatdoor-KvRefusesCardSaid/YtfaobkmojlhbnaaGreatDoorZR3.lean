/- Contracts of the functions that the statements of this seat reach, part 3: each says what the call answers and what it leaves of the memory. -/
import Derived.Test.YtfaobkmojlhbnaaGreatDoorZR2
import Derived.IntWalk
import Derived.Test.YtfaobkmojlhbnaaGreatDoorZR1
import Derived.Deep.MidRow
import Derived.Laws.MakeOwn
import Derived.Carry
set_option linter.unusedVariables false
set_option linter.unusedSimpArgs false
set_option maxRecDepth 100000
set_option maxHeartbeats 64000000
namespace Go.Proofs.YtfaobkmojlhbnaaGreatDoor
section
open Go.RowKit
variable {zs:List Int}{ls:List (List UInt8)}{nb p vb o:Nat}{W' W:World}{n:Int}{T:Nat→Prop}{x:Value}
def Yt (write:Nat) (zs:List Int) (ls:List (List UInt8)):List (List UInt8):=(zs.zip ls).map λx=>mkF write (2*16777216+x.1.toNat) x.2
def Jn.layTo (J:Jn) (fs:List (List UInt8)):Nat->Jn
 | 0=>J
 | k+1=>(J.layTo fs k).lay (2+k) (fs.getD k [])
def Jn.writes (J:Jn) (zs:List Int) (ls:List (List UInt8)):Jn :=
 let fs:=Yt (J.last+1) zs ls
 let J6:=((((({ J with last:=J.last+1 }:Jn).layTo fs zs.length).flush).lay ((J.last+1) % 2) (Xl (J.last+1) zs.length (J.seq+1))).flush).spread fs
 if J6.off=0 then { J6 with seq:=J.seq+1 } else J6
def Jn.write (J:Jn) (zs:List Int) (ls:List (List UInt8)):Int × Jn :=
 if J.off≠0 then (J.off,J) else if Zaa J.D.blocks zs ls=false then (2,J) else if zs.length=0 then (0,J) else ((J.writes zs ls).off,J.writes zs ls)
theorem Jn.layTo_n (J:Jn) (a:List (List UInt8)) (k:Nat):(J.layTo a k).D.n=J.D.n:=by
 induction k with
 | zero=>rfl
 | succ k b=>rw[Jn.layTo,Jn.lay_n,b]
theorem Jn.lay_last (J:Jn) (k:Nat) (L:List UInt8):(J.lay k L).last=J.last:=by
 unfold Jn.lay
 split<;>rfl
theorem Jn.flush_last (J:Jn):J.flush.last=J.last:=by
 unfold Jn.flush
 split<;>rfl
theorem Jn.lay_seq (J:Jn) (k:Nat) (L:List UInt8):(J.lay k L).seq=J.seq:=by
 unfold Jn.lay
 split<;>rfl
theorem Jn.flush_seq (J:Jn):J.flush.seq=J.seq:=by
 unfold Jn.flush
 split<;>rfl
theorem Jn.layTo_last (J:Jn) (a:List (List UInt8)) (k:Nat):(J.layTo a k).last=J.last:=by
 induction k with
 | zero=>rfl
 | succ k b=>rw[Jn.layTo,Jn.lay_last,b]
theorem Jn.layTo_seq (J:Jn) (a:List (List UInt8)) (k:Nat):(J.layTo a k).seq=J.seq:=by
 induction k with
 | zero=>rfl
 | succ k b=>rw[Jn.layTo,Jn.lay_seq,b]
theorem Jn.spreads_seq (J:Jn) (Ls:List (List UInt8)):(J.spreads Ls).seq=J.seq:=by
 unfold Jn.spreads
 induction Ls generalizing J with
 | nil=>rfl
 | cons f r a=>rw[List.foldl_cons,a,Jn.spStep,Jn.lay_seq]
theorem rightGo_spec:∀(zs a:List Int) (ls:List (List UInt8)),Ql nb a zs ls=true->zs.length=ls.length ->
  ∀k (h:k<zs.length) (d:k<ls.length),0<=zs[k]/\zs[k]<(nb:Int)/\ls[k].length=112/\zs[k]∉a++zs.take k
 | [],_,_,_,_,k,h,_=>by simp at h
 | n::r,a,[],_,c,_,_,_=>by simp at c
 | n::r,a,b::s,e,c,k,h,d=>by
  simp only[Ql,Bool.and_eq_true,decide_eq_true_eq,Bool.not_eq_true',decide_eq_false_iff_not] at e;obtain⟨⟨⟨⟨f,g⟩,i⟩,j⟩,l⟩:=e
  cases k with
  | zero=>simpa using ⟨f,g,j,i⟩
  | succ k =>
   have m:=rightGo_spec r (a++[n]) s l (by simpa using c) k (by simpa using h) (by simpa using d);simpa using m
theorem Zbs (h:Zaa nb zs ls=true):zs.length=ls.length /\
  ∀k (h:k<zs.length) (a:k<ls.length),0<=zs[k]/\zs[k]<(nb:Int)/\ls[k].length=112/\zs[k]∉zs.take k:=by
 simp only[Zaa,Bool.and_eq_true,decide_eq_true_eq] at h;exact⟨h.1,λk b a=>by simpa using rightGo_spec zs [] ls h.2 h.1 k b a⟩
theorem nodup_bound:∀(n:Nat) (l:List Nat),l.Nodup->(∀x∈l,x<n)->l.length<=n
 | 0,[],_,_=>Va _
 | 0,x::r,_,h=>by have:=h x (Vi ..);omega
 | n+1,l,a,h=>by
  have d:=nodup_bound n (l.erase n) (a.erase n) (λx b=>by
   have c:=(a.mem_erase_iff).1 b;have:=h x c.2
   omega)
  have e:l.length<=(l.erase n).length+1:=by
   rw[List.length_erase]
   split<;>omega
  omega
theorem rightW_few (h:Zaa nb zs ls=true):zs.length<=nb:=by
 obtain⟨r,b⟩:=Zbs h
 have d:(zs.map Int.toNat).Nodup:=by
  rw[List.Nodup,List.pairwise_iff_getElem];intro i j a c f;simp only[List.length_map] at a c;simp only[List.getElem_map];intro e;obtain⟨g,_,_,_⟩:=b i a (by omega);obtain⟨s,_,_,k⟩:=b j c (by omega);apply k;have l:zs[i]=zs[j]:=by omega
  rw[<-l,List.mem_take_iff_getElem];exact⟨i,by omega,rfl⟩
 have:=nodup_bound nb (zs.map Int.toNat) d (λx m=>by
  obtain⟨y,q,rfl⟩:=List.mem_map.1 m;obtain⟨i,a,rfl⟩:=List.getElem_of_mem q;obtain⟨g,t,_,_⟩:=b i a (by omega)
  omega)
 simpa using this
theorem Zgi {write:Nat} (h:zs.length=ls.length):(Yt write zs ls).length=zs.length:=by simp[Yt,h]
theorem Zhr {write:Nat} (h:zs.length=ls.length) (k:Nat) (hk:k<zs.length) (a:k<ls.length) (hk3:k<(Yt write zs ls).length):
  (Yt write zs ls)[k]=mkF write (2*16777216+zs[k].toNat) ls[k]:=by
 simp[Yt]
theorem cell_keep {w w':World} {a:Addr} {u:Value} (h:w.cell? a=some u) (ht:Zb T w w') (b:¬T a.block):w'.cell? a=some u:=by rw[<-h];exact World.cell?_of_block (ht.block _ (World.block_lt_of_cell? w a h) b)
def WrHeld (p vb o:Nat) (n:Int) (x:Value) (W:World):Prop:=W.cell? ⟨p,1,none⟩=some (.int .u64 n)/\W.cell? ⟨vb,o,none⟩=some x
theorem WrHeld.below (h:WrHeld p vb o n x W) (hb:Below W.heap.size W W'):WrHeld p vb o n x W':=⟨Zi hb _ _ h.1,Zi hb _ _ h.2⟩
theorem WrHeld.turned (h:WrHeld p vb o n x W) (ht:Zb T W W') (h1:¬T p) (h2:¬T vb):WrHeld p vb o n x W':=⟨cell_keep h.1 ht h1,cell_keep h.2 ht h2⟩
def MkHeld (p:Nat) (n s:Int) (W:World):Prop:=W.cell? ⟨p,1,none⟩=some (.int .u64 n)/\W.cell? ⟨p,2,none⟩=some (.int .i64 s)
theorem MkHeld.below {s:Int} (h:MkHeld p n s W) (hb:Below W.heap.size W W'):MkHeld p n s W':=⟨Zi hb _ _ h.1,Zi hb _ _ h.2⟩
theorem jwrite_any (w:World) (F:Ft) (p:Nat) (J:Jn) (h:JAt w F p J) (hn:Nib w) (hn2:2<=J.D.n) (u:Value) (zs:List Int) (X:∀w',Zb (JT F p) w w'->IsI w' u zs) (v:Value) (ls:List (List UInt8)) (Y:∀w',Zb (JT F p) w w'->IsBs w' v ls)
 (Z:∀n∈zs,-9223372036854775808<=n/\n<=9223372036854775807) (hlast:J.last+1<18446744073709551616) (hs1:-9223372036854775808<=J.seq) (hs2:J.seq<9223372036854775807):
  Calls Tryz.prog 72 #[jptr p,u,v] w λe w'=>e=.returned (.int .i64 (J.write zs ls).1)/\JAt w' F p (J.write zs ls).2/\Zb (JT F p) w w':=by
 obtain⟨c0,c1,c2,c3⟩:=h.cells;have hnm:=h.disk.ok.nm
 by_cases H:J.off=0
 case neg =>
  have I:J.write zs ls=(J.off,J):=by rw[Jn.write,if_pos H]
  rw[I];have hd:(J.off==0)=false:=by simpa using H
  have aQ:(J.off != 0)=true:=by simpa using H
  have HJ:=Hd h;clear I h H;clear X Y;generalize J.off=o at *;go_enter Tryz.func72,Tryz.ntmps72;go_wp2_with fail;go_ret;exact⟨rfl,HJ.out,Zb.refl _ w⟩
 rw[H] at c3;have hu:=X w (Zb.refl _ w)
 have hv:=Y w (Zb.refl _ w);have Hu:=Hd X;have Hv:=Hd Y;clear X Y;obtain⟨au,cu,rfl,aR,az⟩:=hu.form;obtain⟨av,cv,rfl,aS,aA⟩:=hv.form;unfold maxLen at az aA;have HR:=Hd (right_any w F p J h hn2 _ zs hu _ ls hv Z)
 cases U:Zaa J.D.blocks zs ls with
 | false =>
  have I:J.write zs ls=(2,J):=by rw[Jn.write,if_neg (by simpa using H),if_pos U]
  rw[I];rw[U] at HR;have HJ:=Hd h
  clear I h H hu hv Z U;go_enter Tryz.func72,Tryz.ntmps72;go_wp2_with fail;refine HR.out.mono ?_;rintro e w1 ⟨rfl,l⟩;go_wp2_with fail;go_ret;exact⟨rfl,HJ.out.below l,Zb.of_below l⟩
 | true =>
 rw[U] at HR;obtain⟨q,hsp⟩:=Zbs U;have hfew:=rightW_few U
 by_cases A:zs.length=0
 case pos =>
  have I:J.write zs ls=(0,J):=by rw[Jn.write,if_neg (by simpa using H),if_neg (by simp[U]),if_pos A]
  rw[I];have HJ:=Hd h
  have hd:((zs.length:Int)==0)=true:=by simp[A]
  clear I h H hu hv Z U hsp q A;go_enter Tryz.func72,Tryz.ntmps72;go_wp2_with fail;refine HR.out.mono ?_;rintro e w1 ⟨rfl,l⟩;go_wp2_with fail;go_ret;exact⟨rfl,HJ.out.below l,Zb.of_below l⟩
 have I:J.write zs ls=((J.writes zs ls).off,J.writes zs ls):=by rw[Jn.write,if_neg (by simpa using H),if_neg (by simp[U]),if_neg A]
 rw[I];have hd:((zs.length:Int)==0)=false:=by rw[beq_eq_false_iff_ne];omega
 have ah:(Yt (J.last+1) zs ls).length=zs.length:=Zgi q;have aB:Hid (∀k (h1:k<zs.length) (h2:k<ls.length) (h3:k<(Yt (J.last+1) zs ls).length),(Yt (J.last+1) zs ls)[k]=mkF (J.last+1) (2*16777216+zs[k].toNat) ls[k]):=Hd (λk h1 h2 h3=>Zhr q k h1 h2 h3)
 have Hw:Hid (J.writes zs ls=if (((((({ J with last:=J.last+1 }:Jn).layTo (Yt (J.last+1) zs ls) zs.length).flush).lay ((J.last+1) % 2) (Xl (J.last+1) zs.length (J.seq+1))).flush).spread (Yt (J.last+1) zs ls)).off=0
  then { ((((({ J with last:=J.last+1 }:Jn).layTo (Yt (J.last+1) zs ls) zs.length).flush).lay ((J.last+1) % 2) (Xl (J.last+1) zs.length (J.seq+1))).flush).spread (Yt (J.last+1) zs ls) with seq:=J.seq+1 }
  else ((((({ J with last:=J.last+1 }:Jn).layTo (Yt (J.last+1) zs ls) zs.length).flush).lay ((J.last+1) % 2) (Xl (J.last+1) zs.length (J.seq+1))).flush).spread (Yt (J.last+1) zs ls)):=Hd rfl
 have aC:=Hd A;have Hlen:=Hd q;have Hsp:=Hd hsp;have Hfl:=Hd ah;have HJ:=Hd h;have ai:∀k,JT F p k->k<w.heap.size:=λk hk=>h.lt hk;have Hap:=Hd ai;have Hn:=Hd hn;have aT:J.D.blocks<=8191:=by unfold Dk.blocks;omega
 obtain⟨ay,aD,aE⟩:(J.last:Int)+1<=18446744073709551615/\J.seq+1<=9223372036854775807/\-9223372036854775808<=J.seq+1:=by omega
 clear I hu hv Z U q hsp A h ai hn ah c0 c1 c2 H;generalize aj:Yt (J.last+1) zs ls=f at *;clear aj;go_enter Tryz.func72,Tryz.ntmps72;go_wp2_with fail;refine HR.out.mono ?_;rintro e w1 ⟨rfl,l⟩;have hj1:=HJ.out.below l
 have ak:=Hn.out.below l;obtain⟨c0,c1,c2,c3⟩:=hj1.cells;have f1:=Zf hj1.head 1;have hj2:=hj1.put_last (J.last+1);have ht2:=(Zb.of_below (T:=JT F p) l).trans ((Zc w1 p 1 (.int .u64 ((J.last+1:Nat):Int))).jp F);have hn2':=ak.turned hj1 ((Zc w1 p 1 (.int .u64 ((J.last+1:Nat):Int))).jp F);rw[show ((J.last+1:Nat):Int)=(J.last:Int)+1 by omega] at hj2 ht2 hn2'
 have al:w.heap.size<=(w1.setCell ⟨p,1,none⟩ (.int .u64 ((J.last:Int)+1))).heap.size:=ht2.size;clear hj1 ak l HR;go_upto_region 10 with fail;generalize w1.setCell ⟨p,1,none⟩ (.int .u64 ((J.last:Int)+1))=w2 at *;have a0:Hid (({ J with last:=J.last+1 }:Jn).last=J.last+1/\({ J with last:=J.last+1 }:Jn).seq=J.seq/\({ J with last:=J.last+1 }:Jn).D.n=J.D.n):=Hd ⟨rfl,rfl,rfl⟩;generalize ({ J with last:=J.last+1 }:Jn)=J1 at *;clear c0 c1 c2 c3 f1;have HW:=Hd Hw.out;clear Hw;go_wp2_with fail;have hmF:=Zbb.nil w.heap.size w2;go_loopw [7,42] (λx i wr=>∃k:Nat,k<=zs.length/\i=.int .i64 (k:Int)/\Zbb w.heap.size wr x (f.take k)/\JAt wr F p (J1.layTo f k)/\Nib wr/\Zb (JT F p) w wr) (λ_ i _=>zs.length - (intOf i).toNat)
 case atStart=>exact⟨0,Vl _,rfl,hmF,hj2,hn2',ht2⟩
 case round =>
  obtain⟨k,hk,rfl,N,B,a1,t⟩:=hrel;clear hmF hj2 hn2' ht2 al;have hszr:=t.size
  by_cases a2:k<zs.length
  .have r:k<ls.length:=by have:=Hlen.out;omega
   have O:k<f.length:=by have:=Hfl.out;omega
   have aU:decide ((k:Int)<(zs.length:Int))=true:=by simpa using a2
   have aP:decide ((k:Int)<(ls.length:Int))=true:=by simpa using r
   obtain⟨ub,uo,rfl,a5⟩:=isI_at (Hu.out wr t) k a2;obtain⟨vb,vo,x,rfl,P,hx⟩:=isBs_at (Hv.out wr t) k r
   have aF:Hid (¬w.heap.size<=vb):=by
    obtain⟨aV,aW,x',e',aG,_⟩:=isBs_at (Hv.out w (Zb.refl _ w)) k r;simp only[Option.some.injEq,Addr.mk.injEq] at e';have:=World.block_lt_of_cell? w _ aG
    show ¬w.heap.size<=vb
    rw[e'.1];exact Nat.not_le.2 this
   have aH:Hid (¬w.heap.size<=0):=Nat.not_le.2 (World.block_lt_of_cell? w _ (Hn.out 0 (by omega)));have hsp:=Hsp.out k a2 r;have hfk:=aB.out k a2 r O;have ab:f.take (k+1)=f.take k++[f[k]]:=List.take_succ_eq_append_getElem O;have ad:J1.layTo f (k+1)=(J1.layTo f k).lay (2+k) f[k]:=by rw[Jn.layTo,List.getD_eq_getElem?_getD,List.getElem?_eq_getElem O];rfl
   have am:(J1.layTo f k).last=J.last+1:=by rw[Jn.layTo_last];exact a0.out.1
   obtain⟨m,hm⟩:=Ub hsp.1;have aI:m<16777216:=by have:=hsp.2.1;omega
   rw[hm,Int.toNat_natCast] at hfk;rw[hm] at a5;rw[hfk] at ab ad;have hbl:=hsp.2.2.1
   have a6:(f.take k).length=k:=by rw[List.length_take];omega
   have an:=Hd ab;have Hst:=Hd ad;have Htkl:=Hd a6;clear hsp hfk ab ad hm a6;generalize ls[k]=b at *;generalize J1.layTo f k=Jk at *;obtain⟨q0,Q,q2,q3⟩:=B.cells;rw[am,show ((J.last+1:Nat):Int)=(J.last:Int)+1 by omega] at Q
   have C:(mkF (J.last+1) (2*16777216+m) b).length=128:=Xf _ _ _;have Hfr:=λ(W:World) (d:IsB W x b) (hn:Nib W)=>Zfl W (J.last+1) 2 m x b hlast (by omega) aI d hn;rw[show ((J.last+1:Nat):Int)=(J.last:Int)+1 by omega] at Hfr
   have aJ:=Hd Hfr;clear Hfr am;generalize mkF (J.last+1) (2*16777216+m) b=L at *;go_upto_region 14 with fail;have aX:vb<wr.heap.size:=World.block_lt_of_cell? wr _ P;have aY:p<wr.heap.size:=World.block_lt_of_cell? wr _ Q;have ae:WrHeld p vb (vo+k) ((J.last:Int)+1) x wr.drew:=⟨Q,P⟩;have hm3:=N.drew;have hj3:=B.drew;have hn3:Nib wr.drew:=a1.below (Ve _ wr).drew;have ht3:=t.drew;have hx3:=hx.drew;have hsz3:w.heap.size<=wr.drew.heap.size:=hszr;clear N B a1 t hx q0 Q q2 q3 a5 P hszr;refine rgA (S:=(WrHeld p vb (vo+k) ((J.last:Int)+1) x)) ae (λhH=>?_);refine tdI [0,1,2,3,4,5,6,7,8,9] ?_
   iterate 10
    refine tdS (v:=?_) ?_ hH ?_;rotate_left
    .rintro w ⟨r1,r2⟩;go_simp;try with_reducible rfl
    try simp only[Act.put,zA,zB,zC]
   refine tdE ?_;refine rdA 10 rfl (λK z=>?_);go_simp;refine(aJ.out _ hx3 hn3).mono ?_;rintro e V ⟨rfl,d⟩;have hHn:=hH.below d
   replace hj3:=hj3.below d;replace hn3:=hn3.below d;replace ht3:=ht3.trans (Zb.of_below (T:=JT F p) d);replace hm3:=hm3.below d;replace hsz3:=Vk hsz3 d.size;clear d hH hx3;go_wp2_with fail;refine z.out _ _ hHn (λhH=>?_);clear hHn;clear z K;try simp only[Act.put,zA,zB,zC]
   refine rdA 11 rfl (λK z=>?_);refine arm_build_one (by rfl) (.tmp 57) rfl L C rfl ?_;have d:Below V.heap.size V (V.alloc (.cells (bv L).toArray 159)):=(Ve _ _).alloc (Va _) _
   have ao:=Zh.alloc V 159 L;have hHn:=hH.below d;replace hj3:=hj3.below d;replace hn3:=hn3.below d;replace ht3:=ht3.trans (Zb.of_below (T:=JT F p) d);replace hm3:=hm3.below d;replace hsz3:=Vk hsz3 d.size;clear d hH;generalize V.alloc (.cells (bv L).toArray 159)=W4 at *;generalize V.heap.size=g4 at *;refine z.out _ _ hHn (λhH=>?_);clear hHn;clear z K;try simp only[Act.put,zA,zB,zC]
   refine rdA 12 rfl (λK z=>?_);obtain⟨v5,W5,ap,hm5,a⟩:=hm3.snoc hsz3 (by rw[Htkl.out];omega) L C g4 ao;have hHn:=hH.turned a (λe=>by have:=Hap.out p (.inr rfl);omega) (λe=>aF.out e)
   have s:=hj3.turned a (λj hj e=>by have:=Hap.out j hj;omega);have hn5:=hn3.of_turned a (λe=>aH.out e);have ht5:=ht3.then a (λi hi e=>by omega);refine Zcp (by rfl) (.tmp 47) (.tmp 58) 165 165 rfl _ _ _ rfl rfl ap ?_;clear hj3 hn3 ht3 hm3 ao a ap hH;refine z.out _ _ hHn (λhH=>?_);clear hHn;clear z K;try simp only[Act.put,zA,zB,zC]
   refine tkB 13 rfl (v:=?_) ?_ hH ?_;rotate_left
   .rintro w ⟨r1,r2⟩;go_simp;try with_reducible rfl
   try simp only[Act.put,zA,zB,zC]
   refine dnA ?_;clear hH;have R:Zbb w.heap.size W5 v5 (f.take (k+1)):=by rw[an.out];exact hm5
   obtain⟨g5,c5,af,a7⟩:∃g5 c5,v5=.slice (some ⟨g5,0,none⟩) (k+1) c5/\W5.rangeAt g5 (k*128) (bv L):=by
    have y:(f.take (k+1)).length=k+1:=by rw[List.length_take];omega
    rcases R.range with ⟨_,h2⟩ | ⟨g,c,h1,_,_,_,h3⟩
    .rw[h2] at y;simp at y
    .refine⟨g,c,by rw[h1,y],?_⟩
     have h4:=h3 k (by omega)
     have h5:(f.take (k+1))[k]'(by omega)=L:=by
      have h6:(f.take (k+1))[k]?=some L:=by rw[an.out,List.getElem?_append_right (by rw[Htkl.out];exact Va _),Htkl.out,Nat.sub_self];rfl
      exact(List.getElem?_eq_some_iff.1 h6).2
     rw[h5] at h4;exact h4
   subst af;have aK:(bv L).length=128:=by rw[Zk,C]
   have aZ:decide ((k:Int)<((k+1:Nat):Int))=true:=by rw[decide_eq_true_eq];omega
   go_wp2_with (refine wpList_load_mid rfl 159 (.tmp 65) rfl g5 (k*128) rfl (bv L) _ a7 Tryz.underlying159 rfl (by rw[Zj,aK]) ?_);have hly:=lay_any W5 F p Jk s (2+k) (by omega) L C
   rw[show ((2+k:Nat):Int)=2+(k:Int) by omega] at hly
   refine hly.mono ?_;rintro e W6 ⟨rfl,a3,ht6⟩;have hm6:=R.turned ht6 Hap.out
   have a4:=hn5.turned s ht6;have ht6':=ht5.trans ht6;clear hly hm5 R s hn5 ht5 ht6 a7;go_wp2_with fail;go_roundw
   case rel=>exact⟨k+1,by omega,by go_num,hm6,by rw[Hst.out];exact a3,a4,ht6'⟩
   case measure=>simp[intOf];omega
  .obtain rfl:k=zs.length:=by omega
   have b0:decide ((zs.length:Int)<(zs.length:Int))=false:=by simp
   have aq:(J1.layTo f zs.length).last=J.last+1:=by rw[Jn.layTo_last];exact a0.out.1
   have a8:(J1.layTo f zs.length).seq=J.seq:=by rw[Jn.layTo_seq];exact a0.out.2.1
   have a9:(J1.layTo f zs.length).D.n=J.D.n:=by rw[Jn.layTo_n];exact a0.out.2.2
   have ar:=Hd (And.intro aq (And.intro a8 a9));rw[List.take_of_length_le (by rw[Hfl.out];exact Va _)] at N;clear aq a8 a9;generalize J1.layTo f zs.length=J2 at *;go_wp2_with fail;refine(Zfm wr F p J2 B).mono ?_;rintro e V ⟨rfl,hj3,ht3⟩;have hm3:=N.turned ht3 Hap.out;have hn3:=a1.turned B ht3;replace ht3:=t.trans ht3
   have E:Hid (J2.flush.last=J.last+1/\J2.flush.seq=J.seq/\J2.flush.D.n=J.D.n):=by
    show _/\_/\_
    rw[Jn.flush_last,Jn.flush_seq,Jn.flush_n];exact ar.out
   clear N B a1 t ar hszr;generalize J2.flush=J3 at *
   obtain⟨g5,c5,af⟩:∃g5 c5,u7=.slice (some ⟨g5,0,none⟩) zs.length c5:=by
    rcases hm3.range with ⟨_,h2⟩ | ⟨g,c,h1,_,_,_,h3⟩
    .have h4:=Hfl.out;rw[h2] at h4;exact absurd h4.symm aC.out
    .exact⟨g,c,by rw[h1,Hfl.out]⟩
   subst af;obtain⟨q0,Q,q2,q3⟩:=hj3.cells;rw[E.out.1,show ((J.last+1:Nat):Int)=(J.last:Int)+1 by omega] at Q
   rw[E.out.2.1] at q2;have ae:MkHeld p ((J.last:Int)+1) J.seq V.drew:=⟨Q,q2⟩
   replace hm3:=hm3.drew;replace hj3:=hj3.drew;replace hn3:Nib V.drew:=hn3.below (Ve _ V).drew;replace ht3:=ht3.drew;have Hmk:=λ(W:World) (hn:Nib W)=>marked_any W (J.last+1) zs.length (J.seq+1) hlast (by omega) hn
   rw[show ((J.last+1:Nat):Int)=(J.last:Int)+1 by omega] at Hmk
   have aL:=Hd Hmk;have C:(Xl (J.last+1) zs.length (J.seq+1)).length=128:=Xf _ _ _;have b1:IntKind.i64.wrap (J.seq+1)=J.seq+1:=Vf _ (by omega);have aw:IntKind.i64.wrap (((J.last:Int)+1).tmod 2)=(((J.last+1) % 2:Nat):Int):=by rw[Int.tmod_eq_emod_of_nonneg (by omega),Vf _ (by omega)];omega
   have aM:=Hd aw;clear q0 Q q2 q3 Hmk aw;generalize Xl (J.last+1) zs.length (J.seq+1)=M at *;go_wp2_with fail;refine rgA (S:=(MkHeld p ((J.last:Int)+1) J.seq)) ae (λhH=>?_);refine tdI [0,1,2,3,4,5,6,7,8,9,10,11,12,13,14,15,16,17] ?_
   iterate 18
    refine tdS (v:=?_) ?_ hH ?_;rotate_left
    .rintro w ⟨r1,r2⟩;go_simp;try with_reducible rfl
    try simp only[Act.put,zA,zB,zC]
   refine tdE ?_;refine rdA 18 rfl (λK z=>?_);go_simp;refine(aL.out _ hn3).mono ?_;rintro e W4 ⟨rfl,d⟩;have hHn:=hH.below d
   replace hj3:=hj3.below d;replace hn3:=hn3.below d;replace ht3:=ht3.trans (Zb.of_below (T:=JT F p) d);replace hm3:=hm3.below d;clear d hH;go_wp2_with fail;refine z.out _ _ hHn (λhH=>?_);clear hHn;clear z K;try simp only[Act.put,zA,zB,zC]
   refine rdA 19 rfl (λK z=>?_);go_simp;rw[aM.out];have hly:=lay_any W4 F p J3 hj3 ((J.last+1) % 2) (by omega) M C
   refine hly.mono ?_;rintro e W5 ⟨rfl,s,a⟩;have hm5:=hm3.turned a Hap.out
   have hn5:=hn3.turned hj3 a;have ht5:=ht3.trans a
   have hHn:MkHeld p ((J.last:Int)+1) J.seq W5:=by
    obtain⟨_,r1,r2,_⟩:=s.cells;rw[Jn.lay_last,E.out.1,show ((J.last+1:Nat):Int)=(J.last:Int)+1 by omega] at r1
    rw[Jn.lay_seq,E.out.2.1] at r2;exact⟨r1,r2⟩
   clear hly hm3 hj3 hn3 ht3 a hH;go_wp2_with fail;refine z.out _ _ hHn (λhH=>?_);clear hHn;clear z K;try simp only[Act.put,zA,zB,zC]
   refine dnA ?_
   have ax:Hid ((J3.lay ((J.last+1) % 2) M).D.n=J.D.n/\(J3.lay ((J.last+1) % 2) M).seq=J.seq):=by
    show _/\_
    rw[Jn.lay_n,Jn.lay_seq];exact⟨E.out.2.2,E.out.2.1⟩
   clear hH;generalize J3.lay ((J.last+1) % 2) M=J5 at *;go_wp2_with fail;refine(Zfm W5 F p J5 s).mono ?_;rintro e W6 ⟨rfl,a3,ht6⟩;have hm6:=hm5.turned ht6 Hap.out
   have a4:=hn5.turned s ht6;replace ht6:=ht5.trans ht6;have aa:2<=J5.flush.D.n:=by rw[Jn.flush_n,ax.out.1];exact hn2
   have aN:Hid (J5.flush.seq=J.seq):=by
    show _=_
    rw[Jn.flush_seq];exact ax.out.2
   clear hm5 s hn5 ht5;generalize J5.flush=J6 at *;go_wp2_with fail;refine(spread_any W6 F p J6 a3 a4 aa w.heap.size _ f hm6 Hap.out).mono ?_;rintro e W7 ⟨rfl,G,ht7⟩;replace ht7:=ht6.trans ht7;clear hm6 a3 a4 ht6 aa;have aO:(J6.spread f).seq=J.seq:=by rw[Jn.spread,Jn.flush_seq,Jn.spreads_seq];exact aN.out
   generalize J6.spread f=J7 at *;obtain⟨q0,Q,q2,q3⟩:=G.cells;rw[aO] at q2;by_cases h7:J7.off=0
   .have hw7:=HW.out
    rw[if_pos h7] at hw7;have HW7:=Hd hw7
    rw[h7] at q3;have f2:=Zf G.head 2
    have ag:=G.put_seq (J.seq+1);have ht8:=ht7.trans ((Zc W7 p 2 (.int .i64 (J.seq+1))).jp F);obtain⟨r0,r1,r2,r3⟩:=ag.cells;rw[show ({ J7 with seq:=J.seq+1 }:Jn).off=0 from h7] at r3
    have HF:=Hd (And.intro ag ht8);have H7:=Hd h7;clear G ht7 ag ht8 h7 hw7 HW q0 Q r0 r1 r2;go_wp2_with fail;go_ret;rw[HW7.out];exact⟨by show Ending.returned (.int .i64 0)=.returned (.int .i64 J7.off);rw[H7.out],HF.out⟩
   .have hw7:=HW.out
    rw[if_neg h7] at hw7;have HW7:=Hd hw7
    have b2:(J7.off==0)=false:=by simpa using h7
    have HF:=Hd (And.intro G ht7);clear G ht7 h7 hw7 HW q0 Q q2;go_wp2_with fail;go_ret;rw[HW7.out];exact⟨rfl,HF.out⟩
end
section
open Go.RowKit
variable {w:World}{v:Value}
theorem info_int:(Tryz.prog.info? 3).map (λi=>(i.zero,i.size,i.bytes))=some (some (.int .i64 0),1,8):=by kernel_rfl
def iv (zs:List Int):List Value:=zs.map λn=>.int .i64 n
def Qt (base:Nat) (w:World) (v:Value) (zs:List Int):Prop:=w.ownsRow base 3 1 v zs.length (iv zs)
theorem Qt.nil (base:Nat) (w:World):Qt base w (.slice none 0 0) []:=Uj w base 3 1
theorem Qt.isI {base:Nat} {zs:List Int} (h:Qt base w v zs):IsI w v zs:=by
 rcases h.2 with ⟨rfl,j⟩ | ⟨g,b,k,rfl,n,l,c,d,m,a⟩
 .obtain rfl:zs=[]:=Vh j;exact IsI.nil w
 .refine⟨some ⟨g,0,none⟩,b,rfl,c,d,λh=>(by cases h),?_⟩
  rintro x ⟨⟩;refine⟨λ_=>rfl,λi f=>?_⟩;rw[Vc _ _ _ _ _ _ l,Nat.zero_add];have e:(iv zs)[i]?=some (.int .i64 zs[i]):=by simp[iv,f]
  rw[<-a,List.getElem?_take,if_pos (by simpa [iv] using f)] at e;simpa using e
theorem iv_append (l r:List Int):iv (l++r)=iv l++iv r:=by simp[iv]
theorem iv_oneCell (l:List Int):∀u∈iv l,u.oneCell'=true:=by intro u a;obtain⟨_,_,rfl⟩:=List.mem_map.1 a;rfl
theorem iv_get (l:List Int) (i:Nat) (h:i<l.length):(iv l)[i]?=some (.int .i64 l[i]):=by simp[iv,h]
theorem run_firstCells_isI {P:Program} {l:List Int} (h:IsI w v l):∀w':World,w'.heap=w.heap->(Builtin.firstCells 1 l.length v).run P w'=.ok (iv l).toArray w':=by
 intro w' g;obtain⟨a,i,rfl,n,p,k,d⟩:=h
 cases a with
 | none =>
  have:l=[]:=Vh (by have:=k rfl;omega);subst this;simp[Builtin.firstCells,iv]
 | some x =>
  by_cases f:l=[]
  .subst f;simp[Builtin.firstCells,iv,loadCells,loadCellsFrom]
  obtain⟨b,o,s⟩:=x;obtain⟨m,d⟩:=d _ rfl;obtain rfl:s=none:=m (List.length_pos_iff.2 f);refine Uc (P:=P) w' 1 l.length _ _ _ (iv l) (by simp[iv]) ?_;intro j u e;have c:j<l.length:=by have:=(List.getElem?_eq_some_iff.1 e).1;simpa [iv] using this
  rw[iv_get l j c] at e;obtain rfl:=Ud e;rw[Addr.add_lit,World.cell?_of_block (w:=w) (by rw[g])];exact d j c
theorem run_ints (w:World) (base:Nat) (v:Value) (l:List Int) (c:Qt base w v l) (u:Value) (m:List Int) (hu:IsI w u m) (hlen:l.length+m.length<=17592186044416) (b:base<=w.heap.size):
  ∃d f,(Builtin.append_ #[32,32] 32 #[v,u]).run Tryz.prog w=.ok d f/\Qt base f d (l++m)/\Below base w f/\w.grownBy f v.ownBlock/\(d=.slice none 0 0↔v=.slice none 0 0/\m=[])/\(d.ownBlock=v.ownBlock\/d.ownBlock=some w.heap.size):=by
 obtain⟨i,o,p,g,h⟩:=Ue (P:=Tryz.prog) (e:=3) info_int
 obtain⟨d,f,q,j,n,r,s⟩:=Zfc (P:=Tryz.prog) w base 32 32 32 3 i (.int .i64 0) 1 8 _ Tryz.underlying32 Tryz.underlying32 (.inl rfl) o p g h rfl (by decide) v l.length (iv l) c u m.length (iv m)
  (λf=>by obtain⟨a,t,rfl,_⟩:=hu;simp[Builtin.lenOf]) (by simp[iv]) (run_firstCells_isI hu) (iv_oneCell m) (by unfold maxLen;omega) (by omega) b
 refine⟨d,f,q,?_,(Ve base w).grown n b λk x=>(World.ownsRow.lt c k x).1,n,by rw[r,List.length_eq_zero_iff],s⟩;rw[<-iv_append,<-List.length_append] at j;exact j
end
section
open Go.RowKit
variable {B s n:Nat}{w w':World}{xs:List Value}{v u:Value}{zs:List Int}{e:TypeId}
theorem Zfh {i:TypeId} {l m:Nat} {o:List Value} (h:w.ownsRow B e s u n xs) (hv:w.ownsRow B i l v m o) (hne:e≠i) (hg:w.grownBy w' v.ownBlock):w'.ownsRow B e s u n xs:=by
 obtain⟨p,b⟩:=h;refine⟨p,?_⟩;rcases b with b | ⟨g,c,d,q,t,f,r⟩
 .exact .inl b
 .refine .inr ⟨g,c,d,q,t,?_,r⟩
  rw[hg.block g (Za f) λj=>hne ?_]
  .exact f
  .rcases hv.2 with ⟨rfl,_⟩ | ⟨x,_,k,rfl,_,a,_⟩
   .cases j
   .have:g=x:=by simpa [Value.ownBlock] using j
    subst this;rw[f] at a;injection a with a;injection a with _ a
theorem Zgx (h:w.ownsRow B e s u n xs) (hw:∀k,B<=k->k<w.heap.size->w'.heap[k]?=w.heap[k]?):w'.ownsRow B e s u n xs:=by
 obtain⟨i,a⟩:=h;refine⟨i,?_⟩;rcases a with a | ⟨g,b,c,j,d,f,r⟩
 .exact .inl a
 .exact .inr ⟨g,b,c,j,d,(hw g d (Za f)).trans f,r⟩
theorem grown_turned (h:w.ownsRow B e s v n xs) (hg:w.grownBy w' v.ownBlock):Zb (λk=>B<=k) w w':=by
 refine⟨hg.os,hg.tape,hg.output,hg.size,λk a b=>hg.block k a λe=>b ?_⟩;rcases h.2 with ⟨rfl,_⟩ | ⟨c,_,_,rfl,d,_⟩
 .cases e
 .have:k=c:=by simpa [Value.ownBlock] using e
  omega
theorem Qt.grow (h:Qt B w v zs) (hB:B<=w.heap.size) (hL:zs.length<=1000000) (z:Int) (g:Nat) (hg:w.heap[g]?=some (.cells #[.int .i64 z] 3 (0,0))):
  ∃b w',(Builtin.append_ #[32,32] 32 #[v,.slice (some ⟨g,0,none⟩) 1 1]).run Tryz.prog w=.ok b w'/\Qt B w' b (zs++[z])/\w.grownBy w' v.ownBlock:=by
 obtain⟨i,k,l,m,o⟩:=Ue (P:=Tryz.prog) (e:=3) info_int;have a:∀w':World,w'.heap=w.heap->∀j c,([.int .i64 z]:List Value)[j]?=some c->w'.cell? ((⟨g,0,none⟩:Addr).add j)=some c:=λw' d j c p=>by rw[Addr.add_mid,Nat.zero_add,Vc w' _ _ _ _ _ (by rw[d];exact hg)];simpa using p
 obtain⟨b,w',q,r,f,_,_⟩:=Zfc (P:=Tryz.prog) w B 32 32 32 3 i _ 1 8 _ Tryz.underlying32 Tryz.underlying32 (.inl rfl) k l m o rfl (by decide) v zs.length (iv zs) h
  (.slice (some ⟨g,0,none⟩) 1 1) 1 [.int .i64 z] (λw'=>rfl) rfl (λw' d=>Uc (P:=Tryz.prog) w' 1 1 ⟨g,0,none⟩ 1 1 [.int .i64 z] rfl (a w' d)) (by
   intro c t
   rw[List.mem_singleton.1 t];rfl) (by simp[maxLen];omega) (by omega) hB
 refine⟨b,w',q,?_,f⟩;unfold Qt;rw[show iv (zs++[z])=iv zs++[.int .i64 z] by simp[iv],List.length_append]
 exact r
theorem info_bytes2:(Tryz.prog.info? 77).map (λi=>(i.zero,i.size,i.bytes))=some (some (.slice none 0 0),1,24):=by kernel_rfl
theorem Zcv (h:w.ownsRow B e s u n xs) {k:Nat} (hk:some k=u.ownBlock):B<=k/\∃c,w.heap[k]?=some (.cells c e (0,0)):=by
 rcases h.2 with ⟨rfl,_⟩ | ⟨g,_,a,rfl,b,d,_⟩
 .cases hk
 .have:k=g:=by simpa [Value.ownBlock] using hk
  subst this;exact⟨b,a,d⟩
theorem Qt.keep (h:Qt B w v zs) (hw:∀k,B<=k->k<w.heap.size->w'.heap[k]?=w.heap[k]?):Qt B w' v zs:=Zgx h hw
theorem Qt.below (h:Qt B w v zs) (hb:Below w.heap.size w w'):Qt B w' v zs:=h.keep λk _ a=>hb.block k a
def Held (B:Nat) (w0:World) (P:World->Prop):Prop:=∀w,(∀k,B<=k->k<w0.heap.size->w.heap[k]?=w0.heap[k]?)->P w
theorem Held.now {P:World->Prop} (h:Held B w P):P w:=h w λ_ _ _=>rfl
end
section
open Go.RowKit
def Jn.read (J:Jn) (at_:Int):List UInt8 × Int × Jn :=
 if J.off≠0 then ([],J.off,J)
 else if ¬(0<=at_/\at_<J.D.blocks) then ([],2,J)
 else if J.D.off then ([],43,{ J with off:=43 })
 else if Zao (sec J.D.now (J.D.home at_.toNat))&&decide (Zav (sec J.D.now (J.D.home at_.toNat))=3)&&decide ((Zp (sec J.D.now (J.D.home at_.toNat)):Int)=at_) then (Xv (sec J.D.now (J.D.home at_.toNat)),0,J)
 else ([],62,J)
theorem Dk.home_lt {D:Dk} {i:Nat} (h:i<D.blocks):D.home i<D.n:=by unfold Dk.home;unfold Dk.blocks at *;omega
theorem jread_any (w:World) (F:Ft) (p:Nat) (J:Jn) (h:JAt w F p J) (hn:Nib w) (hn2:2<=J.D.n) (a:Int) (h1:-9223372036854775808<=a) (h2:a<=9223372036854775807) :
  Calls Tryz.prog 83 #[jptr p,.int .i64 a] w λe w' =>
   ∃v,e=.returned (.tuple #[v,.int .i64 (J.read a).2.1])/\Held w.heap.size w' (λw=>IsB w v (J.read a).1)/\JAt w' F p (J.read a).2.2/\Zb (JT F p) w w':=by
 obtain⟨O,P,Q,c3⟩:=h.cells;have hnm:=h.disk.ok.nm
 by_cases j:J.off=0
 case neg =>
  have l:J.read a=([],J.off,J):=by rw[Jn.read,if_pos j]
  rw[l];have S:(J.off==0)=false:=by simpa using j
  have B:(J.off != 0)=true:=by simpa using j
  have HJ:=Hd h.drew;clear l h j;generalize J.off=o at *;go_enter Tryz.func83,Tryz.ntmps83;go_wp2_with fail;go_region;go_wp2_with fail;go_ret2;exact⟨_,rfl,(λ_ _=>IsB.nil _),HJ.out,(Zb.refl _ w).drew⟩
 rw[j] at c3;have HB:=Hd (Zbp w F p J h hn2)
 have a0:J.D.blocks<=8191:=by unfold Dk.blocks;omega
 by_cases q:0<=a/\a<(J.D.blocks:Int)
 case neg =>
  have l:J.read a=([],2,J):=by rw[Jn.read,if_neg (by simpa using j),if_pos q]
  rw[l];have HJ:=Hd h
  clear l h O P Q j;by_cases C:a<0
  .have S:decide (a<0)=true:=by simpa using C
   go_enter Tryz.func83,Tryz.ntmps83;go_wp2_with fail;go_ret2;exact⟨_,rfl,(λ_ _=>IsB.nil _),HJ.out,Zb.refl _ w⟩
  .have S:decide (a<0)=false:=by simpa using C
   have B:decide ((J.D.blocks:Int)<=a)=true:=by simp;omega
   generalize J.D.blocks=b at *;go_enter Tryz.func83,Tryz.ntmps83;go_wp2_with fail;refine HB.out.mono ?_;rintro e c ⟨rfl,rfl⟩;go_wp2_with fail;go_ret2;exact⟨_,rfl,(λ_ _=>IsB.nil _),HJ.out,Zb.refl _ w⟩
 obtain⟨k,rfl⟩:=Ub q.1;have M:k<J.D.blocks:=by omega
 have S:decide ((k:Int)<0)=false:=by simp
 have B:decide ((J.D.blocks:Int)<=(k:Int))=false:=by simp;omega
 have U:=Hd (home_any w F p J h hn2 k (by omega));have HK:=Hd (take_any w F p J h hn (J.D.home k) 3 (Dk.home_lt M) (by omega))
 cases A:J.D.off with
 | true =>
  have l:J.read k=([],43,{ J with off:=43 }):=by rw[Jn.read,if_neg (by simpa using j),if_neg (by simpa using M),if_pos A]
  have E:J.D.take (J.D.home k) 3=(Xc,false,43):=by rw[Dk.take,if_pos A]
  rw[l];rw[E] at HK;have HJ:=Hd h
  clear l E h P Q j A q;generalize J.D.blocks=b at *;generalize J.D.home k=X at *;have m:(bv Xc).length=128:=by rw[Zk,Yu]
  go_enter Tryz.func83,Tryz.ntmps83;go_wp2_with fail;refine HB.out.mono ?_;rintro e c ⟨rfl,rfl⟩;go_wp2_with fail;refine U.out.mono ?_;rintro e c ⟨rfl,rfl⟩;go_wp2_with fail;refine HK.out.mono ?_;rintro e c ⟨rfl,d⟩;have hj1:=HJ.out.below d
  have f:Below c.heap.size c (c.alloc (.cells (bv Xc).toArray 159)):=(Ve _ _).alloc (Va _) _;have hj2:=hj1.below f;have ht2:=(Zb.of_below (T:=JT F p) d).trans (Zb.of_below (T:=JT F p) f);go_upto_region 8 with (first | (refine Zz rfl rfl ?_) | (refine Yo 159 (.tmp 6) (.tmp 37) rfl _ (bv Xc).toArray rfl rfl rfl (by rw[Zj,List.size_toArray,m]) (by rw[List.size_toArray,m]) (all_oneCell_toArray (Yq Xc)) ?_));generalize c.alloc (.cells (bv Xc).toArray 159)=N at *;obtain⟨g0,g1,g2,g3⟩:=hj2.cells;have f3:=Zf hj2.head 3;have HF:=Hd (And.intro (hj2.put_off 43) (ht2.trans ((Zc N p 3 (.int .i64 43)).jp F)));clear hj1 hj2 ht2 d f O;go_wp2_with fail;go_ret2;exact⟨_,rfl,(λ_ _=>IsB.nil _),HF.out⟩
 | false =>
  have G:=Qh h.disk.ok.now (Dk.home_lt M);have E:J.D.take (J.D.home k) 3=(sec J.D.now (J.D.home k),(Zao (sec J.D.now (J.D.home k))&&decide (Zav (sec J.D.now (J.D.home k))=3)),0):=by rw[Dk.take,A];rfl
  have l:J.read k=if Zao (sec J.D.now (J.D.home k))&&decide (Zav (sec J.D.now (J.D.home k))=3)&&decide ((Zp (sec J.D.now (J.D.home k)):Int)=(k:Int)) then (Xv (sec J.D.now (J.D.home k)),0,J) else ([],62,J):=by rw[Jn.read,if_neg (by simpa using j),if_neg (by simpa using M),if_neg (by simp[A]),Int.toNat_natCast]
  rw[l];rw[E] at HK;have HJ:=Hd h
  clear l E h O P Q j A q;generalize J.D.blocks=b at *;generalize J.D.home k=X at *;generalize sec J.D.now X=L at *;generalize (Zao L&&decide (Zav L=3))=ok at *;have i:(bv L).length=128:=by rw[Zk,G]
  have m:(bv Xc).length=128:=by rw[Zk,Yu]
  cases ok with
  | false =>
   rw[Bool.false_and,if_neg (by simp)];go_enter Tryz.func83,Tryz.ntmps83;go_wp2_with fail;refine HB.out.mono ?_;rintro e c ⟨rfl,rfl⟩;go_wp2_with fail;refine U.out.mono ?_;rintro e c ⟨rfl,rfl⟩;go_wp2_with fail;refine HK.out.mono ?_;rintro e c ⟨rfl,d⟩;have hj1:=HJ.out.below d
   have f:Below c.heap.size c (c.alloc (.cells (bv L).toArray 159)):=(Ve _ _).alloc (Va _) _;have HF:=Hd (And.intro (hj1.below f) ((Zb.of_below (T:=JT F p) d).trans (Zb.of_below (T:=JT F p) f)));clear hj1 d f;go_upto_region 8 with (first | (refine Zz rfl rfl ?_) | (refine Yo 159 (.tmp 6) (.tmp 37) rfl _ (bv L).toArray rfl rfl rfl (by rw[Zj,List.size_toArray,i]) (by rw[List.size_toArray,List.size_toArray,m,i]) (all_oneCell_toArray (Yq L)) ?_));generalize c.alloc (.cells (bv L).toArray 159)=N at *;go_wp2_with fail;go_ret2;exact⟨_,rfl,(λ_ _=>IsB.nil _),HF.out⟩
  | true =>
   rw[Bool.true_and];generalize Y:(if decide ((Zp L:Int)=(k:Int))=true then (Xv L,(0:Int),J) else ([],62,J))=R
   have Z:=Hd Y;clear Y;have H:(((Zp L:Nat):Int) != (k:Int))=!decide ((Zp L:Int)=(k:Int)):=by rw[bne,Bool.beq_eq_decide_eq]
   go_enter Tryz.func83,Tryz.ntmps83;go_wp2_with fail;refine HB.out.mono ?_;rintro e c ⟨rfl,rfl⟩;go_wp2_with fail;refine U.out.mono ?_;rintro e c ⟨rfl,rfl⟩;go_wp2_with fail;refine HK.out.mono ?_;rintro e c ⟨rfl,d⟩;have hj1:=HJ.out.below d
   have f:Below c.heap.size c (c.alloc (.cells (bv L).toArray 159)):=(Ve _ _).alloc (Va _) _;have hj2:=hj1.below f;have ht2:=(Zb.of_below (T:=JT F p) d).trans (Zb.of_below (T:=JT F p) f);have x:Zh (c.alloc (.cells (bv L).toArray 159)) c.heap.size 159 L:=Zh.alloc c _ L;clear hj1 d f;go_upto_region 8 with (first | (refine Zz rfl rfl ?_) | (refine Yo 159 (.tmp 6) (.tmp 37) rfl _ (bv L).toArray rfl rfl rfl (by rw[Zj,List.size_toArray,i]) (by rw[List.size_toArray,List.size_toArray,m,i]) (all_oneCell_toArray (Yq L)) ?_));generalize c.alloc (.cells (bv L).toArray 159)=N at *;generalize c.heap.size=g at *;have hrg:=x.range;have HL:=Hd (Qg N L G);go_wp2_with fail;refine wp_load_mid 159 (.tmp 6) rfl g 0 rfl (bv L) _ hrg Tryz.underlying159 rfl (by rw[Zj,i]) ?_;go_wp2_with fail;refine HL.out.mono ?_;rintro e r ⟨rfl,s⟩;have hj3:=hj2.below s;have ht3:=ht2.trans (Zb.of_below (T:=JT F p) s);have hr3:=x.below s;have hrg3:=hr3.range;clear hj2 ht2 s x hrg HL;by_cases t:(Zp L:Int)=(k:Int)
   .have e5:=Z.out
    rw[if_pos (by simpa using t)] at e5;subst e5;rw[Vd t] at H;have HB4:=Hd (fbytes_any r L G)
    go_wp2_with (refine wpList_load_mid rfl 159 (.tmp 6) rfl g 0 rfl (bv L) _ hrg3 Tryz.underlying159 rfl (by rw[Zj,i]) ?_);refine HB4.out.mono ?_;rintro e w4 ⟨rfl,u⟩;have y:Below r.heap.size r w4:=by rw[u];exact(Ve _ _).alloc (Va _) _
    have V:IsB w4 (.slice (some ⟨r.heap.size,16,none⟩) 112 112) (Xv L):=by have:=(Zh.alloc r 159 L).isB 16 112 112 (by omega) (by omega) (by simp[maxLen]);rw[<-u,List.take_of_length_le (by simp[G])] at this;exact this
    have z:Zh w4 r.heap.size 159 L:=by rw[u];exact Zh.alloc r 159 L
    have I:Held w.heap.size w4 (λw=>IsB w (.slice (some ⟨r.heap.size,16,none⟩) 112 112) (Xv L)):=λW hW=>by have:=(z.keep (hW r.heap.size ht3.size z.lt)).isB 16 112 112 (by omega) (by omega) (by simp[maxLen]);rw[List.take_of_length_le (by simp[G])] at this;exact this
    have HF:=Hd (And.intro I (And.intro (hj3.below y) (ht3.trans (Zb.of_below (T:=JT F p) y))));clear u y V z I hj3 ht3 hr3 hrg3;go_wp2_with fail;go_ret2;exact⟨_,rfl,HF.out⟩
   .have e5:=Z.out
    rw[if_neg (by simpa using t)] at e5;subst e5;rw[Vb t] at H;have HF:=Hd (And.intro hj3 ht3)
    clear hj3 ht3 hr3 hrg3;go_wp2_with fail;go_ret2;exact⟨_,rfl,(λ_ _=>IsB.nil _),HF.out⟩
end
section
open Go.RowKit
def Zez (D:Dk) (stay:List Int):Nat->List UInt8
 | 0=>D.safe
 | k+1=>if (k:Int)∈stay then (match D.hung[k]? with | some x=>Zaj (Zez D stay k) x.1 x.2 | none=>Zez D stay k) else Zez D stay k
def Dk.crash (D:Dk) (stay:List Int):Dk:=⟨D.n,Zez D stay D.hung.length,Zez D stay D.hung.length,[],0,-1,false⟩
theorem Zhz {D:Dk} (h:D.Ok) (a:List Int) (k:Nat):(Zez D a k).length=D.n*128:=by
 induction k with
 | zero=>exact h.safe
 | succ k b =>
  simp only[Zez];split
  .split
   .rename_i x c;obtain⟨d,e⟩:=h.hung x (List.mem_of_getElem? c);exact Qd b e d
   .exact b
  .exact b
end
section
open Go.RowKit
variable {P:List UInt8→Prop}{n c:Nat}{l:List UInt8}
structure Dk.In (P:List UInt8->Prop) (D:Dk):Prop where
 ok:D.Ok
 safe:P D.safe
 now:P D.now
 hung:∀x∈D.hung,∀l,P l->P (Zaj l x.1 x.2)
theorem Dk.gone_off (D:Dk) (b:Bool):({ D with off:=b }:Dk).Ok↔D.Ok:=⟨λh=>⟨h.1,h.2,h.3,h.4,h.5,h.6,h.7,h.8,h.9⟩,λh=>⟨h.1,h.2,h.3,h.4,h.5,h.6,h.7,h.8,h.9⟩⟩
theorem Dk.In.off {P:List UInt8->Prop} {D:Dk} (h:D.In P) (b:Bool):({ D with off:=b }:Dk).In P:=⟨(Dk.gone_off D b).2 h.ok,h.safe,h.now,h.hung⟩
theorem Dk.In.write {P:List UInt8->Prop} {D:Dk} (h:D.In P) (k:Nat) (L:List UInt8) (b:∀l,P l->P (Zaj l k L)) (hk:k<D.n) (hl:L.length=128):(D.write k L).2.In P:=by
 unfold Dk.write;split
 .exact h.off true
 split
 .exact h.off false
 split
 .exact h.off false
 split
 .exact h.off false
 .rename_i _ _ _ d
  refine⟨⟨h.ok.n1,h.ok.nm,h.ok.safe,Qd h.ok.now hl hk,λx a=>?_,?_,by show D.ops+1<=1048576;omega,h.ok.c1,h.ok.c2⟩,h.safe,b _ h.now,λx a=>?_⟩
  .rcases List.mem_append.1 a with a | a
   .exact h.ok.hung x a
   .rw[List.mem_singleton.1 a];exact⟨hk,hl⟩
  .have:=h.ok.loose
   show (D.hung++[(k,L)]).length<=D.ops+1
   simp;omega
  .rcases List.mem_append.1 a with a | a
   .exact h.hung x a
   .rw[List.mem_singleton.1 a];exact b
theorem Dk.In.flush {P:List UInt8->Prop} {D:Dk} (h:D.In P):D.flush.2.In P:=by
 unfold Dk.flush;split
 .exact h.off true
 split
 .exact h.off false
 .rename_i _ b;exact⟨⟨h.ok.n1,h.ok.nm,h.ok.now,h.ok.now,λx a=>(by cases a),Vl _,by show D.ops+1<=1048576;omega,h.ok.c1,h.ok.c2⟩,h.now,h.now,λx a=>(by cases a)⟩
theorem Dk.In.crash {D:Dk} (h:D.In P) (a:List Int) (k:Nat):P (Zez D a k):=by
 induction k with
 | zero=>exact h.safe
 | succ k b =>
  simp only[Zez];split
  .split
   .rename_i x d;exact h.hung x (List.mem_of_getElem? d) _ b
   .exact b
  .exact b
def Dk.Flat (D:Dk):Prop:=D.hung=[]/\D.safe=D.now
theorem Dk.Flat.isIn {D:Dk} (h:D.Flat) (a:D.Ok) (hp:P D.now):D.In P:=⟨a,by rw[h.2];exact hp,hp,λx b=>by rw[h.1] at b;cases b⟩
def Jn.lays (J:Jn) (xs:List (Nat × List UInt8)):Jn:=xs.foldl (λJ x=>J.lay x.1 x.2) J
def layL (l:List UInt8) (xs:List (Nat × List UInt8)):List UInt8:=xs.foldl (λl x=>Zaj l x.1 x.2) l
theorem Jn.lays_snoc (J:Jn) (xs:List (Nat × List UInt8)) (k:Nat) (L:List UInt8):J.lays (xs++[(k,L)])=(J.lays xs).lay k L:=by simp[Jn.lays]
theorem layL_snoc (l:List UInt8) (xs:List (Nat × List UInt8)) (x:Nat × List UInt8):layL l (xs++[x])=Zaj (layL l xs) x.1 x.2:=by simp[layL]
theorem Zeo:∀(b:List (Nat × List UInt8)) (l:List UInt8),l.length=n*128->(∀x∈b,x.1<n/\x.2.length=128)->(layL l b).length=n*128
 | [],_,h,_=>h
 | x::r,l,h,a=>Zeo r _ (Qd h (a x (Vi ..)).2 (a x (Vi ..)).1) λy d=>a y (Vj _ d)
theorem sec_layL {i:Nat} (g:i<n) (xs:List (Nat × List UInt8)) (l:List UInt8) (h:l.length=n*128) (hx:∀x∈xs,x.1<n/\x.2.length=128):((∀x∈xs,x.1≠i)/\sec (layL l xs) i=sec l i)\/∃x∈xs,x.1=i/\sec (layL l xs) i=x.2:=by
 induction xs generalizing l with
 | nil=>exact .inl ⟨λx hx=>(by cases hx),rfl⟩
 | cons x r j =>
  have b:=hx x (Vi ..);rcases j _ (Qd h b.2 b.1) (λy a=>hx y (Vj _ a)) with ⟨f,d⟩ | ⟨y,a,f,d⟩
  .by_cases e:x.1=i
   .refine .inr ⟨x,Vi ..,e,d.trans ?_⟩;subst e;exact Qp h b.2 b.1
   .refine .inl ⟨λy a=>?_,d.trans (Xg h b.2 b.1 g (Ne.symm e))⟩
    rcases List.mem_cons.1 a with rfl | a
    .exact e
    .exact f y a
  .exact .inr ⟨y,Vj _ a,f,d⟩
structure Went (P:List UInt8->Prop) (J J':Jn) (l:List UInt8) (c:Nat):Prop where
 isIn:J'.D.In P
 off:J'.off=0\/J'.off=43
 n:J'.D.n=J.D.n
 cut:J'.D.cut=J.D.cut
 last:J'.last=J.last
 seq:J'.seq=J.seq
 ops:J'.D.ops<=J.D.ops+c
 laid:J'.off=0->J.off=0/\J'.D.now=l
 never:J.off=0->J.D.off=false->J.D.cut<0->J'.off=0/\J'.D.off=false
theorem Went.refl {J:Jn} (h:J.D.In P) (a:J.off=0\/J.off=43):Went P J J J.D.now 0 :=
 ⟨h,a,rfl,rfl,rfl,rfl,Va _,λh=>⟨h,rfl⟩,λh b _=>⟨h,b⟩⟩
theorem Went.lay {J d:Jn} (h:Went P J d l c) (k:Nat) (L:List UInt8) (m:∀l,P l->P (Zaj l k L)) (hk:k<J.D.n) (hl:L.length=128) (p:J.D.ops+c<1048576):
  Went P J (d.lay k L) (Zaj l k L) (c+1):=by
 have j:k<d.D.n:=by rw[h.n];exact hk
 have f:=h.isIn.write k L m j hl;have hops:=h.ops;unfold Jn.lay;by_cases g:d.off=0
 .rw[if_pos g]
  by_cases i:d.D.gone=true
  .have e:d.D.write k L=(43,{ d.D with off:=true }):=by rw[Dk.write,if_pos i]
   rw[e] at f ⊢;refine⟨f,.inr rfl,h.n,h.cut,h.last,h.seq,by show d.D.ops<=_;omega,λh=>absurd (show (43:Int)=0 from h) (by decide),λa b c=>?_⟩
   obtain⟨q,o⟩:=h.never a b c;have:d.D.gone=false:=by simp only[Dk.gone,o,Bool.false_or,Bool.and_eq_false_iff,decide_eq_false_iff_not];left;rw[h.cut];omega
   rw[this] at i;exact absurd i (by decide)
  .have e:d.D.write k L=(0,{ d.D with off:=false,now:=Zaj d.D.now k L,hung:=d.D.hung++[(k,L)],ops:=d.D.ops+1 }):=by
    rw[Dk.write,if_neg i,if_neg (by simp;omega),if_neg (by simp[hl]),if_neg (by omega),Int.toNat_natCast]
   rw[e] at f ⊢;refine⟨f,.inl rfl,h.n,h.cut,h.last,h.seq,by show d.D.ops+1<=_;omega,λ_=>⟨(h.laid g).1,?_⟩,λ_ _ _=>⟨rfl,rfl⟩⟩
   show Zaj d.D.now k L=_
   rw[(h.laid g).2]
 .rw[if_neg g];exact⟨h.isIn,h.off,h.n,h.cut,h.last,h.seq,by omega,λh=>absurd h g,λa b c=>absurd (h.never a b c).1 g⟩
theorem Went.lays {J:Jn}:∀(a:List (Nat × List UInt8)) {b:Jn} {l:List UInt8} {c:Nat} (h:Went P J b l c) (d:∀x∈a,x.1<J.D.n/\x.2.length=128/\∀l,P l->P (Zaj l x.1 x.2)) (e:J.D.ops+c+a.length<=1048576),
  Went P J (b.lays a) (layL l a) (c+a.length)
 | [],_,_,_,h,_,_=>h
 | x::r,b,l,c,h,d,e=>by
  obtain⟨f,g,i⟩:=d x (Vi ..);rw[List.length_cons] at e ⊢;have:=Went.lays r (h.lay x.1 x.2 i f g (by omega)) (λy j=>d y (Vj _ j)) (by omega)
  rw[show c+1+r.length=c+(r.length+1) by omega] at this
  exact this
structure Done (P:List UInt8->Prop) (J J':Jn) (l:List UInt8) (c:Nat):Prop extends Went P J J' l c where
 flat:J'.off=0->J'.D.Flat/\J'.D.off=false
theorem Went.flush {J d:Jn} (h:Went P J d l c) (k:J.D.ops+c<1048576):Done P J d.flush l (c+1):=by
 have f:=h.isIn.flush;have hops:=h.ops;unfold Jn.flush;by_cases g:d.off=0
 .rw[if_pos g]
  by_cases i:d.D.gone=true
  .have e:d.D.flush=(43,{ d.D with off:=true }):=by rw[Dk.flush,if_pos i]
   rw[e] at f ⊢;refine⟨⟨f,.inr rfl,h.n,h.cut,h.last,h.seq,by show d.D.ops<=_;omega,λh=>absurd (show (43:Int)=0 from h) (by decide),λa b c=>?_⟩,λh=>absurd (show (43:Int)=0 from h) (by decide)⟩
   obtain⟨m,j⟩:=h.never a b c;have:d.D.gone=false:=by simp only[Dk.gone,j,Bool.false_or,Bool.and_eq_false_iff,decide_eq_false_iff_not];left;rw[h.cut];omega
   rw[this] at i;exact absurd i (by decide)
  .have e:d.D.flush=(0,{ d.D with off:=false,safe:=d.D.now,hung:=[],ops:=d.D.ops+1 }):=by
    rw[Dk.flush,if_neg i,if_neg (by omega)]
   rw[e] at f ⊢;exact⟨⟨f,.inl rfl,h.n,h.cut,h.last,h.seq,by show d.D.ops+1<=_;omega,λ_=>h.laid g,λ_ _ _=>⟨rfl,rfl⟩⟩,λ_=>⟨⟨rfl,rfl⟩,rfl⟩⟩
 .rw[if_neg g];exact⟨⟨h.isIn,h.off,h.n,h.cut,h.last,h.seq,by omega,λh=>absurd h g,λa b c=>absurd (h.never a b c).1 g⟩,λh=>absurd h g⟩
theorem phase {J:Jn} (h:J.D.In P) (a:J.off=0\/J.off=43) (xs:List (Nat × List UInt8)) (b:∀x∈xs,x.1<J.D.n/\x.2.length=128/\∀l,P l->P (Zaj l x.1 x.2)) (hb:J.D.ops+xs.length+1<=1048576):
  Done P J (J.lays xs).flush (layL J.D.now xs) (xs.length+1):=by
 have:=((Went.refl h a).lays xs b (by omega)).flush (by omega);rwa[Nat.zero_add] at this
theorem Jn.lays_off {J:Jn} (h:J.off≠0):∀a,J.lays a=J
 | []=>rfl
 | x::r=>by
  show (J.lay x.1 x.2).lays r=J
  rw[Jn.lay,if_neg h];exact Jn.lays_off h r
theorem Jn.flush_off {J:Jn} (h:J.off≠0):J.flush=J:=by rw[Jn.flush,if_neg h]
def Zcw (D:Dk) (Ls:List (List UInt8)):List (Nat × List UInt8):=Ls.map λf=>(D.home (Zp f),mkF (Zm f) (3*16777216+Zp f) (Xv f))
theorem Jn.spreads_lays (J:Jn) (D:Dk) (hn:D.n=J.D.n) (Ls:List (List UInt8)):J.spreads Ls=J.lays (Zcw D Ls):=by
 induction Ls generalizing J with
 | nil=>rfl
 | cons f r a =>
  show (J.spStep f).spreads r=(J.lay _ _).lays (Zcw D r)
  rw[a _ (by rw[Jn.spStep,Jn.lay_n];exact hn),Jn.spStep];show _=(J.lay (D.home (Zp f)) _).lays _
  rw[Dk.home_n hn]
theorem Jn.spread_lays (J:Jn) (Ls:List (List UInt8)):J.spread Ls=(J.lays (Zcw J.D Ls)).flush:=by rw[Jn.spread,Jn.spreads_lays J J.D rfl]
def Zdw (fs:List (List UInt8)) (k:Nat):List (Nat × List UInt8):=(List.range k).map λi=>(2+i,fs.getD i [])
theorem Zie (a:List (List UInt8)) (k:Nat):Zdw a (k+1)=Zdw a k++[(2+k,a.getD k [])]:=by simp[Zdw,List.range_succ]
theorem Jn.layTo_lays (J:Jn) (a:List (List UInt8)) (k:Nat):J.layTo a k=J.lays (Zdw a k):=by
 induction k with
 | zero=>rfl
 | succ k b=>rw[Zie,Jn.lays_snoc,<-b];rfl
end
section
open Go.RowKit
variable {seq:Int}{top pl nb n w:Nat}{ok:Nat→Prop}{zs:List Int}{ls B:List (List UInt8)}{l b:List UInt8}
def HomeOk (n:Nat) (l:List UInt8) (B:List (List UInt8)) (i:Nat):Prop:=∃v b,v<18446744073709551616/\B[i]?=some b/\sec l (2+(n - 2) / 2+i)=mkF v (3*16777216+i) b
def Full (l:List UInt8) (w pl:Nat):Prop:=∀k,k<pl->Zm (sec l (2+k))=w
structure Im (n:Nat) (l:List UInt8) (w pl:Nat) (seq:Int) (top:Nat) (B:List (List UInt8)) (ok:Nat->Prop):Prop where
 len:l.length=n*128
 lo:32<=n
 hi:n<=16384
 rows:B.length=(n - 2) / 2
 each:∀b∈B,b.length=112
 wt:w<=top
 tt:top<4611686018427387904
 s0:0<=seq
 s1:seq<=(w:Int)
 few:pl<=(n - 2) / 2
 mark:sec l (w % 2)=Xl w pl seq
 old:∃w' pl' s',sec l ((w+1) % 2)=Xl w' pl' s'/\w'<w/\w' % 2=(w+1) % 2/\pl'<=(n - 2) / 2
 notes:∀k,k<(n - 2) / 2->∃v q b,sec l (2+k)=mkF v (2*16777216+q) b/\v<=top/\q<(n - 2) / 2
 full:Full l w pl->∀k,k<pl->B[Zp (sec l (2+k))]?=some (Xv (sec l (2+k)))
 stand:∀i,i<(n - 2) / 2->ok i->HomeOk n l B i\/(Full l w pl/\∃k,k<pl/\Zp (sec l (2+k))=i)
abbrev Zeh:Nat->Prop:=λ_=>True
theorem Im.move {l':List UInt8} {ok':Nat->Prop} (h:Im n l w pl seq top B ok) (hl:l'.length=n*128) (hs:∀k,k<2+(n - 2) / 2->sec l' k=sec l k)
 (hh:∀i,i<(n - 2) / 2->ok' i->HomeOk n l' B i\/(Full l w pl/\∃k,k<pl/\Zp (sec l (2+k))=i)):Im n l' w pl seq top B ok':=by
 have g:=h.lo;have hfew:=h.few;have f:Full l' w pl↔Full l w pl:=forall_congr' λk=>⟨λa c=>by rw[<-hs (2+k) (by omega)];exact a c,λa c=>by rw[hs (2+k) (by omega)];exact a c⟩;refine⟨hl,h.lo,h.hi,h.rows,h.each,h.wt,h.tt,h.s0,h.s1,h.few,?_,?_,λk c=>?_,λj k c=>?_,λi hi d=>?_⟩
 .rw[hs _ (by omega)];exact h.mark
 .rw[hs _ (by omega)];exact h.old
 .rw[hs _ (by omega)];exact h.notes k c
 .rw[hs _ (by omega)];exact h.full (f.1 j) k c
 .rcases hh i hi d with e | ⟨e,k,m,o⟩
  .exact .inl e
  .exact .inr ⟨f.2 e,k,m,by rw[hs _ (by omega)];exact o⟩
theorem Im.home_lay (h:Im n l w pl seq top B ok) {q v:Nat} (hq:q<(n - 2) / 2) (hb:B[q]?=some b) (hv:v<18446744073709551616):
  Im n (Zaj l (2+(n - 2) / 2+q) (mkF v (3*16777216+q) b)) w pl seq top B ok:=by
 have f:=h.lo;have a:2+(n - 2) / 2+q<n:=by omega
 have c:=Xf v (3*16777216+q) b;refine h.move (Qd h.len c a) (λk r=>Xg h.len c a (by omega) (by omega)) λi hi d=>?_;by_cases g:i=q
 .subst g;exact .inl ⟨v,b,hv,hb,Qp h.len c a⟩
 .rcases h.stand i hi d with ⟨j,m,e,o,p⟩ | e
  .exact .inl ⟨j,m,e,o,by rw[Xg h.len c a (by omega) (by omega)];exact p⟩
  .exact .inr e
def Zci (l:List UInt8) (pl:Nat):List (List UInt8):=(List.range pl).map λk=>sec l (2+k)
theorem Im.note_of (h:Im n l w pl seq top B ok) {k:Nat} (hk:k<(n - 2) / 2):
  Zao (sec l (2+k))=true/\Zav (sec l (2+k))=2/\Zm (sec l (2+k))<=top/\Zp (sec l (2+k))<(n - 2) / 2:=by
 obtain⟨v,q,b,e,a,c⟩:=h.notes k hk;have:=h.tt
 have:=h.hi;rw[e];refine⟨fright_mkF _ _ _,fkind_mkF _ (by omega) (by omega),?_,?_⟩
 .rw[Zdt _ _ (by omega)];exact a
 .rw[Zfk _ (by omega) (by omega)];exact c
theorem Im.spread (h:Im n l w pl seq top B ok) (hf:Full l w pl) {D:Dk} (q:D.n=n):
  (∀x∈Zcw D (Zci l pl),x.1<n/\x.2.length=128/\∀o,Im n o w pl seq top B ok->Im n (Zaj o x.1 x.2) w pl seq top B ok) /\
  (∀i,i<(n - 2) / 2->(HomeOk n (layL l (Zcw D (Zci l pl))) B i)\/(¬ok i/\sec (layL l (Zcw D (Zci l pl))) (2+(n - 2) / 2+i)=sec l (2+(n - 2) / 2+i))):=by
 have u:=h.lo;have hfew:=h.few;have htt:=h.tt;have g:∀x∈Zcw D (Zci l pl),∃k,k<pl/\x=(2+(n - 2) / 2+Zp (sec l (2+k)),mkF (Zm (sec l (2+k))) (3*16777216+Zp (sec l (2+k))) (Xv (sec l (2+k)))):=by intro x g;obtain⟨f,p,rfl⟩:=List.mem_map.1 g;obtain⟨k,c,rfl⟩:=List.mem_map.1 p;exact⟨k,List.mem_range.1 c,by rw[Dk.home,Dk.blocks,q]⟩
 have d:∀x∈Zcw D (Zci l pl),x.1<n/\x.2.length=128:=by intro x a;obtain⟨k,c,rfl⟩:=g x a;obtain⟨_,_,_,r⟩:=h.note_of (k:=k) (by omega);exact⟨by show _+_<n;omega,Xf _ _ _⟩
 refine⟨λx a=>⟨(d x a).1,(d x a).2,λo y=>?_⟩,λi hi=>?_⟩
 .obtain⟨k,c,rfl⟩:=g x a;obtain⟨_,_,s,r⟩:=h.note_of (k:=k) (by omega);exact y.home_lay r (h.full hf k c) (by omega)
 .rcases sec_layL (i:=2+(n - 2) / 2+i) (by omega) (Zcw D (Zci l pl)) l h.len d with ⟨a,m⟩ | ⟨x,a,m,s⟩
  .by_cases j:ok i
   .rcases h.stand i hi j with ⟨v,b,z,A,t⟩ | ⟨_,k,c,C⟩
    .exact .inl ⟨v,b,z,A,by rw[m];exact t⟩
    .exfalso;refine a (2+(n - 2) / 2+i,mkF (Zm (sec l (2+k))) (3*16777216+Zp (sec l (2+k))) (Xv (sec l (2+k)))) (List.mem_map.2 ⟨sec l (2+k),List.mem_map.2 ⟨k,List.mem_range.2 c,rfl⟩,?_⟩) rfl;rw[C,Dk.home,Dk.blocks,q]
   .exact .inr ⟨j,m⟩
  .obtain⟨k,c,rfl⟩:=g x a
   obtain⟨_,_,t,E⟩:=h.note_of (k:=k) (by omega);have e:Zp (sec l (2+k))=i:=by have:2+(n - 2) / 2+Zp (sec l (2+k))=2+(n - 2) / 2+i:=m;omega
   exact .inl ⟨Zm (sec l (2+k)),Xv (sec l (2+k)),by omega,by rw[<-e];exact h.full hf k c,s.trans (by show mkF _ _ _=_;rw[e])⟩
def Qj:List (List UInt8)->List Int->List (List UInt8)->List (List UInt8)
 | B,[],_=>B
 | B,_::_,[]=>B
 | B,z::zs,b::ls=>Qj (B.set z.toNat b) zs ls
theorem Zer:∀(zs:List Int) (ls B:List (List UInt8)),(Qj B zs ls).length=B.length
 | [],_,_=>by rw[Qj]
 | _::_,[],_=>by rw[Qj]
 | z::zs,b::ls,B=>by rw[Qj,Zer zs ls];simp
theorem updB_other {i:Nat}:∀(zs:List Int) (ls B:List (List UInt8)),(∀z∈zs,z.toNat≠i)->(Qj B zs ls)[i]?=B[i]?
 | [],_,_,_=>by rw[Qj]
 | _::_,[],_,_=>by rw[Qj]
 | z::zs,b::ls,B,h=>by rw[Qj,updB_other zs ls _ λy a=>h y (Vj _ a),List.getElem?_set_ne (h z (Vi ..))]
theorem updB_at:∀(zs:List Int) (ls B:List (List UInt8)),(zs.map Int.toNat).Nodup->(∀z∈zs,z.toNat<B.length)->∀k (h:k<zs.length) (d:k<ls.length),(Qj B zs ls)[zs[k].toNat]?=some ls[k]
 | [],_,_,_,_,k,h,_=>by simp at h
 | _::_,[],_,_,_,k,_,h=>by simp at h
 | z::zs,b::ls,B,a,f,k,h,d=>by
  rw[List.map_cons,Up] at a
  cases k with
  | zero =>
   rw[Qj];show (Qj (B.set z.toNat b) zs ls)[z.toNat]?=some b
   rw[updB_other zs ls _ λy c e=>a.1 (List.mem_map.2 ⟨y,c,e⟩),List.getElem?_set_self (f z (Vi ..))]
  | succ k =>
   have g:k<zs.length:=by simpa using h
   have i:k<ls.length:=by simpa using d
   rw[Qj];show (Qj (B.set z.toNat b) zs ls)[zs[k].toNat]?=some ls[k]
   exact updB_at zs ls _ a.2 (λy c=>by rw[List.length_set];exact f y (Vj _ c)) k _ _
theorem updB_each:∀(zs:List Int) (ls B:List (List UInt8)),(∀b∈ls,b.length=112)->(∀b∈B,b.length=112)->∀b∈Qj B zs ls,b.length=112
 | [],ls,B,_,h,b,a=>h b (by rw[Qj] at a;exact a)
 | _::_,[],B,_,h,b,a=>h b (by rw[Qj] at a;exact a)
 | z::zs,b::ls,B,d,h,x,e=>by
  refine updB_each zs ls _ (λy c=>d y (Vj _ c)) (λy c=>?_) x e;rcases List.mem_or_eq_of_mem_set c with c | rfl
  .exact h y c
  .exact d _ (Vi ..)
theorem rightW_nodup (h:Zaa nb zs ls=true):(zs.map Int.toNat).Nodup:=by
 obtain⟨m,a⟩:=Zbs h;rw[List.Nodup,List.pairwise_iff_getElem];intro i j c d f;simp only[List.length_map] at c d;simp only[List.getElem_map];intro e;obtain⟨o,_,_,_⟩:=a i c (by omega);obtain⟨p,_,_,g⟩:=a j d (by omega);apply g;have k:zs[i]=zs[j]:=by omega
 rw[<-k,List.mem_take_iff_getElem];exact⟨i,by omega,rfl⟩
theorem rightW_place (h:Zaa nb zs ls=true) {z:Int} (hz:z∈zs):0<=z/\z<(nb:Int):=by obtain⟨f,a⟩:=Zbs h;obtain⟨i,c,rfl⟩:=List.getElem_of_mem hz;obtain⟨d,e,_,_⟩:=a i c (by omega);exact⟨d,e⟩
theorem rightW_bytes (h:Zaa nb zs ls=true) (hb:b∈ls):b.length=112:=by obtain⟨d,a⟩:=Zbs h;obtain⟨i,c,rfl⟩:=List.getElem_of_mem hb;exact(a i (by omega) c).2.2.1
end
section
open Go.RowKit
variable {seq:Int}{n pl w v:Nat}{l b:List UInt8}{B ls fs:List (List UInt8)}{zs:List Int}
structure Live (n:Nat) (J:Jn) (seq:Int) (B:List (List UInt8)) (ok:Nat->Prop):Prop where
 off:J.off=0
 doff:J.D.off=false
 flat:J.D.Flat
 dok:J.D.Ok
 hn:J.D.n=n
 hseq:J.seq=seq
 im:∃w pl,Im n J.D.now w pl seq J.last B ok
 home:∀i,i<(n - 2) / 2->ok i->HomeOk n J.D.now B i
def Img (n:Nat) (seq:Int) (B:List (List UInt8)) (top:Nat) (l:List UInt8):Prop:=∃w pl,Im n l w pl seq top B Zeh
theorem Im.top {top a:Nat} {ok:Nat->Prop} (h:Im n l w pl seq top B ok) (h1:top<=a) (h2:a<4611686018427387904):Im n l w pl seq a B ok :=
 ⟨h.len,h.lo,h.hi,h.rows,h.each,Vk h.wt h1,h2,h.s0,h.s1,h.few,h.mark,h.old,λk c=>by
  obtain⟨v,q,b,e,d,f⟩:=h.notes k c
  exact⟨v,q,b,e,Vk d h1,f⟩,h.full,h.stand⟩
def ImC (n:Nat) (l:List UInt8) (w pl:Nat) (seq:Int) (top:Nat) (B:List (List UInt8)):Prop:=Im n l w pl seq top B Zeh/\∀i,i<(n - 2) / 2->HomeOk n l B i
theorem ImC.note_lay {top:Nat} (h:ImC n l w pl seq top B) {k q:Nat} (hk:k<(n - 2) / 2) (hq:q<(n - 2) / 2) (hv:v<=top) (hw:w<v):
  ImC n (Zaj l (2+k) (mkF v (2*16777216+q) b)) w pl seq top B:=by
 obtain⟨h,r⟩:=h;have hlo:=h.lo
 have s:=h.tt;have hfew:=h.few;have d:2+k<n:=by omega
 have g:=Xf v (2*16777216+q) b;have hsame:=Qp h.len g d;have a:∀j,j<n->j≠2+k->sec (Zaj l (2+k) (mkF v (2*16777216+q) b)) j=sec l j:=λj e m=>Xg h.len g d e m;have c:∀i,i<(n - 2) / 2->HomeOk n (Zaj l (2+k) (mkF v (2*16777216+q) b)) B i:=λi f=>by obtain⟨t,u,x,y,z⟩:=r i f;exact⟨t,u,x,y,by rw[a _ (by omega) (by omega)];exact z⟩
 refine⟨⟨Qd h.len g d,h.lo,h.hi,h.rows,h.each,h.wt,h.tt,h.s0,h.s1,h.few,?_,?_,λj e=>?_,λp j e=>?_,λi f _=>.inl (c i f)⟩,c⟩
 .rw[a _ (by omega) (by omega)];exact h.mark
 .rw[a _ (by omega) (by omega)];exact h.old
 .by_cases o:j=k
  .subst o;rw[hsame];exact⟨v,q,b,rfl,hv,hq⟩
  .rw[a _ (by omega) (by omega)];exact h.notes j e
 .by_cases o:k<pl
  .have:=p k o;rw[hsame,Zdt _ _ (by omega)] at this;omega
  .rw[a _ (by omega) (by omega)]
   refine h.full (λi f=>?_) j e;have:=p i f
   rw[a _ (by omega) (by omega)] at this;exact this
theorem putS_twice {c:List UInt8} {i:Nat} (hl:l.length=n*128) (hb:b.length=128) (e:i<n):Zaj (Zaj l i b) i c=Zaj l i c:=by
 unfold Zaj;have a:(l.take (i*128)).length=i*128:=by simp;omega
 have d:(l.take (i*128)++b).length=i*128+128:=by simp;omega
 rw[List.take_left' a,<-List.append_assoc (l.take (i*128)) b,List.drop_left' d]
theorem Xi (w pl:Nat) (seq:Int):(Xl w pl seq).length=128:=Xf _ _ _
theorem ImC.write (h:ImC n l w pl seq v B) (hr:Zaa ((n - 2) / 2) zs ls=true) (hw:w<v)
 (hs:∀k (hk:k<(Yt v zs ls).length),sec l (2+k)=(Yt v zs ls)[k]):
  Im n (Zaj l (v % 2) (Xl v zs.length (seq+1))) v zs.length (seq+1) v (Qj B zs ls) Zeh:=by
 obtain⟨h,C⟩:=h;have hlo:=h.lo
 have D:=h.tt;have hwt:=h.wt;have hfew:=rightW_few hr;have hs0:=h.s0;have hs1:=h.s1;obtain⟨c,r⟩:=Zbs hr;have d:v % 2<n:=by omega
 have s:=Xi v zs.length (seq+1);have hsame:=Qp h.len s d;have a:∀j,j<n->j≠v % 2->sec (Zaj l (v % 2) (Xl v zs.length (seq+1))) j=sec l j:=λj E t=>Xg h.len s d E t
 have f:∀k (hk:k<zs.length) (o:k<ls.length),sec (Zaj l (v % 2) (Xl v zs.length (seq+1))) (2+k)=mkF v (2*16777216+zs[k].toNat) ls[k]:=λk hk o=>by
  have p:k<(Yt v zs ls).length:=by rw[Zgi c];exact hk
  rw[a _ (by omega) (by omega),hs k p,Zhr c k hk o p]
 have g:∀z∈zs,z.toNat<(n - 2) / 2:=λz hz=>by have:=rightW_place hr hz;omega
 have F:=h.hi;have m:Full (Zaj l (v % 2) (Xl v zs.length (seq+1))) v zs.length:=λk hk=>by rw[f k hk (by omega),Zdt _ _ (by omega)]
 refine⟨Qd h.len s d,h.lo,h.hi,by rw[Zer];exact h.rows,updB_each zs ls B (λb G=>rightW_bytes hr G) h.each,Va _,h.tt,by omega,by omega,hfew,hsame,?_,λk hk=>?_,λ_ k hk=>?_,λi H _=>?_⟩
 .rw[a _ (by omega) (by omega)]
  by_cases N:w % 2=v % 2
  .obtain⟨I,u,J,e,y,A,x⟩:=h.old
   refine⟨I,u,J,?_,by omega,by omega,x⟩;rw[show (v+1) % 2=(w+1) % 2 by omega]
   exact e
  .refine⟨w,pl,seq,?_,by omega,by omega,h.few⟩
   rw[show (v+1) % 2=w % 2 by omega]
   exact h.mark
 .rw[a _ (by omega) (by omega)];exact h.notes k hk
 .have hz:=g _ (Vo hk);rw[f k hk (by omega),Zfk _ (by omega) (by omega),fbytes_mkF,pad112_id (r k hk (by omega)).2.2.1];exact updB_at zs ls B (rightW_nodup hr) (λz hz=>by rw[h.rows];exact g z hz) k hk (by omega)
 .by_cases q:∃k,∃hk:k<zs.length,zs[k].toNat=i
  .obtain⟨k,hk,e⟩:=q;have hz:=g _ (Vo hk);refine .inr ⟨m,k,hk,?_⟩;rw[f k hk (by omega),Zfk _ (by omega) (by omega),e]
  .obtain⟨L,M,y,A,x⟩:=C i H;refine .inl ⟨L,M,y,?_,by rw[a _ (by omega) (by omega)];exact x⟩;rw[updB_other zs ls B λz hz e=>?_,A];obtain⟨k,hk,rfl⟩:=List.getElem_of_mem hz;exact q ⟨k,hk,e⟩
structure Wrote (n:Nat) (J J':Jn) (seq:Int) (B:List (List UInt8)) (zs:List Int) (ls:List (List UInt8)):Prop where
 hn:J'.D.n=J.D.n
 cut:J'.D.cut=J.D.cut
 ops:J'.D.ops<=J.D.ops+(2*zs.length+4)
 last:J'.last=J.last+1
 ends:(J'.off=0/\Live n J' (seq+1) (Qj B zs ls) Zeh)\/(J'.off=43/\0<=J.D.cut/\∃P,J'.D.In P/\∀l,P l->Img n seq B (J.last+1) l\/Img n (seq+1) (Qj B zs ls) (J.last+1) l)
theorem noted_fs {n:Nat} (hs:∀k (hk:k<fs.length),sec l (2+k)=fs[k]):Zci l fs.length=fs:=by
 apply Uo
 .simp[Zci]
 .intro i c a;simp only[Zci,List.getElem_map,List.getElem_range];exact hs i a
theorem sec_notesX (hl:l.length=n*128) (d:∀f∈fs,f.length=128) (hn:2+fs.length<=n):∀m,m<=fs.length->(∀x∈Zdw fs m,x.1<n/\x.2.length=128)/\∀k (j:k<fs.length),k<m->sec (layL l (Zdw fs m)) (2+k)=fs[k]
 | 0,_=>⟨λx a=>by simp[Zdw] at a,λk _ h=>by omega⟩
 | m+1,q=>by
  obtain⟨g,i⟩:=sec_notesX hl d hn m (by omega);have e:fs.getD m []=fs[m]:=by simp[List.getD_eq_getElem?_getD,List.getElem?_eq_getElem (show m<fs.length by omega)]
  have c:(fs[m]'(by omega)).length=128:=d _ (Vo _);have hll:=Zeo (Zdw fs m) l hl g;refine⟨λx a=>?_,λk j o=>?_⟩
  .rw[Zie] at a
   rcases List.mem_append.1 a with a | a
   .exact g x a
   .rw[List.mem_singleton.1 a,e];exact⟨by show 2+m<n;omega,c⟩
  .rw[Zie,layL_snoc,e]
   by_cases p:k=m
   .subst p;exact Qp hll c (by omega)
   .refine(Xg hll c (by omega) (by omega) (by omega)).trans (i k j (by omega))
theorem writes_live {J:Jn} (h:Live n J seq B Zeh) (hr:Zaa ((n - 2) / 2) zs ls=true) (ht:J.last+1<4611686018427387904) (hb:J.D.ops+(2*zs.length+4)<=1048576):
  Wrote n J (J.writes zs ls) seq B zs ls:=by
 obtain⟨w,pl,s⟩:=h.im;have hlo:=s.lo
 have au:=s.hi;have hfew:=rightW_few hr;obtain⟨y,av⟩:=Zbs hr;have hwt:=s.wt;have hflen:=Zgi (write:=J.last+1) y;have R:∀f∈Yt (J.last+1) zs ls,f.length=128:=λf hf=>by obtain⟨x,_,rfl⟩:=List.mem_map.1 hf;exact Xf _ _ _
 have hC:ImC n J.D.now w pl seq (J.last+1) B:=⟨s.top (by omega) ht,λi hi=>h.home i hi trivial⟩;obtain⟨G,a4⟩:=sec_notesX s.len R (by omega) zs.length (by omega);have a5:({ J with last:=J.last+1 }:Jn).D.In (λl=>ImC n l w pl seq (J.last+1) B):=h.flat.isIn h.dok hC
 have p1:=phase (J:={ J with last:=J.last+1 }) a5 (.inl h.off) (Zdw (Yt (J.last+1) zs ls) zs.length) (λx S=>by
  refine⟨by show x.1<J.D.n;rw[h.hn];exact(G x S).1,(G x S).2,λl H=>?_⟩
  obtain⟨k,z,rfl⟩:=List.mem_map.1 S;rw[List.mem_range] at z;have e:(Yt (J.last+1) zs ls).getD k []=mkF (J.last+1) (2*16777216+zs[k].toNat) (ls[k]'(by omega)):=by rw[List.getD_eq_getElem?_getD,List.getElem?_eq_getElem (by omega),Option.getD_some];exact Zhr y k z (by omega) (by omega)
  show ImC n (Zaj l (2+k) ((Yt (J.last+1) zs ls).getD k [])) w pl seq (J.last+1) B
  rw[e];have:=rightW_place hr (Vo z)
  exact H.note_lay (by omega) (by omega) (Va _) (by omega)) (by
   show J.D.ops+_+1<=_
   simp only[Zdw,List.length_map,List.length_range]
   omega)
 rw[<-Jn.layTo_lays] at p1;have af:(Zdw (Yt (J.last+1) zs ls) zs.length).length=zs.length:=by simp[Zdw]
 rw[af] at p1;obtain⟨u,I⟩:∃u,u=layL J.D.now (Zdw (Yt (J.last+1) zs ls) zs.length):=⟨_,rfl⟩;have a6:∀k (z:k<(Yt (J.last+1) zs ls).length),sec u (2+k)=(Yt (J.last+1) zs ls)[k]:=λk z=>by rw[I];exact a4 k z (by omega)
 have N:u.length=n*128:=by rw[I];exact Zeo _ _ s.len G
 have O:J.writes zs ls=(let J6:=((((({ J with last:=J.last+1 }:Jn).layTo (Yt (J.last+1) zs ls) zs.length).flush).lay ((J.last+1) % 2) (Xl (J.last+1) zs.length (J.seq+1))).flush).spread (Yt (J.last+1) zs ls)
  if J6.off=0 then { J6 with seq:=J.seq+1 } else J6):=rfl
 obtain⟨g,a7⟩:∃g,g=(({ J with last:=J.last+1 }:Jn).layTo (Yt (J.last+1) zs ls) zs.length).flush:=⟨_,rfl⟩;rw[<-a7] at p1 O;have c:Done (λl=>ImC n l w pl seq (J.last+1) B) { J with last:=J.last+1 } g u (zs.length+1):=by rw[I];exact p1
 clear p1 a7 I G a4;have T:g.seq=J.seq:=c.seq
 have q:g.last=J.last+1:=c.last;have U:g.D.n=J.D.n:=c.n;have A:g.D.cut=J.D.cut:=c.cut;have ag:g.D.ops<=J.D.ops+(zs.length+1):=c.ops;rcases c.off with V | V
 case inr =>
  have a:g.off≠0:=by rw[V];decide
  have e:J.writes zs ls=g:=by
   rw[O];have e2:((g.lay ((J.last+1) % 2) (Xl (J.last+1) zs.length (J.seq+1))).flush).spread (Yt (J.last+1) zs ls)=g:=by rw[Jn.lay,if_neg a,Jn.flush_off a,Jn.spread_lays,Jn.lays_off a,Jn.flush_off a]
   rw[e2];show (if g.off=0 then _ else _)=_
   rw[if_neg a]
  rw[e];refine⟨U,A,by omega,q,.inr ⟨V,?_,_,c.isIn,λl H=>.inl ⟨w,pl,H.1⟩⟩⟩
  exact Vu λhc=>by
   have:=(c.never h.off h.doff (by show J.D.cut<0;omega)).1
   exact a this
 obtain⟨ah,ai⟩:=c.flat V;have p:g.D.now=u:=(c.laid V).2
 have a8:ImC n u w pl seq (J.last+1) B:=by rw[<-p];exact c.isIn.now
 have a9:=c.isIn.ok;have hI2:=a8.write hr (by omega) a6;obtain⟨m,hm⟩:∃m,m=Xl (J.last+1) zs.length (seq+1):=⟨_,rfl⟩;have W:m.length=128:=by rw[hm];exact Xi _ _ _
 rw[<-hm] at hI2;have X:(J.last+1) % 2<n:=by omega
 have o:=phase (P:=λl=>l=u\/l=Zaj u ((J.last+1) % 2) m) (J:=g) (ah.isIn a9 (.inl p)) (.inl V) [((J.last+1) % 2,m)] (λx S=>by
  rw[List.mem_singleton.1 S];refine⟨by rw[U,h.hn];exact X,W,λl H=>?_⟩;rcases H with rfl | rfl
  .exact .inr rfl
  .right
   exact putS_twice N W X) (by show g.D.ops+1+1<=1048576;omega)
 rw[p] at o;have e2:(g.lays [((J.last+1) % 2,m)]).flush=(g.lay ((J.last+1) % 2) m).flush:=rfl
 rw[e2] at o;rw[show layL u [((J.last+1) % 2,m)]=Zaj u ((J.last+1) % 2) m from rfl] at o
 rw[show ((J.last+1) % 2,m)::[]=[((J.last+1) % 2,m)] from rfl,List.length_singleton] at o
 rw[h.hseq,<-hm] at O;obtain⟨d,aa⟩:∃d,d=(g.lay ((J.last+1) % 2) m).flush:=⟨_,rfl⟩;rw[<-aa] at o O;clear aa e2;have aj:d.seq=J.seq:=o.seq.trans T
 have r:d.last=J.last+1:=o.last.trans q;have L:d.D.n=J.D.n:=o.n.trans U;have C:d.D.cut=J.D.cut:=o.cut.trans A;have ak:d.D.ops<=g.D.ops+(1+1):=o.ops;rcases o.off with Y | Y
 case inr =>
  have a:d.off≠0:=by rw[Y];decide
  have e:J.writes zs ls=d:=by
   rw[O];have e2:d.spread (Yt (J.last+1) zs ls)=d:=by rw[Jn.spread_lays,Jn.lays_off a,Jn.flush_off a]
   rw[e2];show (if d.off=0 then _ else _)=_
   rw[if_neg a]
  rw[e];refine⟨L,C,by omega,r,.inr ⟨Y,?_,_,o.isIn,λl H=>?_⟩⟩
  .exact Vu λhc=>by have:=(o.never V ai (by omega)).1;exact a this
  .rcases H with rfl | rfl
   .exact .inl ⟨w,pl,a8.1⟩
   .exact .inr ⟨_,_,hI2⟩
 obtain⟨al,am⟩:=o.flat Y;have E:d.D.now=Zaj u ((J.last+1) % 2) m:=(o.laid Y).2
 have ab:=o.isIn.ok;have ad:∀k (z:k<(Yt (J.last+1) zs ls).length),sec d.D.now (2+k)=(Yt (J.last+1) zs ls)[k]:=λk z=>by rw[E,Xg N W X (by omega) (by omega)];exact a6 k z
 rw[<-E] at hI2;have Z:Full d.D.now (J.last+1) zs.length:=λk z=>by rw[ad k (by omega),Zhr y k z (by omega) (by omega),Zdt _ _ (by omega)]
 have M:Zci d.D.now zs.length=Yt (J.last+1) zs ls:=by have:=noted_fs (n:=n) ad;rw[hflen] at this;exact this
 obtain⟨s1,s2⟩:=hI2.spread Z (D:=d.D) (by rw[L,h.hn]);rw[M] at s1 s2;have an:(Zcw d.D (Yt (J.last+1) zs ls)).length=zs.length:=by simp[Zcw,hflen]
 have t:=phase (P:=λl=>Im n l (J.last+1) zs.length (seq+1) (J.last+1) (Qj B zs ls) Zeh) (J:=d) (al.isIn ab hI2) (.inl Y) (Zcw d.D (Yt (J.last+1) zs ls)) (λx S=>by
  obtain⟨a1,a2,a3⟩:=s1 x S
  exact⟨by rw[L,h.hn];exact a1,a2,a3⟩) (by omega)
 rw[<-Jn.spread_lays,an] at t;obtain⟨J3,ae⟩:∃J3,J3=d.spread (Yt (J.last+1) zs ls):=⟨_,rfl⟩;rw[<-ae] at t O;have ao:J.writes zs ls=if J3.off=0 then { J3 with seq:=seq+1 } else J3:=O
 have j:J3.last=J.last+1:=t.last.trans r;have a0:J3.D.n=J.D.n:=t.n.trans L;have F:J3.D.cut=J.D.cut:=t.cut.trans C;have ap:J3.D.ops<=d.D.ops+(zs.length+1):=t.ops;clear O ae;rw[ao];rcases t.off with Q | Q
 .rw[if_pos Q]
  obtain⟨aq,ar⟩:=t.flat Q;have hnow3:=(t.laid Q).2
  refine⟨a0,F,by show J3.D.ops<=_;omega,j,.inl ⟨Q,⟨Q,ar,aq,t.isIn.ok,by show J3.D.n=n;rw[a0,h.hn],rfl,⟨J.last+1,zs.length,?_⟩,λi hi _=>?_⟩⟩⟩
  .show Im n J3.D.now _ _ _ J3.last _ _
   rw[j];exact t.isIn.now
  .show HomeOk n J3.D.now _ _
   rw[hnow3];rcases s2 i hi with h4 | ⟨h4,_⟩
   .exact h4
   .exact absurd trivial h4
 .have a:J3.off≠0:=by rw[Q];decide
  rw[if_neg a];refine⟨a0,F,by omega,j,.inr ⟨Q,?_,_,t.isIn,λl H=>.inr ⟨_,_,H⟩⟩⟩;exact Vu λhc=>by have:=(t.never Y am (by omega)).1;exact a this
end
section
open Go.RowKit
variable {seq:Int}{pl top w n i:Nat}{ok:Nat→Prop}{B:List (List UInt8)}{m:List UInt8}
theorem Zby (seq:Int) (h:w<18446744073709551616):Zm (Xl w pl seq)=w:=Zdt _ _ h
theorem fplace_markF (w:Nat) (seq:Int) (h:pl<16777216):Zp (Xl w pl seq)=pl:=Zfk _ (by decide) h
theorem fkind_markF (w:Nat) (seq:Int) (h:pl<16777216):Zav (Xl w pl seq)=1:=fkind_mkF _ (by decide) h
theorem mseq_markF (w pl:Nat) (h0:0<=seq) (h1:seq<9223372036854775808):mseq (Xl w pl seq)=seq:=by
 unfold mseq;have e:(Xv (Xl w pl seq)).take 8=le 8 (seq % 18446744073709551616).toNat:=by rw[Xl,fbytes_mkF,Zfn,List.take_append_of_le_length (by simp[Yg]),List.take_take,List.take_of_length_le (by simp[Yg])]
 rw[e,leR_le 8 _ (by omega),toI64,if_pos (by omega)];omega
theorem Dk.markOk_of {D:Dk} (h:sec D.now i=Xl w pl seq) (h1:w<18446744073709551616) (h2:pl<16777216) (h3:w % 2=i) (h4:pl<=D.blocks):D.markOk i=true:=by unfold Dk.markOk;rw[h,fkind_markF _ _ h2,Zby _ h1,fplace_markF _ _ h2,Xl,fright_mkF];simp[h3,h4]
theorem Im.marks {l:List UInt8} {D:Dk} (h:Im n D.now w pl seq top B ok) (hn:D.n=n):
  D.markOk 0=true/\D.markOk 1=true/\D.mark=Xl w pl seq:=by
 obtain⟨d,b,f,e,g,j,k⟩:=h.old;have hm:=h.mark
 have c:=h.lo;have hhi:=h.hi;have hwt:=h.wt;have htt:=h.tt;have hfew:=h.few;have o:D.blocks=(n - 2) / 2:=by rw[Dk.blocks,hn]
 rcases Nat.mod_two_eq_zero_or_one w with a | a
 .rw[a] at hm
  rw[show (w+1) % 2=1 by omega] at e
  refine⟨Dk.markOk_of hm (by omega) (by omega) a (by omega),Dk.markOk_of e (by omega) (by omega) (by omega) (by omega),?_⟩;rw[Dk.mark,hm,e,Zby _ (by omega),Zby _ (by omega),if_neg (by omega)]
 .rw[a] at hm
  rw[show (w+1) % 2=0 by omega] at e
  refine⟨Dk.markOk_of e (by omega) (by omega) (by omega) (by omega),Dk.markOk_of hm (by omega) (by omega) a (by omega),?_⟩;rw[Dk.mark,hm,e,Zby _ (by omega),Zby _ (by omega),if_pos (by omega)]
theorem Dk.lastTo_le {D:Dk} (h0:Zm m<=top):∀k,(∀j,j<k->Zm (sec D.now (2+j))<=top)->D.lastTo m k<=top
 | 0,_=>h0
 | k+1,h=>Nat.max_le.2 ⟨Dk.lastTo_le h0 k λj a=>h j (by omega),h k (by omega)⟩
theorem Dk.lastTo_ge {D:Dk} {m:List UInt8}:∀k,Zm m<=D.lastTo m k/\∀j,j<k->Zm (sec D.now (2+j))<=D.lastTo m k
 | 0=>⟨Va _,λj a=>by omega⟩
 | k+1=>by
  obtain⟨b,c⟩:=Dk.lastTo_ge (D:=D) (m:=m) k;refine⟨Vk b (Nat.le_max_left _ _),λj a=>?_⟩;by_cases d:j=k
  .subst d;exact Nat.le_max_right _ _
  .exact Vk (c j (by omega)) (Nat.le_max_left _ _)
theorem Dk.againTo_eq {D:Dk}:∀k,D.againTo m k=((List.range (min k (Zp m))).filter λj=>decide (Zm (sec D.now (2+j))=Zm m)).map λj=>sec D.now (2+j)
 | 0=>by simp[Dk.againTo]
 | k+1=>by
  rw[Dk.againTo,Dk.againTo_eq k];by_cases b:k<Zp m
  .rw[show min (k+1) (Zp m)=min k (Zp m)+1 by omega,List.range_succ,List.filter_append,List.map_append,show min k (Zp m)=k by omega]
   by_cases a:Zm (sec D.now (2+k))=Zm m
   .rw[if_pos ⟨b,a⟩];simp[a]
   .rw[if_neg λh=>a h.2];simp[a]
  .rw[if_neg λh=>b h.1,show min (k+1) (Zp m)=min k (Zp m) by omega]
theorem Im.retop {l:List UInt8} {t:Nat} (h:Im n l w pl seq top B ok) (h1:w<=t) (h2:∀k,k<(n - 2) / 2->Zm (sec l (2+k))<=t) (h3:t<=top):Im n l w pl seq t B ok :=
 ⟨h.len,h.lo,h.hi,h.rows,h.each,h1,Nat.lt_of_le_of_lt h3 h.tt,h.s0,h.s1,h.few,h.mark,h.old,λk a=>by
  obtain⟨v,q,b,e,d,c⟩:=h.notes k a;have:=h2 k a
  rw[e,Zdt _ _ (by have:=h.tt;omega)] at this
  exact⟨v,q,b,e,this,c⟩,h.full,h.stand⟩
structure Opened (n:Nat) (D:Dk) (J:Jn) (c:Int) (seq:Int) (top:Nat) (B:List (List UInt8)) (ok:Nat->Prop):Prop where
 eq:D.openJ=(c,J)
 hn:J.D.n=D.n
 cut:J.D.cut=D.cut
 ops:J.D.ops<=D.ops+((n - 2) / 2+1)
 last:J.last<=top
 ends:(c=0/\Live n J seq B ok/\∀i,i<(n - 2) / 2->HomeOk n J.D.now B i\/sec J.D.now (2+(n - 2) / 2+i)=sec D.now (2+(n - 2) / 2+i))\/(c=43/\0<=D.cut/\∃w pl t,t<=top/\J.D.In λl=>Im n l w pl seq t B ok)
theorem open_im {D:Dk} (h:Im n D.now w pl seq top B ok) (hf:D.Flat) (A:D.Ok) (hn:D.n=n) (a:D.off=false) (hb:D.ops+((n - 2) / 2+1)<=1048576):
  ∃c J,Opened n D J c seq top B ok:=by
 obtain⟨R,V,M⟩:=h.marks (l:=D.now) hn;have hlo:=h.lo
 have W:=h.hi;have hwt:=h.wt;have htt:=h.tt;have hfew:=h.few;have hs0:=h.s0;have hs1:=h.s1;have N:D.blocks=(n - 2) / 2:=by rw[Dk.blocks,hn]
 have C:Zm D.mark=w:=by rw[M,Zby _ (by omega)]
 have o:Zp D.mark=pl:=by rw[M,fplace_markF _ _ (by omega)]
 have f:mseq D.mark=seq:=by rw[M,mseq_markF _ _ hs0 (by omega)]
 obtain⟨S,X⟩:=Dk.lastTo_ge (D:=D) (m:=D.mark) D.blocks;have I:D.lastTo D.mark D.blocks<=top:=Dk.lastTo_le (by omega) _ λj hj=>(h.note_of (by omega)).2.2.1
 rw[C] at S;have q:¬∃i,i<D.blocks/\D.noteOk i=false:=by rintro⟨i,r,e⟩;obtain⟨E,L,T,a4⟩:=h.note_of (k:=i) (by omega);rw[Dk.noteOk,E,L,N] at e;simp at e;omega
 have s:Im n D.now w pl seq (D.lastTo D.mark D.blocks) B ok:=h.retop S (λk F=>X k (by omega)) I
 have G:D.openJ=if (D.againTo D.mark D.blocks).length=Zp D.mark/\0<(D.againTo D.mark D.blocks).length
  then ((D.found.spread (D.againTo D.mark D.blocks)).off,D.found.spread (D.againTo D.mark D.blocks)) else (0,D.found):=by
  rw[Dk.openJ,if_neg (by omega),if_neg (by simp[a]),if_neg (by simp[R]),if_neg (by simp[R,V]),if_neg q]
 have t:=Dk.againTo_eq (D:=D) (m:=D.mark) D.blocks;rw[C,o,show min D.blocks pl=pl by omega] at t
 by_cases z:Full D.now w pl/\0<pl
 .obtain⟨z,Y⟩:=z
  have H:D.againTo D.mark D.blocks=Zci D.now pl:=by rw[t,Zci,List.filter_eq_self.2 λk F=>by simpa using z k (List.mem_range.1 F)]
  have u:(Zci D.now pl).length=pl:=by simp[Zci]
  rw[H,u,o,if_pos ⟨rfl,Y⟩] at G;obtain⟨Z,U⟩:=s.spread z hn
  have p:=phase (P:=λl=>Im n l w pl seq (D.lastTo D.mark D.blocks) B ok) (J:=D.found) (hf.isIn A s) (.inl rfl) (Zcw D (Zci D.now pl)) (λx hx=>by
   obtain⟨E,L,T⟩:=Z x hx
   exact⟨by show x.1<D.n;omega,L,T⟩) (by show D.ops+(Zcw D (Zci D.now pl)).length+1<=_;rw[Zcw,List.length_map,u];omega)
  have O:(Zcw D (Zci D.now pl)).length=pl:=by rw[Zcw,List.length_map,u]
  rw[show Zcw D (Zci D.now pl)=Zcw D.found.D (Zci D.now pl) from rfl,<-Jn.spread_lays] at p
  rw[show (Zcw D.found.D (Zci D.now pl)).length=pl from O] at p
  obtain⟨J,hJ⟩:∃J,J=D.found.spread (Zci D.now pl):=⟨_,rfl⟩;rw[<-hJ] at p G;have b:J.last=D.lastTo D.mark D.blocks:=p.last
  refine⟨J.off,J,G,p.n,p.cut,?_,by rw[b];exact I,?_⟩
  .have:J.D.ops<=D.ops+(pl+1):=p.ops;omega
  .rcases p.off with v | v
   .obtain⟨f1,f2⟩:=p.flat v
    have g:=(p.laid v).2;refine .inl ⟨v,⟨v,f2,f1,p.isIn.ok,p.n.trans hn,p.seq.trans f,⟨w,pl,by rw[b];exact p.isIn.now⟩,λi r y=>?_⟩,λi r=>?_⟩
    .rw[g]
     rcases U i r with d | ⟨d,_⟩
     .exact d
     .exact absurd y d
    .rw[g]
     rcases U i r with d | ⟨_,d⟩
     .exact .inl d
     .exact .inr d
   .refine .inr ⟨v,?_,w,pl,_,I,p.isIn⟩
    exact Vu λhc=>by
     have:=(p.never rfl a (by show D.cut<0;omega)).1
     rw[v] at this;exact absurd this (by decide)
 .have Q:¬((D.againTo D.mark D.blocks).length=Zp D.mark/\0<(D.againTo D.mark D.blocks).length):=by
   rintro⟨E,L⟩;refine z ⟨λk F=>?_,by omega⟩;rw[t,List.length_map,o] at E;have:(List.filter (λj=>decide (Zm (sec D.now (2+j))=w)) (List.range pl)).length=(List.range pl).length:=by rw[E,List.length_range]
   have:=(List.length_filter_eq_length_iff.1 this) k (List.mem_range.2 F);simpa using this
  rw[if_neg Q] at G;refine⟨0,D.found,G,rfl,rfl,by show D.ops<=_;omega,I,.inl ⟨rfl,⟨rfl,a,hf,A,hn,f,⟨w,pl,s⟩,λi r y=>?_⟩,λi r=>.inr rfl⟩⟩
  rcases h.stand i r y with d | ⟨d,k,F,_⟩
  .exact d
  .exact absurd ⟨d,by omega⟩ z
theorem read_live {J:Jn} (h:Live n J seq B ok) (g:i<(n - 2) / 2) (hk:ok i) {b:List UInt8} (hb:B[i]?=some b):J.read (i:Int)=(b,0,J):=by
 obtain⟨w,pl,a⟩:=h.im;have hhi:=a.hi
 have c:J.D.blocks=(n - 2) / 2:=by rw[Dk.blocks,h.hn]
 obtain⟨v,k,l,f,j⟩:=h.home i g hk;rw[hb] at f;obtain rfl:=Ud f;have e:sec J.D.now (J.D.home (i:Int).toNat)=mkF v (3*16777216+i) b:=by rw[Dk.home,c,Int.toNat_natCast];exact j
 have d:b.length=112:=a.each b (List.mem_of_getElem? hb);rw[Jn.read,if_neg (by simp[h.off]),if_neg (by rw[c];simp;omega),if_neg (by simp[h.doff]),e,fright_mkF,fkind_mkF _ (by decide) (by omega),Zfk _ (by decide) (by omega),fbytes_mkF,pad112_id d];simp
end
section
open Go.RowKit
variable {D:Dk}
def fmtX (D:Dk):Nat->List (Nat × List UInt8)
 | 0=>[]
 | i+1=>fmtX D i++[(2+i,mkF 0 (2*16777216+0) []),(D.home i,mkF 0 (3*16777216+i) [])]
theorem Jn.fmtTo_lays (J:Jn) (k:Nat):J.fmtTo k=J.lays (fmtX J.D k):=by
 induction k with
 | zero=>rfl
 | succ k a =>
  rw[Jn.fmtTo,fmtX,a];simp[Jn.lays]
theorem Zgr {x:Nat × List UInt8}:∀m,x∈fmtX D m↔∃i,i<m/\(x=(2+i,mkF 0 (2*16777216+0) [])\/x=(D.home i,mkF 0 (3*16777216+i) []))
 | 0=>by simp[fmtX]
 | m+1=>by
  rw[fmtX,Ul,Zgr m];simp only[List.mem_cons,List.not_mem_nil,or_false];constructor
  .rintro(⟨i,a,h⟩ | h)
   .exact⟨i,by omega,h⟩
   .exact⟨m,by omega,h⟩
  .rintro⟨i,a,h⟩
   by_cases b:i=m
   .subst b;exact .inr h
   .exact .inl ⟨i,by omega,h⟩
theorem fmtX_length (D:Dk) (m:Nat):(fmtX D m).length=2*m:=by
 induction m with
 | zero=>rfl
 | succ m a=>rw[fmtX,List.length_append,a];simp;omega
theorem mkF_zeros (w a:Nat):mkF w a []=mkF w a (List.replicate 112 0):=by
 have:Zfn []=Zfn (List.replicate 112 0):=by decide
 rw[mkF,mkF,fbody,fbody,this]
def zeroB (n:Nat):List (List UInt8):=List.replicate ((n - 2) / 2) (List.replicate 112 0)
structure Formed (n:Nat) (D D':Dk):Prop where
 eq:D.format=(0,D')
 hn:D'.n=n
 ok:D'.Ok
 flat:D'.Flat
 off:D'.off=false
 cut:D'.cut=D.cut
 ops:D'.ops<=D.ops+(n+4)
 im:Im n D'.now 1 0 0 1 (zeroB n) Zeh
theorem format_im {n:Nat} (g:D.Ok) (hn:D.n=n) (H:32<=n) (w:D.off=false) (hcut:D.cut<0) (r:D.Flat) (hb:D.ops+(n+4)<=1048576):∃D',Formed n D D':=by
 have V:=g.nm;have I:D.blocks=(n - 2) / 2:=by rw[Dk.blocks,hn]
 have l:∀i,D.home i=2+(n - 2) / 2+i:=λi=>by rw[Dk.home,I]
 obtain⟨J,L⟩:∃J:Jn,J=⟨D,0,0,0⟩:=⟨_,rfl⟩;have a:J.D=D:=by rw[L]
 have y:J.off=0:=by rw[L]
 have s:∀x∈fmtX D D.blocks,x.1<n/\x.2.length=128:=λx s=>by
  obtain⟨i,z,rfl | rfl⟩:=(Zgr _).1 s
  .exact⟨by show 2+i<n;omega,Xf _ _ _⟩
  .exact⟨by show D.home i<n;rw[l];omega,Xf _ _ _⟩
 have m:=phase (P:=λ_=>True) (J:=J) (by rw[a];exact r.isIn g trivial) (.inl y) (fmtX D D.blocks) (λx h=>⟨by rw[a,hn];exact(s x h).1,(s x h).2,λ_ _=>trivial⟩) (by rw[a,fmtX_length];omega);rw[fmtX_length,<-a,<-Jn.fmtTo_lays,a] at m;obtain⟨c,A⟩:∃c,c=(J.fmtTo D.blocks).flush:=⟨_,rfl⟩;rw[<-A] at m;obtain⟨F,W⟩:=m.never y (by rw[a];exact w) (by rw[a];exact hcut);obtain⟨X,f2⟩:=m.flat F;have now1:=(m.laid F).2;have M:c.D.n=n:=by rw[m.n,a,hn]
 have N:c.D.ops<=D.ops+(2*D.blocks+1):=by have:=m.ops;rw[a] at this;exact this
 have j:c.D.cut=D.cut:=by rw[m.cut,a]
 have o:=phase (P:=λ_=>True) (J:=c) (X.isIn m.isIn.ok trivial) (.inl F) [(0,Xl 0 0 0),(1,Xl 1 0 0)] (λx h=>by
  simp only[List.mem_cons,List.not_mem_nil,or_false] at h;rcases h with rfl | rfl
  .exact⟨by show 0<c.D.n;omega,Xi _ _ _,λ_ _=>trivial⟩
  .exact⟨by show 1<c.D.n;omega,Xi _ _ _,λ_ _=>trivial⟩) (by show c.D.ops+2+1<=_;omega)
 rw[show c.lays [(0,Xl 0 0 0),(1,Xl 1 0 0)]=c.fmtMarks 2 from rfl] at o
 obtain⟨f,B⟩:∃f,f=(c.fmtMarks 2).flush:=⟨_,rfl⟩;rw[<-B] at o;obtain⟨O,q2⟩:=o.never F W (by rw[j];exact hcut);obtain⟨Y,Z⟩:=o.flat O;have now2:=(o.laid O).2
 have Q:f.D.ops<=c.D.ops+(2+1):=o.ops
 have e:D.format=(0,f.D):=by
  have:Jn.format ⟨D,0,0,0⟩=f:=by rw[B,A,<-L,Jn.format,a]
  rw[Dk.format,if_neg (by omega),this,O]
 have p:c.D.now.length=n*128:=by rw[now1];exact Zeo _ _ (by rw[g.now,hn]) s
 have R:f.D.now.length=n*128:=by
  rw[now2];refine Zeo _ _ p λx h=>?_;simp only[List.mem_cons,List.not_mem_nil,or_false] at h;rcases h with rfl | rfl
  .exact⟨by show 0<n;omega,Xi _ _ _⟩
  .exact⟨by show 1<n;omega,Xi _ _ _⟩
 have t:(Zaj c.D.now 0 (Xl 0 0 0)).length=n*128:=Qd p (Xi _ _ _) (by omega);have d:f.D.now=Zaj (Zaj c.D.now 0 (Xl 0 0 0)) 1 (Xl 1 0 0):=now2;have S:sec f.D.now 1=Xl 1 0 0:=by rw[d];exact Qp t (Xi _ _ _) (by omega)
 have T:sec f.D.now 0=Xl 0 0 0:=by rw[d,Xg t (Xi _ _ _) (by omega) (by omega) (by omega)];exact Qp p (Xi _ _ _) (by omega)
 have C:∀k,2<=k->k<n->sec f.D.now k=sec (layL D.now (fmtX D D.blocks)) k:=λk q E=>by rw[d,Xg t (Xi _ _ _) (by omega) (by omega) (by omega),Xg p (Xi _ _ _) (by omega) (by omega) (by omega),now1]
 have u:∀k,k<(n - 2) / 2->sec f.D.now (2+k)=mkF 0 (2*16777216+0) []:=λk G=>by
  rw[C _ (by omega) (by omega)];rcases sec_layL (n:=n) (i:=2+k) (by omega) (fmtX D D.blocks) D.now (by rw[g.now,hn]) s with ⟨q,_⟩ | ⟨x,q,E,U⟩
  .exact absurd rfl (q (2+k,mkF 0 (2*16777216+0) []) ((Zgr _).2 ⟨k,by omega,.inl rfl⟩))
  .rw[U]
   obtain⟨i,z,rfl | rfl⟩:=(Zgr _).1 q
   .rfl
   .have:D.home i=2+k:=E;rw[l] at this;omega
 have v:∀k,k<(n - 2) / 2->sec f.D.now (2+(n - 2) / 2+k)=mkF 0 (3*16777216+k) []:=λk G=>by
  rw[C _ (by omega) (by omega)];rcases sec_layL (n:=n) (i:=2+(n - 2) / 2+k) (by omega) (fmtX D D.blocks) D.now (by rw[g.now,hn]) s with ⟨q,_⟩ | ⟨x,q,E,U⟩
  .exact absurd (l k) (q (D.home k,mkF 0 (3*16777216+k) []) ((Zgr _).2 ⟨k,by omega,.inr rfl⟩))
  .rw[U]
   obtain⟨i,z,rfl | rfl⟩:=(Zgr _).1 q
   .have:2+i=2+(n - 2) / 2+k:=E;omega
   .have:D.home i=2+(n - 2) / 2+k:=E;rw[l] at this;rw[show i=k by omega]
 refine⟨f.D,e,by rw[o.n,M],o.isIn.ok,Y,Z,by rw[o.cut,j],by omega,?_⟩;refine⟨R,H,by omega,by simp[zeroB],λb hb=>?_,Va _,by omega,by omega,by omega,by omega,S,⟨0,0,0,T,by omega,by omega,by omega⟩,λk G=>⟨0,0,[],u k G,by omega,by omega⟩,λ_ k G=>by omega,λi z _=>.inl ⟨0,List.replicate 112 0,by omega,?_,?_⟩⟩
 .rw[List.eq_of_mem_replicate hb];rfl
 .rw[zeroB,List.getElem?_replicate,if_pos z]
 .rw[v i z,mkF_zeros]
end
section
open Go.RowKit
def Dk.new (n:Nat):Dk:=⟨n,List.replicate (n*128) 0,List.replicate (n*128) 0,[],0,-1,false⟩
theorem Dk.new_ok {n:Nat} (h1:1<=n) (h2:n<=16384):(Dk.new n).Ok :=
 ⟨h1,h2,by simp[Dk.new],by simp[Dk.new],λx a=>(by cases a),Va _,by simp[Dk.new],by simp[Dk.new],by simp[Dk.new]⟩
theorem run_make_sects (n:Nat) (hn:n<=16384):∃C:Array Value,C.toList=bv (List.replicate (n*128) 0) /\
  ∀w:World,(Instr.makeSlice 86 (.int .i64 (n:Int)) (.int .i64 (n:Int))).run Tryz.prog w=.ok (.slice (some ⟨w.heap.size,0,none⟩) n n) (w.alloc (.cells C 108)):=by
 obtain⟨i,l,c,d,m⟩:∃i,Tryz.prog.info? 108=some i/\i.zero=some (.agg (List.replicate 128 (.int .u8 0)).toArray)/\i.size=128/\i.bytes=128:=by
  have h:(Tryz.prog.info? 108).map (λi=>(i.zero,i.size,i.bytes))=some (some (.agg (List.replicate 128 (.int .u8 0)).toArray),128,128):=by kernel_rfl
  cases f:Tryz.prog.info? 108 with
  | none=>rw[f] at h;cases h
  | some i =>
   rw[f,Option.map_some,Option.some.injEq,Prod.mk.injEq,Prod.mk.injEq] at h;exact⟨i,rfl,h⟩
 refine⟨madeCells (List.replicate 128 (.int .u8 0)).toArray (n*128),?_,λw=>?_⟩
 .apply List.ext_getElem?
  intro j;have a:∀x:List UInt8,∀i:Nat,(bv x)[i]?=(x[i]?).map λb=>Value.int .u8 (b.toNat:Int):=λx i=>by simp[bv]
  rw[a];by_cases g:j<n*128
  .have o:j % 128<128:=Nat.mod_lt _ (by omega)
   have c:∀(Z:Array Value),Z.toList=List.replicate 128 (Value.int .u8 0)->(madeCells Z (n*128)).toList[j]?=some (.int .u8 0):=by
    intro Z k;have d:Z.size=128:=by rw[<-Array.length_toList,k,List.length_replicate]
    have p:Z[j % 128]! = .int .u8 0:=by
     have e:Z[j % 128]?=some (.int .u8 0):=by rw[<-Array.getElem?_toList,k,List.getElem?_replicate,if_pos o]
     rw[getElem!_def,e]
    simp only[madeCells,Array.toList_map,Array.toList_range,List.getElem?_map,List.getElem?_range g,Option.map_some,d,p]
   rw[c _ (by rw[List.toList_toArray]),List.getElem?_replicate,if_pos g];rfl
  .rw[List.getElem?_eq_none (by simp[madeCells];omega),List.getElem?_eq_none (by simp;omega)];rfl
 .have:=run_make w 86 108 i _ Tryz.underlying86 l c .i64 .i64 (n:Int) (n:Int) (by omega) (by omega) (by rw[m];omega) (by omega);rw[this,d,Int.toNat_natCast];rfl
theorem new_at {w:World} {p S N M n:Nat} {C:Array Value} (hC:C.toList=bv (List.replicate (n*128) 0)) (h1:1<=n) (h2:n<=16384) (hf:Ft.Ok ⟨p,S,N,M,n,n⟩)
  (hp:w.heap[p]?=some (.cells #[.slice (some ⟨S,0,none⟩) n n,.slice (some ⟨N,0,none⟩) n n,.map (some M),.int .i64 0,.int .i64 (-1),.bool false] 89 (0,0)))
  (hS:w.heap[S]?=some (.cells C 108 (0,0))) (hN:w.heap[N]?=some (.cells C 108 (0,0))) (hM:w.heap[M]?=some (.map #[] 0)):Xd w ⟨p,S,N,M,n,n⟩ (Dk.new n):=by
 have a:C.size=n*128:=by rw[<-Array.length_toList,hC,Zk,List.length_replicate]
 have c:n<=maxLen:=by simp[maxLen];omega
 have b:∀g,w.heap[g]?=some (.cells C 108 (0,0))->Qz w g n n (List.replicate (n*128) 0):=λg d =>
  ⟨C,d,Va _,c,a,by simp,by rw[hC,List.take_of_length_le (by rw[Zk];exact Va _)]⟩
 exact⟨hf,Dk.new_ok h1 h2,hp,b S hS,b N hN,⟨[],0,hM,rfl,λi e=>by simp[Dk.new] at e⟩⟩
theorem Zbk (w:World) (a b c d:Obj):((((w.alloc a).alloc b).alloc c).alloc d).drew.heap[w.heap.size]?=some a/\((((w.alloc a).alloc b).alloc c).alloc d).drew.heap[w.heap.size+1]?=some b /\
  ((((w.alloc a).alloc b).alloc c).alloc d).drew.heap[w.heap.size+1+1]?=some c/\((((w.alloc a).alloc b).alloc c).alloc d).drew.heap[w.heap.size+1+1+1]?=some d:=by
 show ((((w.heap.push a).push b).push c).push d)[_]?=_/\((((w.heap.push a).push b).push c).push d)[_]?=_/\((((w.heap.push a).push b).push c).push d)[_]?=_/\((((w.heap.push a).push b).push c).push d)[_]?=_
 have e:∀(H:Array Obj) (x:Obj) (k:Nat),k<H.size->(H.push x)[k]?=H[k]?:=λH x k g=>by rw[Array.getElem?_push,if_neg (by omega)]
 have f:∀(H:Array Obj) (x:Obj) (k:Nat),k=H.size->(H.push x)[k]?=some x:=λH x k g=>by rw[Array.getElem?_push,if_pos g]
 refine⟨?_,?_,?_,?_⟩
 .rw[e _ _ _ (by simp only[Array.size_push];omega),e _ _ _ (by simp only[Array.size_push];omega),e _ _ _ (by simp only[Array.size_push];omega),f _ _ _ rfl]
 .rw[e _ _ _ (by simp only[Array.size_push];omega),e _ _ _ (by simp only[Array.size_push];omega),f _ _ _ (by simp only[Array.size_push])]
 .rw[e _ _ _ (by simp only[Array.size_push];omega),f _ _ _ (by simp only[Array.size_push])]
 .rw[f _ _ _ (by simp only[Array.size_push])]
theorem below4 (w:World) (a b c d:Obj):Below w.heap.size w ((((w.alloc a).alloc b).alloc c).alloc d).drew:=by have e:(w.alloc a).heap.size=w.heap.size+1:=Array.size_push ..;have f:((w.alloc a).alloc b).heap.size=w.heap.size+1+1:=(Array.size_push ..).trans (by rw[e]);have g:(((w.alloc a).alloc b).alloc c).heap.size=w.heap.size+1+1+1:=(Array.size_push ..).trans (by rw[f]);exact(((((Ve _ _).alloc (Va _) _).alloc (by omega) _).alloc (by omega) _).alloc (by omega) _).drew
def Ft.new (F:Ft) (w:World):Prop:=∀k,F.has k->w.heap.size<=k
theorem new4 (w:World) (a b c x y:Nat) (d:w.heap.size<=a) (hb:w.heap.size<=b) (hc:w.heap.size<=c):Ft.new ⟨w.heap.size+1+1+1,a,b,c,x,y⟩ w:=by
 rintro k (rfl | rfl | rfl | rfl)
 .show _<=w.heap.size+1+1+1
  omega
 .exact d
 .exact hb
 .exact hc
theorem new_some (w:World) (n:Nat) (hn:1<=n/\n<=16384) :
  Calls Tryz.prog 36 #[.int .i64 (n:Int)] w λe w'=>∃F:Ft,e=.returned (.tuple #[F.ptr,.int .i64 0])/\Xd w' F (Dk.new n)/\F.new w/\Below w.heap.size w w':=by
 obtain⟨C,a,d⟩:=run_make_sects n hn.2;have g:decide ((n:Int)<1)=false:=by simp;omega
 have h:decide ((16384:Int)<(n:Int))=false:=by simp;omega
 have f:=λw=>run_makeMap (P:=Tryz.prog) 87 w;obtain⟨b,c⟩:=hn;go_enter Tryz.func36,Tryz.ntmps36;go_wp2;go_region
 all_goals go_wp2
 all_goals go_ret2
 all_goals first
  | (exact⟨⟨w.heap.size+1+1+1,w.heap.size,w.heap.size+1,w.heap.size+1+1,n,n⟩,rfl,new_at a b c ⟨(by simp only[ne_eq];omega),(by simp only[ne_eq];omega),(by simp only[ne_eq];omega),(by simp only[ne_eq];omega),(by simp only[ne_eq];omega),(by simp only[ne_eq];omega)⟩ (Zbk w _ _ _ _).2.2.2 (Zbk w _ _ _ _).1 (Zbk w _ _ _ _).2.1 (Zbk w _ _ _ _).2.2.1,new4 _ _ _ _ _ _ (by omega) (by omega) (by omega),below4 w _ _ _ _⟩)
  | (exact⟨⟨w.heap.size+1+1+1,w.heap.size,w.heap.size+1+1,w.heap.size+1,n,n⟩,rfl,new_at a b c ⟨(by simp only[ne_eq];omega),(by simp only[ne_eq];omega),(by simp only[ne_eq];omega),(by simp only[ne_eq];omega),(by simp only[ne_eq];omega),(by simp only[ne_eq];omega)⟩ (Zbk w _ _ _ _).2.2.2 (Zbk w _ _ _ _).1 (Zbk w _ _ _ _).2.2.1 (Zbk w _ _ _ _).2.1,new4 _ _ _ _ _ _ (by omega) (by omega) (by omega),below4 w _ _ _ _⟩)
  | (exact⟨⟨w.heap.size+1+1+1,w.heap.size+1,w.heap.size,w.heap.size+1+1,n,n⟩,rfl,new_at a b c ⟨(by simp only[ne_eq];omega),(by simp only[ne_eq];omega),(by simp only[ne_eq];omega),(by simp only[ne_eq];omega),(by simp only[ne_eq];omega),(by simp only[ne_eq];omega)⟩ (Zbk w _ _ _ _).2.2.2 (Zbk w _ _ _ _).2.1 (Zbk w _ _ _ _).1 (Zbk w _ _ _ _).2.2.1,new4 _ _ _ _ _ _ (by omega) (by omega) (by omega),below4 w _ _ _ _⟩)
  | (exact⟨⟨w.heap.size+1+1+1,w.heap.size+1,w.heap.size+1+1,w.heap.size,n,n⟩,rfl,new_at a b c ⟨(by simp only[ne_eq];omega),(by simp only[ne_eq];omega),(by simp only[ne_eq];omega),(by simp only[ne_eq];omega),(by simp only[ne_eq];omega),(by simp only[ne_eq];omega)⟩ (Zbk w _ _ _ _).2.2.2 (Zbk w _ _ _ _).2.1 (Zbk w _ _ _ _).2.2.1 (Zbk w _ _ _ _).1,new4 _ _ _ _ _ _ (by omega) (by omega) (by omega),below4 w _ _ _ _⟩)
  | (exact⟨⟨w.heap.size+1+1+1,w.heap.size+1+1,w.heap.size,w.heap.size+1,n,n⟩,rfl,new_at a b c ⟨(by simp only[ne_eq];omega),(by simp only[ne_eq];omega),(by simp only[ne_eq];omega),(by simp only[ne_eq];omega),(by simp only[ne_eq];omega),(by simp only[ne_eq];omega)⟩ (Zbk w _ _ _ _).2.2.2 (Zbk w _ _ _ _).2.2.1 (Zbk w _ _ _ _).1 (Zbk w _ _ _ _).2.1,new4 _ _ _ _ _ _ (by omega) (by omega) (by omega),below4 w _ _ _ _⟩)
  | (exact⟨⟨w.heap.size+1+1+1,w.heap.size+1+1,w.heap.size+1,w.heap.size,n,n⟩,rfl,new_at a b c ⟨(by simp only[ne_eq];omega),(by simp only[ne_eq];omega),(by simp only[ne_eq];omega),(by simp only[ne_eq];omega),(by simp only[ne_eq];omega),(by simp only[ne_eq];omega)⟩ (Zbk w _ _ _ _).2.2.2 (Zbk w _ _ _ _).2.2.1 (Zbk w _ _ _ _).2.1 (Zbk w _ _ _ _).1,new4 _ _ _ _ _ _ (by omega) (by omega) (by omega),below4 w _ _ _ _⟩)
end
section
open Go.RowKit
variable {J:Jn}
theorem open_good (w:World) (F:Ft) (D:Dk) (h:Xd w F D) (hn:Nib w) (b:D.openJ=(0,J)):Calls Tryz.prog 48 #[F.ptr] w λe w'=>∃p,e=.returned (.tuple #[jptr p,.int .i64 0])/\JAt w' F p J/\w.heap.size<=p/\Zb F.has w w':=by refine(open_any w F D h hn).mono ?_;rintro e w' ⟨a,c⟩;rw[b,if_pos rfl] at a;obtain⟨p,d,f,g⟩:=a;exact⟨p,d,f,g,c⟩
theorem open_not (w:World) (F:Ft) (D:Dk) (h:Xd w F D) (hn:Nib w) {c:Int} (b:D.openJ=(c,J)) (hc:c≠0):Calls Tryz.prog 48 #[F.ptr] w λe w'=>e=.returned (.tuple #[.pointer none,.int .i64 c])/\Xd w' F J.D/\Zb F.has w w':=by refine(open_any w F D h hn).mono ?_;rintro e w' ⟨a,d⟩;rw[b,if_neg hc] at a;exact⟨a.1,a.2,d⟩
theorem begun_plain {n:Nat} (h1:32<=n) (h2:n<=16384):∃a J,(Dk.new n).format=(0,a)/\a.openJ=(0,J)/\Live n J 0 (zeroB n) Zeh/\J.last<=1/\J.D.cut<0/\J.D.ops<=2*n+5:=by
 obtain⟨a,f⟩:=format_im (n:=n) (D:=Dk.new n) (Dk.new_ok (by omega) h2) rfl h1 rfl (by show (-1:Int)<0;decide) ⟨rfl,rfl⟩ (by show 0+_<=_;omega)
 have e:=f.ops;have d:(Dk.new n).ops=0:=rfl;have b:a.cut=-1:=f.cut;obtain⟨c,J,o⟩:=open_im f.im f.flat f.ok f.hn f.off (by omega);have hJo:=o.ops;rcases o.ends with ⟨rfl,g,_⟩ | ⟨_,h,_⟩
 .exact⟨a,J,f.eq,o.eq,g,o.last,by rw[o.cut,b];decide,by omega⟩
 .omega
end
end Go.Proofs.YtfaobkmojlhbnaaGreatDoor
