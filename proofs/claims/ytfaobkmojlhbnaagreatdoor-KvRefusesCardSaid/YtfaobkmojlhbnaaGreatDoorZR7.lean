/- Contracts of the functions that the statements of this seat reach, part 7: each says what the call answers and what it leaves of the memory. -/
import Derived.Test.YtfaobkmojlhbnaaGreatDoorZR6
import Derived.Test.YtfaobkmojlhbnaaGreatDoorZR2
import Derived.Test.YtfaobkmojlhbnaaGreatDoorZR4
import Derived.LoopTactic
import Derived.Test.YtfaobkmojlhbnaaGreatDoorZR5
set_option linter.unusedVariables false
set_option linter.unusedSimpArgs false
set_option maxRecDepth 100000
set_option maxHeartbeats 64000000
namespace Go.Proofs.YtfaobkmojlhbnaaGreatDoor
section
open Go.RowKit
theorem run_make3 (w:World):(Instr.makeSlice 77 (.int .i64 3) (.int .i64 896)).run Tryz.prog w=.ok (.slice (some ⟨w.heap.size,0,none⟩) 3 896) (w.alloc (.cells (bv (pad [0,0,0])).toArray 5)):=by
 obtain⟨i,b,c,d,f⟩:=Ue (P:=Tryz.prog) (e:=5) info_u8;have hr:=run_make (P:=Tryz.prog) w 77 5 i (.int .u8 0) Tryz.underlying77 b c .i64 .i64 3 896 (by omega) (by omega) (by rw[f];omega) (by omega)
 rw[hr,d]
 have e:madeCells (Value.int .u8 0).cells ((896:Int).toNat*1)=(bv (pad [0,0,0])).toArray:=by
  have:pad [0,0,0]=List.replicate 896 0:=by
   show List.replicate 3 0++List.replicate 893 0=_
   rw[List.replicate_append_replicate]
  rw[this];simp only[madeCells,bv,List.map_replicate,List.size_toArray,List.toArray_replicate,Value.cells];apply Array.ext
  .simp
  .intro i h j;simp[Nat.mod_one]
 rw[e];rfl
theorem En.bytes_len (leaf:Bool) (i:Nat) (e:En):(e.bytes leaf i).length=e.size leaf i:=by
 unfold En.bytes En.size
 cases leaf<;>by_cases h:i=0<;>simp[h,Nat.pos_of_ne_zero]<;>omega
theorem Zgg (leaf:Bool):∀(l:List En) (i:Nat),(Yb leaf i l).length=Zg leaf i l
 | [],_=>rfl
 | e::r,i=>by rw[Yb,List.length_append,En.bytes_len,Zgg leaf r (i+1),Zg]
theorem Zgp (leaf:Bool):∀(a b:List En) (i:Nat),Yb leaf i (a++b)=Yb leaf i a++Yb leaf (i+a.length) b
 | [],b,i=>by simp[Yb]
 | e::r,b,i=>by rw[List.cons_append,Yb,Yb,Zgp leaf r b (i+1),List.length_cons,List.append_assoc];rw[show i+1+r.length=i+(r.length+1) by omega]
theorem Zhy (leaf:Bool) (l:List En) (k:Nat) (hk:k<l.length):Yb leaf 0 (l.take (k+1))=Yb leaf 0 (l.take k)++l[k].bytes leaf k:=by rw[List.take_add_one,List.getElem?_eq_getElem hk,Zgp,List.length_take,Nat.min_eq_left (by omega),Nat.zero_add];simp[Yb]
theorem En.size_ge (leaf:Bool) (i:Nat) (e:En):2<=e.size leaf i:=by
 unfold En.size;split
 .omega
 .split<;>omega
theorem Zaz (leaf:Bool):∀(l:List En) (i:Nat),2*l.length<=Zg leaf i l
 | [],_=>by simp
 | e::r,i=>by have b:=En.size_ge leaf i e;have h2:=Zaz leaf r (i+1);rw[Zg,List.length_cons];omega
theorem Nd.bytes_pad (nd:Nd) (h:nd.sum<=893):nd.bytes=pad (nd.head++Yb nd.leaf 0 nd.l):=by
 have b:(nd.head++Yb nd.leaf 0 nd.l).length=3+nd.sum:=by rw[List.length_append,Zgg];rfl
 unfold Nd.bytes pad;rw[List.take_append,List.take_of_length_le (by omega),List.take_replicate];congr 2;omega
theorem Zfd (leaf:Bool) (l:List En) (k:Nat):Zg leaf 0 (l.take k)<=Zg leaf 0 l:=by have:=Ym leaf (l.take k) (l.drop k) 0;rw[List.take_append_drop] at this;omega
def Zag (leaf:Bool) (l:List En) (k:Nat):List UInt8:=(Nd.mk leaf l).head++Yb leaf 0 (l.take k)
theorem partB_len (leaf:Bool) (l:List En) (k:Nat):(Zag leaf l k).length=3+Zg leaf 0 (l.take k):=by rw[Zag,List.length_append,Zgg];rfl
theorem layB_one {A:List UInt8} (x:UInt8) (i:Nat) (b:i<A.length) (B:List UInt8):Zai (A++B) i [x]=A.set i x++B:=by unfold Zai;rw[List.take_append_of_le_length (by omega),List.set_eq_take_append_cons_drop,if_pos b];simp[List.drop_append_of_le_length (show i+1<=A.length by omega)]
theorem Qc.put {w:World} {g:Nat} {A:List UInt8} (h:Qc w g A) (i:Nat) (x:UInt8) (d:i<A.length):Qc (w.setCell ⟨g,i,none⟩ (.int .u8 (x.toNat:Int))) g (A.set i x):=by
 have b:(A.set i x).length=A.length:=by simp
 have c:=h.row.lay i [x] (by rw[Qw h.le];have:=h.le;simp;omega);have e:Zai (pad A) i [x]=pad (A.set i x):=by rw[pad,layB_one x i d,pad,b]
 rw[e] at c;exact⟨c,by rw[b];exact h.le⟩
theorem Qc.drew {w:World} {g:Nat} {A:List UInt8} (h:Qc w g A):Qc w.drew g A:=h.keep rfl
theorem u8_wrap (n:Nat):IntKind.u8.wrap (n:Int)=((UInt8.ofNat n).toNat:Int):=by rw[UInt8.toNat_ofNat'];simp[IntKind.wrap,IntKind.signed,IntKind.bits]
theorem lowB_nat (n:Int) (h:0<=n):n % 256=((Yw n).toNat:Int):=by unfold Yw;rw[UInt8.toNat_ofNat'];omega
theorem lowB_nat2 (n:Int) (h:0<=n) (h2:n<65536):n / 256=((Yw (n / 256)).toNat:Int):=by unfold Yw;rw[UInt8.toNat_ofNat'];omega
theorem run_build_u8 (w:World) (x:UInt8):(Instr.buildSlice 77 1 #[(0,.int .u8 (x.toNat:Int))]).run Tryz.prog w=.ok (.slice (some ⟨w.heap.size,0,none⟩) 1 1) (w.alloc (.cells (bv [x]).toArray 5)):=by
 obtain⟨i,c,d,b,h⟩:=Ue (P:=Tryz.prog) (e:=5) info_u8;refine run_buildSlice w _ _ 1 _ _ i _ Tryz.underlying77 c d (by rw[b];decide) (by rw[b];decide) ?_;rw[b];simp[Instr.fill,Value.cells,bv,Array.range];apply Array.ext
 .simp
 .intro i j f
  obtain rfl:i=0:=by simpa using f
  simp
section
variable {o : Oper} {y : Nat → Option Bool} {a : Act} {w w' : World} {K : Act → World → Prop} {Q : Exit → Act → World → Prop} {X : Prop}
theorem Zhh (hw:Region.wanted o y=true) (x:Operand) (c:o.op=.buildSlice 77 1 #[(0,x)]) (b:UInt8) (hx:a.eval x=.int .u8 (b.toNat:Int))
  (h:K (a.put o.dst (.slice (some ⟨w.heap.size,0,none⟩) 1 1)) (w.alloc (.cells (bv [b]).toArray 5))):if Region.wanted o y=true then Oper.wp Tryz.prog o a w K Q else X:=by
 refine arm_value hw ?_ h;unfold execOp;simp only[c,List.map_toArray,List.map_cons,List.map_nil,hx,Sem.run_bind,run_build_u8 w b,Result.andThen_ok];rfl
end
theorem run_build2_u8 (w:World) (x y:UInt8):(Instr.buildSlice 77 2 #[(0,.int .u8 (x.toNat:Int)),(1,.int .u8 (y.toNat:Int))]).run Tryz.prog w=.ok (.slice (some ⟨w.heap.size,0,none⟩) 2 2) (w.alloc (.cells (bv [x,y]).toArray 5)):=by
 obtain⟨i,c,d,b,h⟩:=Ue (P:=Tryz.prog) (e:=5) info_u8;refine run_buildSlice w _ _ 2 _ _ i _ Tryz.underlying77 c d (by rw[b];decide) (by rw[b];decide) ?_;rw[b];simp[Instr.fill,Value.cells,bv,Array.range];apply Array.ext
 .simp
 .intro i j f
  have:i=0\/i=1:=by simp at f;omega
  rcases this with rfl | rfl<;>simp
theorem wpList_build2 {ops:Array Oper} {w:World} {Q:Exit->Act->World->Prop} {a:Act} {o:Oper} {b:List Oper} (hg:o.guard=none) (x y:Operand) (c:o.op=.buildSlice 77 2 #[(0,x),(1,y)])
  (p q:UInt8) (hx:a.eval x=.int .u8 (p.toNat:Int)) (hy:a.eval y=.int .u8 (q.toNat:Int))
  (h:wpList Tryz.prog ops Q b (a.put o.dst (.slice (some ⟨w.heap.size,0,none⟩) 2 2)) (w.alloc (.cells (bv [p,q]).toArray 5))):wpList Tryz.prog ops Q (o::b) a w:=by
 refine wpList_plain hg λK d=>?_;unfold Oper.wp execOp;simp only[c,List.map_toArray,List.map_cons,List.map_nil,hx,hy,Sem.run_bind,run_build2_u8 w p q,Result.andThen_ok];exact d _ _ h
structure BS (leaf:Bool) (s:Value) (nb g eb:Nat) (e:En) (W1:World) (A:List UInt8) (W:World):Prop where
 page:Qc W g A
 nd:W.heap[nb]?=some (ndO leaf s)
 en:W.heap[eb]?=some (enO e)
 turn:Zb (·=g) W1 W
 n1:nb≠g
 n2:eb≠g
section
variable {leaf : Bool} {s : Value} {nb g eb : Nat} {e : En} {W1 W W' : World} {A : List UInt8}
theorem BS.below (h:BS leaf s nb g eb e W1 A W) (hb:Below W.heap.size W W'):BS leaf s nb g eb e W1 A W' :=
 ⟨h.page.below hb,(hb.block _ (Za h.nd)).trans h.nd,(hb.block _ (Za h.en)).trans h.en,h.turn.trans (Zb.of_below hb),h.n1,h.n2⟩
theorem BS.drew (h:BS leaf s nb g eb e W1 A W):BS leaf s nb g eb e W1 A W.drew:=⟨h.page.drew,h.nd,h.en,h.turn.drew,h.n1,h.n2⟩
theorem BS.lay (h:BS leaf s nb g eb e W1 A W) (v:List UInt8) (hv:A.length+v.length<=896):BS leaf s nb g eb e W1 (A++v) (W.setCells g A.length (bv v)):=by have t:=Zu W g A.length (bv v);exact⟨h.page.lay v hv,(t.block _ (Za h.nd) h.n1).trans h.nd,(t.block _ (Za h.en) h.n2).trans h.en,h.turn.trans t,h.n1,h.n2⟩
end
theorem Zdn {g:Nat} {W1 W:World} (h:Zb (·=g) W1 W) (hg:g=W1.heap.size):Below W1.heap.size W1 W:=h.below (Va _) (by rintro k rfl;omega)
-- THE WALK
theorem bytes_leaf (w:World) (a:Option Addr) (n cap:Nat) {l:List En} (h:IsE w (.slice a n cap) l) (hnl:n=l.length) (hf:∀e∈l,e.few) (hs:(Nd.mk true l).sum<=893) :
  Calls Tryz.prog 132 #[ndV true (.slice a n cap)] w λe w'=>∃g,e=.returned (.slice (some ⟨g,0,none⟩) 896 896)/\Zh w' g 5 (Nd.mk true l).bytes/\w.heap.size<=g/\Below w.heap.size w w':=by
 have ap:n<=446:=by have:=Zaz true l 0;unfold Nd.sum at hs;dsimp only at hs;omega
 obtain⟨W1,m⟩:∃x,x=w.alloc (.cells #[.bool true,.slice a n cap] 174):=⟨_,rfl⟩;have N:Below w.heap.size w W1:=by rw[m];exact Zl w _
 have z:W1.heap[w.heap.size]?=some (ndO true (.slice a n cap)):=by rw[m];exact Vg w _
 have a0:W1.heap.size=w.heap.size+1:=by rw[m];simp
 have aq:=run_make3;obtain⟨W2,B⟩:∃x,x=W1.alloc (.cells (bv (pad [0,0,0])).toArray 5):=⟨_,rfl⟩;have a1:Below W1.heap.size W1 W2:=by rw[B];exact Zl W1 _
 have a2:=(a1.block _ (Za z)).trans z;obtain⟨O,I⟩:=Zd a2;have P:Qc W2 W1.heap.size [0,0,0]:=⟨by rw[B];exact Zh.alloc W1 _ _,by simp⟩;have HE:=Hd (h.below N);have HF:=Hd hf;have HSM:=Hd hs;have HW1:=Hd m;have HW2:=Hd B;have HNL:=Hd hnl;have HS1:=Hd a0;have HP0:=Hd P;have HB1:=Hd N;have HB2:=Hd a1;have HN2:=Hd a2;have HN1:=Hd z;clear hnl m B a0 N z h hf hs;go_enter Tryz.func132,Tryz.ntmps132;go_upto_region 2 with fail;rw[<-HW1.out,<-HS1.out];rw[<-HW2.out];have f0:=Zf P.row 0;have c0:=P.row.cell 0 (by rw[Qw (by simp)];omega);have t3:=Zc W2 W1.heap.size 0 (.int .u8 2);have C:Qc (W2.setCell ⟨W1.heap.size,0,none⟩ (.int .u8 2)) W1.heap.size [2,0,0]:=HP0.out.put 0 2 (by simp);have hn3:=(t3.block _ (Za HN2.out) (by have:=HS1.out;omega)).trans HN2.out;obtain⟨m0,m1⟩:=Zd hn3;have f3:=Zf C.row 0;have c3:=C.row.cell 0 (by rw[Qw (by simp)];omega);have t4:=t3.trans (Zc (W2.setCell ⟨W1.heap.size,0,none⟩ (.int .u8 2)) W1.heap.size 0 (.int .u8 1));have a3:Qc ((W2.setCell ⟨W1.heap.size,0,none⟩ (.int .u8 2)).setCell ⟨W1.heap.size,0,none⟩ (.int .u8 1)) W1.heap.size [1,0,0]:=C.put 0 1 (by simp)
 have a4:((W2.setCell ⟨W1.heap.size,0,none⟩ (.int .u8 2)).setCell ⟨W1.heap.size,0,none⟩ (.int .u8 1)).drew.heap[w.heap.size]?=some (ndO true (.slice a n cap)):=(t4.block _ (Za HN2.out) (by have:=HS1.out;simp;omega)).trans HN2.out;have Z:Hid (Zb (·=W1.heap.size) W1 ((W2.setCell ⟨W1.heap.size,0,none⟩ (.int .u8 2)).setCell ⟨W1.heap.size,0,none⟩ (.int .u8 1)).drew):=Hd ((Zb.of_below HB2.out).trans t4).drew;have j:Hid (Qc ((W2.setCell ⟨W1.heap.size,0,none⟩ (.int .u8 2)).setCell ⟨W1.heap.size,0,none⟩ (.int .u8 1)).drew W1.heap.size [1,0,0]):=Hd a3.drew;clear C a3 t4 t3 hn3;go_upto_region 5 with fail;obtain⟨O,I⟩:=Zd a4;have d1:=j.out.row.cell 1 (by rw[Qw (by simp)];omega);have d2:=j.out.row.cell 2 (by rw[Qw (by simp)];omega);have g1:=Zf j.out.row 1;have g2:=Zf j.out.row 2;clear a4 c0 f0 c3 f3 m0 m1;generalize ((W2.setCell ⟨W1.heap.size,0,none⟩ (.int .u8 2)).setCell ⟨W1.heap.size,0,none⟩ (.int .u8 1))=W4 at *;have ah:W4.cell? ⟨W1.heap.size,1,none⟩=_:=d1;have ai:W4.cell? ⟨W1.heap.size,2,none⟩=_:=d2;have aj:W4.frozen? ⟨W1.heap.size,1,none⟩=false:=g1;have ak:W4.frozen? ⟨W1.heap.size,2,none⟩=false:=g2;have al:W4.cell? ⟨w.heap.size,1,none⟩=_:=I;have a5:¬W1.heap.size=w.heap.size:=by have:=HS1.out;omega
 have a6:¬w.heap.size=W1.heap.size:=by have:=HS1.out;omega
 go_region;have a7:((n:Int) % 256)=((UInt8.ofNat n).toNat:Int):=by rw[UInt8.toNat_ofNat'];omega
 have a8:((n:Int) / 256)=((UInt8.ofNat (n / 256)).toNat:Int):=by rw[UInt8.toNat_ofNat'];omega
 rw[a7,a8];obtain⟨X1,D⟩:∃x,x=UInt8.ofNat n:=⟨_,rfl⟩;obtain⟨X2,F⟩:∃x,x=UInt8.ofNat (n / 256):=⟨_,rfl⟩;rw[<-D,<-F];have a9:Qc ((W4.setCell ⟨W1.heap.size,1,none⟩ (.int .u8 (X1.toNat:Int))).setCell ⟨W1.heap.size,2,none⟩ (.int .u8 (X2.toNat:Int))).drew W1.heap.size (Zag true l 0):=by have:=(((j.out.keep rfl:Qc W4 W1.heap.size [1,0,0]).put 1 X1 (by simp)).put 2 X2 (by simp)).drew;rw[D,F,HNL.out] at this;rw[D,F,HNL.out];exact this
 have T5:Zb (·=W1.heap.size) W1 ((W4.setCell ⟨W1.heap.size,1,none⟩ (.int .u8 (X1.toNat:Int))).setCell ⟨W1.heap.size,2,none⟩ (.int .u8 (X2.toNat:Int))).drew:=by have t4:Zb (·=W1.heap.size) W1 W4:=⟨Z.out.os,Z.out.tape,Z.out.output,Z.out.size,Z.out.block⟩;exact((t4.trans (Zc _ _ _ _)).trans (Zc _ _ _ _)).drew
 have aa:=(T5.block _ (Za HN1.out) (by have:=HS1.out;omega)).trans HN1.out;have HP5:=Hd a9;have HT5:=Hd T5;obtain⟨O,I⟩:=Zd aa;clear d1 d2 ah ai g1 g2 aj ak al a5 a6 a7 a8 Z j a9 T5 aa D F;generalize ((W4.setCell ⟨W1.heap.size,1,none⟩ (.int .u8 (X1.toNat:Int))).setCell ⟨W1.heap.size,2,none⟩ (.int .u8 (X2.toNat:Int))).drew=W5 at *;go_wp2_with fail;go_loopw [3,29] (λs y wr=>∃k:Nat,k<=n/\y=.int .i64 (k:Int)/\s=.slice (some ⟨W1.heap.size,0,none⟩) (Zag true l k).length 896/\Qc wr W1.heap.size (Zag true l k)/\Zb (·=W1.heap.size) W1 wr) (λ_ y _=>n - (intOf y).toNat)
 case atStart=>exact⟨0,Vl _,rfl,by rw[partB_len];simp[Zg],HP5.out,HT5.out⟩
 case round =>
  obtain⟨k,hk,rfl,rfl,J,ht⟩:=hrel;by_cases am:k<n
  .have hd:decide ((k:Int)<(n:Int))=true:=Vd (by omega)
   have R:k<l.length:=by have:=HNL.out;omega
   have T:=Zdn ht rfl;obtain⟨bb,oo,rfl,e0,e1,e2⟩:=(HE.out.below T).at k R;have hnr:=(T.block _ (Za HN1.out)).trans HN1.out;have hfe:=HF.out _ (Vo R);have hbt:=Zhy true l k R;have p:Zag true l (k+1)=Zag true l k++l[k].bytes true k:=by rw[Zag,hbt,Zag,List.append_assoc]
   have b:(Zag true l k).length+(l[k].bytes true k).length<=896:=by
    rw[<-List.length_append,<-p,partB_len];have h1:=Zfd true l (k+1)
    have h2:=HSM.out;unfold Nd.sum at h2;dsimp only at h2;omega
   obtain⟨ar,au⟩:(0:Int)<=(k:Int)/\(k:Int)<(n:Int):=by omega
   obtain⟨E,hE⟩:∃E,E=l[k]:=⟨_,rfl⟩;rw[<-hE] at e0 e1 e2 hfe p b;have HPN:=Hd p
   obtain⟨A,hA⟩:∃A,A=Zag true l k:=⟨_,rfl⟩;rw[<-hA] at J p b ⊢;have HA:=Hd hA
   obtain⟨W7,q⟩:∃x,x=wr.alloc (.cells #[.string ⟨E.key.toArray⟩,.string ⟨E.val.toArray⟩,.int .i64 E.kid] 179):=⟨_,rfl⟩;have G:Below wr.heap.size wr W7:=by rw[q];exact Zl wr _
   have ab:W7.heap[wr.heap.size]?=some (enO E):=by rw[q];exact Vg wr _
   have H:BS true (.slice (some ⟨bb,oo,none⟩) n cap) w.heap.size W1.heap.size wr.heap.size E W1 A W7:=⟨J.below G,(G.block _ (Za hnr)).trans hnr,ab,ht.trans (Zb.of_below G),by have:=HS1.out;omega,by have:=J.row.lt;omega⟩;have HS:=Hd H;have HW7:=Hd q;have av:W7.heap.size=wr.heap.size+1:=by rw[q];simp
   have aw:W1.heap.size<wr.heap.size:=J.row.lt;obtain⟨O,I⟩:=Zd H.nd;obtain⟨c0,c1,c2⟩:=Yy H.en;clear J ht T hnr hbt p hE hA q G ab H;rw[show W7=_ from HW7.out] at O I c0 c1 c2
   have U:Hid (Value.int .u8 (IntKind.u8.wrap (E.key.length:Int))=Value.int .u8 ((UInt8.ofNat E.key.length).toNat:Int)):=Hd (by rw[u8_wrap]);have V:Hid (Value.int .u8 (IntKind.u8.wrap (E.val.length:Int))=Value.int .u8 ((UInt8.ofNat E.val.length).toNat:Int)):=Hd (by rw[u8_wrap]);have c:Hid (A.length+1+E.key.length<=896):=Hd (by rw[En.bytes_len] at b;unfold En.size at b;simp at b;omega);have d:Hid ((A++[UInt8.ofNat E.key.length]++E.key).length+1+E.val.length<=896):=Hd (by rw[En.bytes_len] at b;unfold En.size at b;simp at b ⊢;omega);have hkz:=hfe.key;have hvz:=hfe.val;clear hfe b;go_upto_region 10 with fail;rw[<-HW7.out];clear O I c0 c1 c2 HW7;refine rgA (S:=(λW=>W.heap[wr.heap.size]?=some (enO E))) HS.out.drew.en (λhH=>?_);refine tdI [0,1,2,3,4,7,8] ?_
   iterate 7
    refine tdS (v:=?_) ?_ hH ?_;rotate_left
    .intro w i;obtain⟨r0,r1,r2⟩:=Yy i;go_simp;try with_reducible rfl
    try simp only[Act.put,zA,zB,zC]
   refine tdE ?_;refine rdA 5 rfl (λK f=>?_);refine Zhh (by rfl) (.tmp 44) rfl (UInt8.ofNat E.key.length) U.out ?_;have hs5:=HS.out.drew.below (Zl _ (.cells (bv [UInt8.ofNat E.key.length]).toArray 5))
   have r:=Zh.alloc W7.drew 5 [UInt8.ofNat E.key.length];generalize W7.drew.alloc (.cells (bv [UInt8.ofNat E.key.length]).toArray 5)=W8 at *;generalize W7.drew.heap.size=u5 at *;refine f.out _ _ hs5.en (λhH=>?_);clear f K;try simp only[Act.put,zA,zB,zC]
   refine rdA 6 rfl (λK f=>?_);have hr6:=hs5.page.app_row u5 [UInt8.ofNat E.key.length] r (by have:=c.out;simp only[List.length_singleton];omega) 77
   refine Zcp (by rfl) (.tmp 40) (.tmp 45) 77 77 rfl _ _ _ rfl rfl hr6 ?_;have hs6:=hs5.lay [UInt8.ofNat E.key.length] (by have:=c.out;simp only[List.length_singleton];omega)
   clear hr6 r hs5;generalize W8.setCells _ _ _=W9 at *;refine f.out _ _ hs6.en (λhH=>?_);clear f K;try simp only[Act.put,zA,zB,zC]
   refine rdA 9 rfl (λK f=>?_);have hr9:=hs6.page.app_str E.key (by have:=c.out;rw[List.length_append,List.length_singleton];omega) 77
   refine Zcp (by rfl) (.tmp 46) (.tmp 48) 77 9 rfl _ _ _ rfl rfl hr9 ?_;have hs9:=hs6.lay E.key (by have:=c.out;rw[List.length_append,List.length_singleton];omega)
   clear hr9 hs6;generalize t:A++[UInt8.ofNat E.key.length]++E.key=ad at *;have HAW10:=Hd t
   clear t;generalize W9.setCells _ _ _=Y at *;clear HS;have HS:=Hd hs9
   clear hs9;refine f.out _ _ HS.out.en (λhH=>?_);clear f K;try simp only[Act.put,zA,zB,zC]
   refine tkB 10 rfl (v:=?_) ?_ hH ?_;rotate_left
   .intro w i;obtain⟨r0,r1,r2⟩:=Yy i;go_simp;try with_reducible rfl
   try simp only[Act.put,zA,zB,zC]
   refine dnA ?_;clear hH;obtain⟨O,I⟩:=Zd HS.out.nd;go_upto_region 12 with fail;clear O I;refine rgA (S:=(λW=>W.heap[wr.heap.size]?=some (enO E))) HS.out.drew.en (λhH=>?_);refine tdI [0,1,2,3,4,7,8] ?_
   iterate 7
    refine tdS (v:=?_) ?_ hH ?_;rotate_left
    .intro w i;obtain⟨r0,r1,r2⟩:=Yy i;go_simp;try with_reducible rfl
    try simp only[Act.put,zA,zB,zC]
   refine tdE ?_;refine rdA 5 rfl (λK f=>?_);refine Zhh (by rfl) (.tmp 56) rfl (UInt8.ofNat E.val.length) V.out ?_;have hs5:=HS.out.drew.below (Zl _ (.cells (bv [UInt8.ofNat E.val.length]).toArray 5))
   have r:=Zh.alloc Y.drew 5 [UInt8.ofNat E.val.length];generalize Y.drew.alloc (.cells (bv [UInt8.ofNat E.val.length]).toArray 5)=W8 at *;generalize Y.drew.heap.size=u5 at *;refine f.out _ _ hs5.en (λhH=>?_);clear f K;try simp only[Act.put,zA,zB,zC]
   refine rdA 6 rfl (λK f=>?_);have hr6:=hs5.page.app_row u5 [UInt8.ofNat E.val.length] r (by have:=d.out;simp only[List.length_singleton];omega) 77
   refine Zcp (by rfl) (.tmp 52) (.tmp 57) 77 77 rfl _ _ _ rfl rfl hr6 ?_;have hs6:=hs5.lay [UInt8.ofNat E.val.length] (by have:=d.out;simp only[List.length_singleton];omega)
   clear hr6 r hs5;generalize W8.setCells _ _ _=W9 at *;refine f.out _ _ hs6.en (λhH=>?_);clear f K;try simp only[Act.put,zA,zB,zC]
   refine rdA 9 rfl (λK f=>?_);have hr9:=hs6.page.app_str E.val (by have:=d.out;rw[List.length_append,List.length_singleton];omega) 77
   refine Zcp (by rfl) (.tmp 58) (.tmp 60) 77 9 rfl _ _ _ rfl rfl hr9 ?_;have hs9:=hs6.lay E.val (by have:=d.out;rw[List.length_append,List.length_singleton];omega)
   clear hr9 hs6;generalize u:ad++[UInt8.ofNat E.val.length]++E.val=ae at *;have HAW14:=Hd u
   clear u;generalize W9.setCells _ _ _=ax at *;clear HS;have HS:=Hd hs9
   clear hs9;refine f.out _ _ HS.out.en (λhH=>?_);clear f K;try simp only[Act.put,zA,zB,zC]
   refine tkB 10 rfl (v:=?_) ?_ hH ?_;rotate_left
   .intro w i;obtain⟨r0,r1,r2⟩:=Yy i;go_simp;try with_reducible rfl
   try simp only[Act.put,zA,zB,zC]
   refine dnA ?_;clear hH;go_wp2_with fail;go_roundw
   case rel =>
    have af:Zag true l (k+1)=ae:=by rw[HPN.out,<-HA.out,<-HAW14.out,<-HAW10.out];simp[En.bytes]
    exact⟨k+1,am,by go_num,by rw[af],by rw[af];exact HS.out.page,HS.out.turn⟩
   case measure=>simp[intOf];omega
  .obtain rfl:k=n:=by omega
   have hd:decide ((k:Int)<(k:Int))=false:=by simp
   have M:Zag true l k=(Nd.mk true l).head++Yb true 0 l:=by rw[Zag,HNL.out,List.take_length]
   have ag:Hid (Zh wr W1.heap.size 5 (Nd.mk true l).bytes):=Hd (by
    rw[Nd.bytes_pad _ HSM.out];have:=J.row
    rw[M] at this
    exact this)
   have an:Hid (Below w.heap.size w wr):=Hd (HB1.out.trans ((Zdn ht rfl).mono HB1.out.size));have hle:=J.le;have ao:w.heap.size<=W1.heap.size:=by have:=HS1.out;omega
   generalize (Zag true l k).length=L at *;clear J ht M;go_wp2_with fail;go_ret;exact⟨_,rfl,ag.out,ao,an.out⟩
theorem bytes_inner (w:World) (a:Option Addr) (n cap:Nat) {l:List En} (h:IsE w (.slice a n cap) l) (hnl:n=l.length) (hf:∀e∈l,e.few) (hs:(Nd.mk false l).sum<=893) :
  Calls Tryz.prog 132 #[ndV false (.slice a n cap)] w λe w'=>∃g,e=.returned (.slice (some ⟨g,0,none⟩) 896 896)/\Zh w' g 5 (Nd.mk false l).bytes/\w.heap.size<=g/\Below w.heap.size w w':=by
 have aw:n<=446:=by have:=Zaz false l 0;unfold Nd.sum at hs;dsimp only at hs;omega
 obtain⟨W1,m⟩:∃x,x=w.alloc (.cells #[.bool false,.slice a n cap] 174):=⟨_,rfl⟩;have R:Below w.heap.size w W1:=by rw[m];exact Zl w _
 have B:W1.heap[w.heap.size]?=some (ndO false (.slice a n cap)):=by rw[m];exact Vg w _
 have a6:W1.heap.size=w.heap.size+1:=by rw[m];simp
 have ax:=run_make3;obtain⟨W2,C⟩:∃x,x=W1.alloc (.cells (bv (pad [0,0,0])).toArray 5):=⟨_,rfl⟩;have a7:Below W1.heap.size W1 W2:=by rw[C];exact Zl W1 _
 have a8:=(a7.block _ (Za B)).trans B;obtain⟨T,M⟩:=Zd a8;have U:Qc W2 W1.heap.size [0,0,0]:=⟨by rw[C];exact Zh.alloc W1 _ _,by simp⟩;have HE:=Hd (h.below R);have HF:=Hd hf;have HSM:=Hd hs;have HW1:=Hd m;have HW2:=Hd C;have HNL:=Hd hnl;have HS1:=Hd a6;have HP0:=Hd U;have HB1:=Hd R;have HB2:=Hd a7;have HN2:=Hd a8;have HN1:=Hd B;clear hnl m C a6 R B h hf hs;go_enter Tryz.func132,Tryz.ntmps132;go_upto_region 2 with fail;rw[<-HW1.out,<-HS1.out];rw[<-HW2.out];have f0:=Zf U.row 0;have c0:=U.row.cell 0 (by rw[Qw (by simp)];omega);have t3:=Zc W2 W1.heap.size 0 (.int .u8 2);have D:Qc (W2.setCell ⟨W1.heap.size,0,none⟩ (.int .u8 2)) W1.heap.size [2,0,0]:=HP0.out.put 0 2 (by simp);have hn3:=(t3.block _ (Za HN2.out) (by have:=HS1.out;omega)).trans HN2.out;obtain⟨m0,m1⟩:=Zd hn3;have f3:=Zf D.row 0;have c3:=D.row.cell 0 (by rw[Qw (by simp)];omega);have t4:=t3;have hp4:=D;have a9:(W2.setCell ⟨W1.heap.size,0,none⟩ (.int .u8 2)).drew.heap[w.heap.size]?=some (ndO false (.slice a n cap)):=(t4.block _ (Za HN2.out) (by have:=HS1.out;simp;omega)).trans HN2.out;have T4:Hid (Zb (·=W1.heap.size) W1 (W2.setCell ⟨W1.heap.size,0,none⟩ (.int .u8 2)).drew):=Hd ((Zb.of_below HB2.out).trans t4).drew
 have j:Hid (Qc (W2.setCell ⟨W1.heap.size,0,none⟩ (.int .u8 2)).drew W1.heap.size [2,0,0]):=Hd hp4.drew;clear D hp4 t4 t3 hn3;go_upto_region 5 with fail;obtain⟨T,M⟩:=Zd a9;have d1:=j.out.row.cell 1 (by rw[Qw (by simp)];omega);have d2:=j.out.row.cell 2 (by rw[Qw (by simp)];omega);have g1:=Zf j.out.row 1;have g2:=Zf j.out.row 2;clear a9 c0 f0 c3 f3 m0 m1;generalize (W2.setCell ⟨W1.heap.size,0,none⟩ (.int .u8 2))=W4 at *;have am:W4.cell? ⟨W1.heap.size,1,none⟩=_:=d1;have an:W4.cell? ⟨W1.heap.size,2,none⟩=_:=d2;have ao:W4.frozen? ⟨W1.heap.size,1,none⟩=false:=g1;have ap:W4.frozen? ⟨W1.heap.size,2,none⟩=false:=g2;have aq:W4.cell? ⟨w.heap.size,1,none⟩=_:=M;have aa:¬W1.heap.size=w.heap.size:=by have:=HS1.out;omega
 have ab:¬w.heap.size=W1.heap.size:=by have:=HS1.out;omega
 go_region;have ad:((n:Int) % 256)=((UInt8.ofNat n).toNat:Int):=by rw[UInt8.toNat_ofNat'];omega
 have ae:((n:Int) / 256)=((UInt8.ofNat (n / 256)).toNat:Int):=by rw[UInt8.toNat_ofNat'];omega
 rw[ad,ae];obtain⟨X1,F⟩:∃x,x=UInt8.ofNat n:=⟨_,rfl⟩;obtain⟨X2,G⟩:∃x,x=UInt8.ofNat (n / 256):=⟨_,rfl⟩;rw[<-F,<-G];have af:Qc ((W4.setCell ⟨W1.heap.size,1,none⟩ (.int .u8 (X1.toNat:Int))).setCell ⟨W1.heap.size,2,none⟩ (.int .u8 (X2.toNat:Int))).drew W1.heap.size (Zag false l 0):=by have:=(((j.out.keep rfl:Qc W4 W1.heap.size [2,0,0]).put 1 X1 (by simp)).put 2 X2 (by simp)).drew;rw[F,G,HNL.out] at this;rw[F,G,HNL.out];exact this
 have T5:Zb (·=W1.heap.size) W1 ((W4.setCell ⟨W1.heap.size,1,none⟩ (.int .u8 (X1.toNat:Int))).setCell ⟨W1.heap.size,2,none⟩ (.int .u8 (X2.toNat:Int))).drew:=by have t4:Zb (·=W1.heap.size) W1 W4:=⟨T4.out.os,T4.out.tape,T4.out.output,T4.out.size,T4.out.block⟩;exact((t4.trans (Zc _ _ _ _)).trans (Zc _ _ _ _)).drew
 have ag:=(T5.block _ (Za HN1.out) (by have:=HS1.out;omega)).trans HN1.out;have HP5:=Hd af;have HT5:=Hd T5;obtain⟨T,M⟩:=Zd ag;clear d1 d2 am an g1 g2 ao ap aq aa ab ad ae T4 j af T5 ag F G;generalize ((W4.setCell ⟨W1.heap.size,1,none⟩ (.int .u8 (X1.toNat:Int))).setCell ⟨W1.heap.size,2,none⟩ (.int .u8 (X2.toNat:Int))).drew=W5 at *;go_wp2_with fail;go_loopw [3,29] (λs y wr=>∃k:Nat,k<=n/\y=.int .i64 (k:Int)/\s=.slice (some ⟨W1.heap.size,0,none⟩) (Zag false l k).length 896/\Qc wr W1.heap.size (Zag false l k)/\Zb (·=W1.heap.size) W1 wr) (λ_ y _=>n - (intOf y).toNat)
 case atStart=>exact⟨0,Vl _,rfl,by rw[partB_len];simp[Zg],HP5.out,HT5.out⟩
 case round =>
  obtain⟨k,hk,rfl,rfl,N,ht⟩:=hrel;by_cases ah:k<n
  .have hd:decide ((k:Int)<(n:Int))=true:=Vd (by omega)
   have V:k<l.length:=by have:=HNL.out;omega
   have Y:=Zdn ht rfl;obtain⟨bb,oo,rfl,e0,e1,e2⟩:=(HE.out.below Y).at k V;have hnr:=(Y.block _ (Za HN1.out)).trans HN1.out;have hfe:=HF.out _ (Vo V);have hbt:=Zhy false l k V;have p:Zag false l (k+1)=Zag false l k++l[k].bytes false k:=by rw[Zag,hbt,Zag,List.append_assoc]
   have b:(Zag false l k).length+(l[k].bytes false k).length<=896:=by
    rw[<-List.length_append,<-p,partB_len];have h1:=Zfd false l (k+1)
    have h2:=HSM.out;unfold Nd.sum at h2;dsimp only at h2;omega
   obtain⟨ay,az⟩:(0:Int)<=(k:Int)/\(k:Int)<(n:Int):=by omega
   obtain⟨E,hE⟩:∃E,E=l[k]:=⟨_,rfl⟩;rw[<-hE] at e0 e1 e2 hfe p b;have HPN:=Hd p
   obtain⟨A,hA⟩:∃A,A=Zag false l k:=⟨_,rfl⟩;rw[<-hA] at N p b ⊢;have HA:=Hd hA
   obtain⟨W7,q⟩:∃x,x=wr.alloc (.cells #[.string ⟨E.key.toArray⟩,.string ⟨E.val.toArray⟩,.int .i64 E.kid] 179):=⟨_,rfl⟩;have H:Below wr.heap.size wr W7:=by rw[q];exact Zl wr _
   have ai:W7.heap[wr.heap.size]?=some (enO E):=by rw[q];exact Vg wr _
   have I:BS false (.slice (some ⟨bb,oo,none⟩) n cap) w.heap.size W1.heap.size wr.heap.size E W1 A W7:=⟨N.below H,(H.block _ (Za hnr)).trans hnr,ai,ht.trans (Zb.of_below H),by have:=HS1.out;omega,by have:=N.row.lt;omega⟩;have HS:=Hd I;have HW7:=Hd q;have aA:W7.heap.size=wr.heap.size+1:=by rw[q];simp
   have aB:W1.heap.size<wr.heap.size:=N.row.lt;obtain⟨T,M⟩:=Zd I.nd;obtain⟨c0,c1,c2⟩:=Yy I.en;clear N ht Y hnr hbt p hE hA q H ai I;rw[show W7=_ from HW7.out] at T M c0 c1 c2
   have f0:(0:Int)<=E.kid:=hfe.k0;have f1:E.kid<65536:=hfe.k1;by_cases J:k=0
   .subst J
    simp only[Nat.zero_mul,Nat.add_zero] at e0 e1 e2;have c:Hid (A.length+2<=896):=Hd (by rw[En.bytes_len] at b;unfold En.size at b;simp at b;omega)
    clear hfe b;go_upto_region 13 with fail;rw[<-HW7.out];clear T M c0 c1 c2 HW7;have hu:=Zh.alloc W7 5 [Yw E.kid,Yw (E.kid / 256)]
    have f:=HS.out.below (Zl W7 (.cells (bv [Yw E.kid,Yw (E.kid / 256)]).toArray 5));have hr:=f.page.app_row _ [Yw E.kid,Yw (E.kid / 256)] hu (by have:=c.out;simp only[List.length_cons,List.length_nil];omega) 77;have hsv:=f.lay [Yw E.kid,Yw (E.kid / 256)] (by have:=c.out;simp only[List.length_cons,List.length_nil];omega);have HSV:=Hd hsv;obtain⟨c0,c1,c2⟩:=Yy HS.out.en;have r:E.kid % 256=((Yw E.kid).toNat:Int):=lowB_nat _ (by omega);have t:E.kid / 256=((Yw (E.kid / 256)).toNat:Int):=lowB_nat2 _ (by omega) (by omega);obtain⟨Z,i⟩:∃Z,Z=A++[Yw E.kid,Yw (E.kid / 256)]:=⟨_,rfl⟩;rw[<-i] at hr HSV;have HAE:=Hd i;have a0:Hid (Value.int .u8 (E.kid % 256)=.int .u8 ((Yw E.kid).toNat:Int)):=Hd (by rw[<-r]);have a1:Hid (Value.int .u8 (E.kid / 256)=.int .u8 ((Yw (E.kid / 256)).toNat:Int)):=Hd (by rw[<-t]);clear hu f hsv i r t;have HR:Hid _:=Hd hr;clear hr;go_wp2_with first | (refine wpList_build2 rfl (.tmp 65) (.tmp 69) rfl (Yw E.kid) (Yw (E.kid / 256)) a0.out a1.out ?_;generalize W7.alloc (.cells (bv [Yw E.kid,Yw (E.kid / 256)]).toArray 5)=a2 at *;generalize a2.setCells _ _ _=ar at *;have hr:=HR.out) | (at_builtin;refine wpList_append_run rfl (.tmp 62) (.tmp 70) 77 77 rfl _ _ _ rfl rfl hr ?_;clear hr)
    go_roundw
    case rel =>
     have u:Zag false l (0+1)=Z:=by rw[HPN.out,<-HA.out,HAE.out];simp[En.bytes]
     exact⟨0+1,ah,by go_num,by rw[u],by rw[u];exact HSV.out.page,HSV.out.turn⟩
    case measure=>simp[intOf];omega
   .have aC:decide ((k:Int) > 0)=true:=Vd (by omega)
    have d:Hid (A.length+1+E.key.length<=896):=Hd (by rw[En.bytes_len] at b;unfold En.size at b;simp[J] at b;omega);have c:Hid ((A++[UInt8.ofNat E.key.length]++E.key).length+2<=896):=Hd (by rw[En.bytes_len] at b;unfold En.size at b;simp[J] at b ⊢;omega);have a3:Hid (Value.int .u8 (IntKind.u8.wrap (E.key.length:Int))=Value.int .u8 ((UInt8.ofNat E.key.length).toNat:Int)):=Hd (by rw[u8_wrap]);have hkz:=hfe.key;clear hfe b;go_upto_region 10 with fail;rw[<-HW7.out];clear T M c0 c1 c2 HW7;refine rgA (S:=(λW=>W.heap[wr.heap.size]?=some (enO E))) HS.out.drew.en (λhH=>?_);refine tdI [0,1,2,3,4,7,8] ?_
    iterate 7
     refine tdS (v:=?_) ?_ hH ?_;rotate_left
     .intro w a4;obtain⟨r0,r1,r2⟩:=Yy a4;go_simp;try with_reducible rfl
     try simp only[Act.put,zA,zB,zC]
    refine tdE ?_;refine rdA 5 rfl (λK O=>?_);refine Zhh (by rfl) (.tmp 44) rfl (UInt8.ofNat E.key.length) a3.out ?_;have hs5:=HS.out.drew.below (Zl _ (.cells (bv [UInt8.ofNat E.key.length]).toArray 5))
    have aj:=Zh.alloc W7.drew 5 [UInt8.ofNat E.key.length];generalize W7.drew.alloc (.cells (bv [UInt8.ofNat E.key.length]).toArray 5)=W8 at *;generalize W7.drew.heap.size=u5 at *;refine O.out _ _ hs5.en (λhH=>?_);clear O K;try simp only[Act.put,zA,zB,zC]
    refine rdA 6 rfl (λK O=>?_);have hr6:=hs5.page.app_row u5 [UInt8.ofNat E.key.length] aj (by have:=d.out;simp only[List.length_singleton];omega) 77
    refine Zcp (by rfl) (.tmp 40) (.tmp 45) 77 77 rfl _ _ _ rfl rfl hr6 ?_;have hs6:=hs5.lay [UInt8.ofNat E.key.length] (by have:=d.out;simp only[List.length_singleton];omega)
    clear hr6 aj hs5;generalize W8.setCells _ _ _=W9 at *;refine O.out _ _ hs6.en (λhH=>?_);clear O K;try simp only[Act.put,zA,zB,zC]
    refine rdA 9 rfl (λK O=>?_);have hr9:=hs6.page.app_str E.key (by have:=d.out;rw[List.length_append,List.length_singleton];omega) 77
    refine Zcp (by rfl) (.tmp 46) (.tmp 48) 77 9 rfl _ _ _ rfl rfl hr9 ?_;have hs9:=hs6.lay E.key (by have:=d.out;rw[List.length_append,List.length_singleton];omega)
    clear hr9 hs6;generalize z:A++[UInt8.ofNat E.key.length]++E.key=ak at *;have HAW10:=Hd z
    clear z;generalize W9.setCells _ _ _=a5 at *;clear HS;have HS:=Hd hs9
    clear hs9;refine O.out _ _ HS.out.en (λhH=>?_);clear O K;try simp only[Act.put,zA,zB,zC]
    refine tkB 10 rfl (v:=?_) ?_ hH ?_;rotate_left
    .intro w a4;obtain⟨r0,r1,r2⟩:=Yy a4;go_simp;try with_reducible rfl
    try simp only[Act.put,zA,zB,zC]
    refine dnA ?_;clear hH;obtain⟨T,M⟩:=Zd HS.out.nd;have hu:=Zh.alloc a5 5 [Yw E.kid,Yw (E.kid / 256)]
    have f:=HS.out.below (Zl a5 (.cells (bv [Yw E.kid,Yw (E.kid / 256)]).toArray 5));have hr:=f.page.app_row _ [Yw E.kid,Yw (E.kid / 256)] hu (by have:=c.out;simp only[List.length_cons,List.length_nil];omega) 77;have hsv:=f.lay [Yw E.kid,Yw (E.kid / 256)] (by have:=c.out;simp only[List.length_cons,List.length_nil];omega);have HSV:=Hd hsv;obtain⟨c0,c1,c2⟩:=Yy HS.out.en;have r:E.kid % 256=((Yw E.kid).toNat:Int):=lowB_nat _ (by omega);have t:E.kid / 256=((Yw (E.kid / 256)).toNat:Int):=lowB_nat2 _ (by omega) (by omega);obtain⟨Z,i⟩:∃Z,Z=ak++[Yw E.kid,Yw (E.kid / 256)]:=⟨_,rfl⟩;rw[<-i] at hr HSV;have HAE:=Hd i;have a0:Hid (Value.int .u8 (E.kid % 256)=.int .u8 ((Yw E.kid).toNat:Int)):=Hd (by rw[<-r]);have a1:Hid (Value.int .u8 (E.kid / 256)=.int .u8 ((Yw (E.kid / 256)).toNat:Int)):=Hd (by rw[<-t]);clear hu f hsv i r t;have HR:Hid _:=Hd hr;clear hr;go_wp2_with first | (refine wpList_build2 rfl (.tmp 65) (.tmp 69) rfl (Yw E.kid) (Yw (E.kid / 256)) a0.out a1.out ?_;generalize a5.alloc (.cells (bv [Yw E.kid,Yw (E.kid / 256)]).toArray 5)=a2 at *;generalize a2.setCells _ _ _=ar at *;have hr:=HR.out) | (at_builtin;refine wpList_append_run rfl (.tmp 62) (.tmp 70) 77 77 rfl _ _ _ rfl rfl hr ?_;clear hr)
    go_roundw
    case rel =>
     have u:Zag false l (k+1)=Z:=by rw[HPN.out,<-HA.out,HAE.out];rw[<-HAW10.out];simp[En.bytes,Nat.pos_of_ne_zero J]
     exact⟨k+1,ah,by go_num,by rw[u],by rw[u];exact HSV.out.page,HSV.out.turn⟩
    case measure=>simp[intOf];omega
  .obtain rfl:k=n:=by omega
   have hd:decide ((k:Int)<(k:Int))=false:=by simp
   have P:Zag false l k=(Nd.mk false l).head++Yb false 0 l:=by rw[Zag,HNL.out,List.take_length]
   have al:Hid (Zh wr W1.heap.size 5 (Nd.mk false l).bytes):=Hd (by
    rw[Nd.bytes_pad _ HSM.out]
    have:=N.row
    rw[P] at this
    exact this)
   have au:Hid (Below w.heap.size w wr):=Hd (HB1.out.trans ((Zdn ht rfl).mono HB1.out.size))
   have aD:=N.le
   have av:w.heap.size<=W1.heap.size:=by have:=HS1.out;omega
   generalize (Zag false l k).length=L at *
   clear N ht P
   go_wp2_with fail
   go_ret
   exact⟨_,rfl,al.out,av,au.out⟩
end
section
variable {leaf:Bool}{k f:Nat}
def Zcq (leaf:Bool) (l:List En):Nat->Nat->Nat
 | 0,k=>k
 | f+1,k=>if 2*Zg leaf 0 (l.take (k+1))<=Zg leaf 0 l\/k=0 then Zcq leaf l f (k+1) else k
def Nd.cut (n:Nd):Nat :=
 if Zg n.leaf 0 (n.l.take (Zcq n.leaf n.l n.l.length 0))+Zg n.leaf 0 (n.l.take (Zcq n.leaf n.l n.l.length 0+1))<=n.sum/\Zcq n.leaf n.l n.l.length 0+1<n.l.length then Zcq n.leaf n.l n.l.length 0+1 else Zcq n.leaf n.l n.l.length 0
def Nd.key0 (n:Nd):List UInt8:=(n.l.head?.map (·.key)).getD []
def Rp.layN:Nat->Rp->Nd->(List En × Int) × Rp
 | 0,R,_=>(([],0),R)
 | f+1,R,n =>
  if n.l=[] then (([],0),R)
  else if 893<n.sum then
   if (Rp.layN f R ⟨n.leaf,n.l.take n.cut⟩).1.2≠0 then (([],(Rp.layN f R ⟨n.leaf,n.l.take n.cut⟩).1.2),(Rp.layN f R ⟨n.leaf,n.l.take n.cut⟩).2)
   else (((Rp.layN f R ⟨n.leaf,n.l.take n.cut⟩).1.1++(Rp.layN f (Rp.layN f R ⟨n.leaf,n.l.take n.cut⟩).2 ⟨n.leaf,n.l.drop n.cut⟩).1.1,(Rp.layN f (Rp.layN f R ⟨n.leaf,n.l.take n.cut⟩).2 ⟨n.leaf,n.l.drop n.cut⟩).1.2),(Rp.layN f (Rp.layN f R ⟨n.leaf,n.l.take n.cut⟩).2 ⟨n.leaf,n.l.drop n.cut⟩).2)
  else if R.alloc.1.2=0 then (([⟨n.key0,[],R.alloc.1.1⟩],(R.alloc.2.write R.alloc.1.1 n.bytes).1),(R.alloc.2.write R.alloc.1.1 n.bytes).2)
  else (([⟨n.key0,[],R.alloc.1.1⟩],R.alloc.1.2),R.alloc.2)
theorem cutK_step {l:List En} (h:2*Zg leaf 0 (l.take (k+1))<=Zg leaf 0 l\/k=0):Zcq leaf l (f+1) k=Zcq leaf l f (k+1):=by rw[Zcq,if_pos h]
theorem cutK_end {l:List En} (h:¬(2*Zg leaf 0 (l.take (k+1))<=Zg leaf 0 l\/k=0)):Zcq leaf l (f+1) k=k:=by rw[Zcq,if_neg h]
theorem En.few2 {e:En} (h:e.few):e.key.length<=80/\e.val.length<=200:=⟨h.key,h.val⟩
theorem long_two {l:List En} (h:893<Zg leaf 0 l) (hf:∀e∈l,e.key.length<=80/\e.val.length<=200):2<=l.length:=by have:=Zfs leaf l 0 hf;omega
theorem cut_more {l:List En} (h:893<Zg leaf 0 l) (hf:∀e∈l,e.key.length<=80/\e.val.length<=200) (hk:k<l.length) (hc:2*Zg leaf 0 (l.take (k+1))<=Zg leaf 0 l\/k=0):k+1<l.length:=by
 have b:=long_two h hf;rcases Ua (k+1) l.length with a | a
 .exact a
 .rcases hc with hc | hc
  .rw[List.take_of_length_le a] at hc;omega
  .omega
theorem cutK_spec {l:List En} (h:893<Zg leaf 0 l) (hf:∀e∈l,e.key.length<=80/\e.val.length<=200):∀(f k:Nat),k<l.length->l.length<=f+k->(0<k->2*Zg leaf 0 (l.take k)<=Zg leaf 0 l\/k=1) ->
  0<Zcq leaf l f k/\Zcq leaf l f k<l.length/\Zg leaf 0 l<2*Zg leaf 0 (l.take (Zcq leaf l f k+1))/\(2*Zg leaf 0 (l.take (Zcq leaf l f k))<=Zg leaf 0 l\/Zcq leaf l f k=1)
 | 0,k,b,c,_=>by omega
 | f+1,k,b,c,d=>by
  by_cases a:2*Zg leaf 0 (l.take (k+1))<=Zg leaf 0 l\/k=0
  .rw[cutK_step a];exact cutK_spec h hf f (k+1) (cut_more h hf b a) (by omega) λ_=>a.imp id λe=>by omega
  .rw[cutK_end a];exact⟨by omega,b,by omega,d (by omega)⟩
theorem En.size_in (hl:leaf=false) (i:Nat) (e:En) (h:e.key.length<=80):e.size leaf i<=83:=by
 subst hl;unfold En.size;simp only[Bool.false_eq_true,↓reduceIte]
 split<;>omega
theorem Nd.cut_spec {n:Nd} (h:893<n.sum) (hf:∀e∈n.l,e.key.length<=80/\e.val.length<=200):
  0<n.cut/\n.cut<n.l.length/\n.sum<=2*Zg n.leaf 0 (n.l.take n.cut)+282/\2*Zg n.leaf 0 (n.l.take n.cut)<=n.sum+282/\(n.leaf=false->n.sum<=2*Zg n.leaf 0 (n.l.take n.cut)+83/\2*Zg n.leaf 0 (n.l.take n.cut)<=n.sum+83):=by
 unfold Nd.sum at *;have h2:=long_two h hf
 obtain⟨a,b,c,d⟩:=cutK_spec h hf n.l.length 0 (by omega) (by omega) (by omega);have hst:=Zhw n.leaf n.l (Zcq n.leaf n.l n.l.length 0) b
 have o:=En.size_le n.leaf (Zcq n.leaf n.l n.l.length 0) n.l[Zcq n.leaf n.l n.l.length 0] (hf _ (Vo b));have g:n.leaf=false->n.l[Zcq n.leaf n.l n.l.length 0].size n.leaf (Zcq n.leaf n.l n.l.length 0)<=83:=λi=>En.size_in i _ _ (hf _ (Vo b)).1;have m:Zcq n.leaf n.l n.l.length 0=1->2*Zg n.leaf 0 (n.l.take (Zcq n.leaf n.l n.l.length 0))<=Zg n.leaf 0 n.l:=λe=>by have:=Zfs n.leaf (n.l.take (Zcq n.leaf n.l n.l.length 0)) 0 λx j=>hf x (Vr j);rw[List.length_take] at this;omega
 have q:2*Zg n.leaf 0 (n.l.take (Zcq n.leaf n.l n.l.length 0))<=Zg n.leaf 0 n.l:=d.elim id m;clear d m;unfold Nd.cut;unfold Nd.sum;generalize Zcq n.leaf n.l n.l.length 0=k at *;split
 .rename_i j;exact⟨by omega,by omega,by omega,by omega,λi=>by have:=g i;omega⟩
 .rename_i j
  refine⟨a,b,?_,by omega,λi=>⟨?_,by omega⟩⟩
  .by_cases p:k+1<n.l.length
   .omega
   .rw[List.take_of_length_le (by omega)] at hst;omega
  .have:=g i
   by_cases p:k+1<n.l.length
   .omega
   .rw[List.take_of_length_le (by omega)] at hst;omega
end
section
open Go.RowKit
end
section
def Xw (l:List (Option (List UInt8))):Nat:=l.countP λx=>x.isNone
end
section
open Go.RowKit
def LP (n:Nat) (J:Jn) (seq:Int) (B:List (List UInt8)) (w:World) (F:Ft) (p:Nat) (f:Pf) (R:Rp):Prop:=∃P:Pg,P.J=J/\Ys w F p f P/\Sim n P R seq B
def LpTo (n:Nat) (J:Jn) (seq:Int) (B:List (List UInt8)) (w:World) (F:Ft) (p:Nat) (f:Pf) (w':World) (R':Rp):Prop:=∃f',LP n J seq B w' F p f' R'/\f'.q=f.q/\(∀k,PT f' k->PT f k\/w.heap.size<=k)/\Zb (PJ F p f) w w'
section
variable {n : Nat} {J : Jn} {seq : Int} {B : List (List UInt8)} {w w' w1 w2 : World} {F : Ft} {p : Nat} {f f1 : Pf} {R R' R2 : Rp}
theorem LP.step (h:LP n J seq B w F p f R) (hb:Below w.heap.size w w'):LP n J seq B w' F p f R:=by obtain⟨P,a,b,c⟩:=h;exact⟨P,a,b.below hb,c⟩
theorem LP.turned {T:Nat->Prop} (h:LP n J seq B w F p f R) (ht:Zb T w w') (a:∀k,PJ F p f k\/k=0->¬T k):LP n J seq B w' F p f R:=by
 obtain⟨P,b,c,d⟩:=h
 exact⟨P,b,c.turned ht λk g=>a k (by
  rcases g with e | e | e
  .exact .inl (.inl e)
  .exact .inl (.inr e)
  .exact .inr e),d⟩
theorem LP.lt (h:LP n J seq B w F p f R) {k:Nat} (hk:PJ F p f k):k<w.heap.size:=by obtain⟨P,b,a,c⟩:=h;exact a.lt hk
theorem lp_alloc (h:LP n J seq B w F p f R):Calls Tryz.prog 130 #[Qs f.q] w λe w'=>e=.returned (.tuple #[.int .i64 R.alloc.1.1,.int .i64 R.alloc.1.2])/\LpTo n J seq B w F p f w' R.alloc.2:=by
 obtain⟨P,g,i,j⟩:=h;refine(alloc_any i).mono ?_;rintro e w' ⟨rfl,k,a,b,c,d⟩;obtain⟨l,m⟩:=j.alloc;rw[l]
 exact⟨rfl,k,⟨P.alloc.2,(by unfold Pg.alloc;split<;>first | exact g | (split<;>exact g)),a,m⟩,b,c,d⟩
theorem Zga (h:LP n J seq B w F p f R) (page:Int) (i:-9223372036854775808<=page) (b2:page<=9223372036854775807):Calls Tryz.prog 134 #[Qs f.q,.int .i64 page] w λe w'=>e=.returned (.int .i64 (R.free page).1)/\LpTo n J seq B w F p f w' (R.free page).2:=by
 obtain⟨P,g,j,k⟩:=h;refine(free_any j page i b2).mono ?_;rintro e w' ⟨rfl,l,a,b,c,d⟩;obtain⟨m,o⟩:=k.freed page;rw[m]
 exact⟨rfl,l,⟨(P.free page).2,(by unfold Pg.free;split<;>first | exact g | (split<;>exact g)),a,o⟩,b,c,d⟩
theorem lp_write (h:LP n J seq B w F p f R) (page:Int) (i:-9223372036854775808<=page) (b2:page<=9223372036854775807) (v:Value) (b:List UInt8) (hv:IsB w v b):Calls Tryz.prog 131 #[Qs f.q,.int .i64 page,v] w λe w'=>e=.returned (.int .i64 (R.write page b).1)/\LpTo n J seq B w F p f w' (R.write page b).2:=by
 obtain⟨P,g,j,k⟩:=h;refine(pwrite_any j page i b2 v b hv).mono ?_;rintro e w' ⟨rfl,l,a,m,c,d⟩;obtain⟨o,r⟩:=k.write page b;rw[o]
 exact⟨rfl,l,⟨(P.write page b).2,(by unfold Pg.write;split<;>first | exact g | (split<;>exact g)),a,r⟩,m,c,d⟩
theorem Zdv (h:LP n J seq B w F p f R) (page:Int) (b:-9223372036854775808<=page) (b2:page<=9223372036854775807):Calls Tryz.prog 102 #[Qs f.q,.int .i64 page] w λe w'=>e=.returned (.int .i64 (R.setRoot page).1)/\LpTo n J seq B w F p f w' (R.setRoot page).2:=by
 obtain⟨P,g,i,j⟩:=h;refine(setroot_any i page b b2).mono ?_;rintro e w' ⟨rfl,k,a,l,c,d⟩;obtain⟨m,o⟩:=j.setRoot page;rw[m]
 exact⟨rfl,k,⟨(P.setRoot page).2,(by unfold Pg.setRoot;split<;>exact g),a,o⟩,l,c,d⟩
theorem lp_read (h:LP n J seq B w F p f R) (page:Int) (b:-9223372036854775808<=page) (b2:page<=9223372036854775807):Calls Tryz.prog 116 #[Qs f.q,.int .i64 page] w λe w'=>∃v,e=.returned (.tuple #[v,.int .i64 (R.read page).2])/\Mine 5 w.heap.size w' v (R.read page).1/\LP n J seq B w' F p f R/\Zb (PJ F p f) w w':=by
 obtain⟨P,c,d,a⟩:=h;have hr:=pread_any d page b b2
 rw[a.read page] at hr;refine hr.mono ?_;rintro e w' ⟨v,rfl,g,i,j⟩;exact⟨v,rfl,g,⟨P,c,i,a⟩,j⟩
theorem lp_root (h:LP n J seq B w F p f R):Calls Tryz.prog 87 #[Qs f.q] w λe w'=>e=.returned (.int .i64 R.root)/\w'=w:=by obtain⟨P,c,a,b⟩:=h;rw[<-b.root];exact root_any a
theorem lp_pages (h:LP n J seq B w F p f R):Calls Tryz.prog 96 #[Qs f.q] w λe w'=>e=.returned (.int .i64 (R.pages.length:Int))/\w'=w:=by obtain⟨P,c,a,b⟩:=h;rw[<-b.nlen];exact pages_any a
end
end
section
open Go.RowKit
abbrev trO (q:Nat):Obj:=.cells #[Qs q] 171 (0,0)
abbrev trp (b:Nat):Value:=.pointer (some ⟨b,0,none⟩)
structure Tr (n:Nat) (J:Jn) (seq:Int) (B:List (List UInt8)) (w:World) (F:Ft) (p:Nat) (f:Pf) (R:Rp) (tb:Nat):Prop where
 lp:LP n J seq B w F p f R
 head:w.heap[tb]?=some (trO f.q)
 apart:¬PJ F p f tb
section
variable {n : Nat} {J : Jn} {seq : Int} {B : List (List UInt8)} {w w' w1 w2 : World} {F : Ft} {p : Nat} {f f1 : Pf} {R R' R2 : Rp} {tb : Nat}
theorem LP.page (h:LP n J seq B w F p f R) {page:Int} (c:(R.read page).2=0):(R.read page).1.length=896:=by
 obtain⟨P,g,i,e⟩:=h
 cases a:R.taken page with
 | false=>rw[Rp.read,if_pos a] at c;cases c
 | true =>
  obtain⟨j,k,b,d⟩:=Zca a;have:(R.read page).1=b:=by rw[Rp.read,if_neg (by simp[a]),List.getD_eq_getElem?_getD,d];rfl
  rw[this];exact(e.pagen _ b d).1
theorem Tr.step (h:Tr n J seq B w F p f R tb) (hb:Below w.heap.size w w'):Tr n J seq B w' F p f R tb:=⟨h.lp.step hb,(hb.block _ (Za h.head)).trans h.head,h.apart⟩
theorem Tr.read (h:Tr n J seq B w F p f R tb) (hl:LP n J seq B w' F p f R) (ht:Zb (PJ F p f) w w'):Tr n J seq B w' F p f R tb:=⟨hl,(ht.block _ (Za h.head) h.apart).trans h.head,h.apart⟩
theorem LP.nib_lt (h:LP n J seq B w F p f R):0<w.heap.size:=by obtain⟨P,b,a,c⟩:=h;exact World.block_lt_of_cell? w _ (a.nib 0 (by omega))
theorem Tr.turn {T:Nat->Prop} (h0:Tr n J seq B w F p f R tb) (h:Tr n J seq B w1 F p f R tb) (ht:Zb T w1 w2) (b:∀k,T k->w.heap.size<=k):Tr n J seq B w2 F p f R tb:=by
 have c:=Za h0.head;refine⟨h.lp.turned ht λk a e=>?_,(ht.block _ (Za h.head) λe=>by have:=b _ e;omega).trans h.head,h.apart⟩;have:=b k e;rcases a with a | a
 .have:=h0.lp.lt a;omega
 .have:=h0.lp.nib_lt;omega
def LoadEnd (n:Nat) (J:Jn) (seq:Int) (B:List (List UInt8)) (w:World) (F:Ft) (p:Nat) (f:Pf) (R:Rp) (tb:Nat) (page:Int) (e:Ending) (w':World):Prop:=∃leaf va vk vc,e=.returned (.tuple #[ndV leaf (.slice va vk vc),.int .i64 (R.load page).2])/\Tr n J seq B w' F p f R tb/\Zb (PJ F p f) w w'/\∀nd,(R.load page).1=some nd->nd.leaf=leaf/\Zq w.heap.size w' (.slice va vk vc) nd.l
theorem Zep (h:Tr n J seq B w F p f R tb) (page:Int) (b1:-9223372036854775808<=page) (b2:page<=9223372036854775807) :
  Calls Tryz.prog 88 #[trp tb,.int .i64 page] w (LoadEnd n J seq B w F p f R tb page):=by
 obtain⟨W1,c⟩:∃x,x=w.alloc (.cells #[.bool false,.slice none 0 0] 174):=⟨_,rfl⟩;have H:Below w.heap.size w W1:=by rw[c];exact Zl w _
 have Q:W1.heap[w.heap.size]?=some (ndO false (.slice none 0 0)):=by rw[c];exact Vg w _
 have S:W1.heap.size=w.heap.size+1:=by rw[c];simp
 have T:=h.step H;have U:∀k,PJ F p f k->k<w.heap.size:=λk hk=>h.lp.lt hk;have HRD:=Hd (lp_read T.lp page b1 b2);have c0:W1.cell? ⟨tb,0,none⟩=some (Qs f.q):=by rw[Vc _ _ _ _ _ _ T.head];rfl
 have a0:=Hd c;have HT1:=Hd T;have HT0:=Hd h;have HB1:=Hd H;have HR1:=Hd Q;have HPJ:=Hd U;have HS1:=Hd S;rw[c] at c0;clear h T H Q U c S;go_enter Tryz.func88,Tryz.ntmps88;go_wp2_with fail;rw[<-a0.out];clear c0;refine HRD.out.mono ?_;rintro e N ⟨u,rfl,O,m,P⟩;have ht2:=HT1.out.read m P;have d:N.heap[w.heap.size]?=some (ndO false (.slice none 0 0)):=(P.block _ (Za HR1.out) λe=>by have:=HPJ.out _ e;omega).trans HR1.out;have hs2:=P.size;have V:Hid (Zb (PJ F p f) w N):=Hd ((Zb.of_below HB1.out).trans P);have HT2:=Hd ht2;obtain⟨r0,r1⟩:=Zd d;have f0:=Zf d 0;have f1:=Zf d 1;by_cases E:(R.read page).2=0
 case neg =>
  have j:R.load page=(none,(R.read page).2):=by rw[Rp.load,if_pos E]
  have a2:((R.read page).2 != 0)=true:=by rw[bne_iff_ne];exact E
  have HM:=Hd O;have HL:=Hd j;obtain⟨ua,uc,C,_,_⟩:=O.isB.form;subst C;have t3:=(Zc N w.heap.size 0 (.bool false)).trans (Zc _ w.heap.size 1 (.slice none 0 0));have hh:=Ze (Ze d (i:=0) (.bool false)) (i:=1) (.slice none 0 0);have HLD:=Hd (nd_load hh)
  have b:Hid (LoadEnd n J seq B w F p f R tb page (.returned (.tuple #[ndV false (.slice none 0 0),.int .i64 (R.read page).2])) ((N.setCell ⟨w.heap.size,0,none⟩ (.bool false)).setCell ⟨w.heap.size,1,none⟩ (.slice none 0 0))) :=
   Hd ⟨false,none,0,0,by rw[j],HT0.out.turn ht2 t3 (λk hk=>by omega),V.out.then t3 (λi hi e=>by omega),λW e=>(by rw[j] at e;cases e)⟩
  clear O m P ht2 E j HRD t3 hh;go_wp2_with fail;exact Vn (v:=.tuple #[ndV false (.slice none 0 0),.int .i64 (R.read page).2]) (Zy Tryz.results88 rfl HLD.out) rfl b.out
 case pos =>
  have o:=HT1.out.lp.page E;have hz:((R.read page).2 != 0)=false:=by rw[E];rfl
  obtain⟨ua,uc,C,_,_⟩:=O.isB.form;rw[o] at C;subst C;have HBR:=Hd (bread_any N ua 896 uc (R.read page).1 O.isB o.symm (by omega) (by omega))
  have X:=Hd E;have HR2:=Hd d;rw[E];clear O m P ht2 E HRD r0 r1 f0 f1 o d hz;go_wp2_with fail;refine HBR.out.mono ?_;rintro e I ⟨a,v,rfl,r,⟨y,z,A,rfl⟩,L⟩;have hT3:=HT2.out.step r;have hr3:=(r.block _ (Za HR2.out)).trans HR2.out;have Y:Hid (Zb (PJ F p f) w I):=Hd (V.out.trans (Zb.of_below r));obtain⟨W4,s⟩:∃x,x=I.alloc (.cells #[.bool a,.slice y z A] 174):=⟨_,rfl⟩;have g:Below I.heap.size I W4:=by rw[s];exact Zl I _
  have D:=hT3.step g;have hr4:=(g.block _ (Za hr3)).trans hr3;have M:W4.heap[I.heap.size]?=some (ndO a (.slice y z A)):=by rw[s];exact Vg I _
  have G:Hid (Zb (PJ F p f) w W4):=Hd (Y.out.trans (Zb.of_below g));have hsz3:=Za hr3;obtain⟨r0,r1⟩:=Zd hr4;obtain⟨n0,n1⟩:=Zd M;have f0:=Zf hr4 0;have f1:=Zf hr4 1;have HW4:=Hd s
  cases t:Zah (R.read page).1 with
  | none =>
   have j:R.load page=(none,103):=by rw[Rp.load,if_neg (by simp[X.out]),t]
   have t5:=(Zc W4 w.heap.size 0 (.bool false)).trans (Zc _ w.heap.size 1 (.slice none 0 0));have hh:=Ze (Ze hr4 (i:=0) (.bool false)) (i:=1) (.slice none 0 0);have HLD:=Hd (nd_load hh)
   have b:Hid (LoadEnd n J seq B w F p f R tb page (.returned (.tuple #[ndV false (.slice none 0 0),.int .i64 103])) ((W4.setCell ⟨w.heap.size,0,none⟩ (.bool false)).setCell ⟨w.heap.size,1,none⟩ (.slice none 0 0))) :=
    Hd ⟨false,none,0,0,by rw[j],HT0.out.turn D t5 (λk hk=>by omega),G.out.then t5 (λi hi e=>by omega),λW e=>(by rw[j] at e;cases e)⟩
   clear r L hT3 hr3 s g D hr4 M t j t5 hh;simp only[Option.isSome_none];go_upto_region 6 with fail;rw[<-HW4.out];go_wp2_with fail;exact Vn (v:=.tuple #[ndV false (.slice none 0 0),.int .i64 103]) (Zy Tryz.results88 rfl HLD.out) rfl b.out
  | some W =>
   have j:R.load page=(some W,0):=by rw[Rp.load,if_neg (by simp[X.out]),t]
   obtain⟨g1,g2⟩:=L W t;have t5:=(Zc W4 w.heap.size 0 (.bool a)).trans (Zc _ w.heap.size 1 (.slice y z A))
   have hh:=Ze (Ze hr4 (i:=0) (.bool a)) (i:=1) (.slice y z A);have HLD:=Hd (nd_load hh);have Z:Zq w.heap.size ((W4.setCell ⟨w.heap.size,0,none⟩ (.bool a)).setCell ⟨w.heap.size,1,none⟩ (.slice y z A)) (.slice y z A) W.l:=by have a1:=g2.below g;have a3:w.heap.size<N.heap.size:=Za HR2.out;exact(a1.keep λk T h2=>t5.block k h2 (by omega)).low (by omega)
   have b:Hid (LoadEnd n J seq B w F p f R tb page (.returned (.tuple #[ndV a (.slice y z A),.int .i64 0])) ((W4.setCell ⟨w.heap.size,0,none⟩ (.bool a)).setCell ⟨w.heap.size,1,none⟩ (.slice y z A))) :=
    Hd ⟨a,y,z,A,by rw[j],HT0.out.turn D t5 (λk hk=>by omega),G.out.then t5 (λi hi e=>by omega),λa4 e=>by
     rw[j] at e;cases e
     exact⟨g1,Z⟩⟩
   clear r L hT3 hr3 s g D hr4 M t j t5 hh Z g1 g2;simp only[Option.isSome_some];go_upto_region 7 with fail;rw[<-HW4.out];go_wp2_with fail;exact Vn (v:=.tuple #[ndV a (.slice y z A),.int .i64 0]) (Zy Tryz.results88 rfl HLD.out) rfl b.out
end
end
section
open Go.RowKit
variable {l:List En}{k:Nat}{T:Nat→Prop}
def Qa (n:Nat) (J:Jn) (seq:Int) (B:List (List UInt8)) (w:World) (F:Ft) (p:Nat) (f:Pf) (w':World) (R':Rp) (tb:Nat):Prop:=∃f',Tr n J seq B w' F p f' R' tb/\f'.q=f.q/\(∀k,PT f' k->PT f k\/w.heap.size<=k)/\Zb (PJ F p f) w w'
section
variable {n : Nat} {J : Jn} {seq : Int} {B : List (List UInt8)} {w w' w1 w2 : World} {F : Ft} {p : Nat} {f f1 : Pf} {R R' R2 : Rp} {tb : Nat}
theorem Qa.same (h:Tr n J seq B w F p f R tb):Qa n J seq B w F p f w R tb:=⟨f,h,rfl,λ_ a=>.inl a,Zb.refl _ _⟩
theorem Qa.below (h:Tr n J seq B w F p f R tb) (hb:Below w.heap.size w w'):Qa n J seq B w F p f w' R tb:=⟨f,h.step hb,rfl,λ_ a=>.inl a,Zb.of_below hb⟩
theorem Qa.then (h:f1.q=f.q) (hk:∀k,PT f1 k->PT f k\/w.heap.size<=k) (ht:Zb (PJ F p f) w w1) (h2:Qa n J seq B w1 F p f1 w2 R2 tb):Qa n J seq B w F p f w2 R2 tb:=by
 obtain⟨j,a,b,c,d⟩:=h2;refine⟨j,a,b.trans h,λk g=>?_,ht.then d λi o m=>?_⟩
 .rcases c k g with e | e
  .exact hk k e
  .exact .inr (Vk ht.size e)
 .rcases m with e | e
  .exact .inl e
  .rcases hk i e with e | e
   .exact .inr e
   .omega
theorem Tr.to (h:Tr n J seq B w F p f R tb) (h2:LpTo n J seq B w F p f w' R'):Qa n J seq B w F p f w' R' tb:=by
 obtain⟨g,a,b,c,d⟩:=h2;refine⟨g,⟨a,?_,?_⟩,b,c,d⟩
 .rw[b];exact(d.block _ (Za h.head) h.apart).trans h.head
 .rintro(e | e)
  .exact h.apart (.inl e)
  .rcases c _ e with e | e
   .exact h.apart (.inr e)
   .have:=Za h.head;omega
theorem Xk (hk:∀k,PT f1 k->PT f k\/w.heap.size<=k) (h:¬PJ F p f k) (hl:k<w.heap.size):¬PJ F p f1 k:=by
 rintro(e | e)
 .exact h (.inl e)
 .rcases hk k e with e | e
  .exact h (.inr e)
  .omega
end
def Zap (v:Value) (k:Nat):Prop:=∃x n c,v=.slice (some x) n c/\x.block=k
theorem IsE.lt {w:World} {a:Option Addr} {n cap:Nat} (h:IsE w (.slice a n cap) l) (h0:0<l.length):∃b o,a=some ⟨b,o,none⟩/\b<w.heap.size:=by obtain⟨b,o,e,c,_⟩:=h.at 0 h0;exact⟨b,o,e,World.block_lt_of_cell? w _ c⟩
theorem IsE.turned {w w':World} {v:Value} (h:IsE w v l) (ht:Zb T w w') (m:∀k,Zap v k->¬T k):IsE w' v l:=by
 obtain⟨a,c,rfl,q,r,s,g⟩:=h;refine⟨a,c,rfl,q,r,s,λx d=>⟨(g x d).1,λi t=>?_⟩⟩;obtain⟨j,u,y⟩:=(g x d).2 i t;have e:x.block<w.heap.size:=World.block_lt_of_cell? w ⟨x.block,x.off+i*3,none⟩ j
 have z:=ht.block _ e (m _ ⟨x,_,_,by rw[d],rfl⟩);have b:∀o,w'.cell? ⟨x.block,o,none⟩=w.cell? ⟨x.block,o,none⟩:=λo=>by unfold World.cell?;simp only[z]
 exact⟨(b _).trans j,(b _).trans u,(b _).trans y⟩
theorem Zq.isE_blk {B:Nat} {w:World} {v:Value} (h:Zq B w v l) (hk:Zap v k):B<=k/\k<w.heap.size:=by obtain⟨x,n,c,e,rfl⟩:=hk;exact h.lt (by rw[e];rfl)
theorem Zq.lit {B:Nat} {w:World} (e:En) (hB:B<=w.heap.size):Zq B (w.alloc (.cells (enC e).toArray 179)) (.slice (some ⟨w.heap.size,0,none⟩) 1 1) [e]:=by unfold Zq;refine⟨by simp[enV,enC],.inr ⟨w.heap.size,1,(enC e).toArray,rfl,hB,Vg w _,Va _,by simp[maxLen],by simp[enC],by simp[enV];rfl⟩⟩
def TrV (n:Nat) (J:Jn) (seq:Int) (B:List (List UInt8)) (w:World) (F:Ft) (p:Nat) (f:Pf) (w':World) (R':Rp) (tb:Nat) (v:Value):Prop:=∃f',Tr n J seq B w' F p f' R' tb/\f'.q=f.q/\(∀k,PT f' k->PT f k\/w.heap.size<=k)/\Zb (PJ F p f) w w'/\∀k,Zap v k->¬PJ F p f' k
section
variable {n : Nat} {J : Jn} {seq : Int} {B : List (List UInt8)} {w w' w1 w2 : World} {F : Ft} {p : Nat} {f f1 : Pf} {R R' R2 : Rp} {tb : Nat} {v v' : Value}
theorem TrV.to (h:TrV n J seq B w F p f w' R' tb v):Qa n J seq B w F p f w' R' tb:=by obtain⟨g,a,b,c,d,e⟩:=h;exact⟨g,a,b,c,d⟩
theorem Qa.nil (h:Qa n J seq B w F p f w' R' tb):TrV n J seq B w F p f w' R' tb (.slice none 0 0):=by obtain⟨g,a,b,c,d⟩:=h;exact⟨g,a,b,c,d,λk i=>by obtain⟨x,_,_,e,_⟩:=i;cases e⟩
theorem Qa.alloc (h:Qa n J seq B w F p f w' R' tb) (o:Obj) (c g:Nat):TrV n J seq B w F p f (w'.alloc o) R' tb (.slice (some ⟨w'.heap.size,0,none⟩) c g):=by
 obtain⟨i,a,b,c,d⟩:=h;refine⟨i,a.step (Zl _ _),b,c,d.trans (Zb.of_below (Zl _ _)),λk j m=>?_⟩;obtain⟨x,_,_,e,q⟩:=j;cases e;have:=a.lp.lt m
 dsimp only at q;omega
theorem TrV.then (h:f1.q=f.q) (hk:∀k,PT f1 k->PT f k\/w.heap.size<=k) (ht:Zb (PJ F p f) w w1) (h2:TrV n J seq B w1 F p f1 w2 R2 tb v):TrV n J seq B w F p f w2 R2 tb v:=by obtain⟨i,a,b,c,d,e⟩:=h2;obtain⟨m,o,r,s,j⟩:=Qa.then (f1:=f1) h hk ht ⟨i,a,b,c,d⟩;exact⟨i,a,b.trans h,λk g=>(c k g).elim (hk k) λe=>.inr (Vk ht.size e),j,e⟩
theorem TrV.grown {s:Nat} {l':List En} (h0:Tr n J seq B w F p f R tb) (h:TrV n J seq B w F p f w1 R' tb v) (hm:Zq s w1 v l) (hB:w.heap.size<=s) (hg:w1.grownBy w2 v.ownBlock) (r:v'.ownBlock=v.ownBlock\/v'.ownBlock=some w1.heap.size) (hm2:Zq s w2 v' l'):TrV n J seq B w F p f w2 R' tb v':=by
 obtain⟨y,a,b,c,d,e⟩:=h
 have o:∀k,v.ownBlock=some k->Zap v k:=λk m=>by
  rcases hm.form with ⟨rfl,_⟩ | ⟨g,z,rfl,_⟩
  .cases m
  .cases m;exact⟨_,_,_,rfl,rfl⟩
 have t:Zb (λk=>v.ownBlock=some k) w1 w2:=⟨hg.os,hg.tape,hg.output,hg.size,λk m A=>hg.block k m λe=>A e.symm⟩;refine⟨y,⟨a.lp.turned t λk m j=>?_,(t.block _ (Za a.head) λj=>?_).trans a.head,a.apart⟩,b,c,d.then t λi E j=>?_,λk m u=>?_⟩
 .have:=(hm.lt j).1
  rcases m with m | rfl
  .exact e k (o k j) m
  .have:=h0.lp.nib_lt;omega
 .have:=(hm.lt j).1;have:=Za h0.head;omega
 .have:=(hm.lt j).1;omega
 .have q:v'.ownBlock=some k:=by
   obtain⟨x,_,_,C,D⟩:=m;rw[C,<-D];rfl
  rcases r with r | r
  .exact e k (o k (r.symm.trans q)) u
  .rw[r] at q;have:=a.lp.lt u;simp only[Option.some.injEq] at q;omega
end
def Zam (n:Nat) (J:Jn) (seq:Int) (B:List (List UInt8)) (w:World) (F:Ft) (p:Nat) (f:Pf) (tb:Nat) (X:(List En × Int) × Rp) (e:Ending) (w':World):Prop:=∃v,e=.returned (.tuple #[v,.int .i64 X.1.2])/\Zq w.heap.size w' v X.1.1/\TrV n J seq B w F p f w' X.2 tb v
section
variable {n : Nat} {J : Jn} {seq : Int} {B : List (List UInt8)} {F : Ft} {p : Nat} {tb : Nat}
theorem LP.n1 {w:World} {f:Pf} {R:Rp} (h:LP n J seq B w F p f R):R.pages.length<=1023:=by obtain⟨P,c,a,b⟩:=h;rw[<-b.nlen];exact a.ok.n1
theorem LP.alloc_le {w:World} {f:Pf} {R:Rp} (h:LP n J seq B w F p f R):0<=R.alloc.1.1/\R.alloc.1.1<65536:=by
 have b:=h.n1;unfold Rp.alloc
 cases a:freeR R.pages with
 | none=>exact⟨Int.le_refl _,(by decide:(0:Int)<65536)⟩
 | some k =>
  have:=(List.findIdx?_eq_some_iff_getElem.1 a).1;dsimp only;omega
def LayAt (n:Nat) (J:Jn) (seq:Int) (B:List (List UInt8)) (F:Ft) (p:Nat) (tb:Nat) (m:Nat):Prop:=∀(w:World) (f:Pf) (R:Rp) (leaf:Bool) (a:Option Addr) (N cap:Nat) (l:List En),Tr n J seq B w F p f R tb->IsE w (.slice a N cap) l->N=l.length->N<=m->(∀e∈l,e.few)->(∀k,Zap (.slice a N cap) k->¬PJ F p f k) ->
  Calls Tryz.prog 101 #[trp tb,ndV leaf (.slice a N cap)] w (Zam n J seq B w F p f tb (R.layN (m+1) ⟨leaf,l⟩))
theorem nbytes_any (w:World) (leaf:Bool) (a:Option Addr) (N cap:Nat) (h:IsE w (.slice a N cap) l) (hnl:N=l.length) (hf:∀e∈l,e.few) (hs:(Nd.mk leaf l).sum<=893):
  Calls Tryz.prog 132 #[ndV leaf (.slice a N cap)] w λe w'=>∃g,e=.returned (.slice (some ⟨g,0,none⟩) 896 896)/\IsB w' (.slice (some ⟨g,0,none⟩) 896 896) (Nd.mk leaf l).bytes/\w.heap.size<=g/\Below w.heap.size w w':=by
 have m:(Nd.mk leaf l).bytes.length=896:=by unfold Nd.bytes;rw[List.length_take,List.length_append,List.length_replicate];omega
 have b:∀e w',(∃g,e=Ending.returned (.slice (some ⟨g,0,none⟩) 896 896)/\Zh w' g 5 (Nd.mk leaf l).bytes/\w.heap.size<=g/\Below w.heap.size w w')->∃g,e=.returned (.slice (some ⟨g,0,none⟩) 896 896)/\IsB w' (.slice (some ⟨g,0,none⟩) 896 896) (Nd.mk leaf l).bytes/\w.heap.size<=g/\Below w.heap.size w w':=by
  rintro e w' ⟨g,c,d,i,j⟩;refine⟨g,c,?_,i,j⟩;have:=d.isB 0 896 896 (by omega) (Va _) (by simp[maxLen])
  rw[List.drop_zero,List.take_of_length_le (by omega)] at this;exact this
 cases leaf with
 | true=>exact(bytes_leaf w a N cap h hnl hf hs).mono (b)
 | false=>exact(bytes_inner w a N cap h hnl hf hs).mono (b)
theorem lay_fits {w:World} {f:Pf} {R:Rp} (m:Nat) (leaf:Bool) (a:Option Addr) (N cap:Nat) (h:Tr n J seq B w F p f R tb) (hE:IsE w (.slice a N cap) l) (hN:N=l.length) (hm:N<=1000000) (hf:∀e∈l,e.few) (hs:∀k,Zap (.slice a N cap) k->¬PJ F p f k) (hsum:(Nd.mk leaf l).sum<=893):
  Calls Tryz.prog 101 #[trp tb,ndV leaf (.slice a N cap)] w (Zam n J seq B w F p f tb (R.layN (m+1) ⟨leaf,l⟩)):=by
 obtain⟨W1,c⟩:∃x,x=w.alloc (.cells #[.bool leaf,.slice a N cap] 174):=⟨_,rfl⟩;have i:Below w.heap.size w W1:=by rw[c];exact Zl w _
 have u:W1.heap[w.heap.size]?=some (ndO leaf (.slice a N cap)):=by rw[c];exact Vg w _
 have Q:W1.heap.size=w.heap.size+1:=by rw[c];simp
 have h1:=h.step i;have hE1:=hE.below i;obtain⟨n0,n1⟩:=Zd u;have HE:=Hd hE1;have HN:=Hd hN;have HF:=Hd hf;have HS:=Hd hs;have HT:=Hd h1;have HW1:=Hd c;have HB1:=Hd i;have HS1:=Hd Q;have HN1:=Hd u;have HSUM:=Hd hsum;rw[c] at n0 n1;by_cases h0:N=0
 .have j:l=[]:=Vh (by omega)
  have HR:Hid (R.layN (m+1) ⟨leaf,l⟩=(([],0),R)):=Hd (by rw[Rp.layN,if_pos j]);rw[HR.out];have V:Hid (Zam n J seq B w F p f tb (([],0),R) (.returned (.tuple #[.slice none 0 0,.int .i64 0])) W1):=Hd ⟨_,rfl,Zq.nil _ _,(Qa.below h i).nil⟩;have hz:((N:Int)==0)=true:=by rw[h0];rfl
  clear h hE hN hf hs h1 hE1 c i Q u h0 j hsum;go_enter Tryz.func101,Tryz.ntmps101;go_wp2_with fail;rw[<-HW1.out];go_ret2;exact V.out
 .have hz:((N:Int)==0)=false:=by rw[beq_eq_false_iff_ne];omega
  have W:=Hd (sum_any W1 leaf a N cap hE1 hN (by omega) λe U=>En.few2 (hf e U));have a5:decide (((Nd.mk leaf l).sum:Int) > 893)=false:=Vb (by omega);obtain⟨X,hX⟩:∃X,X=R.layN (m+1) ⟨leaf,l⟩:=⟨_,rfl⟩
  have HR:Hid (X=if R.alloc.1.2=0 then (([⟨(Nd.mk leaf l).key0,[],R.alloc.1.1⟩],(R.alloc.2.write R.alloc.1.1 (Nd.mk leaf l).bytes).1),(R.alloc.2.write R.alloc.1.1 (Nd.mk leaf l).bytes).2) else (([⟨(Nd.mk leaf l).key0,[],R.alloc.1.1⟩],R.alloc.1.2),R.alloc.2)):=Hd (by
   rw[hX,Rp.layN,if_neg (λ(e:l=[])=>h0 (by rw[hN,e];rfl)),if_neg (by omega)])
  rw[<-hX];clear hX;have HH:=Hd h
  obtain⟨S,hS⟩:∃S,S=(Nd.mk leaf l).sum:=⟨_,rfl⟩;rw[<-hS] at W a5;clear hS;clear h hE hN hf hs h1 hE1 c i Q u hsum;go_enter Tryz.func101,Tryz.ntmps101;go_wp2_with fail;rw[<-HW1.out];refine W.out.mono ?_;rintro e w2 ⟨rfl,r⟩;have HB2:=Hd (HB1.out.trans (r.mono HB1.out.size))
  have y:=HT.out.step r;have hn2:=(r.block _ (Za HN1.out)).trans HN1.out;have HE2:=Hd (HE.out.below r);obtain⟨m0,m1⟩:=Zd hn2;have c0:w2.cell? ⟨tb,0,none⟩=some (Qs f.q):=by rw[Vc _ _ _ _ _ _ y.head];rfl
  have a6:=Hd (lp_alloc y.lp);have HT2:=Hd y;have HN2:=Hd hn2;clear r y hn2 n0 n1;go_wp2_with fail;refine a6.out.mono ?_;rintro e z ⟨rfl,A⟩;obtain⟨f3,C,D,s,t⟩:=HT2.out.to A;have HAB:=Hd HT2.out.lp.alloc_le;have HT3:=Hd C;have HQ3:=Hd D;have HK3:=Hd s;have hs2:=Za HN2.out;have E:Hid (Zb (PJ F p f) w z):=Hd ((Zb.of_below HB2.out).trans t);have G:¬PJ F p f w.heap.size:=λe=>by have:=HH.out.lp.lt e;omega
  have H:=(t.block _ hs2 G).trans HN2.out;have hE3:=HE2.out.turned t HS.out;have HN3:=Hd H;have HE3:=Hd hE3;have HNP3:=Hd (Xk (w:=w2) s G hs2);have a7:Hid (∀k,Zap (.slice a N cap) k->¬PJ F p f3 k):=Hd λk L=>by obtain⟨b,o,e,a8⟩:=HE2.out.lt (by have:=HN.out;omega);refine Xk (w:=w2) s (HS.out k L) ?_;obtain⟨x,_,_,Y,rfl⟩:=L;rw[e] at Y;simp only[Value.slice.injEq,Option.some.injEq] at Y;rw[<-Y.1];exact a8
  obtain⟨n0,n1⟩:=Zd H;obtain⟨b,o,a9,d0,d1,d2⟩:=hE3.at 0 (by have:=HN.out;omega);subst a9;rw[Nat.zero_mul,Nat.add_zero] at d0;have ag:(0:Int)<(N:Int):=by omega
  have HX:Hid (Zq w.heap.size (z.alloc (.cells (enC ⟨(Nd.mk leaf l).key0,[],R.alloc.1.1⟩).toArray 179)) (.slice (some ⟨z.heap.size,0,none⟩) 1 1) [⟨(Nd.mk leaf l).key0,[],R.alloc.1.1⟩]):=Hd (Zq.lit _ (by have:=E.out.size;omega));have j:0<l.length:=by have:=HN.out;omega
  have M:Hid (∀h:0<l.length,l[0].key=(Nd.mk leaf l).key0):=Hd λh=>by unfold Nd.key0;rw[List.head?_eq_getElem?,List.getElem?_eq_getElem h];rfl
  rw[M.out j] at d0;by_cases U:R.alloc.1.2=0
  .have HTK:=Hd A
   have aa:(R.alloc.1.2==0)=true:=by rw[U];rfl
   have c3:z.cell? ⟨tb,0,none⟩=some (Qs f3.q):=by rw[Vc _ _ _ _ _ _ C.head];rfl
   rw[D] at c3;have HE0:=Hd U
   clear C D s t A m0 m1 c0 hs2 G H hE3 d1 d2;have HBY:=Hd (nbytes_any z.drew leaf (some ⟨b,o,none⟩) N cap HE3.out.drew HN.out HF.out HSUM.out)
   go_upto_region 18 with fail;go_region_with (first | (go_at_call 132;refine HBY.out.mono ?_;clear HBY;rintro e w4 ⟨g,rfl,Z,a0,a1⟩;have d:Hid (Below z.heap.size z w4):=Hd ((Ve z.heap.size z).drew.trans a1);have HT4:=Hd (HT3.out.step d.out);have c4:w4.cell? ⟨tb,0,none⟩=some (Qs f.q):=Zi d.out _ _ c3;have HWR:=Hd (lp_write HT4.out.lp R.alloc.1.1 (by have:=HAB.out;omega) (by have:=HAB.out;omega) _ _ Z);rw[HQ3.out] at HWR;clear Z a0 a1) | (go_at_call 131;refine HWR.out.mono ?_;clear HWR;rintro e w5 ⟨rfl,O⟩;have HTO5:=Hd O;clear O))
   all_goals
    obtain⟨f5,ab,ad,ae,I⟩:=HT4.out.to HTO5.out
    have a2:=(I.block _ (by have:=d.out.size;have:=Za HN3.out;omega) HNP3.out).trans ((d.out.block _ (Za HN3.out)).trans HN3.out)
    have a3:=(HE3.out.below d.out).turned I a7.out
    obtain⟨m0,m1⟩:=Zd a2
    obtain⟨b',o',P,e0,e1,Y⟩:=a3.at 0 (by have:=HN.out;omega)
    simp only[Option.some.injEq,Addr.mk.injEq,and_true] at P
    obtain⟨rfl,rfl⟩:=P
    rw[Nat.zero_mul,Nat.add_zero,M.out j] at e0
    have af:=Hd (Qa.then HQ3.out (λk L=>(HK3.out k L).imp id λe=>Vk HB2.out.size e) E.out (Qa.then (f1:=f3) rfl (λk L=>.inl L) (Zb.of_below d.out) (HT4.out.to HTO5.out)):Qa n J seq B w F p f w5 (R.alloc.2.write R.alloc.1.1 (Nd.mk leaf l).bytes).2 tb)
    have a4:=I.size
    clear ab ad ae I a2 a3 e1 Y n0 n1 d0
    generalize (R.alloc.2.write R.alloc.1.1 (Nd.mk leaf l).bytes)=X5 at *
    go_wp2_with fail
    go_ret2
    rw[HR.out,if_pos HE0.out]
    exact⟨_,rfl,Zq.lit _ (by have:=E.out.size;have:=d.out.size;have:=a4;omega),af.out.alloc _ _ _⟩
  .have aa:(R.alloc.1.2==0)=false:=by rw[beq_eq_false_iff_ne];exact U
   clear C D s t A m0 m1 c0 hs2 G H hE3 d1 d2;go_wp2_with fail;go_ret2;rw[HR.out,if_neg U];exact⟨_,rfl,HX.out,(Qa.then HQ3.out (λk L=>(HK3.out k L).imp id λe=>Vk HB2.out.size e) E.out ((Qa.same HT3.out)) |>.alloc _ _ _)⟩
theorem Zb.undrew {a b:World} (h:Zb T a.drew b):Zb T a b:=⟨h.os,h.tape,h.output,h.size,h.block⟩
theorem Zq.in_blk {B:Nat} {w:World} {v:Value} (h:Zq B w v l) (hk:v.ownBlock=some k):Zap v k:=by
 rcases h.form with ⟨rfl,_⟩ | ⟨g,a,rfl,_⟩
 .cases hk
 .cases hk;exact⟨_,_,_,rfl,rfl⟩
theorem Zch:∀(f:Nat) (R:Rp) (a:Nd),(R.layN f a).1.1.length<=a.l.length
 | 0,R,a=>Vl _
 | f+1,R,a=>by
  have b:=Zch f R ⟨a.leaf,a.l.take a.cut⟩;have h2:=Zch f (R.layN f ⟨a.leaf,a.l.take a.cut⟩).2 ⟨a.leaf,a.l.drop a.cut⟩;dsimp only at b h2;rw[List.length_take] at b;rw[List.length_drop] at h2;rw[Rp.layN];by_cases h:a.l=[]
  .rw[if_pos h];exact Vl _
  .have c:0<a.l.length:=List.length_pos_iff.2 h
   rw[if_neg h];split
   .split
    .exact Vl _
    .dsimp only;rw[List.length_append];omega
   .split
    .exact c
    .exact c
theorem layN_long {R:Rp} {nd:Nd} {f:Nat} {X1 X2:(List En × Int) × Rp} (h:nd.l≠[]) (hs:893<nd.sum) (h1:X1=R.layN f ⟨nd.leaf,nd.l.take nd.cut⟩) (h2:X2=X1.2.layN f ⟨nd.leaf,nd.l.drop nd.cut⟩):R.layN (f+1) nd=if X1.1.2≠0 then (([],X1.1.2),X1.2) else ((X1.1.1++X2.1.1,X2.1.2),X2.2):=by rw[Rp.layN,if_neg h,if_pos hs,h2,h1]
theorem lay_long {w:World} {f:Pf} {R:Rp} (m:Nat) (hi:LayAt n J seq B F p tb m) (leaf:Bool) (a:Option Addr) (N cap:Nat) (h:Tr n J seq B w F p f R tb) (hE:IsE w (.slice a N cap) l) (hN:N=l.length) (hm:N<=m+1) (hm2:m+1<=1000000) (hf:∀e∈l,e.few) (hs:∀k,Zap (.slice a N cap) k->¬PJ F p f k) (hsum:893<(Nd.mk leaf l).sum):
  Calls Tryz.prog 101 #[trp tb,ndV leaf (.slice a N cap)] w (Zam n J seq B w F p f tb (R.layN (m+1+1) ⟨leaf,l⟩)):=by
 obtain⟨W1,ar⟩:∃x,x=w.alloc (.cells #[.bool leaf,.slice a N cap] 174):=⟨_,rfl⟩;have aJ:Below w.heap.size w W1:=by rw[ar];exact Zl w _
 have aU:W1.heap[w.heap.size]?=some (ndO leaf (.slice a N cap)):=by rw[ar];exact Vg w _
 have aW:W1.heap.size=w.heap.size+1:=by rw[ar];simp
 have h1:=h.step aJ;have hE1:=hE.below aJ;have ao:∀e∈l,e.key.length<=80/\e.val.length<=200:=λe L=>En.few2 (hf e L);have h2:=long_two (leaf:=leaf) hsum ao;have aN:(Nd.mk leaf l).sum<=282*l.length:=Zfs leaf l 0 ao;obtain⟨n0,n1⟩:=Zd aU;have HE:=Hd hE1;have HN:=Hd hN;have HF:=Hd hf;have HF2:=Hd ao;have HS:=Hd hs;have HT:=Hd h1;have HW1:=Hd ar;have HB1:=Hd aJ;have HS1:=Hd aW;have HN1:=Hd aU;have HSUM:=Hd hsum;have HI:=Hd hi;have HH:=Hd h;rw[ar] at n0 n1;have hz:((N:Int)==0)=false:=by rw[beq_eq_false_iff_ne];omega
 have aV:=Hd (sum_any W1 leaf a N cap hE1 hN (by omega) ao);have ba:decide (((Nd.mk leaf l).sum:Int) > 893)=true:=Vd (by omega);obtain⟨X,hX⟩:∃X,X=R.layN (m+1+1) ⟨leaf,l⟩:=⟨_,rfl⟩;have HX:=Hd hX;rw[<-hX];obtain⟨S,hS⟩:∃S,S=(Nd.mk leaf l).sum:=⟨_,rfl⟩;have HSS:=Hd hS;rw[<-hS] at aV ba aN;obtain⟨bh,bi,bj⟩:2<=N/\N<=1000000/\S<=282000000:=by omega
 clear hX hS h hE hN hf hs h1 hE1 ar aJ aW aU hsum ao hi h2 aN;go_enter Tryz.func101,Tryz.ntmps101;go_wp2_with fail;rw[<-HW1.out];refine aV.out.mono ?_;rintro e w2 ⟨rfl,au⟩;have HB2:=Hd (HB1.out.trans (au.mono HB1.out.size))
 have aX:=HT.out.step au;have hn2:=(au.block _ (Za HN1.out)).trans HN1.out;have HE2:=Hd (HE.out.below au);have HT2:=Hd aX;have HN2:=Hd hn2;clear au aX hn2 n0 n1 aV;go_wp2_with fail;go_loopw [7,8] (λx y wr=>∃k:Nat,k<N/\x=.int .i64 (k:Int)/\y=.int .i64 (Zg leaf 0 (l.take k):Int)/\Zcq leaf l (N - k) k=Zcq leaf l N 0/\Below w2.heap.size w2 wr) (λx _ _=>N - (intOf x).toNat)
 case atStart=>exact⟨0,by omega,rfl,by simp[Zg],by rw[Nat.sub_zero],Ve _ _⟩
 case round =>
  obtain⟨k,j,rfl,rfl,aO,aK⟩:=hrel;have hnr:=(aK.block _ (Za HN2.out)).trans HN2.out
  have bb:=Hd (HE2.out.below aK);have HNR:=Hd hnr;have HBR:=Hd aK;have HCUT:=Hd aO;obtain⟨m0,m1⟩:=Zd hnr;have aL:k<l.length:=by have:=HN.out;omega
  have a8:=Hd (size_any wr leaf a N cap bb.out HN.out k aL (by have:=HN.out;omega) HF2.out);have hst:=Zhw leaf l k aL;have hmo:=Zfd leaf l (k+1);have av:Zg leaf 0 l=S:=HSS.out.symm;rw[hst,av] at hmo;have HST:=Hd hst;have HM2:=Hd av;clear hst av aK hnr aO;obtain⟨A,hA⟩:∃A,A=Zg leaf 0 (l.take k):=⟨_,rfl⟩;obtain⟨z,aM⟩:∃z,z=l[k].size leaf k:=⟨_,rfl⟩;rw[<-hA,<-aM] at hmo;rw[<-aM] at a8;rw[<-hA];have HA:=Hd hA;have HZZ:=Hd aM;have s1:IntKind.i64.wrap ((A:Int)+(z:Int))=((A+z:Nat):Int):=by rw[Vf _ (by omega)];omega
  have s2:IntKind.i64.wrap (2*((A+z:Nat):Int))=((2*(A+z):Nat):Int):=by rw[Vf _ (by omega)];omega
  have s3:IntKind.i64.wrap (2*(A:Int))=((2*A:Nat):Int):=by rw[Vf _ (by omega)];omega
  have s4:IntKind.i64.wrap (((2*A:Nat):Int)+(z:Int))=((2*A+z:Nat):Int):=by rw[Vf _ (by omega)];omega
  have s5:IntKind.i64.wrap ((k:Int)+1)=((k+1:Nat):Int):=by rw[Vf _ (by omega)];omega
  clear hA aM
  have aP:∀W:World,Below w2.heap.size w2 W->W.heap[w.heap.size]?=some (ndO leaf (.slice a N cap))/\Calls Tryz.prog 129 #[ndV leaf (.slice a N cap),.int .i64 (k:Int)] W λe w'=>e=.returned (.int .i64 (z:Int))/\Below W.heap.size W w':=λW hb=>by
   refine⟨(hb.block _ (Za HN2.out)).trans HN2.out,?_⟩;have:=size_any W leaf a N cap (HE2.out.below hb) HN.out k aL (by have:=HN.out;omega) HF2.out
   rw[<-HZZ.out] at this;exact this
  have t:=Hd aP;clear aP;by_cases hc:2*(A+z)<=S\/k=0
  .have hc2:=hc
   rw[<-HM2.out,HA.out,HZZ.out,<-HST.out] at hc2;have HLT:=Hd (cut_more (leaf:=leaf) HSUM.out HF2.out aL hc2)
   have aY:Hid (Zcq leaf l (N - (k+1)) (k+1)=Zcq leaf l N 0):=Hd (by
    rw[<-HCUT.out,show N - k=(N - (k+1))+1 by omega,cutK_step hc2])
   have aZ:Hid (Zg leaf 0 (l.take (k+1))=A+z):=Hd (by rw[HST.out,HA.out,HZZ.out]);clear hc2;by_cases c1:2*(A+z)<=S
   .have hd:decide (((2*(A+z):Nat):Int)<=(S:Int))=true:=Vd (by omega)
    have b0:decide (2*(A+z)<=S)=true:=Vd c1;clear hc;go_wp2_with fail;refine a8.out.mono ?_;rintro e w4 ⟨rfl,O⟩;have hb4':=HBR.out.trans (O.mono HBR.out.size);obtain⟨P,i⟩:=t.out w4 hb4';have HSZ4:=Hd i;have HB4:=Hd hb4';obtain⟨p0,p1⟩:=Zd P;clear O hb4' P i;go_wp2_with fail;refine HSZ4.out.mono ?_;rintro e M ⟨rfl,Q⟩;have HB5:=Hd (HB4.out.trans (Q.mono HB4.out.size));clear Q;go_wp2_with fail;go_roundw
    case rel=>exact⟨k+1,by have:=HLT.out;have:=HN.out;omega,by go_num,by rw[aZ.out];go_num,aY.out,HB5.out⟩
    case measure=>simp[intOf];omega
   .have bc:((k:Int)==0)=true:=by rw[beq_iff_eq];omega
    have hd:decide (((2*(A+z):Nat):Int)<=(S:Int))=false:=Vb (by omega);have b0:decide (2*(A+z)<=S)=false:=Vb c1;clear hc;go_wp2_with fail;refine a8.out.mono ?_;rintro e w4 ⟨rfl,O⟩;have hb4':=HBR.out.trans (O.mono HBR.out.size);obtain⟨P,i⟩:=t.out w4 hb4';have HSZ4:=Hd i;have HB4:=Hd hb4';obtain⟨p0,p1⟩:=Zd P;clear O hb4' P i;go_wp2_with fail;refine HSZ4.out.mono ?_;rintro e M ⟨rfl,Q⟩;have HB5:=Hd (HB4.out.trans (Q.mono HB4.out.size));clear Q;go_wp2_with fail;go_roundw
    case rel=>exact⟨k+1,by have:=HLT.out;have:=HN.out;omega,by go_num,by rw[aZ.out];go_num,aY.out,HB5.out⟩
    case measure=>simp[intOf];omega
  .have b1:¬(2*Zg leaf 0 (l.take (k+1))<=Zg leaf 0 l\/k=0):=by rw[HST.out,HM2.out,<-HA.out,<-HZZ.out];exact hc
   have bk:¬k=0:=λe=>hc (.inr e);have bl:¬2*(A+z)<=S:=λe=>hc (.inl e);have b2:Zcq leaf l l.length 0=k:=by rw[<-HN.out,<-HCUT.out,show N - k=(N - (k+1))+1 by omega,cutK_end b1]
   have aQ:(Nd.mk leaf l).cut=if A+(A+z)<=S/\k+1<N then k+1 else k:=by unfold Nd.cut;dsimp only;rw[b2,HST.out,<-HA.out,<-HZZ.out,<-HSS.out,<-HN.out]
   have ap:=Hd aQ;have bc:((k:Int)==0)=false:=by rw[beq_eq_false_iff_ne];omega
   have hd:decide (((2*(A+z):Nat):Int)<=(S:Int))=false:=Vb (by omega);have b0:decide (2*(A+z)<=S)=false:=Vb (by omega);obtain⟨b,o,bd,_⟩:=HE2.out.at 0 (by have:=HN.out;omega);subst bd;have aw:Hid (N<=cap):=Hd (by obtain⟨_,_,e,h1,_⟩:=HE2.out.form;simp only[Value.slice.injEq] at e;have:=HN.out;omega);clear b1 b2 aQ;by_cases c1:2*A+z<=S
   .have be:decide (((2*A+z:Nat):Int)<=(S:Int))=true:=Vd (by omega)
    have bf:decide (2*A+z<=S)=true:=Vd (by omega);by_cases c2:k+1<N
    .have bg:decide (((k+1:Nat):Int)<(N:Int))=true:=Vd (by omega)
     have ao:decide (k+1<N)=true:=Vd (by omega);obtain⟨C,hC⟩:∃C,C=k+1:=⟨_,rfl⟩;obtain⟨b3,b4⟩:0<C/\C<N:=by omega
     have a9:Hid ((Nd.mk leaf l).cut=C):=Hd (by rw[hC];rw[ap.out,if_pos ⟨by omega,c2⟩]);have HC:=Hd hC;clear hc hC;go_wp2_with fail;refine a8.out.mono ?_;rintro e w4 ⟨rfl,O⟩;have hb4':=HBR.out.trans (O.mono HBR.out.size);obtain⟨P,i⟩:=t.out w4 hb4';have HSZ4:=Hd i;have HB4:=Hd hb4';obtain⟨p0,p1⟩:=Zd P;clear O hb4' P i;go_wp2_with fail;refine HSZ4.out.mono ?_;rintro e M ⟨rfl,Q⟩;have hb5':=HB4.out.trans (Q.mono HB4.out.size);obtain⟨a2,ax⟩:=t.out M hb5';have HB5:=Hd (HB2.out.trans (hb5'.mono HB2.out.size));have hT5:=HT2.out.step hb5';have HE5:=Hd (HE2.out.below hb5');have HN5:=Hd a2;have HT5:=Hd hT5;obtain⟨q0,q1⟩:=Zd a2;obtain⟨b5,b6⟩:(C:Int)<=(N:Int)/\(0:Int)<=(C:Int):=by omega
     have aR:=aw.out;have aS:(C:Int)<=(cap:Int):=by omega
     have a0:=Hd (HI.out M.drew f R leaf (some ⟨b,o,none⟩) C cap (l.take C) (hT5.step (Ve _ _).drew) (HE5.out.drew.take C (by have:=HN.out;omega)) (by rw[List.length_take];have:=HN.out;omega) (by omega) (λe L=>HF.out e (Vr L)) (λk j=>HS.out k (by obtain⟨x,_,_,e,r⟩:=j;cases e;exact⟨_,_,_,rfl,r⟩)));have d0:M.drew.cell? ⟨w.heap.size,0,none⟩=some (.bool leaf):=q0;have d1:M.drew.cell? ⟨w.heap.size,1,none⟩=some (.slice (some ⟨b,o,none⟩) N cap):=q1;clear Q hb5' a2 hT5 p0 p1 m0 m1 a8 HSZ4 t ax;clear HA HZZ HST HM2 HCUT;go_upto_region 11 with fail;clear q0 q1;rw[show (((k:Int)+1:Int))=(C:Int) by have:=HC.out;omega]
     clear s1 s2 s3 s4 s5;go_region_with (go_at_call 101;refine a0.out.mono ?_;clear a0;rintro e w6 ⟨v6,rfl,q,c⟩;have HM6:=Hd q;have HT6:=Hd c;clear q c)
     all_goals
      obtain⟨f6,u,a3,U,c,D⟩:=HT6.out
      obtain⟨d,E⟩:∃d,d=R.layN (m+1) ⟨leaf,l.take C⟩:=⟨_,rfl⟩
      rw[<-E] at HM6 HT6 u
      rw[<-E]
      have aa:=Hd E
      have V:w.heap.size<M.drew.heap.size:=Za HN5.out
      have Y:=(c.block _ V (λe=>by have:=HH.out.lp.lt e;omega)).trans HN5.out
      have G:=HE5.out.drew.turned c HS.out
      have b7:=Hd Y
      have b8:=Hd G
      have b9:=Hd V
      have ab:Hid (∀s,s=d.2.layN (m+1) ⟨leaf,l.drop C⟩->X=if d.1.2≠0 then (([],d.1.2),d.2) else ((d.1.1++s.1.1,s.1.2),s.2)):=Hd λs h2=>by
       rw[HX.out];refine layN_long (nd:=⟨leaf,l⟩) (λe=>?_) HSUM.out (by rw[a9.out];exact aa.out) (by rw[a9.out];exact h2);have e2:l=[]:=e
       have:=HN.out;rw[e2] at this;simp at this;omega
      by_cases L:d.1.2=0
      .have ay:(d.1.2 != 0)=false:=by rw[L];rfl
       obtain⟨az,aq⟩:¬cap=C/\¬C=cap:=by omega
       obtain⟨g0,g1⟩:=Zd (w:=w6.drew) Y;have aT:b<w6.heap.size:=by obtain⟨b',o',e,H⟩:=G.lt (by have:=HN.out;omega);cases e;exact H
       have a1:b<M.heap.size:=by obtain⟨b',o',e,H⟩:=HE5.out.lt (by have:=HN.out;omega);cases e;exact H
       have I:=Hd (HI.out w6.drew f6 d.2 leaf (some ⟨b,o+C*3,none⟩) (N - C) (cap - C) (l.drop C) (u.step (Ve _ _).drew) (by rw[show N - C=l.length - C by have:=HN.out;omega];exact G.drew.drop C (by have:=HN.out;omega)) (by rw[List.length_drop];have:=HN.out;omega) (by omega) (λe L=>HF.out e (Vt L)) (λk j=>by
        obtain⟨x,_,_,e,r⟩:=j;cases e;dsimp only at r;subst r
        exact Xk (w:=M.drew) U (HS.out b ⟨_,_,_,rfl,rfl⟩) a1))
       have aA:=Hd L;have HK6:=Hd U;have HQ6:=Hd a3;have HTT6:=Hd c;have HSV6:=Hd D;have HT66:=Hd u;clear E V Y G u a3 U c D d0 d1 L a1;go_upto_region 14 with fail;go_region_with (go_at_call 101;refine I.out.mono ?_;clear I;rintro e w7 ⟨v7,rfl,ad,g⟩;have HM7:=Hd ad;have HT7:=Hd g;clear ad g)
       all_goals
        obtain⟨s,Z⟩:∃s,s=d.2.layN (m+1) ⟨leaf,l.drop C⟩:=⟨_,rfl⟩
        rw[<-Z] at HM7 HT7
        rw[<-Z]
        have ae:=Hd Z
        obtain⟨f7,af,ag,a4,g,ah⟩:=HT7.out
        have q:Zq M.drew.heap.size w7 v6 d.1.1:=HM6.out.keep1 λk j=>by have aB:=HM6.out.in_blk j;exact g.block _ (HM6.out.lt j).2 (HSV6.out _ aB)
        have aC:d.1.1.length<=C:=by have:=Zch (m+1) R ⟨leaf,l.take C⟩;rw[<-aa.out] at this;dsimp only at this;rw[List.length_take] at this;omega
        have aD:s.1.1.length<=N - C:=by have:=Zch (m+1) d.2 ⟨leaf,l.drop C⟩;rw[<-ae.out] at this;dsimp only at this;rw[List.length_drop] at this;have:=HN.out;omega
        have ai:w6.heap.size<=w7.heap.size:=g.size
        have aj:M.heap.size<=w6.heap.size:=HTT6.out.size
        obtain⟨v8,w8,hr,a5,ak,al⟩:=q.app HM7.out.isE (by show M.heap.size<=_;omega) (by omega)
        have aE:Hid (TrV n J seq B w F p f w7 s.2 tb v6):=Hd (TrV.then (f1:=f) rfl (λk j=>.inl j) (Zb.of_below HB5.out.drew) (TrV.then HQ6.out HK6.out HTT6.out ⟨f7,af,ag,a4,g.undrew,λk j=>by
         have H:=(HM6.out.isE_blk j).2
         exact Xk (w:=w6.drew) a4 (HSV6.out k j) H⟩))
        have am:=Hd (aE.out.grown HH.out q HB5.out.size ak al a5)
        have aF:Hid (Zq w.heap.size w8 v8 (d.1.1++s.1.1)):=Hd (a5.low HB5.out.size)
        obtain⟨a6,c6,aG,_,_⟩:=HM6.out.isE.form
        obtain⟨a7,c7,aH,_,_⟩:=HM7.out.isE.form
        subst aG aH
        have an:=Hd hr
        clear Z af ag a4 g ah q aC aD ai aj a5 ak al g0 g1 hr
        generalize d.1.1.length=L1 at *
        generalize s.1.1.length=L2 at *
        have hr:=an.out
        clear an
        go_wp2_with (at_builtin;refine wpList_append_run rfl (.tmp 86) (.tmp 87) 172 172 rfl _ _ _ rfl rfl hr ?_;clear hr)
        go_ret2
        rw[ab.out _ ae.out,if_neg (λe=>e aA.out)]
        exact⟨_,rfl,aF.out,am.out⟩
      .have ay:(d.1.2 != 0)=true:=by rw[bne_iff_ne];exact L
       have aI:=Hd L;clear E V Y G u a3 U c D d0 d1 L;go_wp2_with fail;go_ret2;rw[ab.out _ rfl,if_pos aI.out];exact⟨_,rfl,Zq.nil _ _,(Qa.then (f1:=f) rfl (λk j=>.inl j) (Zb.of_below HB5.out.drew) HT6.out.to).nil⟩
    .have bg:decide (((k+1:Nat):Int)<(N:Int))=false:=Vb (by omega)
     have ao:decide (k+1<N)=false:=Vb (by omega);obtain⟨C,hC⟩:∃C,C=k:=⟨_,rfl⟩;obtain⟨b3,b4⟩:0<C/\C<N:=by omega
     have a9:Hid ((Nd.mk leaf l).cut=C):=Hd (by rw[hC];rw[ap.out,if_neg (λx=>c2 x.2)]);have HC:=Hd hC;clear hc hC;go_wp2_with fail;refine a8.out.mono ?_;rintro e w4 ⟨rfl,O⟩;have hb4':=HBR.out.trans (O.mono HBR.out.size);obtain⟨P,i⟩:=t.out w4 hb4';have HSZ4:=Hd i;have HB4:=Hd hb4';obtain⟨p0,p1⟩:=Zd P;clear O hb4' P i;go_wp2_with fail;refine HSZ4.out.mono ?_;rintro e M ⟨rfl,Q⟩;have hb5':=HB4.out.trans (Q.mono HB4.out.size);obtain⟨a2,ax⟩:=t.out M hb5';have HB5:=Hd (HB2.out.trans (hb5'.mono HB2.out.size));have hT5:=HT2.out.step hb5';have HE5:=Hd (HE2.out.below hb5');have HN5:=Hd a2;have HT5:=Hd hT5;obtain⟨q0,q1⟩:=Zd a2;obtain⟨b5,b6⟩:(C:Int)<=(N:Int)/\(0:Int)<=(C:Int):=by omega
     have aR:=aw.out;have aS:(C:Int)<=(cap:Int):=by omega
     have a0:=Hd (HI.out M.drew f R leaf (some ⟨b,o,none⟩) C cap (l.take C) (hT5.step (Ve _ _).drew) (HE5.out.drew.take C (by have:=HN.out;omega)) (by rw[List.length_take];have:=HN.out;omega) (by omega) (λe L=>HF.out e (Vr L)) (λk j=>HS.out k (by obtain⟨x,_,_,e,r⟩:=j;cases e;exact⟨_,_,_,rfl,r⟩)));have d0:M.drew.cell? ⟨w.heap.size,0,none⟩=some (.bool leaf):=q0;have d1:M.drew.cell? ⟨w.heap.size,1,none⟩=some (.slice (some ⟨b,o,none⟩) N cap):=q1;clear Q hb5' a2 hT5 p0 p1 m0 m1 a8 HSZ4 t ax;clear HA HZZ HST HM2 HCUT;go_upto_region 11 with fail;clear q0 q1;rw[show ((k:Int))=(C:Int) by have:=HC.out;omega]
     clear s1 s2 s3 s4 s5;go_region_with (go_at_call 101;refine a0.out.mono ?_;clear a0;rintro e w6 ⟨v6,rfl,q,c⟩;have HM6:=Hd q;have HT6:=Hd c;clear q c)
     all_goals
      obtain⟨f6,u,a3,U,c,D⟩:=HT6.out
      obtain⟨d,E⟩:∃d,d=R.layN (m+1) ⟨leaf,l.take C⟩:=⟨_,rfl⟩
      rw[<-E] at HM6 HT6 u
      rw[<-E]
      have aa:=Hd E
      have V:w.heap.size<M.drew.heap.size:=Za HN5.out
      have Y:=(c.block _ V (λe=>by have:=HH.out.lp.lt e;omega)).trans HN5.out
      have G:=HE5.out.drew.turned c HS.out
      have b7:=Hd Y
      have b8:=Hd G
      have b9:=Hd V
      have ab:Hid (∀s,s=d.2.layN (m+1) ⟨leaf,l.drop C⟩->X=if d.1.2≠0 then (([],d.1.2),d.2) else ((d.1.1++s.1.1,s.1.2),s.2)):=Hd λs h2=>by
       rw[HX.out];refine layN_long (nd:=⟨leaf,l⟩) (λe=>?_) HSUM.out (by rw[a9.out];exact aa.out) (by rw[a9.out];exact h2);have e2:l=[]:=e
       have:=HN.out;rw[e2] at this;simp at this;omega
      by_cases L:d.1.2=0
      .have ay:(d.1.2 != 0)=false:=by rw[L];rfl
       obtain⟨az,aq⟩:¬cap=C/\¬C=cap:=by omega
       obtain⟨g0,g1⟩:=Zd (w:=w6.drew) Y;have aT:b<w6.heap.size:=by obtain⟨b',o',e,H⟩:=G.lt (by have:=HN.out;omega);cases e;exact H
       have a1:b<M.heap.size:=by obtain⟨b',o',e,H⟩:=HE5.out.lt (by have:=HN.out;omega);cases e;exact H
       have I:=Hd (HI.out w6.drew f6 d.2 leaf (some ⟨b,o+C*3,none⟩) (N - C) (cap - C) (l.drop C) (u.step (Ve _ _).drew) (by rw[show N - C=l.length - C by have:=HN.out;omega];exact G.drew.drop C (by have:=HN.out;omega)) (by rw[List.length_drop];have:=HN.out;omega) (by omega) (λe L=>HF.out e (Vt L)) (λk j=>by
        obtain⟨x,_,_,e,r⟩:=j;cases e;dsimp only at r;subst r
        exact Xk (w:=M.drew) U (HS.out b ⟨_,_,_,rfl,rfl⟩) a1))
       have aA:=Hd L;have HK6:=Hd U;have HQ6:=Hd a3;have HTT6:=Hd c;have HSV6:=Hd D;have HT66:=Hd u;clear E V Y G u a3 U c D d0 d1 L a1;go_upto_region 14 with fail;go_region_with (go_at_call 101;refine I.out.mono ?_;clear I;rintro e w7 ⟨v7,rfl,ad,g⟩;have HM7:=Hd ad;have HT7:=Hd g;clear ad g)
       all_goals
        obtain⟨s,Z⟩:∃s,s=d.2.layN (m+1) ⟨leaf,l.drop C⟩:=⟨_,rfl⟩
        rw[<-Z] at HM7 HT7
        rw[<-Z]
        have ae:=Hd Z
        obtain⟨f7,af,ag,a4,g,ah⟩:=HT7.out
        have q:Zq M.drew.heap.size w7 v6 d.1.1:=HM6.out.keep1 λk j=>by have aB:=HM6.out.in_blk j;exact g.block _ (HM6.out.lt j).2 (HSV6.out _ aB)
        have aC:d.1.1.length<=C:=by have:=Zch (m+1) R ⟨leaf,l.take C⟩;rw[<-aa.out] at this;dsimp only at this;rw[List.length_take] at this;omega
        have aD:s.1.1.length<=N - C:=by have:=Zch (m+1) d.2 ⟨leaf,l.drop C⟩;rw[<-ae.out] at this;dsimp only at this;rw[List.length_drop] at this;have:=HN.out;omega
        have ai:w6.heap.size<=w7.heap.size:=g.size
        have aj:M.heap.size<=w6.heap.size:=HTT6.out.size
        obtain⟨v8,w8,hr,a5,ak,al⟩:=q.app HM7.out.isE (by show M.heap.size<=_;omega) (by omega)
        have aE:Hid (TrV n J seq B w F p f w7 s.2 tb v6):=Hd (TrV.then (f1:=f) rfl (λk j=>.inl j) (Zb.of_below HB5.out.drew) (TrV.then HQ6.out HK6.out HTT6.out ⟨f7,af,ag,a4,g.undrew,λk j=>by
         have H:=(HM6.out.isE_blk j).2
         exact Xk (w:=w6.drew) a4 (HSV6.out k j) H⟩))
        have am:=Hd (aE.out.grown HH.out q HB5.out.size ak al a5)
        have aF:Hid (Zq w.heap.size w8 v8 (d.1.1++s.1.1)):=Hd (a5.low HB5.out.size)
        obtain⟨a6,c6,aG,_,_⟩:=HM6.out.isE.form
        obtain⟨a7,c7,aH,_,_⟩:=HM7.out.isE.form
        subst aG aH
        have an:=Hd hr
        clear Z af ag a4 g ah q aC aD ai aj a5 ak al g0 g1 hr
        generalize d.1.1.length=L1 at *
        generalize s.1.1.length=L2 at *
        have hr:=an.out
        clear an
        go_wp2_with (at_builtin;refine wpList_append_run rfl (.tmp 86) (.tmp 87) 172 172 rfl _ _ _ rfl rfl hr ?_;clear hr)
        go_ret2
        rw[ab.out _ ae.out,if_neg (λe=>e aA.out)]
        exact⟨_,rfl,aF.out,am.out⟩
      .have ay:(d.1.2 != 0)=true:=by rw[bne_iff_ne];exact L
       have aI:=Hd L;clear E V Y G u a3 U c D d0 d1 L;go_wp2_with fail;go_ret2;rw[ab.out _ rfl,if_pos aI.out];exact⟨_,rfl,Zq.nil _ _,(Qa.then (f1:=f) rfl (λk j=>.inl j) (Zb.of_below HB5.out.drew) HT6.out.to).nil⟩
   .have be:decide (((2*A+z:Nat):Int)<=(S:Int))=false:=Vb (by omega)
    have bf:decide (2*A+z<=S)=false:=Vb (by omega);obtain⟨C,hC⟩:∃C,C=k:=⟨_,rfl⟩;obtain⟨b3,b4⟩:0<C/\C<N:=by omega
    have a9:Hid ((Nd.mk leaf l).cut=C):=Hd (by rw[hC];rw[ap.out,if_neg (λx=>c1 (by omega))]);have HC:=Hd hC;clear hc hC;go_wp2_with fail;refine a8.out.mono ?_;rintro e w4 ⟨rfl,O⟩;have hb4':=HBR.out.trans (O.mono HBR.out.size);obtain⟨P,i⟩:=t.out w4 hb4';have HSZ4:=Hd i;have HB4:=Hd hb4';obtain⟨p0,p1⟩:=Zd P;clear O hb4' P i;go_wp2_with fail;refine HSZ4.out.mono ?_;rintro e M ⟨rfl,Q⟩;have hb5':=HB4.out.trans (Q.mono HB4.out.size);obtain⟨a2,ax⟩:=t.out M hb5';have HB5:=Hd (HB2.out.trans (hb5'.mono HB2.out.size));have hT5:=HT2.out.step hb5';have HE5:=Hd (HE2.out.below hb5');have HN5:=Hd a2;have HT5:=Hd hT5;obtain⟨q0,q1⟩:=Zd a2;obtain⟨b5,b6⟩:(C:Int)<=(N:Int)/\(0:Int)<=(C:Int):=by omega
    have aR:=aw.out;have aS:(C:Int)<=(cap:Int):=by omega
    have a0:=Hd (HI.out M.drew f R leaf (some ⟨b,o,none⟩) C cap (l.take C) (hT5.step (Ve _ _).drew) (HE5.out.drew.take C (by have:=HN.out;omega)) (by rw[List.length_take];have:=HN.out;omega) (by omega) (λe L=>HF.out e (Vr L)) (λk j=>HS.out k (by obtain⟨x,_,_,e,r⟩:=j;cases e;exact⟨_,_,_,rfl,r⟩)));have d0:M.drew.cell? ⟨w.heap.size,0,none⟩=some (.bool leaf):=q0;have d1:M.drew.cell? ⟨w.heap.size,1,none⟩=some (.slice (some ⟨b,o,none⟩) N cap):=q1;clear Q hb5' a2 hT5 p0 p1 m0 m1 a8 HSZ4 t ax;clear HA HZZ HST HM2 HCUT;go_upto_region 11 with fail;clear q0 q1;rw[show ((k:Int))=(C:Int) by have:=HC.out;omega]
    clear s1 s2 s3 s4 s5;go_region_with (go_at_call 101;refine a0.out.mono ?_;clear a0;rintro e w6 ⟨v6,rfl,q,c⟩;have HM6:=Hd q;have HT6:=Hd c;clear q c)
    all_goals
     obtain⟨f6,u,a3,U,c,D⟩:=HT6.out
     obtain⟨d,E⟩:∃d,d=R.layN (m+1) ⟨leaf,l.take C⟩:=⟨_,rfl⟩
     rw[<-E] at HM6 HT6 u
     rw[<-E]
     have aa:=Hd E
     have V:w.heap.size<M.drew.heap.size:=Za HN5.out
     have Y:=(c.block _ V (λe=>by have:=HH.out.lp.lt e;omega)).trans HN5.out
     have G:=HE5.out.drew.turned c HS.out
     have b7:=Hd Y
     have b8:=Hd G
     have b9:=Hd V
     have ab:Hid (∀s,s=d.2.layN (m+1) ⟨leaf,l.drop C⟩->X=if d.1.2≠0 then (([],d.1.2),d.2) else ((d.1.1++s.1.1,s.1.2),s.2)):=Hd λs h2=>by
      rw[HX.out];refine layN_long (nd:=⟨leaf,l⟩) (λe=>?_) HSUM.out (by rw[a9.out];exact aa.out) (by rw[a9.out];exact h2);have e2:l=[]:=e
      have:=HN.out;rw[e2] at this;simp at this;omega
     by_cases L:d.1.2=0
     .have ay:(d.1.2 != 0)=false:=by rw[L];rfl
      obtain⟨az,aq⟩:¬cap=C/\¬C=cap:=by omega
      obtain⟨g0,g1⟩:=Zd (w:=w6.drew) Y;have aT:b<w6.heap.size:=by obtain⟨b',o',e,H⟩:=G.lt (by have:=HN.out;omega);cases e;exact H
      have a1:b<M.heap.size:=by obtain⟨b',o',e,H⟩:=HE5.out.lt (by have:=HN.out;omega);cases e;exact H
      have I:=Hd (HI.out w6.drew f6 d.2 leaf (some ⟨b,o+C*3,none⟩) (N - C) (cap - C) (l.drop C) (u.step (Ve _ _).drew) (by rw[show N - C=l.length - C by have:=HN.out;omega];exact G.drew.drop C (by have:=HN.out;omega)) (by rw[List.length_drop];have:=HN.out;omega) (by omega) (λe L=>HF.out e (Vt L)) (λk j=>by
       obtain⟨x,_,_,e,r⟩:=j;cases e;dsimp only at r;subst r
       exact Xk (w:=M.drew) U (HS.out b ⟨_,_,_,rfl,rfl⟩) a1))
      have aA:=Hd L;have HK6:=Hd U;have HQ6:=Hd a3;have HTT6:=Hd c;have HSV6:=Hd D;have HT66:=Hd u;clear E V Y G u a3 U c D d0 d1 L a1;go_upto_region 14 with fail;go_region_with (go_at_call 101;refine I.out.mono ?_;clear I;rintro e w7 ⟨v7,rfl,ad,g⟩;have HM7:=Hd ad;have HT7:=Hd g;clear ad g)
      all_goals
       obtain⟨s,Z⟩:∃s,s=d.2.layN (m+1) ⟨leaf,l.drop C⟩:=⟨_,rfl⟩
       rw[<-Z] at HM7 HT7
       rw[<-Z]
       have ae:=Hd Z
       obtain⟨f7,af,ag,a4,g,ah⟩:=HT7.out
       have q:Zq M.drew.heap.size w7 v6 d.1.1:=HM6.out.keep1 λk j=>by have aB:=HM6.out.in_blk j;exact g.block _ (HM6.out.lt j).2 (HSV6.out _ aB)
       have aC:d.1.1.length<=C:=by have:=Zch (m+1) R ⟨leaf,l.take C⟩;rw[<-aa.out] at this;dsimp only at this;rw[List.length_take] at this;omega
       have aD:s.1.1.length<=N - C:=by have:=Zch (m+1) d.2 ⟨leaf,l.drop C⟩;rw[<-ae.out] at this;dsimp only at this;rw[List.length_drop] at this;have:=HN.out;omega
       have ai:w6.heap.size<=w7.heap.size:=g.size
       have aj:M.heap.size<=w6.heap.size:=HTT6.out.size
       obtain⟨v8,w8,hr,a5,ak,al⟩:=q.app HM7.out.isE (by show M.heap.size<=_;omega) (by omega)
       have aE:Hid (TrV n J seq B w F p f w7 s.2 tb v6):=Hd (TrV.then (f1:=f) rfl (λk j=>.inl j) (Zb.of_below HB5.out.drew) (TrV.then HQ6.out HK6.out HTT6.out ⟨f7,af,ag,a4,g.undrew,λk j=>by
        have H:=(HM6.out.isE_blk j).2
        exact Xk (w:=w6.drew) a4 (HSV6.out k j) H⟩))
       have am:=Hd (aE.out.grown HH.out q HB5.out.size ak al a5)
       have aF:Hid (Zq w.heap.size w8 v8 (d.1.1++s.1.1)):=Hd (a5.low HB5.out.size)
       obtain⟨a6,c6,aG,_,_⟩:=HM6.out.isE.form
       obtain⟨a7,c7,aH,_,_⟩:=HM7.out.isE.form
       subst aG aH
       have an:=Hd hr
       clear Z af ag a4 g ah q aC aD ai aj a5 ak al g0 g1 hr
       generalize d.1.1.length=L1 at *
       generalize s.1.1.length=L2 at *
       have hr:=an.out
       clear an
       go_wp2_with (at_builtin;refine wpList_append_run rfl (.tmp 86) (.tmp 87) 172 172 rfl _ _ _ rfl rfl hr ?_;clear hr)
       go_ret2
       rw[ab.out _ ae.out,if_neg (λe=>e aA.out)]
       exact⟨_,rfl,aF.out,am.out⟩
     .have ay:(d.1.2 != 0)=true:=by rw[bne_iff_ne];exact L
      have aI:=Hd L;clear E V Y G u a3 U c D d0 d1 L;go_wp2_with fail;go_ret2;rw[ab.out _ rfl,if_pos aI.out];exact⟨_,rfl,Zq.nil _ _,(Qa.then (f1:=f) rfl (λk j=>.inl j) (Zb.of_below HB5.out.drew) HT6.out.to).nil⟩
end
end
section
variable {leaf:Bool}{bs:List UInt8}{page:Int}
structure Nd.fit (n:Nd):Prop where
 some:n.l≠[]
 few:∀e∈n.l,e.few
 srt:Srt n
 sum:n.sum<=893
theorem textB_spec {b a:Nat} {x:List UInt8 × Nat} (h:Zbu bs b a=some x):x.2=b+1+x.1.length/\x.2<=bs.length/\x.1.length<=a:=by
 have c:=textB_le h;unfold Zbu at h;split at h
 .cases h
 .split at h
  .cases h
  .split at h
   .cases h
   .cases h;refine⟨?_,c⟩;dsimp only;rw[List.length_take,List.length_drop];omega
theorem readE_spec {i a:Nat} {x:En × Nat} (h:Zbm leaf bs i a=some x):x.1.few/\x.2=a+x.1.size leaf i/\x.2<=bs.length:=by
 unfold Zbm at h
 cases c:readK leaf bs i a with
 | none=>rw[c] at h;cases h
 | some k =>
  rw[c] at h;change readV leaf bs k.1 k.2=some x at h
  have b:k.1.length<=80/\k.2=a+(if leaf||decide (0<i) then 1+k.1.length else 0):=by
   unfold readK at c;split at c
   .rename_i d;have:=textB_spec c;rw[if_pos d];omega
   .rename_i d;cases c;rw[if_neg d];exact⟨Vl _,rfl⟩
  unfold readV at h
  cases leaf with
  | true =>
   simp only[if_true] at h
   cases e:Zbu bs k.2 200 with
   | none=>rw[e] at h;cases h
   | some v =>
    rw[e] at h;cases h;have:=textB_spec e
    refine⟨⟨b.1,by dsimp only;omega,by simp,by simp⟩,?_,this.2.1⟩;have h2:=b.2
    simp at h2;unfold En.size;simp;omega
  | false =>
   simp only[Bool.false_eq_true,if_false] at h;split at h
   .cases h
   .cases h
    have g:=(bs.getD k.2 0).toNat_lt;have b2:=(bs.getD (k.2+1) 0).toNat_lt;refine⟨⟨b.1,by simp,by dsimp only;omega,by dsimp only;omega⟩,?_,by dsimp only;omega⟩;have h2:=b.2;unfold En.size;by_cases f:i=0
    .subst f;simp at h2 ⊢;omega
    .simp[Nat.pos_of_ne_zero f] at h2;simp[f];omega
theorem srt_snoc {l:List En} {e:En} (h:Srt ⟨leaf,l⟩) (hf:Zdq leaf l e=true):Srt ⟨leaf,l++[e]⟩:=by
 have f:∀(m:List En),(m.map (·.key)).Pairwise (· < ·)->(∀x,m.getLast?=some x->x.key<e.key)->((m++[e]).map (·.key)).Pairwise (· < ·):=λm g d=>by
  rw[List.map_append,List.pairwise_append];refine⟨g,by simp,λa c b i=>?_⟩;simp only[List.map_cons,List.map_nil,List.mem_singleton] at i;subst i;rcases List.eq_nil_or_concat m with rfl | ⟨r,z,rfl⟩
  .cases c
  .have h1:=d z (by simp)
   rw[List.concat_eq_append,List.map_append,List.pairwise_append] at g;rw[List.concat_eq_append,List.map_append,Ul] at c;rcases c with c | c
   .exact Vy (g.2.2 a c z.key (by simp)) h1
   .simp only[List.map_cons,List.map_nil,List.mem_singleton] at c;rw[c];exact h1
 unfold Zdq at hf;unfold Srt at *
 cases leaf with
 | true =>
  simp only[if_true] at *;refine f l h λx d=>?_;rw[d] at hf;simpa using hf
 | false =>
  simp only[Bool.false_eq_true,if_false] at *
  cases l with
  | nil=>simp
  | cons y r =>
   simp only[List.cons_append,List.tail_cons] at *;refine f r h λx d=>?_
   have:(y::r).getLast?=some x:=by
    cases r with
    | nil=>cases d
    | cons z k=>rw[List.getLast?_cons_cons];exact d
   rw[this] at hf;have j:r≠[]:=by rintro rfl;cases d
   have:=List.length_pos_iff.2 j;simp at hf;rcases hf with hf | hf
   .exact absurd hf j
   .exact hf
theorem readGo_spec:∀(k b:Nat) (l r:List En),Yz leaf bs k b l=some r->Srt ⟨leaf,l⟩->(∀e∈l,e.few)->b=3+Zg leaf 0 l->b<=bs.length->Srt ⟨leaf,r⟩/\(∀e∈r,e.few)/\3+Zg leaf 0 r<=bs.length/\r.length=l.length+k
 | 0,b,l,r,h,f,g,i,j=>by cases h;exact⟨f,g,by omega,rfl⟩
 | k+1,b,l,r,h,f,g,i,j=>by
  rw[Yz] at h;split at h
  .cases h
  .rename_i e a m
   split at h
   .rename_i c
    obtain⟨n,o,p⟩:=readE_spec m
    have:=readGo_spec k a (l++[e]) r h (srt_snoc f c) (λx d=>by
     rcases List.mem_append.1 d with d | d
     .exact g x d
     .rw[List.mem_singleton.1 d];exact n) (by
     rw[Ym,Nat.zero_add];dsimp only at o;simp only[Zg]
     omega) p
    refine⟨this.1,this.2.1,this.2.2.1,?_⟩;have:=this.2.2.2
    simp at this;omega
   .cases h
theorem readN_fit {n:Nd} (hb:bs.length=896) (h:Zah bs=some n):n.fit:=by
 unfold Zah at h;split at h
 .cases h
 .rename_i c
  cases a:Yz (bs.getD 0 0==1) bs (readM bs) 3 [] with
  | none=>rw[a] at h;cases h
  | some r =>
   rw[a] at h;cases h
   obtain⟨d,f,i,b⟩:=readGo_spec _ _ _ _ a (by unfold Srt;split<;>simp) (by simp) (by simp[Zg]) (by omega)
   refine⟨λe=>?_,f,d,?_⟩
   .have g:r=[]:=e;rw[g] at b;simp at b;exact c (.inr b.symm)
   .unfold Nd.sum;dsimp only;omega
theorem LP.load_fit {n:Nat} {J:Jn} {seq:Int} {B:List (List UInt8)} {w:World} {F:Ft} {p:Nat} {f:Pf} {R:Rp} (h:LP n J seq B w F p f R) {nd:Nd} (a:(R.load page).1=some nd):nd.fit/\(R.load page).2=0:=by
 unfold Rp.load at a ⊢;split at a
 .cases a
 .rename_i d
  rw[if_neg d];have b:(R.read page).2=0:=by simpa using d
  have e:=h.page b
  cases c:Zah (R.read page).1 with
  | none=>rw[c] at a;cases a
  | some n=>rw[c] at a;cases a;exact⟨readN_fit e c,rfl⟩
theorem Rp.load_none {R:Rp} (h:(R.load page).1=none):(R.load page).2≠0:=by
 unfold Rp.load at h ⊢;split
 .assumption
 .rename_i a
  rw[if_neg a] at h
  cases b:Zah (R.read page).1 with
  | none=>simp
  | some n=>rw[b] at h;cases h
theorem Nd.fit.len {n:Nd} (h:n.fit):0<n.l.length/\n.l.length<=446:=by have a:=List.length_pos_iff.2 h.some;have h2:=Zaz n.leaf n.l 0;have h3:=h.sum;unfold Nd.sum at h3;omega
end
section
variable {l:List En}
def atK (l:List En) (i:Nat):List UInt8:=(l[i]?.map (·.key)).getD []
theorem Zfv {i:Nat} (h:i<l.length):atK l i=l[i].key:=by rw[atK,List.getElem?_eq_getElem h];rfl
theorem range_atK (l:List En):(List.range l.length).map (atK l)=l.map (·.key):=by
 apply Uo
 .simp
 .intro i b a;simp only[List.getElem_map,List.getElem_range];exact Zfv (by simpa using a)
theorem count_range (l:List En) (f:List UInt8->Bool):(List.range l.length).countP (λi=>f (atK l i))=l.countP (λe=>f e.key):=by
 have a:(List.range l.length).countP (λi=>f (atK l i))=((List.range l.length).map (atK l)).countP f:=by rw[List.countP_map];rfl
 have b:l.countP (λe=>f e.key)=(l.map (·.key)).countP f:=by rw[List.countP_map];rfl
 rw[a,b,range_atK]
theorem count_take {α:Type} (f:α->Bool):∀(l:List α),l.Pairwise (λa b=>f b=true->f a=true)->l.countP f=(l.takeWhile f).length
 | [],_=>rfl
 | a::r,h=>by
  rw[Uk] at h;rw[List.countP_cons,List.takeWhile_cons]
  cases d:f a with
  | true =>
   rw[if_pos rfl,if_pos rfl,List.length_cons,count_take f r h.2]
  | false =>
   have:r.countP f=0:=by
    rw[List.countP_eq_zero];intro b e c;have:=h.1 b e c
    rw[d] at this;cases this
   simp[this]
theorem behind_leaf (h:Srt ⟨true,l⟩) (key:List UInt8):(List.range l.length).countP (λi=>!!decide (atK l i<key))=(l.takeWhile λe=>decide (e.key<key)).length:=by
 have g:=count_range l (λk=>!!decide (k<key));rw[g];have j:l.countP (λe=>!!decide (e.key<key))=l.countP (λe=>decide (e.key<key)):=by congr 1;funext e;simp
 rw[j];refine count_take _ l ?_;have d:(l.map (·.key)).Pairwise (· < ·):=h
 rw[List.pairwise_map] at d;refine d.imp λ{a b} c f=>?_;simp only[decide_eq_true_eq] at f ⊢;exact Vy c f
theorem behind_inner (h:Srt ⟨false,l⟩) (key:List UInt8):(List.range l.tail.length).countP (λi=>!decide (key<atK l (i+1)))=(l.tail.takeWhile λe=>!decide (key<e.key)).length:=by
 have e:∀i,atK l (i+1)=atK l.tail i:=λi=>by unfold atK;cases l<;>simp
 have g:(List.range l.tail.length).countP (λi=>!decide (key<atK l (i+1)))=(List.range l.tail.length).countP (λi=>(λk=>!decide (key<k)) (atK l.tail i)):=by congr 1;funext i;rw[e]
 rw[g,count_range l.tail (λk=>!decide (key<k))];refine count_take _ l.tail ?_;have d:(l.tail.map (·.key)).Pairwise (· < ·):=h
 rw[List.pairwise_map] at d;refine d.imp λ{a b} c f=>?_;simp only[Bool.not_eq_true',decide_eq_false_iff_not] at f ⊢;exact λj=>f (Vy j c)
theorem mono_leaf (h:Srt ⟨true,l⟩) (key:List UInt8):∀a b,a<=b->b<l.length->(!decide (atK l a<key))=true->(!decide (atK l b<key))=true:=by
 intro a b g e c;rcases Ua a b with d | i
 .have f:(l.map (·.key)).Pairwise (· < ·):=h
  rw[List.pairwise_map] at f;have:=List.pairwise_iff_getElem.1 f a b (by omega) e d
  rw[Zfv (by omega)] at c;rw[Zfv e];simp only[Bool.not_eq_true',decide_eq_false_iff_not] at c ⊢;exact λj=>c (Vy this j)
 .obtain rfl:a=b:=by omega
  exact c
theorem mono_inner (h:Srt ⟨false,l⟩) (key:List UInt8):∀a b,a<=b->b<l.tail.length->decide (key<atK l (a+1))=true->decide (key<atK l (b+1))=true:=by
 intro a b j f c
 have e:∀i,atK l (i+1)=atK l.tail i:=λi=>by unfold atK;cases l<;>simp
 rw[e] at c ⊢;rcases Ua a b with d | k
 .have g:(l.tail.map (·.key)).Pairwise (· < ·):=h
  rw[List.pairwise_map] at g;have:=List.pairwise_iff_getElem.1 g a b (by omega) f d
  rw[Zfv (by omega)] at c;rw[Zfv f];simp only[decide_eq_true_eq] at c ⊢;exact Vy c this
 .obtain rfl:a=b:=by omega
  exact c
end
section
def Zn (l:List En) (i:Nat):Int:=(l[i]?.map (·.kid)).getD 0
def Zr (k:List UInt8):List En->List En
 | []=>[]
 | e::r=>{ e with key:=k }::r
def Rp.freeT (R:Rp) (page:Int):Int × Rp:=if page=R.root then (R.setRoot (-1)).2.free page else R.free page
def Rp.layL (R:Rp) (n:Nd):(List En × Int) × Rp:=R.layN (n.l.length+1) n
def Rp.joinN (R:Rp) (l:List En) (k i:Nat):(Int × List En) × Rp :=
 match R.load (Zn l i) with
 | (none,e)=>((e,l),R)
 | (some x,_)=>if 297<=x.sum then ((0,l),R) else
  match R.load (Zn l k) with
  | (none,e)=>((e,l),R)
  | (some a,_) =>
   match R.load (Zn l (k+1)) with
   | (none,e)=>((e,l),R)
   | (some b,_)=>if a.leaf≠b.leaf then ((103,l),R)
    else if (R.free (Zn l k)).1≠0 then (((R.free (Zn l k)).1,l),(R.free (Zn l k)).2)
    else if ((R.free (Zn l k)).2.free (Zn l (k+1))).1≠0 then ((((R.free (Zn l k)).2.free (Zn l (k+1))).1,l),((R.free (Zn l k)).2.free (Zn l (k+1))).2)
    else if (((R.free (Zn l k)).2.free (Zn l (k+1))).2.layL ⟨a.leaf,a.l++(if b.leaf then b.l else Zr (atK l (k+1)) b.l)⟩).1.2≠0 then
     (((((R.free (Zn l k)).2.free (Zn l (k+1))).2.layL ⟨a.leaf,a.l++(if b.leaf then b.l else Zr (atK l (k+1)) b.l)⟩).1.2,l),(((R.free (Zn l k)).2.free (Zn l (k+1))).2.layL ⟨a.leaf,a.l++(if b.leaf then b.l else Zr (atK l (k+1)) b.l)⟩).2)
    else ((0,l.take k++(Zr (atK l k) (((R.free (Zn l k)).2.free (Zn l (k+1))).2.layL ⟨a.leaf,a.l++(if b.leaf then b.l else Zr (atK l (k+1)) b.l)⟩).1.1++l.drop (k+2))),(((R.free (Zn l k)).2.free (Zn l (k+1))).2.layL ⟨a.leaf,a.l++(if b.leaf then b.l else Zr (atK l (k+1)) b.l)⟩).2)
def Rp.relay (R:Rp) (page:Int) (n:Nd):(List En × Int) × Rp:=if (R.freeT page).1≠0 then (([],(R.freeT page).1),(R.freeT page).2) else (R.freeT page).2.layL n
abbrev Chg:=List En->Nat->Bool->List En
def Yr (l M:List En) (i:Nat):List En:=l.take i++(Zr (atK l i) M++l.drop (i+1))
def Rp.anewN (c:Chg) (key:List UInt8):Nat->Rp->Int->(List En × Int) × Rp
 | 0,R,_=>(([],103),R)
 | f+1,R,page =>
  match R.load page with
  | (none,e)=>(([],e),R)
  | (some n,_) =>
   if n.leaf then R.relay page ⟨true,c n.l (n.behind key).1 (n.behind key).2⟩
   else if (Rp.anewN c key f R (Zn n.l (n.behind key).1)).1.2≠0 then (([],(Rp.anewN c key f R (Zn n.l (n.behind key).1)).1.2),(Rp.anewN c key f R (Zn n.l (n.behind key).1)).2)
   else if (Rp.anewN c key f R (Zn n.l (n.behind key).1)).1.1.length=1/\1<(Yr n.l (Rp.anewN c key f R (Zn n.l (n.behind key).1)).1.1 (n.behind key).1).length then
    if ((Rp.anewN c key f R (Zn n.l (n.behind key).1)).2.joinN (Yr n.l (Rp.anewN c key f R (Zn n.l (n.behind key).1)).1.1 (n.behind key).1) (min (n.behind key).1 ((Yr n.l (Rp.anewN c key f R (Zn n.l (n.behind key).1)).1.1 (n.behind key).1).length - 2)) (n.behind key).1).1.1≠0 then
     (([],((Rp.anewN c key f R (Zn n.l (n.behind key).1)).2.joinN (Yr n.l (Rp.anewN c key f R (Zn n.l (n.behind key).1)).1.1 (n.behind key).1) (min (n.behind key).1 ((Yr n.l (Rp.anewN c key f R (Zn n.l (n.behind key).1)).1.1 (n.behind key).1).length - 2)) (n.behind key).1).1.1),((Rp.anewN c key f R (Zn n.l (n.behind key).1)).2.joinN (Yr n.l (Rp.anewN c key f R (Zn n.l (n.behind key).1)).1.1 (n.behind key).1) (min (n.behind key).1 ((Yr n.l (Rp.anewN c key f R (Zn n.l (n.behind key).1)).1.1 (n.behind key).1).length - 2)) (n.behind key).1).2)
    else ((Rp.anewN c key f R (Zn n.l (n.behind key).1)).2.joinN (Yr n.l (Rp.anewN c key f R (Zn n.l (n.behind key).1)).1.1 (n.behind key).1) (min (n.behind key).1 ((Yr n.l (Rp.anewN c key f R (Zn n.l (n.behind key).1)).1.1 (n.behind key).1).length - 2)) (n.behind key).1).2.relay page ⟨false,((Rp.anewN c key f R (Zn n.l (n.behind key).1)).2.joinN (Yr n.l (Rp.anewN c key f R (Zn n.l (n.behind key).1)).1.1 (n.behind key).1) (min (n.behind key).1 ((Yr n.l (Rp.anewN c key f R (Zn n.l (n.behind key).1)).1.1 (n.behind key).1).length - 2)) (n.behind key).1).1.2⟩
   else (Rp.anewN c key f R (Zn n.l (n.behind key).1)).2.relay page ⟨false,Yr n.l (Rp.anewN c key f R (Zn n.l (n.behind key).1)).1.1 (n.behind key).1⟩
def Rp.topN:Nat->Rp->List En->(List En × Int) × Rp
 | 0,R,l=>((l,0),R)
 | f+1,R,l=>if l.length<=1 then ((l,0),R) else if (R.layL ⟨false,l⟩).1.2≠0 then R.layL ⟨false,l⟩ else Rp.topN f (R.layL ⟨false,l⟩).2 (R.layL ⟨false,l⟩).1.1
def Rp.dropN:Nat->Rp->Int->Int × Rp
 | 0,R,_=>(0,R)
 | f+1,R,root=>if root<0 then (0,R) else
  match R.load root with
  | (none,e)=>(e,R)
  | (some n,_)=>if n.leaf=true\/1<n.l.length then (0,R)
   else if (R.setRoot (Zn n.l 0)).1≠0 then (R.setRoot (Zn n.l 0))
   else if ((R.setRoot (Zn n.l 0)).2.free root).1≠0 then (R.setRoot (Zn n.l 0)).2.free root
   else Rp.dropN f ((R.setRoot (Zn n.l 0)).2.free root).2 (Zn n.l 0)
def Zfo:List En->Int
 | []=>-1
 | e::_=>e.kid
def Rp.growN (R:Rp) (c:Chg) (key:List UInt8):Int × Rp :=
 if (R.anewN c key 41 R.root).1.2≠0 then ((R.anewN c key 41 R.root).1.2,(R.anewN c key 41 R.root).2)
 else if ((R.anewN c key 41 R.root).2.topN 4 (R.anewN c key 41 R.root).1.1).1.2≠0 then (((R.anewN c key 41 R.root).2.topN 4 (R.anewN c key 41 R.root).1.1).1.2,((R.anewN c key 41 R.root).2.topN 4 (R.anewN c key 41 R.root).1.1).2)
 else if (((R.anewN c key 41 R.root).2.topN 4 (R.anewN c key 41 R.root).1.1).2.setRoot (Zfo ((R.anewN c key 41 R.root).2.topN 4 (R.anewN c key 41 R.root).1.1).1.1)).1≠0 then ((R.anewN c key 41 R.root).2.topN 4 (R.anewN c key 41 R.root).1.1).2.setRoot (Zfo ((R.anewN c key 41 R.root).2.topN 4 (R.anewN c key 41 R.root).1.1).1.1)
 else (((R.anewN c key 41 R.root).2.topN 4 (R.anewN c key 41 R.root).1.1).2.setRoot (Zfo ((R.anewN c key 41 R.root).2.topN 4 (R.anewN c key 41 R.root).1.1).1.1)).2.dropN 1024 (Zfo ((R.anewN c key 41 R.root).2.topN 4 (R.anewN c key 41 R.root).1.1).1.1)
def Rp.getN (key:List UInt8):Nat->Rp->Int->(List UInt8 × Bool) × Int
 | 0,_,_=>(([],false),103)
 | f+1,R,page=>if page<0 then (([],false),0) else
  match R.load page with
  | (none,e)=>(([],false),e)
  | (some n,_)=>if n.leaf then (if (n.behind key).2 then (((n.l[(n.behind key).1]?.map (·.val)).getD [],true),0) else (([],false),0)) else Rp.getN key f R (Zn n.l (n.behind key).1)
def putC (key val:List UInt8):Chg:=λl i is=>if is then l.modify i (λe=>{ e with val:=val }) else l.take i++⟨key,val,0⟩::l.drop i
def delC:Chg:=λl i is=>if is then l.take i++l.drop (i+1) else l
theorem Rp.alloc_le2 {R:Rp} (h1:R.pages.length<=1023):0<=R.alloc.1.1/\R.alloc.1.1<65536:=by
 unfold Rp.alloc
 cases a:freeR R.pages with
 | none=>exact⟨Int.le_refl _,(by decide:(0:Int)<65536)⟩
 | some k =>
  have:=(List.findIdx?_eq_some_iff_getElem.1 a).1;dsimp only;omega
theorem Rp.alloc_len (R:Rp):R.alloc.2.pages.length=R.pages.length:=by
 unfold Rp.alloc;split
 .simp[Rp.lay]
 .rfl
theorem Rp.write_len (R:Rp) (page:Int) (b:List UInt8):(R.write page b).2.pages.length=R.pages.length:=by
 unfold Rp.write;split
 .rfl
 .split
  .rfl
  .simp[Rp.lay]
theorem Zgt:∀(f:Nat) (R:Rp) (n:Nd),R.pages.length<=1023->(∀e∈n.l,e.few)->(∀e∈(R.layN f n).1.1,e.few)/\(R.layN f n).2.pages.length=R.pages.length
 | 0,R,n,_,_=>⟨by simp[Rp.layN],rfl⟩
 | f+1,R,n,c,d=>by
  have b:=Zgt f R ⟨n.leaf,n.l.take n.cut⟩ c λe a=>d e (Vr a);have h2:=Zgt f (R.layN f ⟨n.leaf,n.l.take n.cut⟩).2 ⟨n.leaf,n.l.drop n.cut⟩ (by rw[b.2];exact c) λe a=>d e (Vt a);rw[Rp.layN];split
  .exact⟨by simp,rfl⟩
  .rename_i i
   split
   .split
    .exact⟨by simp,b.2⟩
    .refine⟨λe a=>?_,h2.2.trans b.2⟩
     rcases List.mem_append.1 a with a | a
     .exact b.1 e a
     .exact h2.1 e a
   .have j:n.key0.length<=80:=by
     unfold Nd.key0
     cases k:n.l with
     | nil=>simp
     | cons x r =>
      have:=(d x (by rw[k];simp)).key;simpa using this
    have g:=Rp.alloc_le2 c;have h:∀e∈[(⟨n.key0,[],R.alloc.1.1⟩:En)],e.few:=λe a=>by rw[List.mem_singleton.1 a];exact⟨j,by simp,g.1,g.2⟩
    split
    .exact⟨h,(Rp.write_len _ _ _).trans (Rp.alloc_len R)⟩
    .exact⟨h,Rp.alloc_len R⟩
theorem Zeg (leaf:Bool):∀(l:List En) (i j:Nat),0<i->0<j->Zg leaf i l=Zg leaf j l
 | [],_,_,_,_=>rfl
 | e::r,i,j,a,b=>by
  rw[Zg,Zg,Zeg leaf r (i+1) (j+1) (by omega) (by omega)]
  have:e.size leaf i=e.size leaf j:=by
   unfold En.size;cases leaf
   .simp[Nat.ne_of_gt a,Nat.ne_of_gt b]
   .rfl
  rw[this]
theorem Zbf (leaf:Bool) (l:List En) (j:Nat):Zg leaf 0 l<=Zg leaf j l:=by
 cases l with
 | nil=>exact Va _
 | cons e r =>
  rcases Nat.eq_zero_or_pos j with rfl | a
  .exact Va _
  .rw[Zg,Zg,Zeg leaf r (0+1) (j+1) (by omega) (by omega)]
   have:e.size leaf 0<=e.size leaf j:=by
    unfold En.size;cases leaf
    .simp[Nat.ne_of_gt a];omega
    .simp
   omega
theorem Zad (leaf:Bool) (l:List En) (j:Nat) (hf:∀e∈l,e.key.length<=80):Zg leaf j l<=Zg leaf 0 l+if leaf then 0 else 81:=by
 cases l with
 | nil=>simp[Zg]
 | cons e r =>
  rcases Nat.eq_zero_or_pos j with rfl | a
  .omega
  .rw[Zg,Zg,Zeg leaf r (0+1) (j+1) (by omega) (by omega)]
   have:=hf e (Vi ..)
   have:e.size leaf j<=e.size leaf 0+if leaf then 0 else 81:=by
    unfold En.size;cases leaf
    .simp[Nat.ne_of_gt a];omega
    .simp
   omega
theorem Nd.cut_parts {n:Nd} (h:893<n.sum) (hf:∀e∈n.l,e.key.length<=80/\e.val.length<=200):297<=Zg n.leaf 0 (n.l.take n.cut)/\297<=Zg n.leaf 0 (n.l.drop n.cut)/\Zg n.leaf 0 (n.l.take n.cut)+Zg n.leaf 0 (n.l.drop n.cut)<=n.sum:=by
 obtain⟨a,b,c,d,e⟩:=Nd.cut_spec h hf;have h1:=Ym n.leaf (n.l.take n.cut) (n.l.drop n.cut) 0
 rw[List.take_append_drop,List.length_take,Nat.min_eq_left (by omega),Nat.zero_add] at h1;have h2:=Zbf n.leaf (n.l.drop n.cut) n.cut
 have f:=Zad n.leaf (n.l.drop n.cut) n.cut λe i=>(hf e (Vt i)).1;unfold Nd.sum at *
 cases g:n.leaf with
 | true =>
  rw[g] at h1 h2 f h c d;simp only[if_true] at f;omega
 | false =>
  have:=e g;rw[g] at h1 h2 f h c d this;simp only[Bool.false_eq_true,if_false] at f;omega
theorem Zdu:∀(f:Nat) (R:Rp) (n:Nd),(∀e∈n.l,e.few)->(n.sum<=893->(R.layN f n).1.1.length<=1)/\(297<=n.sum->(R.layN f n).1.1.length*297<=n.sum)
 | 0,R,n,_=>⟨λ_=>by simp[Rp.layN],λ_=>by simp[Rp.layN]⟩
 | f+1,R,n,b=>by
  rw[Rp.layN];split
  .exact⟨λ_=>by simp,λ_=>by simp⟩
  .split
   .rename_i d
    refine⟨λh=>by omega,λ_=>?_⟩;obtain⟨g,i,j⟩:=Nd.cut_parts d λe a=>En.few2 (b e a);have h1:=(Zdu f R ⟨n.leaf,n.l.take n.cut⟩ λe a=>b e (Vr a)).2 g
    have c:=(Zdu f (R.layN f ⟨n.leaf,n.l.take n.cut⟩).2 ⟨n.leaf,n.l.drop n.cut⟩ λe a=>b e (Vt a)).2 i;unfold Nd.sum at h1 c;dsimp only at h1 c;split
    .simp
    .rw[List.length_append];omega
   .split
    .exact⟨λ_=>by simp,λh=>by simpa using h⟩
    .exact⟨λ_=>by simp,λh=>by simpa using h⟩
theorem layL_bounds {R:Rp} {n:Nd} (b:R.pages.length<=1023) (hf:∀e∈n.l,e.few) {m:Nat} (hm:n.sum<(m+1)*297) (c:1<=m):(∀e∈(R.layL n).1.1,e.few)/\(R.layL n).1.1.length<=m/\(R.layL n).2.pages.length=R.pages.length:=by
 obtain⟨d,f⟩:=Zgt (n.l.length+1) R n b hf;obtain⟨g,i⟩:=Zdu (n.l.length+1) R n hf;refine⟨d,?_,f⟩;unfold Rp.layL;by_cases h:n.sum<=893
 .have:=g h;omega
 .have:=i (by omega)
  have:(R.layN (n.l.length+1) n).1.1.length<m+1:=by apply Nat.lt_of_mul_lt_mul_right (a:=297);omega
  omega
end
section
variable {l M:List En}{key:List UInt8}{n:Nd}{k s:Nat}
structure Rp.good (R:Rp):Prop where
 few:R.pages.length<=1023
 len:∀(k:Nat) b,R.pages[k]?=some (some b)->b.length=896
section
variable {R : Rp}
theorem Rp.good.put {b:List UInt8} (h:R.good) (hb:b.length=896):Rp.good (R.lay k b):=by
 refine⟨by simp[Rp.lay];exact h.few,λj c a=>?_⟩;unfold Rp.lay at a;dsimp only at a;rw[List.getElem?_set] at a;split at a
 .split at a
  .simp only[Option.some.injEq] at a;rw[<-a];exact hb
  .cases a
 .exact h.len j c a
theorem Rp.good.alloc (h:R.good):Rp.good R.alloc.2:=by
 unfold Rp.alloc;split
 .exact h.put Zdb
 .exact h
theorem Rp.good.write (h:R.good) (page:Int) (b:List UInt8):Rp.good (R.write page b).2:=by
 unfold Rp.write;split
 .exact h
 .split
  .exact h
  .rename_i a;exact h.put (by simpa using a)
theorem Rp.good.free (h:R.good) (page:Int):Rp.good (R.free page).2:=by
 unfold Rp.free;split
 .exact h
 .split
  .exact h
  .refine⟨by simp;exact h.few,λj c a=>?_⟩
   dsimp only at a;rw[List.getElem?_set] at a;split at a
   .split at a
    .cases a
    .cases a
   .exact h.len j c a
theorem Rp.good.setRoot (h:R.good) (page:Int):Rp.good (R.setRoot page).2:=by
 unfold Rp.setRoot;split
 .exact h
 .exact⟨h.few,h.len⟩
theorem Rp.good.freeT (h:R.good) (page:Int):Rp.good (R.freeT page).2:=by
 unfold Rp.freeT;split
 .exact(h.setRoot _).free _
 .exact h.free _
theorem Rp.good.layN:∀(f:Nat) {R:Rp} (n:Nd),R.good->Rp.good (R.layN f n).2
 | 0,R,n,h=>h
 | f+1,R,n,h=>by
  rw[Rp.layN];split
  .exact h
  .split
   .split
    .exact Rp.good.layN f _ h
    .exact Rp.good.layN f _ (Rp.good.layN f _ h)
   .split
    .exact(h.alloc).write _ _
    .exact h.alloc
theorem Rp.good.layL (h:R.good) (n:Nd):Rp.good (R.layL n).2:=Rp.good.layN _ n h
theorem Rp.good.load (h:R.good) {page:Int} {nd:Nd} (a:(R.load page).1=some nd):nd.fit:=by
 unfold Rp.load at a;split at a
 .cases a
 .rename_i g
  have c:(R.read page).2=0:=by simpa using g
  cases d:Zah (R.read page).1 with
  | none=>rw[d] at a;cases a
  | some n =>
   rw[d] at a;cases a;refine readN_fit ?_ d
   cases e:R.taken page with
   | false=>rw[Rp.read,if_pos e] at c;cases c
   | true =>
    obtain⟨i,j,b,f⟩:=Zca e;have:(R.read page).1=b:=by rw[Rp.read,if_neg (by simp[e]),List.getD_eq_getElem?_getD,f];rfl
    rw[this];exact h.len _ b f
theorem LP.good {n:Nat} {J:Jn} {seq:Int} {B:List (List UInt8)} {w:World} {F:Ft} {p:Nat} {f:Pf} (h:LP n J seq B w F p f R):R.good:=by have a:=h.n1;obtain⟨P,_,_,c⟩:=h;exact⟨a,λk b d=>(c.pagen k b d).1⟩
end
theorem Qq (k:List UInt8) (l:List En):(Zr k l).length=l.length:=by cases l<;>rfl
theorem Zig {k:List UInt8} (hk:k.length<=80) (h:∀e∈l,e.few):∀e∈Zr k l,e.few:=by
 cases l with
 | nil=>exact h
 | cons x r =>
  intro e a;rcases List.mem_cons.1 a with rfl | a
  .have:=h x (Vi ..);exact⟨hk,this.val,this.k0,this.k1⟩
  .exact h e (Vj _ a)
theorem Zey (h:∀e∈l,e.few) (i:Nat):(atK l i).length<=80:=by
 unfold atK
 cases a:l[i]? with
 | none=>simp
 | some e=>exact(h e (List.mem_of_getElem? a)).key
theorem Zfg (h:∀e∈l,e.few) (i:Nat):0<=Zn l i/\Zn l i<65536:=by
 unfold Zn
 cases a:l[i]? with
 | none=>exact⟨Int.le_refl _,(by decide:(0:Int)<65536)⟩
 | some e =>
  have:=h e (List.mem_of_getElem? a);exact⟨this.k0,this.k1⟩
theorem Zeb:∀(l:List En) (i:Nat),(∀e∈l,e.few)->Zg false i l<=83*l.length
 | [],_,_=>by simp[Zg]
 | e::r,i,h=>by have b:=En.size_in (leaf:=false) rfl i e (h e (Vi ..)).key;have h2:=Zeb r (i+1) λx a=>h x (Vj _ a);rw[Zg,List.length_cons];omega
theorem merge_few (k d:Nat) (hl:∀e∈l,e.few) (hM:∀e∈M,e.few) (hk:key.length<=80):∀e∈l.take k++(Zr key M++l.drop d),e.few:=by
 intro e a;rcases List.mem_append.1 a with a | a
 .exact hl e (Vr a)
 .rcases List.mem_append.1 a with a | a
  .exact Zig hk hM e a
  .exact hl e (Vt a)
theorem Zgw (k d:Nat) (i:k<d) (c:d<=l.length) (hM:∀e∈M,e.few) (hk:key.length<=80):Zg false 0 (l.take k++(Zr key M++l.drop d))<=Zg false 0 l+83*M.length:=by
 have b:(l.take k).length=k:=by rw[List.length_take];omega
 have a:(l.take d).length=d:=by rw[List.length_take];omega
 have f:=Ym false (l.take d) (l.drop d) 0;rw[List.take_append_drop,a,Nat.zero_add] at f;have j:Zg false 0 (l.take k)<=Zg false 0 (l.take d):=by have:=Zfd false (l.take d) k;rwa[List.take_take,Nat.min_eq_left (by omega)] at this
 have g:=Zeb (Zr key M) k (Zig hk hM);rw[Qq] at g
 have m:Zg false (k+(Zr key M).length) (l.drop d)<=Zg false d (l.drop d):=by
  rcases Nat.eq_zero_or_pos (k+(Zr key M).length) with h | h
  .rw[h];exact Zbf _ _ _
  .rw[Zeg false _ _ d h (by omega)];exact Va _
 rw[Ym,Ym,b,Nat.zero_add];omega
structure Rowy (s:Nat) (l:List En):Prop where
 few:∀e∈l,e.few
 sum:Zg false 0 l<=s
theorem Rowy.len (h:Rowy s l):2*l.length<=s:=Vk (Zaz false l 0) h.sum
theorem Zhx {k:List UInt8} (hk:k.length<=80) (leaf:Bool) (j:Nat) (hl:leaf=false):Zg leaf j (Zr k l)<=Zg leaf j l+80:=by
 cases l with
 | nil=>simp[Zr,Zg]
 | cons x r =>
  subst hl;rw[Zr,Zg,Zg]
  have:En.size false j { x with key:=k }<=x.size false j+80:=by
   unfold En.size;simp only[Bool.false_eq_true,if_false]
   split<;>omega
  omega
theorem joint {a b:Nd} (f:a.fit) (hb:b.fit) (c:a.leaf=b.leaf) (hk:key.length<=80):(∀e∈a.l++(if b.leaf then b.l else Zr key b.l),e.few)/\(Nd.mk a.leaf (a.l++(if b.leaf then b.l else Zr key b.l))).sum<=1947:=by
 have g:=f.sum;have h2:=hb.sum;unfold Nd.sum at *;dsimp only;rw[Ym]
 cases d:b.leaf with
 | true =>
  rw[d] at h2;rw[c,d] at g ⊢;simp only[if_true];refine⟨λe c=>(List.mem_append.1 c).elim (f.few e) (hb.few e),?_⟩;have:=Zad true b.l (0+a.l.length) λe c=>(hb.few e c).key
  simp only[if_true] at this;omega
 | false =>
  rw[d] at h2;rw[c,d] at g ⊢;simp only[Bool.false_eq_true,if_false];refine⟨λe c=>(List.mem_append.1 c).elim (f.few e) (Zig hk hb.few e),?_⟩;have h3:=Zad false b.l (0+a.l.length) λe c=>(hb.few e c).key
  have h:=Zhx (l:=b.l) hk false (0+a.l.length) rfl;simp only[Bool.false_eq_true,if_false] at h3;omega
theorem Zhn {R:Rp} (c:R.good) (hl:Rowy s l) {i:Nat} (hk:k+1<l.length):Rp.good (R.joinN l k i).2/\Rowy (s+498) (R.joinN l k i).1.2:=by
 have d:Rowy (s+498) l:=⟨hl.few,by have:=hl.sum;omega⟩;unfold Rp.joinN;split
 .exact⟨c,d⟩
 .split
  .exact⟨c,d⟩
  .split
   .exact⟨c,d⟩
   .rename_i a u f
    split
    .exact⟨c,d⟩
    .rename_i b v g
     split
     .exact⟨c,d⟩
     .rename_i h
      have r:=c.load (by rw[f]);have fb:=c.load (by rw[g]);have g1:=c.free (Zn l k);have g2:=g1.free (Zn l (k+1));obtain⟨o,t⟩:=joint r fb (by simpa using h) (Zey hl.few (k+1));obtain⟨e,j⟩:∃e,e=if b.leaf then b.l else Zr (atK l (k+1)) b.l:=⟨_,rfl⟩
      rw[<-j] at o t ⊢;split
      .exact⟨g1,d⟩
      .split
       .exact⟨g2,d⟩
       .obtain⟨p,w,x⟩:=layL_bounds (m:=6) g2.few (n:=⟨a.leaf,a.l++e⟩) o (by omega) (by omega)
        have q:=g2.layL ⟨a.leaf,a.l++e⟩;split
        .exact⟨q,d⟩
        .refine⟨q,merge_few k (k+2) hl.few p (Zey hl.few k),?_⟩
         refine Vk (Zgw k (k+2) (by omega) (by omega) p (l:=l) (Zey hl.few k)) ?_;have:=hl.sum
         omega
def ChgOk (c:Chg):Prop:=∀l i is,(∀e∈l,e.few)->Zg true 0 l<=893->i<=l.length->(is=true->i<l.length)->(∀e∈c l i is,e.few)/\Zg true 0 (c l i is)<=1175
theorem Zht {R:Rp} (a:R.good) (page:Int) (hf:∀e∈n.l,e.few) (hs:n.sum<=1484):Rp.good (R.relay page n).2/\(∀e∈(R.relay page n).1.1,e.few)/\(R.relay page n).1.1.length<=4:=by
 unfold Rp.relay;split
 .exact⟨a.freeT page,by simp,by simp⟩
 .obtain⟨b,c,d⟩:=layL_bounds (m:=4) (a.freeT page).few hf (by omega) (by omega);exact⟨Rp.good.layN _ n (a.freeT page),b,c⟩
theorem Zff (h:n.l≠[]) (hl:n.leaf=false) (key:List UInt8):(n.behind key).1<n.l.length:=by
 unfold Nd.behind;rw[hl];simp only[Bool.false_eq_true,if_false]
 cases a:n.l with
 | nil=>exact absurd a h
 | cons x r =>
  have:=Ui (l:=r) λe=>!decide (key<e.key);have:=this.length_le;simp;omega
theorem Zbo (hl:n.leaf=true) (key:List UInt8):(n.behind key).1<=n.l.length/\((n.behind key).2=true->(n.behind key).1<n.l.length):=by
 unfold Nd.behind;rw[hl];simp only[if_true];have h1:=(Ui (l:=n.l) λe=>decide (e.key<key)).length_le
 refine⟨h1,λh=>?_⟩;rcases Ua (n.l.takeWhile λe=>decide (e.key<key)).length n.l.length with a | a
 .exact a
 .have h3:=List.takeWhile_append_dropWhile (p:=λe:En=>decide (e.key<key)) (l:=n.l);have h4:=Vs List.length h3;rw[List.length_append] at h4;have b:n.l.dropWhile (λe=>decide (e.key<key))=[]:=Vh (by omega);rw[b] at h;simp at h
theorem Zhg {c:Chg} (hc:ChgOk c) (key:List UInt8):∀(f:Nat) {R:Rp} (d:Int),R.good->Rp.good (R.anewN c key f d).2/\(∀e∈(R.anewN c key f d).1.1,e.few)/\(R.anewN c key f d).1.1.length<=4
 | 0,R,d,h=>⟨h,by simp[Rp.anewN],by simp[Rp.anewN]⟩
 | f+1,R,d,h=>by
  rw[Rp.anewN];split
  .exact⟨h,by simp,by simp⟩
  .rename_i n e x
   have g:=h.load (by rw[x]);split
   .rename_i o
    obtain⟨a,b⟩:=Zbo o key;obtain⟨y,z⟩:=hc n.l _ _ g.few (by have:=g.sum;unfold Nd.sum at this;rw[o] at this;exact this) a b
    exact Zht h d y (by unfold Nd.sum;dsimp only;omega)
   .rename_i o
    have j:n.leaf=false:=by simpa using o
    have A:=Zff g.some j key;obtain⟨p,q,B⟩:=Zhg hc key f (Zn n.l (n.behind key).1) h
    have r:Rowy (893+332) (Yr n.l (R.anewN c key f (Zn n.l (n.behind key).1)).1.1 (n.behind key).1):=by
     refine⟨merge_few _ _ g.few q (Zey g.few _),?_⟩;have h1:=Zgw (l:=n.l) (n.behind key).1 ((n.behind key).1+1) (by omega) (by omega) q (Zey g.few (n.behind key).1)
     have m:=g.sum;unfold Nd.sum at m;rw[j] at m;unfold Yr;omega
    split
    .exact⟨p,by simp,by simp⟩
    .split
     .rename_i u
      have t:Rowy (893+83) (Yr n.l (R.anewN c key f (Zn n.l (n.behind key).1)).1.1 (n.behind key).1):=by
       refine⟨r.few,?_⟩;have h1:=Zgw (l:=n.l) (n.behind key).1 ((n.behind key).1+1) (by omega) (by omega) q (Zey g.few (n.behind key).1)
       have m:=g.sum;unfold Nd.sum at m;rw[j] at m;rw[u.1] at h1;unfold Yr;omega
      obtain⟨v,w⟩:=Zhn p t (k:=min (n.behind key).1 ((Yr n.l (R.anewN c key f (Zn n.l (n.behind key).1)).1.1 (n.behind key).1).length - 2)) (i:=(n.behind key).1) (by have:=u.2;omega);split
      .exact⟨v,by simp,by simp⟩
      .exact Zht v d w.few (by have:=w.sum;unfold Nd.sum;dsimp only;omega)
     .exact Zht p d r.few (by have:=r.sum;unfold Nd.sum;dsimp only;omega)
end
section
abbrev KV:=List UInt8 × List UInt8
def rowN (leaf:Bool) (to_:List UInt8) (rec:Int->Int->(List KV × Bool) × Int):List En->Int->(List KV × Bool) × Int
 | [],left=>(([],true),left)
 | x::r,left =>
  if leaf then (if to_≠[]/\¬x.key<to_ then (([],false),left) else (((x.key,x.val)::(rowN leaf to_ rec r left).1.1,(rowN leaf to_ rec r left).1.2),(rowN leaf to_ rec r left).2))
  else if (rec x.kid left).1.2=false then rec x.kid left
  else (((rec x.kid left).1.1++(rowN leaf to_ rec r (rec x.kid left).2).1.1,(rowN leaf to_ rec r (rec x.kid left).2).1.2),(rowN leaf to_ rec r (rec x.kid left).2).2)
def Rp.walkN (R:Rp) (from_ to_:List UInt8):Nat->Int->Int->(List KV × Bool) × Int
 | 0,_,left=>(([],false),left)
 | g+1,page,left =>
  match R.load page with
  | (none,_)=>(([],false),left - 1)
  | (some n,_)=>if g=0\/left - 1<0 then (([],false),left - 1) else rowN n.leaf to_ (Rp.walkN R from_ to_ g) (n.l.drop (n.behind from_).1) (left - 1)
def Rp.rangeN (R:Rp) (from_ to_:List UInt8):List KV:=if 0<=R.root then (R.walkN from_ to_ 42 R.root (R.pages.length:Int)).1.1 else []
end
end Go.Proofs.YtfaobkmojlhbnaaGreatDoor
