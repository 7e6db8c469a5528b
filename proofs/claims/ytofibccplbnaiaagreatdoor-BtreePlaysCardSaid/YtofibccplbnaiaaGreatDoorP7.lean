/- Contracts of the functions that the statements of this seat reach, part 7: each says what the call answers and what it leaves of the memory. -/
import Derived.Test.YtofibccplbnaiaaGreatDoorP6
import Derived.Test.YtofibccplbnaiaaGreatDoorP2
import Derived.Test.YtofibccplbnaiaaGreatDoorP4
import Derived.LoopTactic
import Derived.Test.YtofibccplbnaiaaGreatDoorP5
set_option linter.unusedVariables false
set_option linter.unusedSimpArgs false
set_option maxRecDepth 100000
set_option maxHeartbeats 64000000
namespace Go.Proofs.YtofibccplbnaiaaGreatDoor
section
open Go.RowKit
theorem run_make3 (w:World):(Instr.makeSlice 106 (.int .i64 3) (.int .i64 896)).run Tryz.prog w=.ok (.slice (some ⟨w.heap.size,0,none⟩) 3 896) (w.alloc (.cells (bv (pad [0,0,0])).toArray 5)):=by
 obtain⟨i,hi,hz,hs,hb⟩:=info_parts (P:=Tryz.prog) (e:=5) info_u8;have hr:=run_make (P:=Tryz.prog) w 106 5 i (.int .u8 0) Tryz.underlying106 hi hz .i64 .i64 3 896 (by omega) (by omega) (by rw[hb];omega) (by omega)
 rw[hr,hs]
 have e:madeCells (Value.int .u8 0).cells ((896:Int).toNat*1)=(bv (pad [0,0,0])).toArray:=by
  have:pad [0,0,0]=List.replicate 896 0:=by
   show List.replicate 3 0++List.replicate 893 0=_
   rw[List.replicate_append_replicate]
  rw[this];simp only[madeCells,bv,List.map_replicate,List.size_toArray,List.toArray_replicate,Value.cells];apply Array.ext
  ·simp
  ·intro i h1 h2;simp[Nat.mod_one]
 rw[e];rfl
theorem En.bytes_len (leaf:Bool) (i:Nat) (e:En):(e.bytes leaf i).length=e.size leaf i:=by
 unfold En.bytes En.size
 cases leaf<;>by_cases h:i=0<;>simp[h,Nat.pos_of_ne_zero]<;>omega
theorem Zez (leaf:Bool):∀(l:List En) (i:Nat),(Ya leaf i l).length=Zg leaf i l
 | [],_=>rfl
 | e::r,i=>by rw[Ya,List.length_append,En.bytes_len,Zez leaf r (i+1),Zg]
theorem Zfh (leaf:Bool):∀(a b:List En) (i:Nat),Ya leaf i (a++b)=Ya leaf i a++Ya leaf (i+a.length) b
 | [],b,i=>by simp[Ya]
 | e::r,b,i=>by rw[List.cons_append,Ya,Ya,Zfh leaf r b (i+1),List.length_cons,List.append_assoc];rw[show i+1+r.length=i+(r.length+1) by omega]
theorem Zgp (leaf:Bool) (l:List En) (k:Nat) (hk:k<l.length):Ya leaf 0 (l.take (k+1))=Ya leaf 0 (l.take k)++l[k].bytes leaf k:=by rw[List.take_add_one,List.getElem?_eq_getElem hk,Zfh,List.length_take,Nat.min_eq_left (by omega),Nat.zero_add];simp[Ya]
theorem En.size_ge (leaf:Bool) (i:Nat) (e:En):2≤e.size leaf i:=by
 unfold En.size;split
 ·omega
 ·split<;>omega
theorem Zav (leaf:Bool):∀(l:List En) (i:Nat),2*l.length≤Zg leaf i l
 | [],_=>by simp
 | e::r,i=>by have h1:=En.size_ge leaf i e;have h2:=Zav leaf r (i+1);rw[Zg,List.length_cons];omega
theorem Nd.bytes_pad (nd:Nd) (h:nd.sum≤893):nd.bytes=pad (nd.head++Ya nd.leaf 0 nd.l):=by
 have hl:(nd.head++Ya nd.leaf 0 nd.l).length=3+nd.sum:=by rw[List.length_append,Zez];rfl
 unfold Nd.bytes pad;rw[List.take_append,List.take_of_length_le (by omega),List.take_replicate];congr 2;omega
theorem Zdx (leaf:Bool) (l:List En) (k:Nat):Zg leaf 0 (l.take k)≤Zg leaf 0 l:=by have:=Yl leaf (l.take k) (l.drop k) 0;rw[List.take_append_drop] at this;omega
def Zag (leaf:Bool) (l:List En) (k:Nat):List UInt8:=(Nd.mk leaf l).head++Ya leaf 0 (l.take k)
theorem partB_len (leaf:Bool) (l:List En) (k:Nat):(Zag leaf l k).length=3+Zg leaf 0 (l.take k):=by rw[Zag,List.length_append,Zez];rfl
theorem layB_one {A:List UInt8} (x:UInt8) (i:Nat) (hi:i<A.length) (B:List UInt8):Zai (A++B) i [x]=A.set i x++B:=by unfold Zai;rw[List.take_append_of_le_length (by omega),List.set_eq_take_append_cons_drop,if_pos hi];simp[List.drop_append_of_le_length (show i+1≤A.length by omega)]
theorem Qf.put {w:World} {g:Nat} {A:List UInt8} (h:Qf w g A) (i:Nat) (x:UInt8) (hi:i<A.length):Qf (w.setCell ⟨g,i,none⟩ (.int .u8 (x.toNat:Int))) g (A.set i x):=by
 have hl:(A.set i x).length=A.length:=by simp
 have h1:=h.row.lay i [x] (by rw[Qv h.le];have:=h.le;simp;omega);have e:Zai (pad A) i [x]=pad (A.set i x):=by rw[pad,layB_one x i hi,pad,hl]
 rw[e] at h1;exact⟨h1,by rw[hl];exact h.le⟩
theorem Qf.drew {w:World} {g:Nat} {A:List UInt8} (h:Qf w g A):Qf w.drew g A:=h.keep rfl
theorem u8_wrap (n:Nat):IntKind.u8.wrap (n:Int)=((UInt8.ofNat n).toNat:Int):=by rw[UInt8.toNat_ofNat'];simp[IntKind.wrap,IntKind.signed,IntKind.bits]
theorem lowB_nat (n:Int) (h:0≤n):n % 256=((Yw n).toNat:Int):=by unfold Yw;rw[UInt8.toNat_ofNat'];omega
theorem lowB_nat2 (n:Int) (h:0≤n) (h2:n<65536):n / 256=((Yw (n / 256)).toNat:Int):=by unfold Yw;rw[UInt8.toNat_ofNat'];omega
theorem run_build_u8 (w:World) (x:UInt8):(Instr.buildSlice 106 1 #[(0,.int .u8 (x.toNat:Int))]).run Tryz.prog w=.ok (.slice (some ⟨w.heap.size,0,none⟩) 1 1) (w.alloc (.cells (bv [x]).toArray 5)):=by
 obtain⟨i,hi,hz,hs,hb⟩:=info_parts (P:=Tryz.prog) (e:=5) info_u8;refine run_buildSlice w _ _ 1 _ _ i _ Tryz.underlying106 hi hz (by rw[hs];decide) (by rw[hs];decide) ?_;rw[hs];simp[Instr.fill,Value.cells,bv,Array.range];apply Array.ext
 ·simp
 ·intro i h1 h2
  obtain rfl:i=0:=by simpa using h2
  simp
section
variable {o : Oper} {y : Nat → Option Bool} {a : Act} {w w' : World} {K : Act → World → Prop} {Q : Exit → Act → World → Prop} {X : Prop}
theorem Zfx (hw:Region.wanted o y=true) (x:Operand) (ho:o.op=.buildSlice 106 1 #[(0,x)]) (b:UInt8) (hx:a.eval x=.int .u8 (b.toNat:Int))
  (h:K (a.put o.dst (.slice (some ⟨w.heap.size,0,none⟩) 1 1)) (w.alloc (.cells (bv [b]).toArray 5))):if Region.wanted o y=true then Oper.wp Tryz.prog o a w K Q else X:=by
 refine arm_value hw ?_ h;unfold execOp;simp only[ho,List.map_toArray,List.map_cons,List.map_nil,hx,Sem.run_bind,run_build_u8 w b,Result.andThen_ok];rfl
end
theorem run_build2_u8 (w:World) (x y:UInt8):(Instr.buildSlice 106 2 #[(0,.int .u8 (x.toNat:Int)),(1,.int .u8 (y.toNat:Int))]).run Tryz.prog w=.ok (.slice (some ⟨w.heap.size,0,none⟩) 2 2) (w.alloc (.cells (bv [x,y]).toArray 5)):=by
 obtain⟨i,hi,hz,hs,hb⟩:=info_parts (P:=Tryz.prog) (e:=5) info_u8;refine run_buildSlice w _ _ 2 _ _ i _ Tryz.underlying106 hi hz (by rw[hs];decide) (by rw[hs];decide) ?_;rw[hs];simp[Instr.fill,Value.cells,bv,Array.range];apply Array.ext
 ·simp
 ·intro i h1 h2
  have:i=0∨i=1:=by simp at h2;omega
  rcases this with rfl | rfl<;>simp
theorem wpList_build2 {ops:Array Oper} {w:World} {Q:Exit→Act→World→Prop} {a:Act} {o:Oper} {rest:List Oper} (hg:o.guard=none) (x y:Operand) (ho:o.op=.buildSlice 106 2 #[(0,x),(1,y)])
  (p q:UInt8) (hx:a.eval x=.int .u8 (p.toNat:Int)) (hy:a.eval y=.int .u8 (q.toNat:Int))
  (h:wpList Tryz.prog ops Q rest (a.put o.dst (.slice (some ⟨w.heap.size,0,none⟩) 2 2)) (w.alloc (.cells (bv [p,q]).toArray 5))):wpList Tryz.prog ops Q (o::rest) a w:=by
 refine wpList_plain hg fun K hK=>?_;unfold Oper.wp execOp;simp only[ho,List.map_toArray,List.map_cons,List.map_nil,hx,hy,Sem.run_bind,run_build2_u8 w p q,Result.andThen_ok];exact hK _ _ h
structure BS (leaf:Bool) (s:Value) (nb g eb:Nat) (e:En) (W1:World) (A:List UInt8) (W:World):Prop where
 page:Qf W g A
 nd:W.heap[nb]?=some (ndO leaf s)
 en:W.heap[eb]?=some (enO e)
 turn:Zb (·=g) W1 W
 n1:nb≠g
 n2:eb≠g
section
variable {leaf : Bool} {s : Value} {nb g eb : Nat} {e : En} {W1 W W' : World} {A : List UInt8}
theorem BS.below (h:BS leaf s nb g eb e W1 A W) (hb:Below W.heap.size W W'):BS leaf s nb g eb e W1 A W' :=
 ⟨h.page.below hb,(hb.block _ (Za h.nd)).trans h.nd,(hb.block _ (Za h.en)).trans h.en,h.turn.trans (Zb.of_below hb),h.n1,h.n2⟩
theorem BS.drew (h:BS leaf s nb g eb e W1 A W):BS leaf s nb g eb e W1 A W.drew:=⟨h.page.drew,h.nd,h.en,h.turn.drew,h.n1,h.n2⟩
theorem BS.lay (h:BS leaf s nb g eb e W1 A W) (v:List UInt8) (hv:A.length+v.length≤896):BS leaf s nb g eb e W1 (A++v) (W.setCells g A.length (bv v)):=by have t:=Zu W g A.length (bv v);exact⟨h.page.lay v hv,(t.block _ (Za h.nd) h.n1).trans h.nd,(t.block _ (Za h.en) h.n2).trans h.en,h.turn.trans t,h.n1,h.n2⟩
end
theorem Zcs {g:Nat} {W1 W:World} (h:Zb (·=g) W1 W) (hg:g=W1.heap.size):Below W1.heap.size W1 W:=h.below (Nat.le_refl _) (by rintro k rfl;omega)
-- THE WALK
theorem bytes_leaf (w:World) (a:Option Addr) (n cap:Nat) {l:List En} (h:IsE w (.slice a n cap) l) (hnl:n=l.length) (hf:∀e∈l,e.few) (hs:(Nd.mk true l).sum≤893) :
  Calls Tryz.prog 80 #[ndV true (.slice a n cap)] w fun e w'=>∃g,e=.returned (.slice (some ⟨g,0,none⟩) 896 896)∧Zh w' g 5 (Nd.mk true l).bytes∧w.heap.size≤g∧Below w.heap.size w w':=by
 have hln:n≤446:=by have:=Zav true l 0;unfold Nd.sum at hs;dsimp only at hs;omega
 obtain⟨W1,hW1⟩:∃x,x=w.alloc (.cells #[.bool true,.slice a n cap] 84):=⟨_,rfl⟩;have hb1:Below w.heap.size w W1:=by rw[hW1];exact Zj w _
 have hn1:W1.heap[w.heap.size]?=some (ndO true (.slice a n cap)):=by rw[hW1];exact heap_alloc_new w _
 have hs1:W1.heap.size=w.heap.size+1:=by rw[hW1];simp
 have hmk:=run_make3;obtain⟨W2,hW2⟩:∃x,x=W1.alloc (.cells (bv (pad [0,0,0])).toArray 5):=⟨_,rfl⟩;have hb2:Below W1.heap.size W1 W2:=by rw[hW2];exact Zj W1 _
 have hn2:=(hb2.block _ (Za hn1)).trans hn1;obtain⟨n0,n1⟩:=Zc hn2;have hp0:Qf W2 W1.heap.size [0,0,0]:=⟨by rw[hW2];exact Zh.alloc W1 _ _,by simp⟩;have HE:=Hd (h.below hb1);have HF:=Hd hf;have HSM:=Hd hs;have HW1:=Hd hW1;have HW2:=Hd hW2;have HNL:=Hd hnl;have HS1:=Hd hs1;have HP0:=Hd hp0;have HB1:=Hd hb1;have HB2:=Hd hb2;have HN2:=Hd hn2;have HN1:=Hd hn1;clear hnl hW1 hW2 hs1 hb1 hn1 h hf hs;go_enter Tryz.func80,Tryz.ntmps80;go_upto_region 2 with fail;rw[←HW1.out,←HS1.out];rw[←HW2.out];have f0:=Zf hp0.row 0;have c0:=hp0.row.cell 0 (by rw[Qv (by simp)];omega);have t3:=Zd W2 W1.heap.size 0 (.int .u8 2);have hp3:Qf (W2.setCell ⟨W1.heap.size,0,none⟩ (.int .u8 2)) W1.heap.size [2,0,0]:=HP0.out.put 0 2 (by simp);have hn3:=(t3.block _ (Za HN2.out) (by have:=HS1.out;omega)).trans HN2.out;obtain⟨m0,m1⟩:=Zc hn3;have f3:=Zf hp3.row 0;have c3:=hp3.row.cell 0 (by rw[Qv (by simp)];omega);have t4:=t3.trans (Zd (W2.setCell ⟨W1.heap.size,0,none⟩ (.int .u8 2)) W1.heap.size 0 (.int .u8 1));have hp4:Qf ((W2.setCell ⟨W1.heap.size,0,none⟩ (.int .u8 2)).setCell ⟨W1.heap.size,0,none⟩ (.int .u8 1)) W1.heap.size [1,0,0]:=hp3.put 0 1 (by simp)
 have hn4:((W2.setCell ⟨W1.heap.size,0,none⟩ (.int .u8 2)).setCell ⟨W1.heap.size,0,none⟩ (.int .u8 1)).drew.heap[w.heap.size]?=some (ndO true (.slice a n cap)):=(t4.block _ (Za HN2.out) (by have:=HS1.out;simp;omega)).trans HN2.out;have T4:Hid (Zb (·=W1.heap.size) W1 ((W2.setCell ⟨W1.heap.size,0,none⟩ (.int .u8 2)).setCell ⟨W1.heap.size,0,none⟩ (.int .u8 1)).drew):=Hd ((Zb.of_below HB2.out).trans t4).drew;have HP4:Hid (Qf ((W2.setCell ⟨W1.heap.size,0,none⟩ (.int .u8 2)).setCell ⟨W1.heap.size,0,none⟩ (.int .u8 1)).drew W1.heap.size [1,0,0]):=Hd hp4.drew;clear hp3 hp4 t4 t3 hn3;go_upto_region 5 with fail;obtain⟨n0,n1⟩:=Zc hn4;have d1:=HP4.out.row.cell 1 (by rw[Qv (by simp)];omega);have d2:=HP4.out.row.cell 2 (by rw[Qv (by simp)];omega);have g1:=Zf HP4.out.row 1;have g2:=Zf HP4.out.row 2;clear hn4 c0 f0 c3 f3 m0 m1;generalize ((W2.setCell ⟨W1.heap.size,0,none⟩ (.int .u8 2)).setCell ⟨W1.heap.size,0,none⟩ (.int .u8 1))=W4 at *;have d1':W4.cell? ⟨W1.heap.size,1,none⟩=_:=d1;have d2':W4.cell? ⟨W1.heap.size,2,none⟩=_:=d2;have g1':W4.frozen? ⟨W1.heap.size,1,none⟩=false:=g1;have g2':W4.frozen? ⟨W1.heap.size,2,none⟩=false:=g2;have n1':W4.cell? ⟨w.heap.size,1,none⟩=_:=n1;have hne1:¬W1.heap.size=w.heap.size:=by have:=HS1.out;omega
 have hne2:¬w.heap.size=W1.heap.size:=by have:=HS1.out;omega
 go_region;have hx1:((n:Int) % 256)=((UInt8.ofNat n).toNat:Int):=by rw[UInt8.toNat_ofNat'];omega
 have hx2:((n:Int) / 256)=((UInt8.ofNat (n / 256)).toNat:Int):=by rw[UInt8.toNat_ofNat'];omega
 rw[hx1,hx2];obtain⟨X1,hX1⟩:∃x,x=UInt8.ofNat n:=⟨_,rfl⟩;obtain⟨X2,hX2⟩:∃x,x=UInt8.ofNat (n / 256):=⟨_,rfl⟩;rw[←hX1,←hX2];have hp5:Qf ((W4.setCell ⟨W1.heap.size,1,none⟩ (.int .u8 (X1.toNat:Int))).setCell ⟨W1.heap.size,2,none⟩ (.int .u8 (X2.toNat:Int))).drew W1.heap.size (Zag true l 0):=by have:=(((HP4.out.keep rfl:Qf W4 W1.heap.size [1,0,0]).put 1 X1 (by simp)).put 2 X2 (by simp)).drew;rw[hX1,hX2,HNL.out] at this;rw[hX1,hX2,HNL.out];exact this
 have T5:Zb (·=W1.heap.size) W1 ((W4.setCell ⟨W1.heap.size,1,none⟩ (.int .u8 (X1.toNat:Int))).setCell ⟨W1.heap.size,2,none⟩ (.int .u8 (X2.toNat:Int))).drew:=by have t4:Zb (·=W1.heap.size) W1 W4:=⟨T4.out.os,T4.out.tape,T4.out.output,T4.out.size,T4.out.block⟩;exact((t4.trans (Zd _ _ _ _)).trans (Zd _ _ _ _)).drew
 have hn5:=(T5.block _ (Za HN1.out) (by have:=HS1.out;omega)).trans HN1.out;have HP5:=Hd hp5;have HT5:=Hd T5;obtain⟨n0,n1⟩:=Zc hn5;clear d1 d2 d1' d2' g1 g2 g1' g2' n1' hne1 hne2 hx1 hx2 T4 HP4 hp5 T5 hn5 hX1 hX2;generalize ((W4.setCell ⟨W1.heap.size,1,none⟩ (.int .u8 (X1.toNat:Int))).setCell ⟨W1.heap.size,2,none⟩ (.int .u8 (X2.toNat:Int))).drew=W5 at *;go_wp2_with fail;go_loopw [3,29] (fun s y wr=>∃k:Nat,k≤n∧y=.int .i64 (k:Int)∧s=.slice (some ⟨W1.heap.size,0,none⟩) (Zag true l k).length 896∧Qf wr W1.heap.size (Zag true l k)∧Zb (·=W1.heap.size) W1 wr) (fun _ y _=>n - (intOf y).toNat)
 case atStart=>exact⟨0,Nat.zero_le _,rfl,by rw[partB_len];simp[Zg],HP5.out,HT5.out⟩
 case round =>
  obtain⟨k,hk,rfl,rfl,hp,ht⟩:=hrel;by_cases hlt:k<n
  ·have hd:decide ((k:Int)<(n:Int))=true:=decide_eq_true (by omega)
   have hkl:k<l.length:=by have:=HNL.out;omega
   have hbr:=Zcs ht rfl;obtain⟨bb,oo,rfl,e0,e1,e2⟩:=(HE.out.below hbr).at k hkl;have hnr:=(hbr.block _ (Za HN1.out)).trans HN1.out;have hfe:=HF.out _ (List.getElem_mem hkl);have hbt:=Zgp true l k hkl;have hPn:Zag true l (k+1)=Zag true l k++l[k].bytes true k:=by rw[Zag,hbt,Zag,List.append_assoc]
   have hAl:(Zag true l k).length+(l[k].bytes true k).length≤896:=by
    rw[←List.length_append,←hPn,partB_len];have h1:=Zdx true l (k+1)
    have h2:=HSM.out;unfold Nd.sum at h2;dsimp only at h2;omega
   have hi0:(0:Int)≤(k:Int):=by omega
   have hi1:(k:Int)<(n:Int):=by omega
   obtain⟨E,hE⟩:∃E,E=l[k]:=⟨_,rfl⟩;rw[←hE] at e0 e1 e2 hfe hPn hAl;have HPN:=Hd hPn
   obtain⟨A,hA⟩:∃A,A=Zag true l k:=⟨_,rfl⟩;rw[←hA] at hp hPn hAl ⊢;have HA:=Hd hA
   obtain⟨W7,hW7⟩:∃x,x=wr.alloc (.cells #[.string ⟨E.key.toArray⟩,.string ⟨E.val.toArray⟩,.int .i64 E.kid] 82):=⟨_,rfl⟩;have hb7:Below wr.heap.size wr W7:=by rw[hW7];exact Zj wr _
   have hu7:W7.heap[wr.heap.size]?=some (enO E):=by rw[hW7];exact heap_alloc_new wr _
   have hs7:BS true (.slice (some ⟨bb,oo,none⟩) n cap) w.heap.size W1.heap.size wr.heap.size E W1 A W7:=⟨hp.below hb7,(hb7.block _ (Za hnr)).trans hnr,hu7,ht.trans (Zb.of_below hb7),by have:=HS1.out;omega,by have:=hp.row.lt;omega⟩;have HS:=Hd hs7;have HW7:=Hd hW7;have hez:W7.heap.size=wr.heap.size+1:=by rw[hW7];simp
   have hgw:W1.heap.size<wr.heap.size:=hp.row.lt;obtain⟨n0,n1⟩:=Zc hs7.nd;obtain⟨c0,c1,c2⟩:=Zv hs7.en;clear hp ht hbr hnr hbt hPn hE hA hW7 hb7 hu7 hs7;rw[show W7=_ from HW7.out] at n0 n1 c0 c1 c2
   have HXkey:Hid (Value.int .u8 (IntKind.u8.wrap (E.key.length:Int))=Value.int .u8 ((UInt8.ofNat E.key.length).toNat:Int)):=Hd (by rw[u8_wrap]);have HXval:Hid (Value.int .u8 (IntKind.u8.wrap (E.val.length:Int))=Value.int .u8 ((UInt8.ofNat E.val.length).toNat:Int)):=Hd (by rw[u8_wrap]);have HLkey:Hid (A.length+1+E.key.length≤896):=Hd (by rw[En.bytes_len] at hAl;unfold En.size at hAl;simp at hAl;omega);have HLval:Hid ((A++[UInt8.ofNat E.key.length]++E.key).length+1+E.val.length≤896):=Hd (by rw[En.bytes_len] at hAl;unfold En.size at hAl;simp at hAl ⊢;omega);have hkz:=hfe.key;have hvz:=hfe.val;clear hfe hAl;go_upto_region 10 with fail;rw[←HW7.out];clear n0 n1 c0 c1 c2 HW7;refine rgA (S:=(fun W=>W.heap[wr.heap.size]?=some (enO E))) HS.out.drew.en (fun hH=>?_);refine tkB 0 rfl (v:=?_) ?_ hH ?_;rotate_left
   ·intro w hSw;obtain⟨r0,r1,r2⟩:=Zv hSw;go_simp;try with_reducible rfl
   try simp only[Act.put,zA,zB,zC]
   refine tkB 1 rfl (v:=?_) ?_ hH ?_;rotate_left
   ·intro w hSw;obtain⟨r0,r1,r2⟩:=Zv hSw;go_simp;try with_reducible rfl
   try simp only[Act.put,zA,zB,zC]
   refine tkB 2 rfl (v:=?_) ?_ hH ?_;rotate_left
   ·intro w hSw;obtain⟨r0,r1,r2⟩:=Zv hSw;go_simp;try with_reducible rfl
   try simp only[Act.put,zA,zB,zC]
   refine tkB 3 rfl (v:=?_) ?_ hH ?_;rotate_left
   ·intro w hSw;obtain⟨r0,r1,r2⟩:=Zv hSw;go_simp;try with_reducible rfl
   try simp only[Act.put,zA,zB,zC]
   refine tkB 4 rfl (v:=?_) ?_ hH ?_;rotate_left
   ·intro w hSw;obtain⟨r0,r1,r2⟩:=Zv hSw;go_simp;try with_reducible rfl
   try simp only[Act.put,zA,zB,zC]
   refine tkB 7 rfl (v:=?_) ?_ hH ?_;rotate_left
   ·intro w hSw;obtain⟨r0,r1,r2⟩:=Zv hSw;go_simp;try with_reducible rfl
   try simp only[Act.put,zA,zB,zC]
   refine tkB 8 rfl (v:=?_) ?_ hH ?_;rotate_left
   ·intro w hSw;obtain⟨r0,r1,r2⟩:=Zv hSw;go_simp;try with_reducible rfl
   try simp only[Act.put,zA,zB,zC]
   refine rdA 5 rfl (fun K hK=>?_);refine Zfx (by rfl) (.tmp 44) rfl (UInt8.ofNat E.key.length) HXkey.out ?_;have hs5:=HS.out.drew.below (Zj _ (.cells (bv [UInt8.ofNat E.key.length]).toArray 5))
   have hu5:=Zh.alloc W7.drew 5 [UInt8.ofNat E.key.length];generalize W7.drew.alloc (.cells (bv [UInt8.ofNat E.key.length]).toArray 5)=W8 at *;generalize W7.drew.heap.size=u5 at *;refine hK.out _ _ hs5.en (fun hH=>?_);clear hK K;try simp only[Act.put,zA,zB,zC]
   refine rdA 6 rfl (fun K hK=>?_);have hr6:=hs5.page.app_row u5 [UInt8.ofNat E.key.length] hu5 (by have:=HLkey.out;simp only[List.length_singleton];omega) 106
   refine Zcc (by rfl) (.tmp 40) (.tmp 45) 106 106 rfl _ _ _ rfl rfl hr6 ?_;have hs6:=hs5.lay [UInt8.ofNat E.key.length] (by have:=HLkey.out;simp only[List.length_singleton];omega)
   clear hr6 hu5 hs5;generalize W8.setCells _ _ _=W9 at *;refine hK.out _ _ hs6.en (fun hH=>?_);clear hK K;try simp only[Act.put,zA,zB,zC]
   refine rdA 9 rfl (fun K hK=>?_);have hr9:=hs6.page.app_str E.key (by have:=HLkey.out;rw[List.length_append,List.length_singleton];omega) 106
   refine Zcc (by rfl) (.tmp 46) (.tmp 48) 106 9 rfl _ _ _ rfl rfl hr9 ?_;have hs9:=hs6.lay E.key (by have:=HLkey.out;rw[List.length_append,List.length_singleton];omega)
   clear hr9 hs6;generalize hAW10:A++[UInt8.ofNat E.key.length]++E.key=AW10 at *;have HAW10:=Hd hAW10
   clear hAW10;generalize W9.setCells _ _ _=W10 at *;clear HS;have HS:=Hd hs9
   clear hs9;refine hK.out _ _ HS.out.en (fun hH=>?_);clear hK K;try simp only[Act.put,zA,zB,zC]
   refine tkB 10 rfl (v:=?_) ?_ hH ?_;rotate_left
   ·intro w hSw;obtain⟨r0,r1,r2⟩:=Zv hSw;go_simp;try with_reducible rfl
   try simp only[Act.put,zA,zB,zC]
   refine dnA ?_;clear hH;obtain⟨n0,n1⟩:=Zc HS.out.nd;go_upto_region 12 with fail;clear n0 n1;refine rgA (S:=(fun W=>W.heap[wr.heap.size]?=some (enO E))) HS.out.drew.en (fun hH=>?_);refine tkB 0 rfl (v:=?_) ?_ hH ?_;rotate_left
   ·intro w hSw;obtain⟨r0,r1,r2⟩:=Zv hSw;go_simp;try with_reducible rfl
   try simp only[Act.put,zA,zB,zC]
   refine tkB 1 rfl (v:=?_) ?_ hH ?_;rotate_left
   ·intro w hSw;obtain⟨r0,r1,r2⟩:=Zv hSw;go_simp;try with_reducible rfl
   try simp only[Act.put,zA,zB,zC]
   refine tkB 2 rfl (v:=?_) ?_ hH ?_;rotate_left
   ·intro w hSw;obtain⟨r0,r1,r2⟩:=Zv hSw;go_simp;try with_reducible rfl
   try simp only[Act.put,zA,zB,zC]
   refine tkB 3 rfl (v:=?_) ?_ hH ?_;rotate_left
   ·intro w hSw;obtain⟨r0,r1,r2⟩:=Zv hSw;go_simp;try with_reducible rfl
   try simp only[Act.put,zA,zB,zC]
   refine tkB 4 rfl (v:=?_) ?_ hH ?_;rotate_left
   ·intro w hSw;obtain⟨r0,r1,r2⟩:=Zv hSw;go_simp;try with_reducible rfl
   try simp only[Act.put,zA,zB,zC]
   refine tkB 7 rfl (v:=?_) ?_ hH ?_;rotate_left
   ·intro w hSw;obtain⟨r0,r1,r2⟩:=Zv hSw;go_simp;try with_reducible rfl
   try simp only[Act.put,zA,zB,zC]
   refine tkB 8 rfl (v:=?_) ?_ hH ?_;rotate_left
   ·intro w hSw;obtain⟨r0,r1,r2⟩:=Zv hSw;go_simp;try with_reducible rfl
   try simp only[Act.put,zA,zB,zC]
   refine rdA 5 rfl (fun K hK=>?_);refine Zfx (by rfl) (.tmp 56) rfl (UInt8.ofNat E.val.length) HXval.out ?_;have hs5:=HS.out.drew.below (Zj _ (.cells (bv [UInt8.ofNat E.val.length]).toArray 5))
   have hu5:=Zh.alloc W10.drew 5 [UInt8.ofNat E.val.length];generalize W10.drew.alloc (.cells (bv [UInt8.ofNat E.val.length]).toArray 5)=W8 at *;generalize W10.drew.heap.size=u5 at *;refine hK.out _ _ hs5.en (fun hH=>?_);clear hK K;try simp only[Act.put,zA,zB,zC]
   refine rdA 6 rfl (fun K hK=>?_);have hr6:=hs5.page.app_row u5 [UInt8.ofNat E.val.length] hu5 (by have:=HLval.out;simp only[List.length_singleton];omega) 106
   refine Zcc (by rfl) (.tmp 52) (.tmp 57) 106 106 rfl _ _ _ rfl rfl hr6 ?_;have hs6:=hs5.lay [UInt8.ofNat E.val.length] (by have:=HLval.out;simp only[List.length_singleton];omega)
   clear hr6 hu5 hs5;generalize W8.setCells _ _ _=W9 at *;refine hK.out _ _ hs6.en (fun hH=>?_);clear hK K;try simp only[Act.put,zA,zB,zC]
   refine rdA 9 rfl (fun K hK=>?_);have hr9:=hs6.page.app_str E.val (by have:=HLval.out;rw[List.length_append,List.length_singleton];omega) 106
   refine Zcc (by rfl) (.tmp 58) (.tmp 60) 106 9 rfl _ _ _ rfl rfl hr9 ?_;have hs9:=hs6.lay E.val (by have:=HLval.out;rw[List.length_append,List.length_singleton];omega)
   clear hr9 hs6;generalize hAW14:AW10++[UInt8.ofNat E.val.length]++E.val=AW14 at *;have HAW14:=Hd hAW14
   clear hAW14;generalize W9.setCells _ _ _=W14 at *;clear HS;have HS:=Hd hs9
   clear hs9;refine hK.out _ _ HS.out.en (fun hH=>?_);clear hK K;try simp only[Act.put,zA,zB,zC]
   refine tkB 10 rfl (v:=?_) ?_ hH ?_;rotate_left
   ·intro w hSw;obtain⟨r0,r1,r2⟩:=Zv hSw;go_simp;try with_reducible rfl
   try simp only[Act.put,zA,zB,zC]
   refine dnA ?_;clear hH;go_wp2_with fail;go_roundw
   case rel =>
    have e14:Zag true l (k+1)=AW14:=by rw[HPN.out,←HA.out,←HAW14.out,←HAW10.out];simp[En.bytes]
    exact⟨k+1,hlt,by go_num,by rw[e14],by rw[e14];exact HS.out.page,HS.out.turn⟩
   case measure=>simp[intOf];omega
  ·obtain rfl:k=n:=by omega
   have hd:decide ((k:Int)<(k:Int))=false:=by simp
   have hall:Zag true l k=(Nd.mk true l).head++Ya true 0 l:=by rw[Zag,HNL.out,List.take_length]
   have HEND:Hid (Zh wr W1.heap.size 5 (Nd.mk true l).bytes):=Hd (by
    rw[Nd.bytes_pad _ HSM.out];have:=hp.row
    rw[hall] at this
    exact this)
   have HBB:Hid (Below w.heap.size w wr):=Hd (HB1.out.trans ((Zcs ht rfl).mono HB1.out.size));have hle:=hp.le;have hsw:w.heap.size≤W1.heap.size:=by have:=HS1.out;omega
   generalize (Zag true l k).length=L at *;clear hp ht hall;go_wp2_with fail;go_ret;exact⟨_,rfl,HEND.out,hsw,HBB.out⟩
theorem bytes_inner (w:World) (a:Option Addr) (n cap:Nat) {l:List En} (h:IsE w (.slice a n cap) l) (hnl:n=l.length) (hf:∀e∈l,e.few) (hs:(Nd.mk false l).sum≤893) :
  Calls Tryz.prog 80 #[ndV false (.slice a n cap)] w fun e w'=>∃g,e=.returned (.slice (some ⟨g,0,none⟩) 896 896)∧Zh w' g 5 (Nd.mk false l).bytes∧w.heap.size≤g∧Below w.heap.size w w':=by
 have hln:n≤446:=by have:=Zav false l 0;unfold Nd.sum at hs;dsimp only at hs;omega
 obtain⟨W1,hW1⟩:∃x,x=w.alloc (.cells #[.bool false,.slice a n cap] 84):=⟨_,rfl⟩;have hb1:Below w.heap.size w W1:=by rw[hW1];exact Zj w _
 have hn1:W1.heap[w.heap.size]?=some (ndO false (.slice a n cap)):=by rw[hW1];exact heap_alloc_new w _
 have hs1:W1.heap.size=w.heap.size+1:=by rw[hW1];simp
 have hmk:=run_make3;obtain⟨W2,hW2⟩:∃x,x=W1.alloc (.cells (bv (pad [0,0,0])).toArray 5):=⟨_,rfl⟩;have hb2:Below W1.heap.size W1 W2:=by rw[hW2];exact Zj W1 _
 have hn2:=(hb2.block _ (Za hn1)).trans hn1;obtain⟨n0,n1⟩:=Zc hn2;have hp0:Qf W2 W1.heap.size [0,0,0]:=⟨by rw[hW2];exact Zh.alloc W1 _ _,by simp⟩;have HE:=Hd (h.below hb1);have HF:=Hd hf;have HSM:=Hd hs;have HW1:=Hd hW1;have HW2:=Hd hW2;have HNL:=Hd hnl;have HS1:=Hd hs1;have HP0:=Hd hp0;have HB1:=Hd hb1;have HB2:=Hd hb2;have HN2:=Hd hn2;have HN1:=Hd hn1;clear hnl hW1 hW2 hs1 hb1 hn1 h hf hs;go_enter Tryz.func80,Tryz.ntmps80;go_upto_region 2 with fail;rw[←HW1.out,←HS1.out];rw[←HW2.out];have f0:=Zf hp0.row 0;have c0:=hp0.row.cell 0 (by rw[Qv (by simp)];omega);have t3:=Zd W2 W1.heap.size 0 (.int .u8 2);have hp3:Qf (W2.setCell ⟨W1.heap.size,0,none⟩ (.int .u8 2)) W1.heap.size [2,0,0]:=HP0.out.put 0 2 (by simp);have hn3:=(t3.block _ (Za HN2.out) (by have:=HS1.out;omega)).trans HN2.out;obtain⟨m0,m1⟩:=Zc hn3;have f3:=Zf hp3.row 0;have c3:=hp3.row.cell 0 (by rw[Qv (by simp)];omega);have t4:=t3;have hp4:=hp3;have hn4:(W2.setCell ⟨W1.heap.size,0,none⟩ (.int .u8 2)).drew.heap[w.heap.size]?=some (ndO false (.slice a n cap)):=(t4.block _ (Za HN2.out) (by have:=HS1.out;simp;omega)).trans HN2.out;have T4:Hid (Zb (·=W1.heap.size) W1 (W2.setCell ⟨W1.heap.size,0,none⟩ (.int .u8 2)).drew):=Hd ((Zb.of_below HB2.out).trans t4).drew
 have HP4:Hid (Qf (W2.setCell ⟨W1.heap.size,0,none⟩ (.int .u8 2)).drew W1.heap.size [2,0,0]):=Hd hp4.drew;clear hp3 hp4 t4 t3 hn3;go_upto_region 5 with fail;obtain⟨n0,n1⟩:=Zc hn4;have d1:=HP4.out.row.cell 1 (by rw[Qv (by simp)];omega);have d2:=HP4.out.row.cell 2 (by rw[Qv (by simp)];omega);have g1:=Zf HP4.out.row 1;have g2:=Zf HP4.out.row 2;clear hn4 c0 f0 c3 f3 m0 m1;generalize (W2.setCell ⟨W1.heap.size,0,none⟩ (.int .u8 2))=W4 at *;have d1':W4.cell? ⟨W1.heap.size,1,none⟩=_:=d1;have d2':W4.cell? ⟨W1.heap.size,2,none⟩=_:=d2;have g1':W4.frozen? ⟨W1.heap.size,1,none⟩=false:=g1;have g2':W4.frozen? ⟨W1.heap.size,2,none⟩=false:=g2;have n1':W4.cell? ⟨w.heap.size,1,none⟩=_:=n1;have hne1:¬W1.heap.size=w.heap.size:=by have:=HS1.out;omega
 have hne2:¬w.heap.size=W1.heap.size:=by have:=HS1.out;omega
 go_region;have hx1:((n:Int) % 256)=((UInt8.ofNat n).toNat:Int):=by rw[UInt8.toNat_ofNat'];omega
 have hx2:((n:Int) / 256)=((UInt8.ofNat (n / 256)).toNat:Int):=by rw[UInt8.toNat_ofNat'];omega
 rw[hx1,hx2];obtain⟨X1,hX1⟩:∃x,x=UInt8.ofNat n:=⟨_,rfl⟩;obtain⟨X2,hX2⟩:∃x,x=UInt8.ofNat (n / 256):=⟨_,rfl⟩;rw[←hX1,←hX2];have hp5:Qf ((W4.setCell ⟨W1.heap.size,1,none⟩ (.int .u8 (X1.toNat:Int))).setCell ⟨W1.heap.size,2,none⟩ (.int .u8 (X2.toNat:Int))).drew W1.heap.size (Zag false l 0):=by have:=(((HP4.out.keep rfl:Qf W4 W1.heap.size [2,0,0]).put 1 X1 (by simp)).put 2 X2 (by simp)).drew;rw[hX1,hX2,HNL.out] at this;rw[hX1,hX2,HNL.out];exact this
 have T5:Zb (·=W1.heap.size) W1 ((W4.setCell ⟨W1.heap.size,1,none⟩ (.int .u8 (X1.toNat:Int))).setCell ⟨W1.heap.size,2,none⟩ (.int .u8 (X2.toNat:Int))).drew:=by have t4:Zb (·=W1.heap.size) W1 W4:=⟨T4.out.os,T4.out.tape,T4.out.output,T4.out.size,T4.out.block⟩;exact((t4.trans (Zd _ _ _ _)).trans (Zd _ _ _ _)).drew
 have hn5:=(T5.block _ (Za HN1.out) (by have:=HS1.out;omega)).trans HN1.out;have HP5:=Hd hp5;have HT5:=Hd T5;obtain⟨n0,n1⟩:=Zc hn5;clear d1 d2 d1' d2' g1 g2 g1' g2' n1' hne1 hne2 hx1 hx2 T4 HP4 hp5 T5 hn5 hX1 hX2;generalize ((W4.setCell ⟨W1.heap.size,1,none⟩ (.int .u8 (X1.toNat:Int))).setCell ⟨W1.heap.size,2,none⟩ (.int .u8 (X2.toNat:Int))).drew=W5 at *;go_wp2_with fail;go_loopw [3,29] (fun s y wr=>∃k:Nat,k≤n∧y=.int .i64 (k:Int)∧s=.slice (some ⟨W1.heap.size,0,none⟩) (Zag false l k).length 896∧Qf wr W1.heap.size (Zag false l k)∧Zb (·=W1.heap.size) W1 wr) (fun _ y _=>n - (intOf y).toNat)
 case atStart=>exact⟨0,Nat.zero_le _,rfl,by rw[partB_len];simp[Zg],HP5.out,HT5.out⟩
 case round =>
  obtain⟨k,hk,rfl,rfl,hp,ht⟩:=hrel;by_cases hlt:k<n
  ·have hd:decide ((k:Int)<(n:Int))=true:=decide_eq_true (by omega)
   have hkl:k<l.length:=by have:=HNL.out;omega
   have hbr:=Zcs ht rfl;obtain⟨bb,oo,rfl,e0,e1,e2⟩:=(HE.out.below hbr).at k hkl;have hnr:=(hbr.block _ (Za HN1.out)).trans HN1.out;have hfe:=HF.out _ (List.getElem_mem hkl);have hbt:=Zgp false l k hkl;have hPn:Zag false l (k+1)=Zag false l k++l[k].bytes false k:=by rw[Zag,hbt,Zag,List.append_assoc]
   have hAl:(Zag false l k).length+(l[k].bytes false k).length≤896:=by
    rw[←List.length_append,←hPn,partB_len];have h1:=Zdx false l (k+1)
    have h2:=HSM.out;unfold Nd.sum at h2;dsimp only at h2;omega
   have hi0:(0:Int)≤(k:Int):=by omega
   have hi1:(k:Int)<(n:Int):=by omega
   obtain⟨E,hE⟩:∃E,E=l[k]:=⟨_,rfl⟩;rw[←hE] at e0 e1 e2 hfe hPn hAl;have HPN:=Hd hPn
   obtain⟨A,hA⟩:∃A,A=Zag false l k:=⟨_,rfl⟩;rw[←hA] at hp hPn hAl ⊢;have HA:=Hd hA
   obtain⟨W7,hW7⟩:∃x,x=wr.alloc (.cells #[.string ⟨E.key.toArray⟩,.string ⟨E.val.toArray⟩,.int .i64 E.kid] 82):=⟨_,rfl⟩;have hb7:Below wr.heap.size wr W7:=by rw[hW7];exact Zj wr _
   have hu7:W7.heap[wr.heap.size]?=some (enO E):=by rw[hW7];exact heap_alloc_new wr _
   have hs7:BS false (.slice (some ⟨bb,oo,none⟩) n cap) w.heap.size W1.heap.size wr.heap.size E W1 A W7:=⟨hp.below hb7,(hb7.block _ (Za hnr)).trans hnr,hu7,ht.trans (Zb.of_below hb7),by have:=HS1.out;omega,by have:=hp.row.lt;omega⟩;have HS:=Hd hs7;have HW7:=Hd hW7;have hez:W7.heap.size=wr.heap.size+1:=by rw[hW7];simp
   have hgw:W1.heap.size<wr.heap.size:=hp.row.lt;obtain⟨n0,n1⟩:=Zc hs7.nd;obtain⟨c0,c1,c2⟩:=Zv hs7.en;clear hp ht hbr hnr hbt hPn hE hA hW7 hb7 hu7 hs7;rw[show W7=_ from HW7.out] at n0 n1 c0 c1 c2
   have f0:(0:Int)≤E.kid:=hfe.k0;have f1:E.kid<65536:=hfe.k1;by_cases hk0:k=0
   ·subst hk0
    simp only[Nat.zero_mul,Nat.add_zero] at e0 e1 e2;have HLkid:Hid (A.length+2≤896):=Hd (by rw[En.bytes_len] at hAl;unfold En.size at hAl;simp at hAl;omega)
    clear hfe hAl;go_upto_region 13 with fail;rw[←HW7.out];clear n0 n1 c0 c1 c2 HW7;have hu:=Zh.alloc W7 5 [Yw E.kid,Yw (E.kid / 256)]
    have hsu:=HS.out.below (Zj W7 (.cells (bv [Yw E.kid,Yw (E.kid / 256)]).toArray 5));have hr:=hsu.page.app_row _ [Yw E.kid,Yw (E.kid / 256)] hu (by have:=HLkid.out;simp only[List.length_cons,List.length_nil];omega) 106;have hsv:=hsu.lay [Yw E.kid,Yw (E.kid / 256)] (by have:=HLkid.out;simp only[List.length_cons,List.length_nil];omega);have HSV:=Hd hsv;obtain⟨c0,c1,c2⟩:=Zv HS.out.en;have hq1:E.kid % 256=((Yw E.kid).toNat:Int):=lowB_nat _ (by omega);have hq2:E.kid / 256=((Yw (E.kid / 256)).toNat:Int):=lowB_nat2 _ (by omega) (by omega);obtain⟨AE,hAE⟩:∃AE,AE=A++[Yw E.kid,Yw (E.kid / 256)]:=⟨_,rfl⟩;rw[←hAE] at hr HSV;have HAE:=Hd hAE;have HQ1:Hid (Value.int .u8 (E.kid % 256)=.int .u8 ((Yw E.kid).toNat:Int)):=Hd (by rw[←hq1]);have HQ2:Hid (Value.int .u8 (E.kid / 256)=.int .u8 ((Yw (E.kid / 256)).toNat:Int)):=Hd (by rw[←hq2]);clear hu hsu hsv hAE hq1 hq2;have HR:Hid _:=Hd hr;clear hr;go_wp2_with first | (refine wpList_build2 rfl (.tmp 65) (.tmp 69) rfl (Yw E.kid) (Yw (E.kid / 256)) HQ1.out HQ2.out ?_;generalize W7.alloc (.cells (bv [Yw E.kid,Yw (E.kid / 256)]).toArray 5)=W20 at *;generalize W20.setCells _ _ _=W21 at *;have hr:=HR.out) | (at_builtin;refine wpList_append_run rfl (.tmp 62) (.tmp 70) 106 106 rfl _ _ _ rfl rfl hr ?_;clear hr)
    go_roundw
    case rel =>
     have e14:Zag false l (0+1)=AE:=by rw[HPN.out,←HA.out,HAE.out];simp[En.bytes]
     exact⟨0+1,hlt,by go_num,by rw[e14],by rw[e14];exact HSV.out.page,HSV.out.turn⟩
    case measure=>simp[intOf];omega
   ·have hgt:decide ((k:Int) > 0)=true:=decide_eq_true (by omega)
    have HLkey:Hid (A.length+1+E.key.length≤896):=Hd (by rw[En.bytes_len] at hAl;unfold En.size at hAl;simp[hk0] at hAl;omega);have HLkid:Hid ((A++[UInt8.ofNat E.key.length]++E.key).length+2≤896):=Hd (by rw[En.bytes_len] at hAl;unfold En.size at hAl;simp[hk0] at hAl ⊢;omega);have HXkey:Hid (Value.int .u8 (IntKind.u8.wrap (E.key.length:Int))=Value.int .u8 ((UInt8.ofNat E.key.length).toNat:Int)):=Hd (by rw[u8_wrap]);have hkz:=hfe.key;clear hfe hAl;go_upto_region 10 with fail;rw[←HW7.out];clear n0 n1 c0 c1 c2 HW7;refine rgA (S:=(fun W=>W.heap[wr.heap.size]?=some (enO E))) HS.out.drew.en (fun hH=>?_);refine tkB 0 rfl (v:=?_) ?_ hH ?_;rotate_left
    ·intro w hSw;obtain⟨r0,r1,r2⟩:=Zv hSw;go_simp;try with_reducible rfl
    try simp only[Act.put,zA,zB,zC]
    refine tkB 1 rfl (v:=?_) ?_ hH ?_;rotate_left
    ·intro w hSw;obtain⟨r0,r1,r2⟩:=Zv hSw;go_simp;try with_reducible rfl
    try simp only[Act.put,zA,zB,zC]
    refine tkB 2 rfl (v:=?_) ?_ hH ?_;rotate_left
    ·intro w hSw;obtain⟨r0,r1,r2⟩:=Zv hSw;go_simp;try with_reducible rfl
    try simp only[Act.put,zA,zB,zC]
    refine tkB 3 rfl (v:=?_) ?_ hH ?_;rotate_left
    ·intro w hSw;obtain⟨r0,r1,r2⟩:=Zv hSw;go_simp;try with_reducible rfl
    try simp only[Act.put,zA,zB,zC]
    refine tkB 4 rfl (v:=?_) ?_ hH ?_;rotate_left
    ·intro w hSw;obtain⟨r0,r1,r2⟩:=Zv hSw;go_simp;try with_reducible rfl
    try simp only[Act.put,zA,zB,zC]
    refine tkB 7 rfl (v:=?_) ?_ hH ?_;rotate_left
    ·intro w hSw;obtain⟨r0,r1,r2⟩:=Zv hSw;go_simp;try with_reducible rfl
    try simp only[Act.put,zA,zB,zC]
    refine tkB 8 rfl (v:=?_) ?_ hH ?_;rotate_left
    ·intro w hSw;obtain⟨r0,r1,r2⟩:=Zv hSw;go_simp;try with_reducible rfl
    try simp only[Act.put,zA,zB,zC]
    refine rdA 5 rfl (fun K hK=>?_);refine Zfx (by rfl) (.tmp 44) rfl (UInt8.ofNat E.key.length) HXkey.out ?_;have hs5:=HS.out.drew.below (Zj _ (.cells (bv [UInt8.ofNat E.key.length]).toArray 5))
    have hu5:=Zh.alloc W7.drew 5 [UInt8.ofNat E.key.length];generalize W7.drew.alloc (.cells (bv [UInt8.ofNat E.key.length]).toArray 5)=W8 at *;generalize W7.drew.heap.size=u5 at *;refine hK.out _ _ hs5.en (fun hH=>?_);clear hK K;try simp only[Act.put,zA,zB,zC]
    refine rdA 6 rfl (fun K hK=>?_);have hr6:=hs5.page.app_row u5 [UInt8.ofNat E.key.length] hu5 (by have:=HLkey.out;simp only[List.length_singleton];omega) 106
    refine Zcc (by rfl) (.tmp 40) (.tmp 45) 106 106 rfl _ _ _ rfl rfl hr6 ?_;have hs6:=hs5.lay [UInt8.ofNat E.key.length] (by have:=HLkey.out;simp only[List.length_singleton];omega)
    clear hr6 hu5 hs5;generalize W8.setCells _ _ _=W9 at *;refine hK.out _ _ hs6.en (fun hH=>?_);clear hK K;try simp only[Act.put,zA,zB,zC]
    refine rdA 9 rfl (fun K hK=>?_);have hr9:=hs6.page.app_str E.key (by have:=HLkey.out;rw[List.length_append,List.length_singleton];omega) 106
    refine Zcc (by rfl) (.tmp 46) (.tmp 48) 106 9 rfl _ _ _ rfl rfl hr9 ?_;have hs9:=hs6.lay E.key (by have:=HLkey.out;rw[List.length_append,List.length_singleton];omega)
    clear hr9 hs6;generalize hAW10:A++[UInt8.ofNat E.key.length]++E.key=AW10 at *;have HAW10:=Hd hAW10
    clear hAW10;generalize W9.setCells _ _ _=W10 at *;clear HS;have HS:=Hd hs9
    clear hs9;refine hK.out _ _ HS.out.en (fun hH=>?_);clear hK K;try simp only[Act.put,zA,zB,zC]
    refine tkB 10 rfl (v:=?_) ?_ hH ?_;rotate_left
    ·intro w hSw;obtain⟨r0,r1,r2⟩:=Zv hSw;go_simp;try with_reducible rfl
    try simp only[Act.put,zA,zB,zC]
    refine dnA ?_;clear hH;obtain⟨n0,n1⟩:=Zc HS.out.nd;have hu:=Zh.alloc W10 5 [Yw E.kid,Yw (E.kid / 256)]
    have hsu:=HS.out.below (Zj W10 (.cells (bv [Yw E.kid,Yw (E.kid / 256)]).toArray 5));have hr:=hsu.page.app_row _ [Yw E.kid,Yw (E.kid / 256)] hu (by have:=HLkid.out;simp only[List.length_cons,List.length_nil];omega) 106;have hsv:=hsu.lay [Yw E.kid,Yw (E.kid / 256)] (by have:=HLkid.out;simp only[List.length_cons,List.length_nil];omega);have HSV:=Hd hsv;obtain⟨c0,c1,c2⟩:=Zv HS.out.en;have hq1:E.kid % 256=((Yw E.kid).toNat:Int):=lowB_nat _ (by omega);have hq2:E.kid / 256=((Yw (E.kid / 256)).toNat:Int):=lowB_nat2 _ (by omega) (by omega);obtain⟨AE,hAE⟩:∃AE,AE=AW10++[Yw E.kid,Yw (E.kid / 256)]:=⟨_,rfl⟩;rw[←hAE] at hr HSV;have HAE:=Hd hAE;have HQ1:Hid (Value.int .u8 (E.kid % 256)=.int .u8 ((Yw E.kid).toNat:Int)):=Hd (by rw[←hq1]);have HQ2:Hid (Value.int .u8 (E.kid / 256)=.int .u8 ((Yw (E.kid / 256)).toNat:Int)):=Hd (by rw[←hq2]);clear hu hsu hsv hAE hq1 hq2;have HR:Hid _:=Hd hr;clear hr;go_wp2_with first | (refine wpList_build2 rfl (.tmp 65) (.tmp 69) rfl (Yw E.kid) (Yw (E.kid / 256)) HQ1.out HQ2.out ?_;generalize W10.alloc (.cells (bv [Yw E.kid,Yw (E.kid / 256)]).toArray 5)=W20 at *;generalize W20.setCells _ _ _=W21 at *;have hr:=HR.out) | (at_builtin;refine wpList_append_run rfl (.tmp 62) (.tmp 70) 106 106 rfl _ _ _ rfl rfl hr ?_;clear hr)
    go_roundw
    case rel =>
     have e14:Zag false l (k+1)=AE:=by rw[HPN.out,←HA.out,HAE.out];rw[←HAW10.out];simp[En.bytes,Nat.pos_of_ne_zero hk0]
     exact⟨k+1,hlt,by go_num,by rw[e14],by rw[e14];exact HSV.out.page,HSV.out.turn⟩
    case measure=>simp[intOf];omega
  ·obtain rfl:k=n:=by omega
   have hd:decide ((k:Int)<(k:Int))=false:=by simp
   have hall:Zag false l k=(Nd.mk false l).head++Ya false 0 l:=by rw[Zag,HNL.out,List.take_length]
   have HEND:Hid (Zh wr W1.heap.size 5 (Nd.mk false l).bytes):=Hd (by
    rw[Nd.bytes_pad _ HSM.out]
    have:=hp.row
    rw[hall] at this
    exact this)
   have HBB:Hid (Below w.heap.size w wr):=Hd (HB1.out.trans ((Zcs ht rfl).mono HB1.out.size))
   have hle:=hp.le
   have hsw:w.heap.size≤W1.heap.size:=by have:=HS1.out;omega
   generalize (Zag false l k).length=L at *
   clear hp ht hall
   go_wp2_with fail
   go_ret
   exact⟨_,rfl,HEND.out,hsw,HBB.out⟩
end
section
def Zcd (leaf:Bool) (l:List En):Nat→Nat→Nat
 | 0,k=>k
 | f+1,k=>if 2*Zg leaf 0 (l.take (k+1))≤Zg leaf 0 l∨k=0 then Zcd leaf l f (k+1) else k
def Nd.cut (n:Nd):Nat :=
 if Zg n.leaf 0 (n.l.take (Zcd n.leaf n.l n.l.length 0))+Zg n.leaf 0 (n.l.take (Zcd n.leaf n.l n.l.length 0+1))≤n.sum∧Zcd n.leaf n.l n.l.length 0+1<n.l.length then Zcd n.leaf n.l n.l.length 0+1 else Zcd n.leaf n.l n.l.length 0
def Nd.key0 (n:Nd):List UInt8:=(n.l.head?.map (·.key)).getD []
def Rp.layN:Nat→Rp→Nd→(List En × Int) × Rp
 | 0,R,_=>(([],0),R)
 | f+1,R,n =>
  if n.l=[] then (([],0),R)
  else if 893<n.sum then
   if (Rp.layN f R ⟨n.leaf,n.l.take n.cut⟩).1.2≠0 then (([],(Rp.layN f R ⟨n.leaf,n.l.take n.cut⟩).1.2),(Rp.layN f R ⟨n.leaf,n.l.take n.cut⟩).2)
   else (((Rp.layN f R ⟨n.leaf,n.l.take n.cut⟩).1.1++(Rp.layN f (Rp.layN f R ⟨n.leaf,n.l.take n.cut⟩).2 ⟨n.leaf,n.l.drop n.cut⟩).1.1,(Rp.layN f (Rp.layN f R ⟨n.leaf,n.l.take n.cut⟩).2 ⟨n.leaf,n.l.drop n.cut⟩).1.2),(Rp.layN f (Rp.layN f R ⟨n.leaf,n.l.take n.cut⟩).2 ⟨n.leaf,n.l.drop n.cut⟩).2)
  else if R.alloc.1.2=0 then (([⟨n.key0,[],R.alloc.1.1⟩],(R.alloc.2.write R.alloc.1.1 n.bytes).1),(R.alloc.2.write R.alloc.1.1 n.bytes).2)
  else (([⟨n.key0,[],R.alloc.1.1⟩],R.alloc.1.2),R.alloc.2)
theorem cutK_step {leaf:Bool} {l:List En} {f k:Nat} (h:2*Zg leaf 0 (l.take (k+1))≤Zg leaf 0 l∨k=0):Zcd leaf l (f+1) k=Zcd leaf l f (k+1):=by rw[Zcd,if_pos h]
theorem cutK_end {leaf:Bool} {l:List En} {f k:Nat} (h:¬(2*Zg leaf 0 (l.take (k+1))≤Zg leaf 0 l∨k=0)):Zcd leaf l (f+1) k=k:=by rw[Zcd,if_neg h]
theorem En.few2 {e:En} (h:e.few):e.key.length≤80∧e.val.length≤200:=⟨h.key,h.val⟩
theorem long_two {leaf:Bool} {l:List En} (h:893<Zg leaf 0 l) (hf:∀e∈l,e.key.length≤80∧e.val.length≤200):2≤l.length:=by have:=Zep leaf l 0 hf;omega
theorem cut_more {leaf:Bool} {l:List En} (h:893<Zg leaf 0 l) (hf:∀e∈l,e.key.length≤80∧e.val.length≤200) {k:Nat} (hk:k<l.length) (hc:2*Zg leaf 0 (l.take (k+1))≤Zg leaf 0 l∨k=0):k+1<l.length:=by
 have h2:=long_two h hf;rcases Nat.lt_or_ge (k+1) l.length with h3 | h3
 ·exact h3
 ·rcases hc with hc | hc
  ·rw[List.take_of_length_le h3] at hc;omega
  ·omega
theorem cutK_spec {leaf:Bool} {l:List En} (h:893<Zg leaf 0 l) (hf:∀e∈l,e.key.length≤80∧e.val.length≤200):∀(f k:Nat),k<l.length→l.length≤f+k→(0<k→2*Zg leaf 0 (l.take k)≤Zg leaf 0 l∨k=1) →
  0<Zcd leaf l f k∧Zcd leaf l f k<l.length∧Zg leaf 0 l<2*Zg leaf 0 (l.take (Zcd leaf l f k+1))∧(2*Zg leaf 0 (l.take (Zcd leaf l f k))≤Zg leaf 0 l∨Zcd leaf l f k=1)
 | 0,k,hk,hl,_=>by omega
 | f+1,k,hk,hl,hp=>by
  by_cases hc:2*Zg leaf 0 (l.take (k+1))≤Zg leaf 0 l∨k=0
  ·rw[cutK_step hc];exact cutK_spec h hf f (k+1) (cut_more h hf hk hc) (by omega) fun _=>hc.imp id fun e=>by omega
  ·rw[cutK_end hc];exact⟨by omega,hk,by omega,hp (by omega)⟩
theorem En.size_in {leaf:Bool} (hl:leaf=false) (i:Nat) (e:En) (h:e.key.length≤80):e.size leaf i≤83:=by
 subst hl;unfold En.size;simp only[Bool.false_eq_true,↓reduceIte]
 split<;>omega
theorem Nd.cut_spec {n:Nd} (h:893<n.sum) (hf:∀e∈n.l,e.key.length≤80∧e.val.length≤200) :
  0<n.cut∧n.cut<n.l.length∧n.sum≤2*Zg n.leaf 0 (n.l.take n.cut)+282∧2*Zg n.leaf 0 (n.l.take n.cut)≤n.sum+282∧(n.leaf=false→n.sum≤2*Zg n.leaf 0 (n.l.take n.cut)+83∧2*Zg n.leaf 0 (n.l.take n.cut)≤n.sum+83):=by
 unfold Nd.sum at *;have h2:=long_two h hf
 obtain⟨a,b,c,d⟩:=cutK_spec h hf n.l.length 0 (by omega) (by omega) (by omega);have hst:=Zgl n.leaf n.l (Zcd n.leaf n.l n.l.length 0) b
 have hsz:=En.size_le n.leaf (Zcd n.leaf n.l n.l.length 0) n.l[Zcd n.leaf n.l n.l.length 0] (hf _ (List.getElem_mem b));have hsi:n.leaf=false→n.l[Zcd n.leaf n.l n.l.length 0].size n.leaf (Zcd n.leaf n.l n.l.length 0)≤83:=fun hl=>En.size_in hl _ _ (hf _ (List.getElem_mem b)).1;have h1:Zcd n.leaf n.l n.l.length 0=1→2*Zg n.leaf 0 (n.l.take (Zcd n.leaf n.l n.l.length 0))≤Zg n.leaf 0 n.l:=fun e=>by have:=Zep n.leaf (n.l.take (Zcd n.leaf n.l n.l.length 0)) 0 fun x hx=>hf x (List.mem_of_mem_take hx);rw[List.length_take] at this;omega
 have d2:2*Zg n.leaf 0 (n.l.take (Zcd n.leaf n.l n.l.length 0))≤Zg n.leaf 0 n.l:=d.elim id h1;clear d h1;unfold Nd.cut;unfold Nd.sum;generalize Zcd n.leaf n.l n.l.length 0=k at *;split
 ·rename_i hx;exact⟨by omega,by omega,by omega,by omega,fun hl=>by have:=hsi hl;omega⟩
 ·rename_i hx
  refine⟨a,b,?_,by omega,fun hl=>⟨?_,by omega⟩⟩
  ·by_cases h3:k+1<n.l.length
   ·omega
   ·rw[List.take_of_length_le (by omega)] at hst;omega
  ·have:=hsi hl
   by_cases h3:k+1<n.l.length
   ·omega
   ·rw[List.take_of_length_le (by omega)] at hst;omega
end
section
open Go.RowKit
def Zds (t:List Bool):Nat:=t.countP fun b=>!b
theorem freeN_take (t:List Bool) (k:Nat) (h:k<t.length):Zds (t.take (k+1))=Zds (t.take k)+if t[k] then 0 else 1:=by
 rw[Zds,List.take_add_one,List.getElem?_eq_getElem h,List.countP_append,Zds]
 cases t[k]<;>rfl
theorem freeN_le (t:List Bool):Zds t≤t.length:=List.countP_le_length
section
variable {w : World} {F : Ft} {p : Nat} {f : Pf} {P : Pg}
theorem left_any (h:Yo w F p f P):Calls Tryz.prog 15 #[Xb f.q] w fun e w'=>e=.returned (.int .i64 (Zds P.now:Int))∧w'=w:=by
 obtain⟨c0,c1,c2,c3,c4,c5,c6,c7⟩:=h.cells;have HP:=Hd (pages_any h)
 have HN:=Hd h.now;have hn1:=h.ok.n1;obtain⟨n,hn⟩:∃n,n=P.now.length:=⟨_,rfl⟩;have Hn:=Hd hn;rw[←hn] at HP c1 hn1;clear hn h c0 c2 c3 c4 c5 c6 c7;go_enter Tryz.func15,Tryz.ntmps15;go_wp2_with (go_at_call 16;refine HP.out.mono ?_;rintro e w9 ⟨rfl,hw9⟩;rw[hw9];clear hw9 w9);go_loop [3,7] (fun c x=>∃k:Nat,k≤n∧x=.int .i64 (k:Int)∧c=.int .i64 (Zds (P.now.take k):Int)) (fun _ x=>n - (intOf x).toNat)
 case atStart=>exact⟨0,Nat.zero_le _,rfl,by simp[Zds]⟩
 case round =>
  obtain⟨k,hk,rfl,rfl⟩:=hrel;by_cases hlt:k<n
  ·have hkt:k<P.now.length:=by rw[←Hn.out];exact hlt
   have hd:decide ((k:Int)<(n:Int))=true:=decide_eq_true (by omega);have hc:=HN.out.cell k hkt;have hle:Zds (P.now.take k)≤k:=by have:=freeN_le (P.now.take k);rw[List.length_take] at this;omega
   have hst:=freeN_take P.now k hkt;generalize P.now[k]=b at *
   cases b with
   | true =>
    have HE:Hid (Zds (P.now.take (k+1))=Zds (P.now.take k)):=Hd (by simpa using hst);clear hst;go_wp2;go_round
    case rel=>exact⟨k+1,by omega,by go_num,by rw[HE.out]⟩
    case measure=>simp[intOf];omega
   | false =>
    have HE:Hid (Zds (P.now.take (k+1))=Zds (P.now.take k)+1):=Hd (by simpa using hst);clear hst;generalize Zds (P.now.take k)=m at *;go_wp2;go_round
    case rel=>exact⟨k+1,by omega,by go_num,by rw[HE.out];go_num⟩
    case measure=>simp[intOf];omega
  ·obtain rfl:k=n:=by omega
   have hdz:decide ((k:Int)<(k:Int))=false:=by simp
   have HE:Hid (P.now.take k=P.now):=Hd (List.take_of_length_le (by rw[Hn.out];exact Nat.le_refl _));go_wp2;go_ret;rw[HE.out];exact⟨rfl,rfl⟩
end
end
section
def Ye (l:List (Option (List UInt8))):Nat:=l.countP fun x=>x.isNone
end
section
open Go.RowKit
theorem Sim.free_eqR {n:Nat} {P:Pg} {R:Rp} {seq:Int} {B:List (List UInt8)} (h:Sim n P R seq B):Zds P.now=Ye R.pages:=by
 rw[h.now,Zds,Ye,List.countP_map];congr 1;funext x
 cases x<;>rfl
def LP (n:Nat) (J:Jn) (seq:Int) (B:List (List UInt8)) (w:World) (F:Ft) (p:Nat) (f:Pf) (R:Rp):Prop:=∃P:Pg,P.J=J∧Yo w F p f P∧Sim n P R seq B
def LpTo (n:Nat) (J:Jn) (seq:Int) (B:List (List UInt8)) (w:World) (F:Ft) (p:Nat) (f:Pf) (w':World) (R':Rp):Prop:=∃f',LP n J seq B w' F p f' R'∧f'.q=f.q∧(∀k,PT f' k→PT f k∨w.heap.size≤k)∧Zb (PJ F p f) w w'
section
variable {n : Nat} {J : Jn} {seq : Int} {B : List (List UInt8)} {w w' w1 w2 : World} {F : Ft} {p : Nat} {f f1 : Pf} {R R' R2 : Rp}
theorem LP.step (h:LP n J seq B w F p f R) (hb:Below w.heap.size w w'):LP n J seq B w' F p f R:=by obtain⟨P,h1,h2,h3⟩:=h;exact⟨P,h1,h2.below hb,h3⟩
theorem LP.turned {T:Nat→Prop} (h:LP n J seq B w F p f R) (ht:Zb T w w') (hT:∀k,PJ F p f k∨k=0→¬T k):LP n J seq B w' F p f R:=by
 obtain⟨P,h1,h2,h3⟩:=h
 exact⟨P,h1,h2.turned ht fun k hk=>hT k (by
  rcases hk with e | e | e
  ·exact .inl (.inl e)
  ·exact .inl (.inr e)
  ·exact .inr e),h3⟩
theorem LP.lt (h:LP n J seq B w F p f R) {k:Nat} (hk:PJ F p f k):k<w.heap.size:=by obtain⟨P,h1,h2,h3⟩:=h;exact h2.lt hk
theorem LpTo.same (h:LP n J seq B w F p f R):LpTo n J seq B w F p f w R:=⟨f,h,rfl,fun _ hk=>.inl hk,Zb.refl _ _⟩
theorem lp_alloc (h:LP n J seq B w F p f R):Calls Tryz.prog 31 #[Xb f.q] w fun e w'=>e=.returned (.tuple #[.int .i64 R.alloc.1.1,.int .i64 R.alloc.1.2])∧LpTo n J seq B w F p f w' R.alloc.2:=by
 obtain⟨P,h1,h2,h3⟩:=h;refine(alloc_any h2).mono ?_;rintro e w' ⟨rfl,f',a,b,c,d⟩;obtain⟨e1,e2⟩:=h3.alloc;rw[e1]
 exact⟨rfl,f',⟨P.alloc.2,(by unfold Pg.alloc;split<;>first | exact h1 | (split<;>exact h1)),a,e2⟩,b,c,d⟩
theorem Zeu (h:LP n J seq B w F p f R) (page:Int) (b1:-9223372036854775808≤page) (b2:page≤9223372036854775807):Calls Tryz.prog 82 #[Xb f.q,.int .i64 page] w fun e w'=>e=.returned (.int .i64 (R.free page).1)∧LpTo n J seq B w F p f w' (R.free page).2:=by
 obtain⟨P,h1,h2,h3⟩:=h;refine(free_any h2 page b1 b2).mono ?_;rintro e w' ⟨rfl,f',a,b,c,d⟩;obtain⟨e1,e2⟩:=h3.freed page;rw[e1]
 exact⟨rfl,f',⟨(P.free page).2,(by unfold Pg.free;split<;>first | exact h1 | (split<;>exact h1)),a,e2⟩,b,c,d⟩
theorem lp_write (h:LP n J seq B w F p f R) (page:Int) (b1:-9223372036854775808≤page) (b2:page≤9223372036854775807) (v:Value) (b:List UInt8) (hv:IsB w v b):Calls Tryz.prog 79 #[Xb f.q,.int .i64 page,v] w fun e w'=>e=.returned (.int .i64 (R.write page b).1)∧LpTo n J seq B w F p f w' (R.write page b).2:=by
 obtain⟨P,h1,h2,h3⟩:=h;refine(pwrite_any h2 page b1 b2 v b hv).mono ?_;rintro e w' ⟨rfl,f',a,b',c,d⟩;obtain⟨e1,e2⟩:=h3.write page b;rw[e1]
 exact⟨rfl,f',⟨(P.write page b).2,(by unfold Pg.write;split<;>first | exact h1 | (split<;>exact h1)),a,e2⟩,b',c,d⟩
theorem Zda (h:LP n J seq B w F p f R) (page:Int) (b1:-9223372036854775808≤page) (b2:page≤9223372036854775807):Calls Tryz.prog 40 #[Xb f.q,.int .i64 page] w fun e w'=>e=.returned (.int .i64 (R.setRoot page).1)∧LpTo n J seq B w F p f w' (R.setRoot page).2:=by
 obtain⟨P,h1,h2,h3⟩:=h;refine(setroot_any h2 page b1 b2).mono ?_;rintro e w' ⟨rfl,f',a,b',c,d⟩;obtain⟨e1,e2⟩:=h3.setRoot page;rw[e1]
 exact⟨rfl,f',⟨(P.setRoot page).2,(by unfold Pg.setRoot;split<;>exact h1),a,e2⟩,b',c,d⟩
theorem lp_read (h:LP n J seq B w F p f R) (page:Int) (b1:-9223372036854775808≤page) (b2:page≤9223372036854775807):Calls Tryz.prog 85 #[Xb f.q,.int .i64 page] w fun e w'=>∃v,e=.returned (.tuple #[v,.int .i64 (R.read page).2])∧Qs 5 w.heap.size w' v (R.read page).1∧LP n J seq B w' F p f R∧Zb (PJ F p f) w w':=by
 obtain⟨P,h1,h2,h3⟩:=h;have hr:=pread_any h2 page b1 b2
 rw[h3.read page] at hr;refine hr.mono ?_;rintro e w' ⟨v,rfl,hm,hp,ht⟩;exact⟨v,rfl,hm,⟨P,h1,hp,h3⟩,ht⟩
theorem lp_root (h:LP n J seq B w F p f R):Calls Tryz.prog 17 #[Xb f.q] w fun e w'=>e=.returned (.int .i64 R.root)∧w'=w:=by obtain⟨P,h1,h2,h3⟩:=h;rw[←h3.root];exact root_any h2
theorem lp_left (h:LP n J seq B w F p f R):Calls Tryz.prog 15 #[Xb f.q] w fun e w'=>e=.returned (.int .i64 (Ye R.pages:Int))∧w'=w:=by obtain⟨P,h1,h2,h3⟩:=h;rw[←h3.free_eqR];exact left_any h2
theorem lp_pages (h:LP n J seq B w F p f R):Calls Tryz.prog 16 #[Xb f.q] w fun e w'=>e=.returned (.int .i64 (R.pages.length:Int))∧w'=w:=by obtain⟨P,h1,h2,h3⟩:=h;rw[←h3.nlen];exact pages_any h2
theorem lp_abort (h:LP n J seq B w F p f R):Calls Tryz.prog 29 #[Xb f.q] w fun e w'=>e=.returned (.tuple #[])∧LpTo n J seq B w F p f w' R.abort:=by
 obtain⟨P,h1,h2,h3⟩:=h;refine(abort_any h2).mono ?_;rintro e w' ⟨rfl,f',a,b,c,d⟩
 exact⟨rfl,f',⟨P.abort,(by unfold Pg.abort;split<;>exact h1),a,h3.abort⟩,b,c,d⟩
end
end
section
open Go.RowKit
abbrev trO (q:Nat):Obj:=.cells #[Xb q] 77 (0,0)
abbrev trp (b:Nat):Value:=.pointer (some ⟨b,0,none⟩)
structure Tr (n:Nat) (J:Jn) (seq:Int) (B:List (List UInt8)) (w:World) (F:Ft) (p:Nat) (f:Pf) (R:Rp) (tb:Nat):Prop where
 lp:LP n J seq B w F p f R
 head:w.heap[tb]?=some (trO f.q)
 apart:¬PJ F p f tb
section
variable {n : Nat} {J : Jn} {seq : Int} {B : List (List UInt8)} {w w' w1 w2 : World} {F : Ft} {p : Nat} {f f1 : Pf} {R R' R2 : Rp} {tb : Nat}
theorem LP.page (h:LP n J seq B w F p f R) {page:Int} (he:(R.read page).2=0):(R.read page).1.length=896:=by
 obtain⟨P,h1,h2,h3⟩:=h
 cases ht:R.taken page with
 | false=>rw[Rp.read,if_pos ht] at he;cases he
 | true =>
  obtain⟨a1,a2,b,a3⟩:=Zbt ht;have:(R.read page).1=b:=by rw[Rp.read,if_neg (by simp[ht]),List.getD_eq_getElem?_getD,a3];rfl
  rw[this];exact(h3.pagen _ b a3).1
theorem Tr.step (h:Tr n J seq B w F p f R tb) (hb:Below w.heap.size w w'):Tr n J seq B w' F p f R tb:=⟨h.lp.step hb,(hb.block _ (Za h.head)).trans h.head,h.apart⟩
theorem Tr.read (h:Tr n J seq B w F p f R tb) (hl:LP n J seq B w' F p f R) (ht:Zb (PJ F p f) w w'):Tr n J seq B w' F p f R tb:=⟨hl,(ht.block _ (Za h.head) h.apart).trans h.head,h.apart⟩
theorem LP.nib_lt (h:LP n J seq B w F p f R):0<w.heap.size:=by obtain⟨P,h1,h2,h3⟩:=h;exact World.block_lt_of_cell? w _ (h2.nib 0 (by omega))
theorem Tr.turn {T:Nat→Prop} (h0:Tr n J seq B w F p f R tb) (h:Tr n J seq B w1 F p f R tb) (ht:Zb T w1 w2) (hT:∀k,T k→w.heap.size≤k):Tr n J seq B w2 F p f R tb:=by
 have hx:=Za h0.head;refine⟨h.lp.turned ht fun k hk e=>?_,(ht.block _ (Za h.head) fun e=>by have:=hT _ e;omega).trans h.head,h.apart⟩;have:=hT k e;rcases hk with hk | hk
 ·have:=h0.lp.lt hk;omega
 ·have:=h0.lp.nib_lt;omega
def LoadEnd (n:Nat) (J:Jn) (seq:Int) (B:List (List UInt8)) (w:World) (F:Ft) (p:Nat) (f:Pf) (R:Rp) (tb:Nat) (page:Int) (e:Ending) (w':World):Prop:=∃leaf va vk vc,e=.returned (.tuple #[ndV leaf (.slice va vk vc),.int .i64 (R.load page).2])∧Tr n J seq B w' F p f R tb∧Zb (PJ F p f) w w'∧∀nd,(R.load page).1=some nd→nd.leaf=leaf∧Zq w.heap.size w' (.slice va vk vc) nd.l
theorem Zcm (h:Tr n J seq B w F p f R tb) (page:Int) (b1:-9223372036854775808≤page) (b2:page≤9223372036854775807) :
  Calls Tryz.prog 47 #[trp tb,.int .i64 page] w (LoadEnd n J seq B w F p f R tb page):=by
 obtain⟨W1,hW1⟩:∃x,x=w.alloc (.cells #[.bool false,.slice none 0 0] 84):=⟨_,rfl⟩;have hb1:Below w.heap.size w W1:=by rw[hW1];exact Zj w _
 have hr1:W1.heap[w.heap.size]?=some (ndO false (.slice none 0 0)):=by rw[hW1];exact heap_alloc_new w _
 have hs1:W1.heap.size=w.heap.size+1:=by rw[hW1];simp
 have h1:=h.step hb1;have hpj:∀k,PJ F p f k→k<w.heap.size:=fun k hk=>h.lp.lt hk;have HRD:=Hd (lp_read h1.lp page b1 b2);have c0:W1.cell? ⟨tb,0,none⟩=some (Xb f.q):=by rw[cell_of_row _ _ _ _ _ _ h1.head];rfl
 have HW1:=Hd hW1;have HT1:=Hd h1;have HT0:=Hd h;have HB1:=Hd hb1;have HR1:=Hd hr1;have HPJ:=Hd hpj;have HS1:=Hd hs1;rw[hW1] at c0;clear h h1 hb1 hr1 hpj hW1 hs1;go_enter Tryz.func47,Tryz.ntmps47;go_wp2_with fail;rw[←HW1.out];clear c0;refine HRD.out.mono ?_;rintro e W2 ⟨u,rfl,hm,hlp2,t2⟩;have ht2:=HT1.out.read hlp2 t2;have hr2:W2.heap[w.heap.size]?=some (ndO false (.slice none 0 0)):=(t2.block _ (Za HR1.out) fun e=>by have:=HPJ.out _ e;omega).trans HR1.out;have hs2:=t2.size;have HTT:Hid (Zb (PJ F p f) w W2):=Hd ((Zb.of_below HB1.out).trans t2);have HT2:=Hd ht2;obtain⟨r0,r1⟩:=Zc hr2;have f0:=Zf hr2 0;have f1:=Zf hr2 1;by_cases he:(R.read page).2=0
 case neg =>
  have hl:R.load page=(none,(R.read page).2):=by rw[Rp.load,if_pos he]
  have hne:((R.read page).2 != 0)=true:=by rw[bne_iff_ne];exact he
  have HM:=Hd hm;have HL:=Hd hl;obtain⟨ua,uc,hue,_,_⟩:=hm.isB.form;subst hue;have t3:=(Zd W2 w.heap.size 0 (.bool false)).trans (Zd _ w.heap.size 1 (.slice none 0 0));have hh:=Ze (Ze hr2 (i:=0) (.bool false)) (i:=1) (.slice none 0 0);have HLD:=Hd (nd_load hh)
  have HEND:Hid (LoadEnd n J seq B w F p f R tb page (.returned (.tuple #[ndV false (.slice none 0 0),.int .i64 (R.read page).2])) ((W2.setCell ⟨w.heap.size,0,none⟩ (.bool false)).setCell ⟨w.heap.size,1,none⟩ (.slice none 0 0))) :=
   Hd ⟨false,none,0,0,by rw[hl],HT0.out.turn ht2 t3 (fun k hk=>by omega),HTT.out.then t3 (fun i hi e=>by omega),fun nd e=>(by rw[hl] at e;cases e)⟩
  clear hm hlp2 t2 ht2 he hl HRD t3 hh;go_wp2_with fail;exact bodyPost_ret (v:=.tuple #[ndV false (.slice none 0 0),.int .i64 (R.read page).2]) (Yf Tryz.results47 rfl HLD.out) rfl HEND.out
 case pos =>
  have hlen:=HT1.out.lp.page he;have hz:((R.read page).2 != 0)=false:=by rw[he];rfl
  obtain⟨ua,uc,hue,_,_⟩:=hm.isB.form;rw[hlen] at hue;subst hue;have HBR:=Hd (bread_any W2 ua 896 uc (R.read page).1 hm.isB hlen.symm (by omega) (by omega))
  have HHE:=Hd he;have HR2:=Hd hr2;rw[he];clear hm hlp2 t2 ht2 he HRD r0 r1 f0 f1 hlen hr2 hz;go_wp2_with fail;refine HBR.out.mono ?_;rintro e W3 ⟨leaf,v,rfl,hb3,⟨va,vk,vc,rfl⟩,hnd⟩;have hT3:=HT2.out.step hb3;have hr3:=(hb3.block _ (Za HR2.out)).trans HR2.out;have HTT3:Hid (Zb (PJ F p f) w W3):=Hd (HTT.out.trans (Zb.of_below hb3));obtain⟨W4,hW4⟩:∃x,x=W3.alloc (.cells #[.bool leaf,.slice va vk vc] 84):=⟨_,rfl⟩;have hb4:Below W3.heap.size W3 W4:=by rw[hW4];exact Zj W3 _
  have hT4:=hT3.step hb4;have hr4:=(hb4.block _ (Za hr3)).trans hr3;have hn4:W4.heap[W3.heap.size]?=some (ndO leaf (.slice va vk vc)):=by rw[hW4];exact heap_alloc_new W3 _
  have HTT4:Hid (Zb (PJ F p f) w W4):=Hd (HTT3.out.trans (Zb.of_below hb4));have hsz3:=Za hr3;obtain⟨r0,r1⟩:=Zc hr4;obtain⟨n0,n1⟩:=Zc hn4;have f0:=Zf hr4 0;have f1:=Zf hr4 1;have HW4:=Hd hW4
  cases hrn:Zah (R.read page).1 with
  | none =>
   have hl:R.load page=(none,103):=by rw[Rp.load,if_neg (by simp[HHE.out]),hrn]
   have t5:=(Zd W4 w.heap.size 0 (.bool false)).trans (Zd _ w.heap.size 1 (.slice none 0 0));have hh:=Ze (Ze hr4 (i:=0) (.bool false)) (i:=1) (.slice none 0 0);have HLD:=Hd (nd_load hh)
   have HEND:Hid (LoadEnd n J seq B w F p f R tb page (.returned (.tuple #[ndV false (.slice none 0 0),.int .i64 103])) ((W4.setCell ⟨w.heap.size,0,none⟩ (.bool false)).setCell ⟨w.heap.size,1,none⟩ (.slice none 0 0))) :=
    Hd ⟨false,none,0,0,by rw[hl],HT0.out.turn hT4 t5 (fun k hk=>by omega),HTT4.out.then t5 (fun i hi e=>by omega),fun nd e=>(by rw[hl] at e;cases e)⟩
   clear hb3 hnd hT3 hr3 hW4 hb4 hT4 hr4 hn4 hrn hl t5 hh;simp only[Option.isSome_none];go_upto_region 6 with fail;rw[←HW4.out];go_wp2_with fail;exact bodyPost_ret (v:=.tuple #[ndV false (.slice none 0 0),.int .i64 103]) (Yf Tryz.results47 rfl HLD.out) rfl HEND.out
  | some nd =>
   have hl:R.load page=(some nd,0):=by rw[Rp.load,if_neg (by simp[HHE.out]),hrn]
   obtain⟨g1,g2⟩:=hnd nd hrn;have t5:=(Zd W4 w.heap.size 0 (.bool leaf)).trans (Zd _ w.heap.size 1 (.slice va vk vc))
   have hh:=Ze (Ze hr4 (i:=0) (.bool leaf)) (i:=1) (.slice va vk vc);have HLD:=Hd (nd_load hh);have hg5:Zq w.heap.size ((W4.setCell ⟨w.heap.size,0,none⟩ (.bool leaf)).setCell ⟨w.heap.size,1,none⟩ (.slice va vk vc)) (.slice va vk vc) nd.l:=by have hg4:=g2.below hb4;have hlo:w.heap.size<W2.heap.size:=Za HR2.out;exact(hg4.keep fun k h1 h2=>t5.block k h2 (by omega)).low (by omega)
   have HEND:Hid (LoadEnd n J seq B w F p f R tb page (.returned (.tuple #[ndV leaf (.slice va vk vc),.int .i64 0])) ((W4.setCell ⟨w.heap.size,0,none⟩ (.bool leaf)).setCell ⟨w.heap.size,1,none⟩ (.slice va vk vc))) :=
    Hd ⟨leaf,va,vk,vc,by rw[hl],HT0.out.turn hT4 t5 (fun k hk=>by omega),HTT4.out.then t5 (fun i hi e=>by omega),fun nd' e=>by
     rw[hl] at e;cases e
     exact⟨g1,hg5⟩⟩
   clear hb3 hnd hT3 hr3 hW4 hb4 hT4 hr4 hn4 hrn hl t5 hh hg5 g1 g2;simp only[Option.isSome_some];go_upto_region 7 with fail;rw[←HW4.out];go_wp2_with fail;exact bodyPost_ret (v:=.tuple #[ndV leaf (.slice va vk vc),.int .i64 0]) (Yf Tryz.results47 rfl HLD.out) rfl HEND.out
end
end
section
open Go.RowKit
def Qc (n:Nat) (J:Jn) (seq:Int) (B:List (List UInt8)) (w:World) (F:Ft) (p:Nat) (f:Pf) (w':World) (R':Rp) (tb:Nat):Prop:=∃f',Tr n J seq B w' F p f' R' tb∧f'.q=f.q∧(∀k,PT f' k→PT f k∨w.heap.size≤k)∧Zb (PJ F p f) w w'
section
variable {n : Nat} {J : Jn} {seq : Int} {B : List (List UInt8)} {w w' w1 w2 : World} {F : Ft} {p : Nat} {f f1 : Pf} {R R' R2 : Rp} {tb : Nat}
theorem Qc.same (h:Tr n J seq B w F p f R tb):Qc n J seq B w F p f w R tb:=⟨f,h,rfl,fun _ hk=>.inl hk,Zb.refl _ _⟩
theorem Qc.below (h:Tr n J seq B w F p f R tb) (hb:Below w.heap.size w w'):Qc n J seq B w F p f w' R tb:=⟨f,h.step hb,rfl,fun _ hk=>.inl hk,Zb.of_below hb⟩
theorem Qc.then (h:f1.q=f.q) (hk:∀k,PT f1 k→PT f k∨w.heap.size≤k) (ht:Zb (PJ F p f) w w1) (h2:Qc n J seq B w1 F p f1 w2 R2 tb):Qc n J seq B w F p f w2 R2 tb:=by
 obtain⟨f2,a,b,c,d⟩:=h2;refine⟨f2,a,b.trans h,fun k hk2=>?_,ht.then d fun i hi hp=>?_⟩
 ·rcases c k hk2 with e | e
  ·exact hk k e
  ·exact .inr (Nat.le_trans ht.size e)
 ·rcases hp with e | e
  ·exact .inl e
  ·rcases hk i e with e | e
   ·exact .inr e
   ·omega
theorem Tr.to (h:Tr n J seq B w F p f R tb) (h2:LpTo n J seq B w F p f w' R'):Qc n J seq B w F p f w' R' tb:=by
 obtain⟨f',a,b,c,d⟩:=h2;refine⟨f',⟨a,?_,?_⟩,b,c,d⟩
 ·rw[b];exact(d.block _ (Za h.head) h.apart).trans h.head
 ·rintro(e | e)
  ·exact h.apart (.inl e)
  ·rcases c _ e with e | e
   ·exact h.apart (.inr e)
   ·have:=Za h.head;omega
theorem Xj (hk:∀k,PT f1 k→PT f k∨w.heap.size≤k) {k:Nat} (h:¬PJ F p f k) (hl:k<w.heap.size):¬PJ F p f1 k:=by
 rintro(e | e)
 ·exact h (.inl e)
 ·rcases hk k e with e | e
  ·exact h (.inr e)
  ·omega
end
def Zap (v:Value) (k:Nat):Prop:=∃x n c,v=.slice (some x) n c∧x.block=k
theorem IsE.lt {w:World} {a:Option Addr} {n cap:Nat} {l:List En} (h:IsE w (.slice a n cap) l) (h0:0<l.length):∃b o,a=some ⟨b,o,none⟩∧b<w.heap.size:=by obtain⟨b,o,e,c0,_⟩:=h.at 0 h0;exact⟨b,o,e,World.block_lt_of_cell? w _ c0⟩
theorem IsE.turned {T:Nat→Prop} {w w':World} {v:Value} {l:List En} (h:IsE w v l) (ht:Zb T w w') (hT:∀k,Zap v k→¬T k):IsE w' v l:=by
 obtain⟨a,cap,rfl,hl,hm,hn,hc⟩:=h;refine⟨a,cap,rfl,hl,hm,hn,fun x hx=>⟨(hc x hx).1,fun i hi=>?_⟩⟩;obtain⟨c0,c1,c2⟩:=(hc x hx).2 i hi;have hlt:x.block<w.heap.size:=World.block_lt_of_cell? w ⟨x.block,x.off+i*3,none⟩ c0
 have hb:=ht.block _ hlt (hT _ ⟨x,_,_,by rw[hx],rfl⟩);have hcell:∀o,w'.cell? ⟨x.block,o,none⟩=w.cell? ⟨x.block,o,none⟩:=fun o=>by unfold World.cell?;simp only[hb]
 exact⟨(hcell _).trans c0,(hcell _).trans c1,(hcell _).trans c2⟩
theorem Zq.isE_blk {B:Nat} {w:World} {v:Value} {l:List En} (h:Zq B w v l) {k:Nat} (hk:Zap v k):B≤k∧k<w.heap.size:=by obtain⟨x,n,c,e,rfl⟩:=hk;exact h.lt (by rw[e];rfl)
theorem Zq.lit {B:Nat} {w:World} (e:En) (hB:B≤w.heap.size):Zq B (w.alloc (.cells (enC e).toArray 82)) (.slice (some ⟨w.heap.size,0,none⟩) 1 1) [e]:=by unfold Zq;refine⟨by simp[enV,enC],.inr ⟨w.heap.size,1,(enC e).toArray,rfl,hB,heap_alloc_new w _,Nat.le_refl _,by simp[maxLen],by simp[enC],by simp[enV];rfl⟩⟩
def TrV (n:Nat) (J:Jn) (seq:Int) (B:List (List UInt8)) (w:World) (F:Ft) (p:Nat) (f:Pf) (w':World) (R':Rp) (tb:Nat) (v:Value):Prop:=∃f',Tr n J seq B w' F p f' R' tb∧f'.q=f.q∧(∀k,PT f' k→PT f k∨w.heap.size≤k)∧Zb (PJ F p f) w w'∧∀k,Zap v k→¬PJ F p f' k
section
variable {n : Nat} {J : Jn} {seq : Int} {B : List (List UInt8)} {w w' w1 w2 : World} {F : Ft} {p : Nat} {f f1 : Pf} {R R' R2 : Rp} {tb : Nat} {v v' : Value}
theorem TrV.to (h:TrV n J seq B w F p f w' R' tb v):Qc n J seq B w F p f w' R' tb:=by obtain⟨f',a,b,c,d,e⟩:=h;exact⟨f',a,b,c,d⟩
theorem Qc.nil (h:Qc n J seq B w F p f w' R' tb):TrV n J seq B w F p f w' R' tb (.slice none 0 0):=by obtain⟨f',a,b,c,d⟩:=h;exact⟨f',a,b,c,d,fun k hk=>by obtain⟨x,_,_,e,_⟩:=hk;cases e⟩
theorem Qc.alloc (h:Qc n J seq B w F p f w' R' tb) (o:Obj) (c c':Nat):TrV n J seq B w F p f (w'.alloc o) R' tb (.slice (some ⟨w'.heap.size,0,none⟩) c c'):=by
 obtain⟨f',a,b,c,d⟩:=h;refine⟨f',a.step (Zj _ _),b,c,d.trans (Zb.of_below (Zj _ _)),fun k hk hp=>?_⟩;obtain⟨x,_,_,e,e2⟩:=hk;cases e;have:=a.lp.lt hp
 dsimp only at e2;omega
theorem TrV.then (h:f1.q=f.q) (hk:∀k,PT f1 k→PT f k∨w.heap.size≤k) (ht:Zb (PJ F p f) w w1) (h2:TrV n J seq B w1 F p f1 w2 R2 tb v):TrV n J seq B w F p f w2 R2 tb v:=by obtain⟨f2,a,b,c,d,e⟩:=h2;obtain⟨f',a',b',c',d'⟩:=Qc.then (f1:=f1) h hk ht ⟨f2,a,b,c,d⟩;exact⟨f2,a,b.trans h,fun k hk2=>(c k hk2).elim (hk k) fun e=>.inr (Nat.le_trans ht.size e),d',e⟩
theorem TrV.grown {B0:Nat} {l l':List En} (h0:Tr n J seq B w F p f R tb) (h:TrV n J seq B w F p f w1 R' tb v) (hm:Zq B0 w1 v l) (hB:w.heap.size≤B0) (hg:w1.grownBy w2 v.ownBlock) (ho:v'.ownBlock=v.ownBlock∨v'.ownBlock=some w1.heap.size) (hm2:Zq B0 w2 v' l'):TrV n J seq B w F p f w2 R' tb v':=by
 obtain⟨f2,a,b,c,d,e⟩:=h
 have hown:∀k,v.ownBlock=some k→Zap v k:=fun k hk=>by
  rcases hm.form with ⟨rfl,_⟩ | ⟨g,cap,rfl,_⟩
  ·cases hk
  ·cases hk;exact⟨_,_,_,rfl,rfl⟩
 have ht:Zb (fun k=>v.ownBlock=some k) w1 w2:=⟨hg.os,hg.tape,hg.output,hg.size,fun k hk hn=>hg.block k hk fun e=>hn e.symm⟩;refine⟨f2,⟨a.lp.turned ht fun k hk ho'=>?_,(ht.block _ (Za a.head) fun ho'=>?_).trans a.head,a.apart⟩,b,c,d.then ht fun i hi ho'=>?_,fun k hk hp=>?_⟩
 ·have:=(hm.lt ho').1
  rcases hk with hk | rfl
  ·exact e k (hown k ho') hk
  ·have:=h0.lp.nib_lt;omega
 ·have:=(hm.lt ho').1;have:=Za h0.head;omega
 ·have:=(hm.lt ho').1;omega
 ·have hv':v'.ownBlock=some k:=by
   obtain⟨x,_,_,e1,e2⟩:=hk;rw[e1,←e2];rfl
  rcases ho with ho | ho
  ·exact e k (hown k (ho.symm.trans hv')) hp
  ·rw[ho] at hv';have:=a.lp.lt hp;simp only[Option.some.injEq] at hv';omega
end
def Zan (n:Nat) (J:Jn) (seq:Int) (B:List (List UInt8)) (w:World) (F:Ft) (p:Nat) (f:Pf) (tb:Nat) (X:(List En × Int) × Rp) (e:Ending) (w':World):Prop:=∃v,e=.returned (.tuple #[v,.int .i64 X.1.2])∧Zq w.heap.size w' v X.1.1∧TrV n J seq B w F p f w' X.2 tb v
section
variable {n : Nat} {J : Jn} {seq : Int} {B : List (List UInt8)} {F : Ft} {p : Nat} {tb : Nat}
theorem LP.n1 {w:World} {f:Pf} {R:Rp} (h:LP n J seq B w F p f R):R.pages.length≤1023:=by obtain⟨P,h1,h2,h3⟩:=h;rw[←h3.nlen];exact h2.ok.n1
theorem LP.alloc_le {w:World} {f:Pf} {R:Rp} (h:LP n J seq B w F p f R):0≤R.alloc.1.1∧R.alloc.1.1<65536:=by
 have h1:=h.n1;unfold Rp.alloc
 cases hf:freeR R.pages with
 | none=>exact⟨Int.le_refl _,(by decide:(0:Int)<65536)⟩
 | some k =>
  have:=(List.findIdx?_eq_some_iff_getElem.1 hf).1;dsimp only;omega
def LayAt (n:Nat) (J:Jn) (seq:Int) (B:List (List UInt8)) (F:Ft) (p:Nat) (tb:Nat) (m:Nat):Prop:=∀(w:World) (f:Pf) (R:Rp) (leaf:Bool) (a:Option Addr) (N cap:Nat) (l:List En),Tr n J seq B w F p f R tb→IsE w (.slice a N cap) l→N=l.length→N≤m→(∀e∈l,e.few)→(∀k,Zap (.slice a N cap) k→¬PJ F p f k) →
  Calls Tryz.prog 39 #[trp tb,ndV leaf (.slice a N cap)] w (Zan n J seq B w F p f tb (R.layN (m+1) ⟨leaf,l⟩))
theorem nbytes_any (w:World) (leaf:Bool) (a:Option Addr) (N cap:Nat) {l:List En} (h:IsE w (.slice a N cap) l) (hnl:N=l.length) (hf:∀e∈l,e.few) (hs:(Nd.mk leaf l).sum≤893) :
  Calls Tryz.prog 80 #[ndV leaf (.slice a N cap)] w fun e w'=>∃g,e=.returned (.slice (some ⟨g,0,none⟩) 896 896)∧IsB w' (.slice (some ⟨g,0,none⟩) 896 896) (Nd.mk leaf l).bytes∧w.heap.size≤g∧Below w.heap.size w w':=by
 have hb:(Nd.mk leaf l).bytes.length=896:=by unfold Nd.bytes;rw[List.length_take,List.length_append,List.length_replicate];omega
 have key:∀e w',(∃g,e=Ending.returned (.slice (some ⟨g,0,none⟩) 896 896)∧Zh w' g 5 (Nd.mk leaf l).bytes∧w.heap.size≤g∧Below w.heap.size w w')→∃g,e=.returned (.slice (some ⟨g,0,none⟩) 896 896)∧IsB w' (.slice (some ⟨g,0,none⟩) 896 896) (Nd.mk leaf l).bytes∧w.heap.size≤g∧Below w.heap.size w w':=by
  rintro e w' ⟨g,h1,h2,h3,h4⟩;refine⟨g,h1,?_,h3,h4⟩;have:=h2.isB 0 896 896 (by omega) (Nat.le_refl _) (by simp[maxLen])
  rw[List.drop_zero,List.take_of_length_le (by omega)] at this;exact this
 cases leaf with
 | true=>exact(bytes_leaf w a N cap h hnl hf hs).mono (key)
 | false=>exact(bytes_inner w a N cap h hnl hf hs).mono (key)
theorem lay_fits {w:World} {f:Pf} {R:Rp} (m:Nat) (leaf:Bool) (a:Option Addr) (N cap:Nat) {l:List En} (h:Tr n J seq B w F p f R tb) (hE:IsE w (.slice a N cap) l) (hN:N=l.length) (hm:N≤1000000) (hf:∀e∈l,e.few) (hs:∀k,Zap (.slice a N cap) k→¬PJ F p f k) (hsum:(Nd.mk leaf l).sum≤893) :
  Calls Tryz.prog 39 #[trp tb,ndV leaf (.slice a N cap)] w (Zan n J seq B w F p f tb (R.layN (m+1) ⟨leaf,l⟩)):=by
 obtain⟨W1,hW1⟩:∃x,x=w.alloc (.cells #[.bool leaf,.slice a N cap] 84):=⟨_,rfl⟩;have hb1:Below w.heap.size w W1:=by rw[hW1];exact Zj w _
 have hn1:W1.heap[w.heap.size]?=some (ndO leaf (.slice a N cap)):=by rw[hW1];exact heap_alloc_new w _
 have hs1:W1.heap.size=w.heap.size+1:=by rw[hW1];simp
 have h1:=h.step hb1;have hE1:=hE.below hb1;obtain⟨n0,n1⟩:=Zc hn1;have HE:=Hd hE1;have HN:=Hd hN;have HF:=Hd hf;have HS:=Hd hs;have HT:=Hd h1;have HW1:=Hd hW1;have HB1:=Hd hb1;have HS1:=Hd hs1;have HN1:=Hd hn1;have HSUM:=Hd hsum;rw[hW1] at n0 n1;by_cases h0:N=0
 ·have hl0:l=[]:=List.eq_nil_of_length_eq_zero (by omega)
  have HR:Hid (R.layN (m+1) ⟨leaf,l⟩=(([],0),R)):=Hd (by rw[Rp.layN,if_pos hl0]);rw[HR.out];have HEND:Hid (Zan n J seq B w F p f tb (([],0),R) (.returned (.tuple #[.slice none 0 0,.int .i64 0])) W1):=Hd ⟨_,rfl,Zq.nil _ _,(Qc.below h hb1).nil⟩;have hz:((N:Int)==0)=true:=by rw[h0];rfl
  clear h hE hN hf hs h1 hE1 hW1 hb1 hs1 hn1 h0 hl0 hsum;go_enter Tryz.func39,Tryz.ntmps39;go_wp2_with fail;rw[←HW1.out];go_ret2;exact HEND.out
 ·have hz:((N:Int)==0)=false:=by rw[beq_eq_false_iff_ne];omega
  have HSU:=Hd (sum_any W1 leaf a N cap hE1 hN (by omega) fun e he=>En.few2 (hf e he));have hgt:decide (((Nd.mk leaf l).sum:Int) > 893)=false:=decide_eq_false (by omega);obtain⟨X,hX⟩:∃X,X=R.layN (m+1) ⟨leaf,l⟩:=⟨_,rfl⟩
  have HR:Hid (X=if R.alloc.1.2=0 then (([⟨(Nd.mk leaf l).key0,[],R.alloc.1.1⟩],(R.alloc.2.write R.alloc.1.1 (Nd.mk leaf l).bytes).1),(R.alloc.2.write R.alloc.1.1 (Nd.mk leaf l).bytes).2) else (([⟨(Nd.mk leaf l).key0,[],R.alloc.1.1⟩],R.alloc.1.2),R.alloc.2)):=Hd (by
   rw[hX,Rp.layN,if_neg (fun(e:l=[])=>h0 (by rw[hN,e];rfl)),if_neg (by omega)])
  rw[←hX];clear hX;have HH:=Hd h
  obtain⟨S,hS⟩:∃S,S=(Nd.mk leaf l).sum:=⟨_,rfl⟩;rw[←hS] at HSU hgt;clear hS;clear h hE hN hf hs h1 hE1 hW1 hb1 hs1 hn1 hsum;go_enter Tryz.func39,Tryz.ntmps39;go_wp2_with fail;rw[←HW1.out];refine HSU.out.mono ?_;rintro e w2 ⟨rfl,hb2⟩;have HB2:=Hd (HB1.out.trans (hb2.mono HB1.out.size))
  have hT2:=HT.out.step hb2;have hn2:=(hb2.block _ (Za HN1.out)).trans HN1.out;have HE2:=Hd (HE.out.below hb2);obtain⟨m0,m1⟩:=Zc hn2;have c0:w2.cell? ⟨tb,0,none⟩=some (Xb f.q):=by rw[cell_of_row _ _ _ _ _ _ hT2.head];rfl
  have HAL:=Hd (lp_alloc hT2.lp);have HT2:=Hd hT2;have HN2:=Hd hn2;clear hb2 hT2 hn2 n0 n1;go_wp2_with fail;refine HAL.out.mono ?_;rintro e w3 ⟨rfl,hto⟩;obtain⟨f3,hT3,hq3,hk3,ht3⟩:=HT2.out.to hto;have HAB:=Hd HT2.out.lp.alloc_le;have HT3:=Hd hT3;have HQ3:=Hd hq3;have HK3:=Hd hk3;have hs2:=Za HN2.out;have HTT:Hid (Zb (PJ F p f) w w3):=Hd ((Zb.of_below HB2.out).trans ht3);have hnp:¬PJ F p f w.heap.size:=fun e=>by have:=HH.out.lp.lt e;omega
  have hn3:=(ht3.block _ hs2 hnp).trans HN2.out;have hE3:=HE2.out.turned ht3 HS.out;have HN3:=Hd hn3;have HE3:=Hd hE3;have HNP3:=Hd (Xj (w:=w2) hk3 hnp hs2);have HS3:Hid (∀k,Zap (.slice a N cap) k→¬PJ F p f3 k):=Hd fun k hk=>by obtain⟨b,o,e,hlt⟩:=HE2.out.lt (by have:=HN.out;omega);refine Xj (w:=w2) hk3 (HS.out k hk) ?_;obtain⟨x,_,_,e2,rfl⟩:=hk;rw[e] at e2;simp only[Value.slice.injEq,Option.some.injEq] at e2;rw[←e2.1];exact hlt
  obtain⟨n0,n1⟩:=Zc hn3;obtain⟨b,o,hab,d0,d1,d2⟩:=hE3.at 0 (by have:=HN.out;omega);subst hab;rw[Nat.zero_mul,Nat.add_zero] at d0;have hi0:(0:Int)<(N:Int):=by omega
  have HX:Hid (Zq w.heap.size (w3.alloc (.cells (enC ⟨(Nd.mk leaf l).key0,[],R.alloc.1.1⟩).toArray 82)) (.slice (some ⟨w3.heap.size,0,none⟩) 1 1) [⟨(Nd.mk leaf l).key0,[],R.alloc.1.1⟩]):=Hd (Zq.lit _ (by have:=HTT.out.size;omega));have hl0:0<l.length:=by have:=HN.out;omega
  have HKEY:Hid (∀h:0<l.length,l[0].key=(Nd.mk leaf l).key0):=Hd fun h=>by unfold Nd.key0;rw[List.head?_eq_getElem?,List.getElem?_eq_getElem h];rfl
  rw[HKEY.out hl0] at d0;by_cases he:R.alloc.1.2=0
  ·have HTK:=Hd hto
   have hne:(R.alloc.1.2==0)=true:=by rw[he];rfl
   have c3:w3.cell? ⟨tb,0,none⟩=some (Xb f3.q):=by rw[cell_of_row _ _ _ _ _ _ hT3.head];rfl
   rw[hq3] at c3;have HE0:=Hd he
   clear hT3 hq3 hk3 ht3 hto m0 m1 c0 hs2 hnp hn3 hE3 d1 d2;have HBY:=Hd (nbytes_any w3.drew leaf (some ⟨b,o,none⟩) N cap HE3.out.drew HN.out HF.out HSUM.out)
   go_upto_region 18 with fail;go_region_with (first | (go_at_call 80;refine HBY.out.mono ?_;clear HBY;rintro e w4 ⟨g,rfl,hg4,hle4,hb4⟩;have HB4:Hid (Below w3.heap.size w3 w4):=Hd ((Below.refl w3.heap.size w3).drew.trans hb4);have HT4:=Hd (HT3.out.step HB4.out);have c4:w4.cell? ⟨tb,0,none⟩=some (Xb f.q):=Zi HB4.out _ _ c3;have HWR:=Hd (lp_write HT4.out.lp R.alloc.1.1 (by have:=HAB.out;omega) (by have:=HAB.out;omega) _ _ hg4);rw[HQ3.out] at HWR;clear hg4 hle4 hb4) | (go_at_call 79;refine HWR.out.mono ?_;clear HWR;rintro e w5 ⟨rfl,hto5⟩;have HTO5:=Hd hto5;clear hto5))
   all_goals
    obtain⟨f5,hT5,hq5,hk5,ht5⟩:=HT4.out.to HTO5.out
    have hn5:=(ht5.block _ (by have:=HB4.out.size;have:=Za HN3.out;omega) HNP3.out).trans ((HB4.out.block _ (Za HN3.out)).trans HN3.out)
    have hE5:=(HE3.out.below HB4.out).turned ht5 HS3.out
    obtain⟨m0,m1⟩:=Zc hn5
    obtain⟨b',o',hab',e0,e1,e2⟩:=hE5.at 0 (by have:=HN.out;omega)
    simp only[Option.some.injEq,Addr.mk.injEq,and_true] at hab'
    obtain⟨rfl,rfl⟩:=hab'
    rw[Nat.zero_mul,Nat.add_zero,HKEY.out hl0] at e0
    have HTE:=Hd (Qc.then HQ3.out (fun k hk=>(HK3.out k hk).imp id fun e=>Nat.le_trans HB2.out.size e) HTT.out (Qc.then (f1:=f3) rfl (fun k hk=>.inl hk) (Zb.of_below HB4.out) (HT4.out.to HTO5.out)):Qc n J seq B w F p f w5 (R.alloc.2.write R.alloc.1.1 (Nd.mk leaf l).bytes).2 tb)
    have ht5s:=ht5.size
    clear hT5 hq5 hk5 ht5 hn5 hE5 e1 e2 n0 n1 d0
    generalize (R.alloc.2.write R.alloc.1.1 (Nd.mk leaf l).bytes)=X5 at *
    go_wp2_with fail
    go_ret2
    rw[HR.out,if_pos HE0.out]
    exact⟨_,rfl,Zq.lit _ (by have:=HTT.out.size;have:=HB4.out.size;have:=ht5s;omega),HTE.out.alloc _ _ _⟩
  ·have hne:(R.alloc.1.2==0)=false:=by rw[beq_eq_false_iff_ne];exact he
   clear hT3 hq3 hk3 ht3 hto m0 m1 c0 hs2 hnp hn3 hE3 d1 d2;go_wp2_with fail;go_ret2;rw[HR.out,if_neg he];exact⟨_,rfl,HX.out,(Qc.then HQ3.out (fun k hk=>(HK3.out k hk).imp id fun e=>Nat.le_trans HB2.out.size e) HTT.out ((Qc.same HT3.out)) |>.alloc _ _ _)⟩
theorem Zb.undrew {T:Nat→Prop} {a b:World} (h:Zb T a.drew b):Zb T a b:=⟨h.os,h.tape,h.output,h.size,h.block⟩
theorem Zq.in_blk {B:Nat} {w:World} {v:Value} {l:List En} (h:Zq B w v l) {k:Nat} (hk:v.ownBlock=some k):Zap v k:=by
 rcases h.form with ⟨rfl,_⟩ | ⟨g,cap,rfl,_⟩
 ·cases hk
 ·cases hk;exact⟨_,_,_,rfl,rfl⟩
theorem Zbz:∀(f:Nat) (R:Rp) (nd:Nd),(R.layN f nd).1.1.length≤nd.l.length
 | 0,R,nd=>Nat.zero_le _
 | f+1,R,nd=>by
  have h1:=Zbz f R ⟨nd.leaf,nd.l.take nd.cut⟩;have h2:=Zbz f (R.layN f ⟨nd.leaf,nd.l.take nd.cut⟩).2 ⟨nd.leaf,nd.l.drop nd.cut⟩;dsimp only at h1 h2;rw[List.length_take] at h1;rw[List.length_drop] at h2;rw[Rp.layN];by_cases h:nd.l=[]
  ·rw[if_pos h];exact Nat.zero_le _
  ·have h0:0<nd.l.length:=List.length_pos_iff.2 h
   rw[if_neg h];split
   ·split
    ·exact Nat.zero_le _
    ·dsimp only;rw[List.length_append];omega
   ·split
    ·exact h0
    ·exact h0
theorem layN_long {R:Rp} {nd:Nd} {f:Nat} {X1 X2:(List En × Int) × Rp} (h:nd.l≠[]) (hs:893<nd.sum) (h1:X1=R.layN f ⟨nd.leaf,nd.l.take nd.cut⟩) (h2:X2=X1.2.layN f ⟨nd.leaf,nd.l.drop nd.cut⟩):R.layN (f+1) nd=if X1.1.2≠0 then (([],X1.1.2),X1.2) else ((X1.1.1++X2.1.1,X2.1.2),X2.2):=by rw[Rp.layN,if_neg h,if_pos hs,h2,h1]
theorem lay_long {w:World} {f:Pf} {R:Rp} (m:Nat) (hi:LayAt n J seq B F p tb m) (leaf:Bool) (a:Option Addr) (N cap:Nat) {l:List En} (h:Tr n J seq B w F p f R tb) (hE:IsE w (.slice a N cap) l) (hN:N=l.length) (hm:N≤m+1) (hm2:m+1≤1000000) (hf:∀e∈l,e.few) (hs:∀k,Zap (.slice a N cap) k→¬PJ F p f k) (hsum:893<(Nd.mk leaf l).sum) :
  Calls Tryz.prog 39 #[trp tb,ndV leaf (.slice a N cap)] w (Zan n J seq B w F p f tb (R.layN (m+1+1) ⟨leaf,l⟩)):=by
 obtain⟨W1,hW1⟩:∃x,x=w.alloc (.cells #[.bool leaf,.slice a N cap] 84):=⟨_,rfl⟩;have hb1:Below w.heap.size w W1:=by rw[hW1];exact Zj w _
 have hn1:W1.heap[w.heap.size]?=some (ndO leaf (.slice a N cap)):=by rw[hW1];exact heap_alloc_new w _
 have hs1:W1.heap.size=w.heap.size+1:=by rw[hW1];simp
 have h1:=h.step hb1;have hE1:=hE.below hb1;have hf2:∀e∈l,e.key.length≤80∧e.val.length≤200:=fun e he=>En.few2 (hf e he);have h2:=long_two (leaf:=leaf) hsum hf2;have hsle:(Nd.mk leaf l).sum≤282*l.length:=Zep leaf l 0 hf2;obtain⟨n0,n1⟩:=Zc hn1;have HE:=Hd hE1;have HN:=Hd hN;have HF:=Hd hf;have HF2:=Hd hf2;have HS:=Hd hs;have HT:=Hd h1;have HW1:=Hd hW1;have HB1:=Hd hb1;have HS1:=Hd hs1;have HN1:=Hd hn1;have HSUM:=Hd hsum;have HI:=Hd hi;have HH:=Hd h;rw[hW1] at n0 n1;have hz:((N:Int)==0)=false:=by rw[beq_eq_false_iff_ne];omega
 have HSU:=Hd (sum_any W1 leaf a N cap hE1 hN (by omega) hf2);have hgt:decide (((Nd.mk leaf l).sum:Int) > 893)=true:=decide_eq_true (by omega);obtain⟨X,hX⟩:∃X,X=R.layN (m+1+1) ⟨leaf,l⟩:=⟨_,rfl⟩;have HX:=Hd hX;rw[←hX];obtain⟨S,hS⟩:∃S,S=(Nd.mk leaf l).sum:=⟨_,rfl⟩;have HSS:=Hd hS;rw[←hS] at HSU hgt hsle;have hN1:2≤N:=by omega
 have hN2:N≤1000000:=by omega
 have hS2:S≤282000000:=by omega
 clear hX hS h hE hN hf hs h1 hE1 hW1 hb1 hs1 hn1 hsum hf2 hi h2 hsle;go_enter Tryz.func39,Tryz.ntmps39;go_wp2_with fail;rw[←HW1.out];refine HSU.out.mono ?_;rintro e w2 ⟨rfl,hb2⟩;have HB2:=Hd (HB1.out.trans (hb2.mono HB1.out.size))
 have hT2:=HT.out.step hb2;have hn2:=(hb2.block _ (Za HN1.out)).trans HN1.out;have HE2:=Hd (HE.out.below hb2);have HT2:=Hd hT2;have HN2:=Hd hn2;clear hb2 hT2 hn2 n0 n1 HSU;go_wp2_with fail;go_loopw [7,8] (fun x y wr=>∃k:Nat,k<N∧x=.int .i64 (k:Int)∧y=.int .i64 (Zg leaf 0 (l.take k):Int)∧Zcd leaf l (N - k) k=Zcd leaf l N 0∧Below w2.heap.size w2 wr) (fun x _ _=>N - (intOf x).toNat)
 case atStart=>exact⟨0,by omega,rfl,by simp[Zg],by rw[Nat.sub_zero],Below.refl _ _⟩
 case round =>
  obtain⟨k,hk,rfl,rfl,hcut,hbr⟩:=hrel;have hnr:=(hbr.block _ (Za HN2.out)).trans HN2.out
  have HER:=Hd (HE2.out.below hbr);have HNR:=Hd hnr;have HBR:=Hd hbr;have HCUT:=Hd hcut;obtain⟨m0,m1⟩:=Zc hnr;have hkl:k<l.length:=by have:=HN.out;omega
  have HSZ:=Hd (size_any wr leaf a N cap HER.out HN.out k hkl (by have:=HN.out;omega) HF2.out);have hst:=Zgl leaf l k hkl;have hmo:=Zdx leaf l (k+1);have hmo2:Zg leaf 0 l=S:=HSS.out.symm;rw[hst,hmo2] at hmo;have HST:=Hd hst;have HM2:=Hd hmo2;clear hst hmo2 hbr hnr hcut;obtain⟨A,hA⟩:∃A,A=Zg leaf 0 (l.take k):=⟨_,rfl⟩;obtain⟨z,hzz⟩:∃z,z=l[k].size leaf k:=⟨_,rfl⟩;rw[←hA,←hzz] at hmo;rw[←hzz] at HSZ;rw[←hA];have HA:=Hd hA;have HZZ:=Hd hzz;have s1:IntKind.i64.wrap ((A:Int)+(z:Int))=((A+z:Nat):Int):=by rw[IntWalk.i64_in _ (by omega)];omega
  have s2:IntKind.i64.wrap (2*((A+z:Nat):Int))=((2*(A+z):Nat):Int):=by rw[IntWalk.i64_in _ (by omega)];omega
  have s3:IntKind.i64.wrap (2*(A:Int))=((2*A:Nat):Int):=by rw[IntWalk.i64_in _ (by omega)];omega
  have s4:IntKind.i64.wrap (((2*A:Nat):Int)+(z:Int))=((2*A+z:Nat):Int):=by rw[IntWalk.i64_in _ (by omega)];omega
  have s5:IntKind.i64.wrap ((k:Int)+1)=((k+1:Nat):Int):=by rw[IntWalk.i64_in _ (by omega)];omega
  clear hA hzz
  have fact:∀W:World,Below w2.heap.size w2 W→W.heap[w.heap.size]?=some (ndO leaf (.slice a N cap))∧Calls Tryz.prog 78 #[ndV leaf (.slice a N cap),.int .i64 (k:Int)] W fun e w'=>e=.returned (.int .i64 (z:Int))∧Below W.heap.size W w':=fun W hb=>by
   refine⟨(hb.block _ (Za HN2.out)).trans HN2.out,?_⟩;have:=size_any W leaf a N cap (HE2.out.below hb) HN.out k hkl (by have:=HN.out;omega) HF2.out
   rw[←HZZ.out] at this;exact this
  have FACT:=Hd fact;clear fact;by_cases hc:2*(A+z)≤S∨k=0
  ·have hc2:=hc
   rw[←HM2.out,HA.out,HZZ.out,←HST.out] at hc2;have HLT:=Hd (cut_more (leaf:=leaf) HSUM.out HF2.out hkl hc2)
   have HNX:Hid (Zcd leaf l (N - (k+1)) (k+1)=Zcd leaf l N 0):=Hd (by
    rw[←HCUT.out,show N - k=(N - (k+1))+1 by omega,cutK_step hc2])
   have HSX:Hid (Zg leaf 0 (l.take (k+1))=A+z):=Hd (by rw[HST.out,HA.out,HZZ.out]);clear hc2;by_cases c1:2*(A+z)≤S
   ·have hd:decide (((2*(A+z):Nat):Int)≤(S:Int))=true:=decide_eq_true (by omega)
    have hdn:decide (2*(A+z)≤S)=true:=decide_eq_true c1;clear hc;go_wp2_with fail;refine HSZ.out.mono ?_;rintro e w4 ⟨rfl,hb4⟩;have hb4':=HBR.out.trans (hb4.mono HBR.out.size);obtain⟨hn4,hsz4⟩:=FACT.out w4 hb4';have HSZ4:=Hd hsz4;have HB4:=Hd hb4';obtain⟨p0,p1⟩:=Zc hn4;clear hb4 hb4' hn4 hsz4;go_wp2_with fail;refine HSZ4.out.mono ?_;rintro e w5 ⟨rfl,hb5⟩;have HB5:=Hd (HB4.out.trans (hb5.mono HB4.out.size));clear hb5;go_wp2_with fail;go_roundw
    case rel=>exact⟨k+1,by have:=HLT.out;have:=HN.out;omega,by go_num,by rw[HSX.out];go_num,HNX.out,HB5.out⟩
    case measure=>simp[intOf];omega
   ·have hz0:((k:Int)==0)=true:=by rw[beq_iff_eq];omega
    have hd:decide (((2*(A+z):Nat):Int)≤(S:Int))=false:=decide_eq_false (by omega);have hdn:decide (2*(A+z)≤S)=false:=decide_eq_false c1;clear hc;go_wp2_with fail;refine HSZ.out.mono ?_;rintro e w4 ⟨rfl,hb4⟩;have hb4':=HBR.out.trans (hb4.mono HBR.out.size);obtain⟨hn4,hsz4⟩:=FACT.out w4 hb4';have HSZ4:=Hd hsz4;have HB4:=Hd hb4';obtain⟨p0,p1⟩:=Zc hn4;clear hb4 hb4' hn4 hsz4;go_wp2_with fail;refine HSZ4.out.mono ?_;rintro e w5 ⟨rfl,hb5⟩;have HB5:=Hd (HB4.out.trans (hb5.mono HB4.out.size));clear hb5;go_wp2_with fail;go_roundw
    case rel=>exact⟨k+1,by have:=HLT.out;have:=HN.out;omega,by go_num,by rw[HSX.out];go_num,HNX.out,HB5.out⟩
    case measure=>simp[intOf];omega
  ·have hcn:¬(2*Zg leaf 0 (l.take (k+1))≤Zg leaf 0 l∨k=0):=by rw[HST.out,HM2.out,←HA.out,←HZZ.out];exact hc
   have hk0:¬k=0:=fun e=>hc (.inr e);have hnc:¬2*(A+z)≤S:=fun e=>hc (.inl e);have hKK:Zcd leaf l l.length 0=k:=by rw[←HN.out,←HCUT.out,show N - k=(N - (k+1))+1 by omega,cutK_end hcn]
   have hCUT:(Nd.mk leaf l).cut=if A+(A+z)≤S∧k+1<N then k+1 else k:=by unfold Nd.cut;dsimp only;rw[hKK,HST.out,←HA.out,←HZZ.out,←HSS.out,←HN.out]
   have HCUT2:=Hd hCUT;have hz0:((k:Int)==0)=false:=by rw[beq_eq_false_iff_ne];omega
   have hd:decide (((2*(A+z):Nat):Int)≤(S:Int))=false:=decide_eq_false (by omega);have hdn:decide (2*(A+z)≤S)=false:=decide_eq_false (by omega);obtain⟨b,o,hab,_⟩:=HE2.out.at 0 (by have:=HN.out;omega);subst hab;have HCAP:Hid (N≤cap):=Hd (by obtain⟨_,_,e,h1,_⟩:=HE2.out.form;simp only[Value.slice.injEq] at e;have:=HN.out;omega);clear hcn hKK hCUT;by_cases c1:2*A+z≤S
   ·have he1:decide (((2*A+z:Nat):Int)≤(S:Int))=true:=decide_eq_true (by omega)
    have he2:decide (2*A+z≤S)=true:=decide_eq_true (by omega);by_cases c2:k+1<N
    ·have hf1:decide (((k+1:Nat):Int)<(N:Int))=true:=decide_eq_true (by omega)
     have hf2:decide (k+1<N)=true:=decide_eq_true (by omega);obtain⟨C,hC⟩:∃C,C=k+1:=⟨_,rfl⟩;have hC1:0<C:=by omega
     have hC2:C<N:=by omega
     have HCT:Hid ((Nd.mk leaf l).cut=C):=Hd (by rw[hC];rw[HCUT2.out,if_pos ⟨by omega,c2⟩]);have HC:=Hd hC;clear hc hC;go_wp2_with fail;refine HSZ.out.mono ?_;rintro e w4 ⟨rfl,hb4⟩;have hb4':=HBR.out.trans (hb4.mono HBR.out.size);obtain⟨hn4,hsz4⟩:=FACT.out w4 hb4';have HSZ4:=Hd hsz4;have HB4:=Hd hb4';obtain⟨p0,p1⟩:=Zc hn4;clear hb4 hb4' hn4 hsz4;go_wp2_with fail;refine HSZ4.out.mono ?_;rintro e w5 ⟨rfl,hb5⟩;have hb5':=HB4.out.trans (hb5.mono HB4.out.size);obtain⟨hn5,hnx⟩:=FACT.out w5 hb5';have HB5:=Hd (HB2.out.trans (hb5'.mono HB2.out.size));have hT5:=HT2.out.step hb5';have HE5:=Hd (HE2.out.below hb5');have HN5:=Hd hn5;have HT5:=Hd hT5;obtain⟨q0,q1⟩:=Zc hn5;have hcc:(C:Int)≤(N:Int):=by omega
     have hc0:(0:Int)≤(C:Int):=by omega
     have hcap:=HCAP.out;have hcc2:(C:Int)≤(cap:Int):=by omega
     have HLAY:=Hd (HI.out w5.drew f R leaf (some ⟨b,o,none⟩) C cap (l.take C) (hT5.step (Below.refl _ _).drew) (HE5.out.drew.take C (by have:=HN.out;omega)) (by rw[List.length_take];have:=HN.out;omega) (by omega) (fun e he=>HF.out e (List.mem_of_mem_take he)) (fun k hk=>HS.out k (by obtain⟨x,_,_,e,r⟩:=hk;cases e;exact⟨_,_,_,rfl,r⟩)));have d0:w5.drew.cell? ⟨w.heap.size,0,none⟩=some (.bool leaf):=q0;have d1:w5.drew.cell? ⟨w.heap.size,1,none⟩=some (.slice (some ⟨b,o,none⟩) N cap):=q1;clear hb5 hb5' hn5 hT5 p0 p1 m0 m1 HSZ HSZ4 FACT hnx;clear HA HZZ HST HM2 HCUT;go_upto_region 11 with fail;clear q0 q1;rw[show (((k:Int)+1:Int))=(C:Int) by have:=HC.out;omega]
     clear s1 s2 s3 s4 s5;go_region_with (go_at_call 39;refine HLAY.out.mono ?_;clear HLAY;rintro e w6 ⟨v6,rfl,hm6,ht6⟩;have HM6:=Hd hm6;have HT6:=Hd ht6;clear hm6 ht6)
     all_goals
      obtain⟨f6,hT6,hq6,hk6,ht6,hsv6⟩:=HT6.out
      obtain⟨X1,hX1⟩:∃X1,X1=R.layN (m+1) ⟨leaf,l.take C⟩:=⟨_,rfl⟩
      rw[←hX1] at HM6 HT6 hT6
      rw[←hX1]
      have HX1:=Hd hX1
      have hw6:w.heap.size<w5.drew.heap.size:=Za HN5.out
      have hn6:=(ht6.block _ hw6 (fun e=>by have:=HH.out.lp.lt e;omega)).trans HN5.out
      have hE6:=HE5.out.drew.turned ht6 HS.out
      have HN6:=Hd hn6
      have HE6:=Hd hE6
      have HW6:=Hd hw6
      have HLN:Hid (∀X2,X2=X1.2.layN (m+1) ⟨leaf,l.drop C⟩→X=if X1.1.2≠0 then (([],X1.1.2),X1.2) else ((X1.1.1++X2.1.1,X2.1.2),X2.2)):=Hd fun X2 h2=>by
       rw[HX.out];refine layN_long (nd:=⟨leaf,l⟩) (fun e=>?_) HSUM.out (by rw[HCT.out];exact HX1.out) (by rw[HCT.out];exact h2);have e2:l=[]:=e
       have:=HN.out;rw[e2] at this;simp at this;omega
      by_cases he:X1.1.2=0
      ·have hne:(X1.1.2 != 0)=false:=by rw[he];rfl
       have hcapC:¬cap=C:=by omega
       have hcapC2:¬C=cap:=by omega
       obtain⟨g0,g1⟩:=Zc (w:=w6.drew) hn6;have hbw6:b<w6.heap.size:=by obtain⟨b',o',e,hlt⟩:=hE6.lt (by have:=HN.out;omega);cases e;exact hlt
       have hbw5:b<w5.heap.size:=by obtain⟨b',o',e,hlt⟩:=HE5.out.lt (by have:=HN.out;omega);cases e;exact hlt
       have HLAY2:=Hd (HI.out w6.drew f6 X1.2 leaf (some ⟨b,o+C*3,none⟩) (N - C) (cap - C) (l.drop C) (hT6.step (Below.refl _ _).drew) (by rw[show N - C=l.length - C by have:=HN.out;omega];exact hE6.drew.drop C (by have:=HN.out;omega)) (by rw[List.length_drop];have:=HN.out;omega) (by omega) (fun e he=>HF.out e (List.mem_of_mem_drop he)) (fun k hk=>by
        obtain⟨x,_,_,e,r⟩:=hk;cases e;dsimp only at r;subst r
        exact Xj (w:=w5.drew) hk6 (HS.out b ⟨_,_,_,rfl,rfl⟩) hbw5))
       have HHE:=Hd he;have HK6:=Hd hk6;have HQ6:=Hd hq6;have HTT6:=Hd ht6;have HSV6:=Hd hsv6;have HT66:=Hd hT6;clear hX1 hw6 hn6 hE6 hT6 hq6 hk6 ht6 hsv6 d0 d1 he hbw5;go_upto_region 14 with fail;go_region_with (go_at_call 39;refine HLAY2.out.mono ?_;clear HLAY2;rintro e w7 ⟨v7,rfl,hm7,ht7⟩;have HM7:=Hd hm7;have HT7:=Hd ht7;clear hm7 ht7)
       all_goals
        obtain⟨X2,hX2⟩:∃X2,X2=X1.2.layN (m+1) ⟨leaf,l.drop C⟩:=⟨_,rfl⟩
        rw[←hX2] at HM7 HT7
        rw[←hX2]
        have HX2:=Hd hX2
        obtain⟨f7,hT7,hq7,hk7,ht7,hsv7⟩:=HT7.out
        have hm6:Zq w5.drew.heap.size w7 v6 X1.1.1:=HM6.out.keep1 fun k hk=>by have hin:=HM6.out.in_blk hk;exact ht7.block _ (HM6.out.lt hk).2 (HSV6.out _ hin)
        have hl1:X1.1.1.length≤C:=by have:=Zbz (m+1) R ⟨leaf,l.take C⟩;rw[←HX1.out] at this;dsimp only at this;rw[List.length_take] at this;omega
        have hl2:X2.1.1.length≤N - C:=by have:=Zbz (m+1) X1.2 ⟨leaf,l.drop C⟩;rw[←HX2.out] at this;dsimp only at this;rw[List.length_drop] at this;have:=HN.out;omega
        have hsz7:w6.heap.size≤w7.heap.size:=ht7.size
        have hsz6:w5.heap.size≤w6.heap.size:=HTT6.out.size
        obtain⟨v8,w8,hr,hm8,hg8,ho8⟩:=hm6.app HM7.out.isE (by show w5.heap.size≤_;omega) (by omega)
        have HTV:Hid (TrV n J seq B w F p f w7 X2.2 tb v6):=Hd (TrV.then (f1:=f) rfl (fun k hk=>.inl hk) (Zb.of_below HB5.out.drew) (TrV.then HQ6.out HK6.out HTT6.out ⟨f7,hT7,hq7,hk7,ht7.undrew,fun k hk=>by
         have hlt:=(HM6.out.isE_blk hk).2
         exact Xj (w:=w6.drew) hk7 (HSV6.out k hk) hlt⟩))
        have HTV8:=Hd (HTV.out.grown HH.out hm6 HB5.out.size hg8 ho8 hm8)
        have HM8:Hid (Zq w.heap.size w8 v8 (X1.1.1++X2.1.1)):=Hd (hm8.low HB5.out.size)
        obtain⟨a6,c6,hv6,_,_⟩:=HM6.out.isE.form
        obtain⟨a7,c7,hv7,_,_⟩:=HM7.out.isE.form
        subst hv6 hv7
        have HR8:=Hd hr
        clear hX2 hT7 hq7 hk7 ht7 hsv7 hm6 hl1 hl2 hsz7 hsz6 hm8 hg8 ho8 g0 g1 hr
        generalize X1.1.1.length=L1 at *
        generalize X2.1.1.length=L2 at *
        have hr:=HR8.out
        clear HR8
        go_wp2_with (at_builtin;refine wpList_append_run rfl (.tmp 86) (.tmp 87) 78 78 rfl _ _ _ rfl rfl hr ?_;clear hr)
        go_ret2
        rw[HLN.out _ HX2.out,if_neg (fun e=>e HHE.out)]
        exact⟨_,rfl,HM8.out,HTV8.out⟩
      ·have hne:(X1.1.2 != 0)=true:=by rw[bne_iff_ne];exact he
       have HNE:=Hd he;clear hX1 hw6 hn6 hE6 hT6 hq6 hk6 ht6 hsv6 d0 d1 he;go_wp2_with fail;go_ret2;rw[HLN.out _ rfl,if_pos HNE.out];exact⟨_,rfl,Zq.nil _ _,(Qc.then (f1:=f) rfl (fun k hk=>.inl hk) (Zb.of_below HB5.out.drew) HT6.out.to).nil⟩
    ·have hf1:decide (((k+1:Nat):Int)<(N:Int))=false:=decide_eq_false (by omega)
     have hf2:decide (k+1<N)=false:=decide_eq_false (by omega);obtain⟨C,hC⟩:∃C,C=k:=⟨_,rfl⟩;have hC1:0<C:=by omega
     have hC2:C<N:=by omega
     have HCT:Hid ((Nd.mk leaf l).cut=C):=Hd (by rw[hC];rw[HCUT2.out,if_neg (fun x=>c2 x.2)]);have HC:=Hd hC;clear hc hC;go_wp2_with fail;refine HSZ.out.mono ?_;rintro e w4 ⟨rfl,hb4⟩;have hb4':=HBR.out.trans (hb4.mono HBR.out.size);obtain⟨hn4,hsz4⟩:=FACT.out w4 hb4';have HSZ4:=Hd hsz4;have HB4:=Hd hb4';obtain⟨p0,p1⟩:=Zc hn4;clear hb4 hb4' hn4 hsz4;go_wp2_with fail;refine HSZ4.out.mono ?_;rintro e w5 ⟨rfl,hb5⟩;have hb5':=HB4.out.trans (hb5.mono HB4.out.size);obtain⟨hn5,hnx⟩:=FACT.out w5 hb5';have HB5:=Hd (HB2.out.trans (hb5'.mono HB2.out.size));have hT5:=HT2.out.step hb5';have HE5:=Hd (HE2.out.below hb5');have HN5:=Hd hn5;have HT5:=Hd hT5;obtain⟨q0,q1⟩:=Zc hn5;have hcc:(C:Int)≤(N:Int):=by omega
     have hc0:(0:Int)≤(C:Int):=by omega
     have hcap:=HCAP.out;have hcc2:(C:Int)≤(cap:Int):=by omega
     have HLAY:=Hd (HI.out w5.drew f R leaf (some ⟨b,o,none⟩) C cap (l.take C) (hT5.step (Below.refl _ _).drew) (HE5.out.drew.take C (by have:=HN.out;omega)) (by rw[List.length_take];have:=HN.out;omega) (by omega) (fun e he=>HF.out e (List.mem_of_mem_take he)) (fun k hk=>HS.out k (by obtain⟨x,_,_,e,r⟩:=hk;cases e;exact⟨_,_,_,rfl,r⟩)));have d0:w5.drew.cell? ⟨w.heap.size,0,none⟩=some (.bool leaf):=q0;have d1:w5.drew.cell? ⟨w.heap.size,1,none⟩=some (.slice (some ⟨b,o,none⟩) N cap):=q1;clear hb5 hb5' hn5 hT5 p0 p1 m0 m1 HSZ HSZ4 FACT hnx;clear HA HZZ HST HM2 HCUT;go_upto_region 11 with fail;clear q0 q1;rw[show ((k:Int))=(C:Int) by have:=HC.out;omega]
     clear s1 s2 s3 s4 s5;go_region_with (go_at_call 39;refine HLAY.out.mono ?_;clear HLAY;rintro e w6 ⟨v6,rfl,hm6,ht6⟩;have HM6:=Hd hm6;have HT6:=Hd ht6;clear hm6 ht6)
     all_goals
      obtain⟨f6,hT6,hq6,hk6,ht6,hsv6⟩:=HT6.out
      obtain⟨X1,hX1⟩:∃X1,X1=R.layN (m+1) ⟨leaf,l.take C⟩:=⟨_,rfl⟩
      rw[←hX1] at HM6 HT6 hT6
      rw[←hX1]
      have HX1:=Hd hX1
      have hw6:w.heap.size<w5.drew.heap.size:=Za HN5.out
      have hn6:=(ht6.block _ hw6 (fun e=>by have:=HH.out.lp.lt e;omega)).trans HN5.out
      have hE6:=HE5.out.drew.turned ht6 HS.out
      have HN6:=Hd hn6
      have HE6:=Hd hE6
      have HW6:=Hd hw6
      have HLN:Hid (∀X2,X2=X1.2.layN (m+1) ⟨leaf,l.drop C⟩→X=if X1.1.2≠0 then (([],X1.1.2),X1.2) else ((X1.1.1++X2.1.1,X2.1.2),X2.2)):=Hd fun X2 h2=>by
       rw[HX.out];refine layN_long (nd:=⟨leaf,l⟩) (fun e=>?_) HSUM.out (by rw[HCT.out];exact HX1.out) (by rw[HCT.out];exact h2);have e2:l=[]:=e
       have:=HN.out;rw[e2] at this;simp at this;omega
      by_cases he:X1.1.2=0
      ·have hne:(X1.1.2 != 0)=false:=by rw[he];rfl
       have hcapC:¬cap=C:=by omega
       have hcapC2:¬C=cap:=by omega
       obtain⟨g0,g1⟩:=Zc (w:=w6.drew) hn6;have hbw6:b<w6.heap.size:=by obtain⟨b',o',e,hlt⟩:=hE6.lt (by have:=HN.out;omega);cases e;exact hlt
       have hbw5:b<w5.heap.size:=by obtain⟨b',o',e,hlt⟩:=HE5.out.lt (by have:=HN.out;omega);cases e;exact hlt
       have HLAY2:=Hd (HI.out w6.drew f6 X1.2 leaf (some ⟨b,o+C*3,none⟩) (N - C) (cap - C) (l.drop C) (hT6.step (Below.refl _ _).drew) (by rw[show N - C=l.length - C by have:=HN.out;omega];exact hE6.drew.drop C (by have:=HN.out;omega)) (by rw[List.length_drop];have:=HN.out;omega) (by omega) (fun e he=>HF.out e (List.mem_of_mem_drop he)) (fun k hk=>by
        obtain⟨x,_,_,e,r⟩:=hk;cases e;dsimp only at r;subst r
        exact Xj (w:=w5.drew) hk6 (HS.out b ⟨_,_,_,rfl,rfl⟩) hbw5))
       have HHE:=Hd he;have HK6:=Hd hk6;have HQ6:=Hd hq6;have HTT6:=Hd ht6;have HSV6:=Hd hsv6;have HT66:=Hd hT6;clear hX1 hw6 hn6 hE6 hT6 hq6 hk6 ht6 hsv6 d0 d1 he hbw5;go_upto_region 14 with fail;go_region_with (go_at_call 39;refine HLAY2.out.mono ?_;clear HLAY2;rintro e w7 ⟨v7,rfl,hm7,ht7⟩;have HM7:=Hd hm7;have HT7:=Hd ht7;clear hm7 ht7)
       all_goals
        obtain⟨X2,hX2⟩:∃X2,X2=X1.2.layN (m+1) ⟨leaf,l.drop C⟩:=⟨_,rfl⟩
        rw[←hX2] at HM7 HT7
        rw[←hX2]
        have HX2:=Hd hX2
        obtain⟨f7,hT7,hq7,hk7,ht7,hsv7⟩:=HT7.out
        have hm6:Zq w5.drew.heap.size w7 v6 X1.1.1:=HM6.out.keep1 fun k hk=>by have hin:=HM6.out.in_blk hk;exact ht7.block _ (HM6.out.lt hk).2 (HSV6.out _ hin)
        have hl1:X1.1.1.length≤C:=by have:=Zbz (m+1) R ⟨leaf,l.take C⟩;rw[←HX1.out] at this;dsimp only at this;rw[List.length_take] at this;omega
        have hl2:X2.1.1.length≤N - C:=by have:=Zbz (m+1) X1.2 ⟨leaf,l.drop C⟩;rw[←HX2.out] at this;dsimp only at this;rw[List.length_drop] at this;have:=HN.out;omega
        have hsz7:w6.heap.size≤w7.heap.size:=ht7.size
        have hsz6:w5.heap.size≤w6.heap.size:=HTT6.out.size
        obtain⟨v8,w8,hr,hm8,hg8,ho8⟩:=hm6.app HM7.out.isE (by show w5.heap.size≤_;omega) (by omega)
        have HTV:Hid (TrV n J seq B w F p f w7 X2.2 tb v6):=Hd (TrV.then (f1:=f) rfl (fun k hk=>.inl hk) (Zb.of_below HB5.out.drew) (TrV.then HQ6.out HK6.out HTT6.out ⟨f7,hT7,hq7,hk7,ht7.undrew,fun k hk=>by
         have hlt:=(HM6.out.isE_blk hk).2
         exact Xj (w:=w6.drew) hk7 (HSV6.out k hk) hlt⟩))
        have HTV8:=Hd (HTV.out.grown HH.out hm6 HB5.out.size hg8 ho8 hm8)
        have HM8:Hid (Zq w.heap.size w8 v8 (X1.1.1++X2.1.1)):=Hd (hm8.low HB5.out.size)
        obtain⟨a6,c6,hv6,_,_⟩:=HM6.out.isE.form
        obtain⟨a7,c7,hv7,_,_⟩:=HM7.out.isE.form
        subst hv6 hv7
        have HR8:=Hd hr
        clear hX2 hT7 hq7 hk7 ht7 hsv7 hm6 hl1 hl2 hsz7 hsz6 hm8 hg8 ho8 g0 g1 hr
        generalize X1.1.1.length=L1 at *
        generalize X2.1.1.length=L2 at *
        have hr:=HR8.out
        clear HR8
        go_wp2_with (at_builtin;refine wpList_append_run rfl (.tmp 86) (.tmp 87) 78 78 rfl _ _ _ rfl rfl hr ?_;clear hr)
        go_ret2
        rw[HLN.out _ HX2.out,if_neg (fun e=>e HHE.out)]
        exact⟨_,rfl,HM8.out,HTV8.out⟩
      ·have hne:(X1.1.2 != 0)=true:=by rw[bne_iff_ne];exact he
       have HNE:=Hd he;clear hX1 hw6 hn6 hE6 hT6 hq6 hk6 ht6 hsv6 d0 d1 he;go_wp2_with fail;go_ret2;rw[HLN.out _ rfl,if_pos HNE.out];exact⟨_,rfl,Zq.nil _ _,(Qc.then (f1:=f) rfl (fun k hk=>.inl hk) (Zb.of_below HB5.out.drew) HT6.out.to).nil⟩
   ·have he1:decide (((2*A+z:Nat):Int)≤(S:Int))=false:=decide_eq_false (by omega)
    have he2:decide (2*A+z≤S)=false:=decide_eq_false (by omega);obtain⟨C,hC⟩:∃C,C=k:=⟨_,rfl⟩;have hC1:0<C:=by omega
    have hC2:C<N:=by omega
    have HCT:Hid ((Nd.mk leaf l).cut=C):=Hd (by rw[hC];rw[HCUT2.out,if_neg (fun x=>c1 (by omega))]);have HC:=Hd hC;clear hc hC;go_wp2_with fail;refine HSZ.out.mono ?_;rintro e w4 ⟨rfl,hb4⟩;have hb4':=HBR.out.trans (hb4.mono HBR.out.size);obtain⟨hn4,hsz4⟩:=FACT.out w4 hb4';have HSZ4:=Hd hsz4;have HB4:=Hd hb4';obtain⟨p0,p1⟩:=Zc hn4;clear hb4 hb4' hn4 hsz4;go_wp2_with fail;refine HSZ4.out.mono ?_;rintro e w5 ⟨rfl,hb5⟩;have hb5':=HB4.out.trans (hb5.mono HB4.out.size);obtain⟨hn5,hnx⟩:=FACT.out w5 hb5';have HB5:=Hd (HB2.out.trans (hb5'.mono HB2.out.size));have hT5:=HT2.out.step hb5';have HE5:=Hd (HE2.out.below hb5');have HN5:=Hd hn5;have HT5:=Hd hT5;obtain⟨q0,q1⟩:=Zc hn5;have hcc:(C:Int)≤(N:Int):=by omega
    have hc0:(0:Int)≤(C:Int):=by omega
    have hcap:=HCAP.out;have hcc2:(C:Int)≤(cap:Int):=by omega
    have HLAY:=Hd (HI.out w5.drew f R leaf (some ⟨b,o,none⟩) C cap (l.take C) (hT5.step (Below.refl _ _).drew) (HE5.out.drew.take C (by have:=HN.out;omega)) (by rw[List.length_take];have:=HN.out;omega) (by omega) (fun e he=>HF.out e (List.mem_of_mem_take he)) (fun k hk=>HS.out k (by obtain⟨x,_,_,e,r⟩:=hk;cases e;exact⟨_,_,_,rfl,r⟩)));have d0:w5.drew.cell? ⟨w.heap.size,0,none⟩=some (.bool leaf):=q0;have d1:w5.drew.cell? ⟨w.heap.size,1,none⟩=some (.slice (some ⟨b,o,none⟩) N cap):=q1;clear hb5 hb5' hn5 hT5 p0 p1 m0 m1 HSZ HSZ4 FACT hnx;clear HA HZZ HST HM2 HCUT;go_upto_region 11 with fail;clear q0 q1;rw[show ((k:Int))=(C:Int) by have:=HC.out;omega]
    clear s1 s2 s3 s4 s5;go_region_with (go_at_call 39;refine HLAY.out.mono ?_;clear HLAY;rintro e w6 ⟨v6,rfl,hm6,ht6⟩;have HM6:=Hd hm6;have HT6:=Hd ht6;clear hm6 ht6)
    all_goals
     obtain⟨f6,hT6,hq6,hk6,ht6,hsv6⟩:=HT6.out
     obtain⟨X1,hX1⟩:∃X1,X1=R.layN (m+1) ⟨leaf,l.take C⟩:=⟨_,rfl⟩
     rw[←hX1] at HM6 HT6 hT6
     rw[←hX1]
     have HX1:=Hd hX1
     have hw6:w.heap.size<w5.drew.heap.size:=Za HN5.out
     have hn6:=(ht6.block _ hw6 (fun e=>by have:=HH.out.lp.lt e;omega)).trans HN5.out
     have hE6:=HE5.out.drew.turned ht6 HS.out
     have HN6:=Hd hn6
     have HE6:=Hd hE6
     have HW6:=Hd hw6
     have HLN:Hid (∀X2,X2=X1.2.layN (m+1) ⟨leaf,l.drop C⟩→X=if X1.1.2≠0 then (([],X1.1.2),X1.2) else ((X1.1.1++X2.1.1,X2.1.2),X2.2)):=Hd fun X2 h2=>by
      rw[HX.out];refine layN_long (nd:=⟨leaf,l⟩) (fun e=>?_) HSUM.out (by rw[HCT.out];exact HX1.out) (by rw[HCT.out];exact h2);have e2:l=[]:=e
      have:=HN.out;rw[e2] at this;simp at this;omega
     by_cases he:X1.1.2=0
     ·have hne:(X1.1.2 != 0)=false:=by rw[he];rfl
      have hcapC:¬cap=C:=by omega
      have hcapC2:¬C=cap:=by omega
      obtain⟨g0,g1⟩:=Zc (w:=w6.drew) hn6;have hbw6:b<w6.heap.size:=by obtain⟨b',o',e,hlt⟩:=hE6.lt (by have:=HN.out;omega);cases e;exact hlt
      have hbw5:b<w5.heap.size:=by obtain⟨b',o',e,hlt⟩:=HE5.out.lt (by have:=HN.out;omega);cases e;exact hlt
      have HLAY2:=Hd (HI.out w6.drew f6 X1.2 leaf (some ⟨b,o+C*3,none⟩) (N - C) (cap - C) (l.drop C) (hT6.step (Below.refl _ _).drew) (by rw[show N - C=l.length - C by have:=HN.out;omega];exact hE6.drew.drop C (by have:=HN.out;omega)) (by rw[List.length_drop];have:=HN.out;omega) (by omega) (fun e he=>HF.out e (List.mem_of_mem_drop he)) (fun k hk=>by
       obtain⟨x,_,_,e,r⟩:=hk;cases e;dsimp only at r;subst r
       exact Xj (w:=w5.drew) hk6 (HS.out b ⟨_,_,_,rfl,rfl⟩) hbw5))
      have HHE:=Hd he;have HK6:=Hd hk6;have HQ6:=Hd hq6;have HTT6:=Hd ht6;have HSV6:=Hd hsv6;have HT66:=Hd hT6;clear hX1 hw6 hn6 hE6 hT6 hq6 hk6 ht6 hsv6 d0 d1 he hbw5;go_upto_region 14 with fail;go_region_with (go_at_call 39;refine HLAY2.out.mono ?_;clear HLAY2;rintro e w7 ⟨v7,rfl,hm7,ht7⟩;have HM7:=Hd hm7;have HT7:=Hd ht7;clear hm7 ht7)
      all_goals
       obtain⟨X2,hX2⟩:∃X2,X2=X1.2.layN (m+1) ⟨leaf,l.drop C⟩:=⟨_,rfl⟩
       rw[←hX2] at HM7 HT7
       rw[←hX2]
       have HX2:=Hd hX2
       obtain⟨f7,hT7,hq7,hk7,ht7,hsv7⟩:=HT7.out
       have hm6:Zq w5.drew.heap.size w7 v6 X1.1.1:=HM6.out.keep1 fun k hk=>by have hin:=HM6.out.in_blk hk;exact ht7.block _ (HM6.out.lt hk).2 (HSV6.out _ hin)
       have hl1:X1.1.1.length≤C:=by have:=Zbz (m+1) R ⟨leaf,l.take C⟩;rw[←HX1.out] at this;dsimp only at this;rw[List.length_take] at this;omega
       have hl2:X2.1.1.length≤N - C:=by have:=Zbz (m+1) X1.2 ⟨leaf,l.drop C⟩;rw[←HX2.out] at this;dsimp only at this;rw[List.length_drop] at this;have:=HN.out;omega
       have hsz7:w6.heap.size≤w7.heap.size:=ht7.size
       have hsz6:w5.heap.size≤w6.heap.size:=HTT6.out.size
       obtain⟨v8,w8,hr,hm8,hg8,ho8⟩:=hm6.app HM7.out.isE (by show w5.heap.size≤_;omega) (by omega)
       have HTV:Hid (TrV n J seq B w F p f w7 X2.2 tb v6):=Hd (TrV.then (f1:=f) rfl (fun k hk=>.inl hk) (Zb.of_below HB5.out.drew) (TrV.then HQ6.out HK6.out HTT6.out ⟨f7,hT7,hq7,hk7,ht7.undrew,fun k hk=>by
        have hlt:=(HM6.out.isE_blk hk).2
        exact Xj (w:=w6.drew) hk7 (HSV6.out k hk) hlt⟩))
       have HTV8:=Hd (HTV.out.grown HH.out hm6 HB5.out.size hg8 ho8 hm8)
       have HM8:Hid (Zq w.heap.size w8 v8 (X1.1.1++X2.1.1)):=Hd (hm8.low HB5.out.size)
       obtain⟨a6,c6,hv6,_,_⟩:=HM6.out.isE.form
       obtain⟨a7,c7,hv7,_,_⟩:=HM7.out.isE.form
       subst hv6 hv7
       have HR8:=Hd hr
       clear hX2 hT7 hq7 hk7 ht7 hsv7 hm6 hl1 hl2 hsz7 hsz6 hm8 hg8 ho8 g0 g1 hr
       generalize X1.1.1.length=L1 at *
       generalize X2.1.1.length=L2 at *
       have hr:=HR8.out
       clear HR8
       go_wp2_with (at_builtin;refine wpList_append_run rfl (.tmp 86) (.tmp 87) 78 78 rfl _ _ _ rfl rfl hr ?_;clear hr)
       go_ret2
       rw[HLN.out _ HX2.out,if_neg (fun e=>e HHE.out)]
       exact⟨_,rfl,HM8.out,HTV8.out⟩
     ·have hne:(X1.1.2 != 0)=true:=by rw[bne_iff_ne];exact he
      have HNE:=Hd he;clear hX1 hw6 hn6 hE6 hT6 hq6 hk6 ht6 hsv6 d0 d1 he;go_wp2_with fail;go_ret2;rw[HLN.out _ rfl,if_pos HNE.out];exact⟨_,rfl,Zq.nil _ _,(Qc.then (f1:=f) rfl (fun k hk=>.inl hk) (Zb.of_below HB5.out.drew) HT6.out.to).nil⟩
end
end
section
structure Nd.fit (n:Nd):Prop where
 some:n.l≠[]
 few:∀e∈n.l,e.few
 srt:Srt n
 sum:n.sum≤893
theorem textB_spec {bs:List UInt8} {at_ most:Nat} {x:List UInt8 × Nat} (h:Zbm bs at_ most=some x):x.2=at_+1+x.1.length∧x.2≤bs.length∧x.1.length≤most:=by
 have h1:=textB_le h;unfold Zbm at h;split at h
 ·cases h
 ·split at h
  ·cases h
  ·split at h
   ·cases h
   ·cases h;refine⟨?_,h1⟩;dsimp only;rw[List.length_take,List.length_drop];omega
theorem readE_spec {leaf:Bool} {bs:List UInt8} {i at_:Nat} {x:En × Nat} (h:Zbe leaf bs i at_=some x):x.1.few∧x.2=at_+x.1.size leaf i∧x.2≤bs.length:=by
 unfold Zbe at h
 cases hk:readK leaf bs i at_ with
 | none=>rw[hk] at h;cases h
 | some k =>
  rw[hk] at h;change readV leaf bs k.1 k.2=some x at h
  have hks:k.1.length≤80∧k.2=at_+(if leaf||decide (0<i) then 1+k.1.length else 0):=by
   unfold readK at hk;split at hk
   ·rename_i hc;have:=textB_spec hk;rw[if_pos hc];omega
   ·rename_i hc;cases hk;rw[if_neg hc];exact⟨Nat.zero_le _,rfl⟩
  unfold readV at h
  cases leaf with
  | true =>
   simp only[if_true] at h
   cases hv:Zbm bs k.2 200 with
   | none=>rw[hv] at h;cases h
   | some v =>
    rw[hv] at h;cases h;have:=textB_spec hv
    refine⟨⟨hks.1,by dsimp only;omega,by simp,by simp⟩,?_,this.2.1⟩;have h2:=hks.2
    simp at h2;unfold En.size;simp;omega
  | false =>
   simp only[Bool.false_eq_true,if_false] at h;split at h
   ·cases h
   ·cases h
    have b1:=(bs.getD k.2 0).toNat_lt;have b2:=(bs.getD (k.2+1) 0).toNat_lt;refine⟨⟨hks.1,by simp,by dsimp only;omega,by dsimp only;omega⟩,?_,by dsimp only;omega⟩;have h2:=hks.2;unfold En.size;by_cases hi:i=0
    ·subst hi;simp at h2 ⊢;omega
    ·simp[Nat.pos_of_ne_zero hi] at h2;simp[hi];omega
theorem srt_snoc {leaf:Bool} {l:List En} {e:En} (h:Srt ⟨leaf,l⟩) (hf:Zcu leaf l e=true):Srt ⟨leaf,l++[e]⟩:=by
 have key:∀(m:List En),(m.map (·.key)).Pairwise (· < ·)→(∀x,m.getLast?=some x→x.key<e.key)→((m++[e]).map (·.key)).Pairwise (· < ·):=fun m hm hx=>by
  rw[List.map_append,List.pairwise_append];refine⟨hm,by simp,fun a ha b hb=>?_⟩;simp only[List.map_cons,List.map_nil,List.mem_singleton] at hb;subst hb;rcases List.eq_nil_or_concat m with rfl | ⟨r,z,rfl⟩
  ·cases ha
  ·have h1:=hx z (by simp)
   rw[List.concat_eq_append,List.map_append,List.pairwise_append] at hm;rw[List.concat_eq_append,List.map_append,List.mem_append] at ha;rcases ha with ha | ha
   ·exact List.lt_trans (hm.2.2 a ha z.key (by simp)) h1
   ·simp only[List.map_cons,List.map_nil,List.mem_singleton] at ha;rw[ha];exact h1
 unfold Zcu at hf;unfold Srt at *
 cases leaf with
 | true =>
  simp only[if_true] at *;refine key l h fun x hx=>?_;rw[hx] at hf;simpa using hf
 | false =>
  simp only[Bool.false_eq_true,if_false] at *
  cases l with
  | nil=>simp
  | cons y r =>
   simp only[List.cons_append,List.tail_cons] at *;refine key r h fun x hx=>?_
   have:(y::r).getLast?=some x:=by
    cases r with
    | nil=>cases hx
    | cons z r'=>rw[List.getLast?_cons_cons];exact hx
   rw[this] at hf;have hr:r≠[]:=by rintro rfl;cases hx
   have:=List.length_pos_iff.2 hr;simp at hf;rcases hf with hf | hf
   ·exact absurd hf hr
   ·exact hf
theorem readGo_spec {leaf:Bool} {bs:List UInt8}:∀(k at_:Nat) (l r:List En),Yy leaf bs k at_ l=some r→Srt ⟨leaf,l⟩→(∀e∈l,e.few)→at_=3+Zg leaf 0 l→at_≤bs.length→Srt ⟨leaf,r⟩∧(∀e∈r,e.few)∧3+Zg leaf 0 r≤bs.length∧r.length=l.length+k
 | 0,at_,l,r,h,hs,hf,ha,hb=>by cases h;exact⟨hs,hf,by omega,rfl⟩
 | k+1,at_,l,r,h,hs,hf,ha,hb=>by
  rw[Yy] at h;split at h
  ·cases h
  ·rename_i e a he
   split at h
   ·rename_i hfit
    obtain⟨h1,h2,h3⟩:=readE_spec he
    have:=readGo_spec k a (l++[e]) r h (srt_snoc hs hfit) (fun x hx=>by
     rcases List.mem_append.1 hx with hx | hx
     ·exact hf x hx
     ·rw[List.mem_singleton.1 hx];exact h1) (by
     rw[Yl,Nat.zero_add];dsimp only at h2;simp only[Zg]
     omega) h3
    refine⟨this.1,this.2.1,this.2.2.1,?_⟩;have:=this.2.2.2
    simp at this;omega
   ·cases h
theorem readN_fit {bs:List UInt8} {n:Nd} (hb:bs.length=896) (h:Zah bs=some n):n.fit:=by
 unfold Zah at h;split at h
 ·cases h
 ·rename_i hc
  cases hg:Yy (bs.getD 0 0==1) bs (readM bs) 3 [] with
  | none=>rw[hg] at h;cases h
  | some r =>
   rw[hg] at h;cases h
   obtain⟨h1,h2,h3,h4⟩:=readGo_spec _ _ _ _ hg (by unfold Srt;split<;>simp) (by simp) (by simp[Zg]) (by omega)
   refine⟨fun e=>?_,h2,h1,?_⟩
   ·have e2:r=[]:=e;rw[e2] at h4;simp at h4;exact hc (.inr h4.symm)
   ·unfold Nd.sum;dsimp only;omega
theorem LP.load_fit {n:Nat} {J:Jn} {seq:Int} {B:List (List UInt8)} {w:World} {F:Ft} {p:Nat} {f:Pf} {R:Rp} (h:LP n J seq B w F p f R) {page:Int} {nd:Nd} (he:(R.load page).1=some nd):nd.fit∧(R.load page).2=0:=by
 unfold Rp.load at he ⊢;split at he
 ·cases he
 ·rename_i h0
  rw[if_neg h0];have h0':(R.read page).2=0:=by simpa using h0
  have hl:=h.page h0'
  cases hr:Zah (R.read page).1 with
  | none=>rw[hr] at he;cases he
  | some n=>rw[hr] at he;cases he;exact⟨readN_fit hl hr,rfl⟩
theorem Rp.load_none {R:Rp} {page:Int} (h:(R.load page).1=none):(R.load page).2≠0:=by
 unfold Rp.load at h ⊢;split
 ·assumption
 ·rename_i h0
  rw[if_neg h0] at h
  cases hr:Zah (R.read page).1 with
  | none=>simp
  | some n=>rw[hr] at h;cases h
theorem Nd.fit.len {n:Nd} (h:n.fit):0<n.l.length∧n.l.length≤446:=by have h1:=List.length_pos_iff.2 h.some;have h2:=Zav n.leaf n.l 0;have h3:=h.sum;unfold Nd.sum at h3;omega
end
section
def atK (l:List En) (i:Nat):List UInt8:=(l[i]?.map (·.key)).getD []
theorem Zer {l:List En} {i:Nat} (h:i<l.length):atK l i=l[i].key:=by rw[atK,List.getElem?_eq_getElem h];rfl
theorem range_atK (l:List En):(List.range l.length).map (atK l)=l.map (·.key):=by
 apply List.ext_getElem
 ·simp
 ·intro i h1 h2;simp only[List.getElem_map,List.getElem_range];exact Zer (by simpa using h2)
theorem count_range (l:List En) (f:List UInt8→Bool):(List.range l.length).countP (fun i=>f (atK l i))=l.countP (fun e=>f e.key):=by
 have h1:(List.range l.length).countP (fun i=>f (atK l i))=((List.range l.length).map (atK l)).countP f:=by rw[List.countP_map];rfl
 have h2:l.countP (fun e=>f e.key)=(l.map (·.key)).countP f:=by rw[List.countP_map];rfl
 rw[h1,h2,range_atK]
theorem count_take {α:Type} (f:α→Bool):∀(l:List α),l.Pairwise (fun a b=>f b=true→f a=true)→l.countP f=(l.takeWhile f).length
 | [],_=>rfl
 | a::r,h=>by
  rw[List.pairwise_cons] at h;rw[List.countP_cons,List.takeWhile_cons]
  cases hf:f a with
  | true =>
   rw[if_pos rfl,if_pos rfl,List.length_cons,count_take f r h.2]
  | false =>
   have:r.countP f=0:=by
    rw[List.countP_eq_zero];intro b hb hfb;have:=h.1 b hb hfb
    rw[hf] at this;cases this
   simp[this]
theorem behind_leaf {l:List En} (h:Srt ⟨true,l⟩) (key:List UInt8):(List.range l.length).countP (fun i=>!!decide (atK l i<key))=(l.takeWhile fun e=>decide (e.key<key)).length:=by
 have h1:=count_range l (fun k=>!!decide (k<key));rw[h1];have h2:l.countP (fun e=>!!decide (e.key<key))=l.countP (fun e=>decide (e.key<key)):=by congr 1;funext e;simp
 rw[h2];refine count_take _ l ?_;have hs:(l.map (·.key)).Pairwise (· < ·):=h
 rw[List.pairwise_map] at hs;refine hs.imp fun {a b} hab hb=>?_;simp only[decide_eq_true_eq] at hb ⊢;exact List.lt_trans hab hb
theorem behind_inner {l:List En} (h:Srt ⟨false,l⟩) (key:List UInt8):(List.range l.tail.length).countP (fun i=>!decide (key<atK l (i+1)))=(l.tail.takeWhile fun e=>!decide (key<e.key)).length:=by
 have e:∀i,atK l (i+1)=atK l.tail i:=fun i=>by unfold atK;cases l<;>simp
 have h0:(List.range l.tail.length).countP (fun i=>!decide (key<atK l (i+1)))=(List.range l.tail.length).countP (fun i=>(fun k=>!decide (key<k)) (atK l.tail i)):=by congr 1;funext i;rw[e]
 rw[h0,count_range l.tail (fun k=>!decide (key<k))];refine count_take _ l.tail ?_;have hs:(l.tail.map (·.key)).Pairwise (· < ·):=h
 rw[List.pairwise_map] at hs;refine hs.imp fun {a b} hab hb=>?_;simp only[Bool.not_eq_true',decide_eq_false_iff_not] at hb ⊢;exact fun hk=>hb (List.lt_trans hk hab)
theorem mono_leaf {l:List En} (h:Srt ⟨true,l⟩) (key:List UInt8):∀a b,a≤b→b<l.length→(!decide (atK l a<key))=true→(!decide (atK l b<key))=true:=by
 intro a b hab hb ha;rcases Nat.lt_or_ge a b with hlt | hge
 ·have hs:(l.map (·.key)).Pairwise (· < ·):=h
  rw[List.pairwise_map] at hs;have:=List.pairwise_iff_getElem.1 hs a b (by omega) hb hlt
  rw[Zer (by omega)] at ha;rw[Zer hb];simp only[Bool.not_eq_true',decide_eq_false_iff_not] at ha ⊢;exact fun hk=>ha (List.lt_trans this hk)
 ·obtain rfl:a=b:=by omega
  exact ha
theorem mono_inner {l:List En} (h:Srt ⟨false,l⟩) (key:List UInt8):∀a b,a≤b→b<l.tail.length→decide (key<atK l (a+1))=true→decide (key<atK l (b+1))=true:=by
 intro a b hab hb ha
 have e:∀i,atK l (i+1)=atK l.tail i:=fun i=>by unfold atK;cases l<;>simp
 rw[e] at ha ⊢;rcases Nat.lt_or_ge a b with hlt | hge
 ·have hs:(l.tail.map (·.key)).Pairwise (· < ·):=h
  rw[List.pairwise_map] at hs;have:=List.pairwise_iff_getElem.1 hs a b (by omega) hb hlt
  rw[Zer (by omega)] at ha;rw[Zer hb];simp only[decide_eq_true_eq] at ha ⊢;exact List.lt_trans ha this
 ·obtain rfl:a=b:=by omega
  exact ha
end
section
def Zn (l:List En) (i:Nat):Int:=(l[i]?.map (·.kid)).getD 0
def Zr (k:List UInt8):List En→List En
 | []=>[]
 | e::r=>{ e with key:=k }::r
def Rp.freeT (R:Rp) (page:Int):Int × Rp:=if page=R.root then (R.setRoot (-1)).2.free page else R.free page
def Rp.layL (R:Rp) (n:Nd):(List En × Int) × Rp:=R.layN (n.l.length+1) n
def Rp.joinN (R:Rp) (l:List En) (k i:Nat):(Int × List En) × Rp :=
 match R.load (Zn l i) with
 | (none,e)=>((e,l),R)
 | (some x,_)=>if 297≤x.sum then ((0,l),R) else
  match R.load (Zn l k) with
  | (none,e)=>((e,l),R)
  | (some a,_) =>
   match R.load (Zn l (k+1)) with
   | (none,e)=>((e,l),R)
   | (some b,_)=>if a.leaf≠b.leaf then ((103,l),R)
    else if (R.free (Zn l k)).1≠0 then (((R.free (Zn l k)).1,l),(R.free (Zn l k)).2)
    else if ((R.free (Zn l k)).2.free (Zn l (k+1))).1≠0 then ((((R.free (Zn l k)).2.free (Zn l (k+1))).1,l),((R.free (Zn l k)).2.free (Zn l (k+1))).2)
    else if (((R.free (Zn l k)).2.free (Zn l (k+1))).2.layL ⟨a.leaf,a.l++(if b.leaf then b.l else Zr (atK l (k+1)) b.l)⟩).1.2≠0 then
     (((((R.free (Zn l k)).2.free (Zn l (k+1))).2.layL ⟨a.leaf,a.l++(if b.leaf then b.l else Zr (atK l (k+1)) b.l)⟩).1.2,l),(((R.free (Zn l k)).2.free (Zn l (k+1))).2.layL ⟨a.leaf,a.l++(if b.leaf then b.l else Zr (atK l (k+1)) b.l)⟩).2)
    else ((0,l.take k++(Zr (atK l k) (((R.free (Zn l k)).2.free (Zn l (k+1))).2.layL ⟨a.leaf,a.l++(if b.leaf then b.l else Zr (atK l (k+1)) b.l)⟩).1.1++l.drop (k+2))),(((R.free (Zn l k)).2.free (Zn l (k+1))).2.layL ⟨a.leaf,a.l++(if b.leaf then b.l else Zr (atK l (k+1)) b.l)⟩).2)
def Rp.relay (R:Rp) (page:Int) (n:Nd):(List En × Int) × Rp:=if (R.freeT page).1≠0 then (([],(R.freeT page).1),(R.freeT page).2) else (R.freeT page).2.layL n
abbrev Chg:=List En→Nat→Bool→List En
def Yr (l M:List En) (i:Nat):List En:=l.take i++(Zr (atK l i) M++l.drop (i+1))
def Rp.anewN (c:Chg) (key:List UInt8):Nat→Rp→Int→(List En × Int) × Rp
 | 0,R,_=>(([],103),R)
 | f+1,R,page =>
  match R.load page with
  | (none,e)=>(([],e),R)
  | (some n,_) =>
   if n.leaf then R.relay page ⟨true,c n.l (n.behind key).1 (n.behind key).2⟩
   else if (Rp.anewN c key f R (Zn n.l (n.behind key).1)).1.2≠0 then (([],(Rp.anewN c key f R (Zn n.l (n.behind key).1)).1.2),(Rp.anewN c key f R (Zn n.l (n.behind key).1)).2)
   else if (Rp.anewN c key f R (Zn n.l (n.behind key).1)).1.1.length=1∧1<(Yr n.l (Rp.anewN c key f R (Zn n.l (n.behind key).1)).1.1 (n.behind key).1).length then
    if ((Rp.anewN c key f R (Zn n.l (n.behind key).1)).2.joinN (Yr n.l (Rp.anewN c key f R (Zn n.l (n.behind key).1)).1.1 (n.behind key).1) (min (n.behind key).1 ((Yr n.l (Rp.anewN c key f R (Zn n.l (n.behind key).1)).1.1 (n.behind key).1).length - 2)) (n.behind key).1).1.1≠0 then
     (([],((Rp.anewN c key f R (Zn n.l (n.behind key).1)).2.joinN (Yr n.l (Rp.anewN c key f R (Zn n.l (n.behind key).1)).1.1 (n.behind key).1) (min (n.behind key).1 ((Yr n.l (Rp.anewN c key f R (Zn n.l (n.behind key).1)).1.1 (n.behind key).1).length - 2)) (n.behind key).1).1.1),((Rp.anewN c key f R (Zn n.l (n.behind key).1)).2.joinN (Yr n.l (Rp.anewN c key f R (Zn n.l (n.behind key).1)).1.1 (n.behind key).1) (min (n.behind key).1 ((Yr n.l (Rp.anewN c key f R (Zn n.l (n.behind key).1)).1.1 (n.behind key).1).length - 2)) (n.behind key).1).2)
    else ((Rp.anewN c key f R (Zn n.l (n.behind key).1)).2.joinN (Yr n.l (Rp.anewN c key f R (Zn n.l (n.behind key).1)).1.1 (n.behind key).1) (min (n.behind key).1 ((Yr n.l (Rp.anewN c key f R (Zn n.l (n.behind key).1)).1.1 (n.behind key).1).length - 2)) (n.behind key).1).2.relay page ⟨false,((Rp.anewN c key f R (Zn n.l (n.behind key).1)).2.joinN (Yr n.l (Rp.anewN c key f R (Zn n.l (n.behind key).1)).1.1 (n.behind key).1) (min (n.behind key).1 ((Yr n.l (Rp.anewN c key f R (Zn n.l (n.behind key).1)).1.1 (n.behind key).1).length - 2)) (n.behind key).1).1.2⟩
   else (Rp.anewN c key f R (Zn n.l (n.behind key).1)).2.relay page ⟨false,Yr n.l (Rp.anewN c key f R (Zn n.l (n.behind key).1)).1.1 (n.behind key).1⟩
def Rp.topN:Nat→Rp→List En→(List En × Int) × Rp
 | 0,R,l=>((l,0),R)
 | f+1,R,l=>if l.length≤1 then ((l,0),R) else if (R.layL ⟨false,l⟩).1.2≠0 then R.layL ⟨false,l⟩ else Rp.topN f (R.layL ⟨false,l⟩).2 (R.layL ⟨false,l⟩).1.1
def Rp.dropN:Nat→Rp→Int→Int × Rp
 | 0,R,_=>(0,R)
 | f+1,R,root=>if root<0 then (0,R) else
  match R.load root with
  | (none,e)=>(e,R)
  | (some n,_)=>if n.leaf=true∨1<n.l.length then (0,R)
   else if (R.setRoot (Zn n.l 0)).1≠0 then (R.setRoot (Zn n.l 0))
   else if ((R.setRoot (Zn n.l 0)).2.free root).1≠0 then (R.setRoot (Zn n.l 0)).2.free root
   else Rp.dropN f ((R.setRoot (Zn n.l 0)).2.free root).2 (Zn n.l 0)
def Zem:List En→Int
 | []=>-1
 | e::_=>e.kid
def Rp.growN (R:Rp) (c:Chg) (key:List UInt8):Int × Rp :=
 if (R.anewN c key 41 R.root).1.2≠0 then ((R.anewN c key 41 R.root).1.2,(R.anewN c key 41 R.root).2)
 else if ((R.anewN c key 41 R.root).2.topN 4 (R.anewN c key 41 R.root).1.1).1.2≠0 then (((R.anewN c key 41 R.root).2.topN 4 (R.anewN c key 41 R.root).1.1).1.2,((R.anewN c key 41 R.root).2.topN 4 (R.anewN c key 41 R.root).1.1).2)
 else if (((R.anewN c key 41 R.root).2.topN 4 (R.anewN c key 41 R.root).1.1).2.setRoot (Zem ((R.anewN c key 41 R.root).2.topN 4 (R.anewN c key 41 R.root).1.1).1.1)).1≠0 then ((R.anewN c key 41 R.root).2.topN 4 (R.anewN c key 41 R.root).1.1).2.setRoot (Zem ((R.anewN c key 41 R.root).2.topN 4 (R.anewN c key 41 R.root).1.1).1.1)
 else (((R.anewN c key 41 R.root).2.topN 4 (R.anewN c key 41 R.root).1.1).2.setRoot (Zem ((R.anewN c key 41 R.root).2.topN 4 (R.anewN c key 41 R.root).1.1).1.1)).2.dropN 1024 (Zem ((R.anewN c key 41 R.root).2.topN 4 (R.anewN c key 41 R.root).1.1).1.1)
def Rp.getN (key:List UInt8):Nat→Rp→Int→(List UInt8 × Bool) × Int
 | 0,_,_=>(([],false),103)
 | f+1,R,page=>if page<0 then (([],false),0) else
  match R.load page with
  | (none,e)=>(([],false),e)
  | (some n,_)=>if n.leaf then (if (n.behind key).2 then (((n.l[(n.behind key).1]?.map (·.val)).getD [],true),0) else (([],false),0)) else Rp.getN key f R (Zn n.l (n.behind key).1)
def putC (key val:List UInt8):Chg:=fun l i is=>if is then l.modify i (fun e=>{ e with val:=val }) else l.take i++⟨key,val,0⟩::l.drop i
def delC:Chg:=fun l i is=>if is then l.take i++l.drop (i+1) else l
theorem Rp.alloc_le2 {R:Rp} (h1:R.pages.length≤1023):0≤R.alloc.1.1∧R.alloc.1.1<65536:=by
 unfold Rp.alloc
 cases hf:freeR R.pages with
 | none=>exact⟨Int.le_refl _,(by decide:(0:Int)<65536)⟩
 | some k =>
  have:=(List.findIdx?_eq_some_iff_getElem.1 hf).1;dsimp only;omega
theorem Rp.alloc_len (R:Rp):R.alloc.2.pages.length=R.pages.length:=by
 unfold Rp.alloc;split
 ·simp[Rp.lay]
 ·rfl
theorem Rp.write_len (R:Rp) (page:Int) (b:List UInt8):(R.write page b).2.pages.length=R.pages.length:=by
 unfold Rp.write;split
 ·rfl
 ·split
  ·rfl
  ·simp[Rp.lay]
theorem Zfm:∀(f:Nat) (R:Rp) (n:Nd),R.pages.length≤1023→(∀e∈n.l,e.few)→(∀e∈(R.layN f n).1.1,e.few)∧(R.layN f n).2.pages.length=R.pages.length
 | 0,R,n,_,_=>⟨by simp[Rp.layN],rfl⟩
 | f+1,R,n,hR,hf=>by
  have h1:=Zfm f R ⟨n.leaf,n.l.take n.cut⟩ hR fun e he=>hf e (List.mem_of_mem_take he);have h2:=Zfm f (R.layN f ⟨n.leaf,n.l.take n.cut⟩).2 ⟨n.leaf,n.l.drop n.cut⟩ (by rw[h1.2];exact hR) fun e he=>hf e (List.mem_of_mem_drop he);rw[Rp.layN];split
  ·exact⟨by simp,rfl⟩
  ·rename_i hne
   split
   ·split
    ·exact⟨by simp,h1.2⟩
    ·refine⟨fun e he=>?_,h2.2.trans h1.2⟩
     rcases List.mem_append.1 he with he | he
     ·exact h1.1 e he
     ·exact h2.1 e he
   ·have hk:n.key0.length≤80:=by
     unfold Nd.key0
     cases hl:n.l with
     | nil=>simp
     | cons x r =>
      have:=(hf x (by rw[hl];simp)).key;simpa using this
    have ha:=Rp.alloc_le2 hR;have hx:∀e∈[(⟨n.key0,[],R.alloc.1.1⟩:En)],e.few:=fun e he=>by rw[List.mem_singleton.1 he];exact⟨hk,by simp,ha.1,ha.2⟩
    split
    ·exact⟨hx,(Rp.write_len _ _ _).trans (Rp.alloc_len R)⟩
    ·exact⟨hx,Rp.alloc_len R⟩
theorem Zdj (leaf:Bool):∀(l:List En) (i j:Nat),0<i→0<j→Zg leaf i l=Zg leaf j l
 | [],_,_,_,_=>rfl
 | e::r,i,j,hi,hj=>by
  rw[Zg,Zg,Zdj leaf r (i+1) (j+1) (by omega) (by omega)]
  have:e.size leaf i=e.size leaf j:=by
   unfold En.size;cases leaf
   ·simp[Nat.ne_of_gt hi,Nat.ne_of_gt hj]
   ·rfl
  rw[this]
theorem Zba (leaf:Bool) (l:List En) (j:Nat):Zg leaf 0 l≤Zg leaf j l:=by
 cases l with
 | nil=>exact Nat.le_refl _
 | cons e r =>
  rcases Nat.eq_zero_or_pos j with rfl | hj
  ·exact Nat.le_refl _
  ·rw[Zg,Zg,Zdj leaf r (0+1) (j+1) (by omega) (by omega)]
   have:e.size leaf 0≤e.size leaf j:=by
    unfold En.size;cases leaf
    ·simp[Nat.ne_of_gt hj];omega
    ·simp
   omega
theorem Zad (leaf:Bool) (l:List En) (j:Nat) (hf:∀e∈l,e.key.length≤80):Zg leaf j l≤Zg leaf 0 l+if leaf then 0 else 81:=by
 cases l with
 | nil=>simp[Zg]
 | cons e r =>
  rcases Nat.eq_zero_or_pos j with rfl | hj
  ·omega
  ·rw[Zg,Zg,Zdj leaf r (0+1) (j+1) (by omega) (by omega)]
   have:=hf e (List.mem_cons_self ..)
   have:e.size leaf j≤e.size leaf 0+if leaf then 0 else 81:=by
    unfold En.size;cases leaf
    ·simp[Nat.ne_of_gt hj];omega
    ·simp
   omega
theorem Nd.cut_parts {n:Nd} (h:893<n.sum) (hf:∀e∈n.l,e.key.length≤80∧e.val.length≤200):297≤Zg n.leaf 0 (n.l.take n.cut)∧297≤Zg n.leaf 0 (n.l.drop n.cut)∧Zg n.leaf 0 (n.l.take n.cut)+Zg n.leaf 0 (n.l.drop n.cut)≤n.sum:=by
 obtain⟨a,b,c,d,e⟩:=Nd.cut_spec h hf;have h1:=Yl n.leaf (n.l.take n.cut) (n.l.drop n.cut) 0
 rw[List.take_append_drop,List.length_take,Nat.min_eq_left (by omega),Nat.zero_add] at h1;have h2:=Zba n.leaf (n.l.drop n.cut) n.cut
 have h3:=Zad n.leaf (n.l.drop n.cut) n.cut fun e he=>(hf e (List.mem_of_mem_drop he)).1;unfold Nd.sum at *
 cases hl:n.leaf with
 | true =>
  rw[hl] at h1 h2 h3 h c d;simp only[if_true] at h3;omega
 | false =>
  have:=e hl;rw[hl] at h1 h2 h3 h c d this;simp only[Bool.false_eq_true,if_false] at h3;omega
theorem Zcz:∀(f:Nat) (R:Rp) (n:Nd),(∀e∈n.l,e.few)→(n.sum≤893→(R.layN f n).1.1.length≤1)∧(297≤n.sum→(R.layN f n).1.1.length*297≤n.sum)
 | 0,R,n,_=>⟨fun _=>by simp[Rp.layN],fun _=>by simp[Rp.layN]⟩
 | f+1,R,n,hf=>by
  rw[Rp.layN];split
  ·exact⟨fun _=>by simp,fun _=>by simp⟩
  ·split
   ·rename_i hs
    refine⟨fun h=>by omega,fun _=>?_⟩;obtain⟨p1,p2,p3⟩:=Nd.cut_parts hs fun e he=>En.few2 (hf e he);have h1:=(Zcz f R ⟨n.leaf,n.l.take n.cut⟩ fun e he=>hf e (List.mem_of_mem_take he)).2 p1
    have h2:=(Zcz f (R.layN f ⟨n.leaf,n.l.take n.cut⟩).2 ⟨n.leaf,n.l.drop n.cut⟩ fun e he=>hf e (List.mem_of_mem_drop he)).2 p2;unfold Nd.sum at h1 h2;dsimp only at h1 h2;split
    ·simp
    ·rw[List.length_append];omega
   ·split
    ·exact⟨fun _=>by simp,fun h=>by simpa using h⟩
    ·exact⟨fun _=>by simp,fun h=>by simpa using h⟩
theorem layL_bounds {R:Rp} {n:Nd} (hR:R.pages.length≤1023) (hf:∀e∈n.l,e.few) {m:Nat} (hm:n.sum<(m+1)*297) (hm1:1≤m):(∀e∈(R.layL n).1.1,e.few)∧(R.layL n).1.1.length≤m∧(R.layL n).2.pages.length=R.pages.length:=by
 obtain⟨h1,h2⟩:=Zfm (n.l.length+1) R n hR hf;obtain⟨h3,h4⟩:=Zcz (n.l.length+1) R n hf;refine⟨h1,?_,h2⟩;unfold Rp.layL;by_cases h:n.sum≤893
 ·have:=h3 h;omega
 ·have:=h4 (by omega)
  have:(R.layN (n.l.length+1) n).1.1.length<m+1:=by apply Nat.lt_of_mul_lt_mul_right (a:=297);omega
  omega
end
end Go.Proofs.YtofibccplbnaiaaGreatDoor
