/- Contracts of the functions that the statements of this seat reach, part 2: each says what the call answers and what it leaves of the memory. -/
import Derived.Test.YtfaobkmojlhbnaaGreatDoorZR1
import Derived.Test.YtfaobkmojlhbnaaGreatDoorChecked
import Derived.WalkKit
import Derived.Deep.RegionHeld3
import Derived.Great.BuildSlice
import Derived.Deep.Cut
import Derived.Deep.DeepCutAuto
import Derived.MapKept
import Derived.WideLaws
set_option linter.unusedVariables false
set_option linter.unusedSimpArgs false
set_option maxRecDepth 100000
set_option maxHeartbeats 64000000
namespace Go.Proofs.YtfaobkmojlhbnaaGreatDoor
section
open Go.RowKit
variable {base p:Nat}{w w':World}{Ls:List (List UInt8)}{v:Value}{F:Ft}{T:Nat→Prop}{D:Dk}{J:Jn}
theorem info_frame3:(Tryz.prog.info? 159).map (λi=>(i.zero,i.size,i.bytes))=some (some (.agg (bv Xc).toArray),128,128):=by kernel_rfl
structure Zbb (base:Nat) (w:World) (v:Value) (Ls:List (List UInt8)):Prop where
 lens:∀L∈Ls,L.length=128
 own:w.ownsRow base 159 128 v Ls.length (bv Ls.flatten)
theorem Zbb.nil (base:Nat) (w:World):Zbb base w (.slice none 0 0) []:=⟨λ_ h=>(by cases h),Uj w base 159 128⟩
theorem Zbb.keep (h:Zbb base w v Ls) (hw:∀k,base<=k->k<w.heap.size->w'.heap[k]?=w.heap[k]?):Zbb base w' v Ls:=by
 obtain⟨f,i,a⟩:=h;refine⟨f,i,?_⟩;rcases a with a | ⟨g,b,c,j,d,e,r⟩
 .exact .inl a
 .exact .inr ⟨g,b,c,j,d,(hw g d (Za e)).trans e,r⟩
theorem Zbb.turned (h:Zbb base w v Ls) (ht:Zb T w w') (a:∀k,T k->k<base):Zbb base w' v Ls :=
 h.keep λk c b=>ht.block k b λe=>by have:=a k e;omega
theorem Zbb.below (h:Zbb base w v Ls) (hb:Below w.heap.size w w'):Zbb base w' v Ls:=h.keep λk _ a=>hb.block k a
theorem Zbb.drew {Ls:List (List UInt8)} (h:Zbb base w v Ls):Zbb base w.drew v Ls:=h.keep λ_ _ _=>rfl
theorem flat_get (h:∀L∈Ls,L.length=128):∀i (a:i<Ls.length),(Ls.flatten.drop (i*128)).take 128=Ls[i]:=by
 induction Ls with
 | nil=>intro i a;simp at a
 | cons L r b =>
  intro i a;have hL:=h L (Vi ..)
  rw[List.flatten_cons]
  cases i with
  | zero=>rw[Nat.zero_mul,List.drop_zero,List.take_left' hL];rfl
  | succ i =>
   rw[show (i+1)*128=128+i*128 by omega,<-List.drop_drop,List.drop_left' hL,b (λx c=>h x (Vj _ c)) i (by simpa using a)]
   rfl
theorem Zbb.range (h:Zbb base w v Ls):v=.slice none 0 0/\Ls=[] \/
  ∃g a,v=.slice (some ⟨g,0,none⟩) Ls.length a/\Ls.length<=a/\a<=maxLen/\base<=g/\∀i (c:i<Ls.length),w.rangeAt g (i*128) (bv Ls[i]):=by
 obtain⟨n,z,d⟩:=h;rcases d with ⟨d,o⟩ | ⟨g,a,q,r,s,t,f,k,x,b⟩
 .exact .inl ⟨d,Vh o⟩
 .refine .inr ⟨g,a,r,f,k,s,λi c j u l=>?_⟩
  have y:=n Ls[i] (Vo c);have m:j<128:=by have:=(List.getElem?_eq_some_iff.1 l).1;rw[Zk,y] at this;exact this
  rw[<-flat_get n i c] at l;rw[Vc _ _ _ _ _ _ t];have e:(bv Ls.flatten)[i*128+j]?=some u:=by rw[<-l];simp only[bv,List.getElem?_map,List.getElem?_take,List.getElem?_drop,if_pos m]
  rw[<-b,List.getElem?_take] at e;split at e
  .simpa using e
  .cases e
theorem Zbb.snoc {B:Nat} (h:Zbb B w v Ls) (hB:B<=w.heap.size) (hL:Ls.length<=1000000) (L:List UInt8) (hl:L.length=128) (g:Nat) (hg:Zh w g 159 L):
  ∃f w',(Builtin.append_ #[165,165] 165 #[v,.slice (some ⟨g,0,none⟩) 1 1]).run Tryz.prog w=.ok f w'/\Zbb B w' f (Ls++[L])/\Zb (λk=>B<=k) w w':=by
 obtain⟨i,m,n,o,q⟩:=Ue (P:=Tryz.prog) (e:=159) info_frame3;have b:∀w':World,w'.heap=w.heap->∀j c,(bv L)[j]?=some c->w'.cell? ((⟨g,0,none⟩:Addr).add j)=some c:=λw' l j c r=>by rw[Addr.add_mid,Nat.zero_add,Vc w' _ _ _ _ _ (by rw[l];exact hg)];simpa using r
 obtain⟨f,w',s,t,a,_,_⟩:=Zfc (P:=Tryz.prog) w B 165 165 165 159 i _ 128 128 _ Tryz.underlying165 Tryz.underlying165 (.inl rfl) m n o q (by rw[Value.cells,List.size_toArray,Zk,Yu]) (by decide) v Ls.length (bv Ls.flatten) h.own
  (.slice (some ⟨g,0,none⟩) 1 1) 1 (bv L) (λw'=>rfl) (by rw[Zk,hl]) (λw' l=>Uc (P:=Tryz.prog) w' 128 1 ⟨g,0,none⟩ 1 1 (bv L) (by rw[Zk,hl]) (b w' l)) (Yq L) (by simp[maxLen];omega) (by omega) hB
 refine⟨f,w',s,⟨λx d=>?_,?_⟩,a.os,a.tape,a.output,a.size,λk u y=>a.block k u λe=>y ?_⟩
 .rcases List.mem_append.1 d with d | d
  .exact h.lens x d
  .rw[List.mem_singleton.1 d];exact hl
 .rw[List.flatten_append,Zgo,List.length_append];simpa using t
 .rcases h.own.2 with ⟨rfl,_⟩ | ⟨z,_,_,rfl,A,_⟩
  .cases e
  .have:k=z:=by simpa [Value.ownBlock] using e
   omega
theorem Nib.apartD (hn:Nib w) (h:Xd w F D):¬F.has 0:=by
 have b:=hn 0 (by omega)
 have a:∀(g c n:Nat) (l:List UInt8),Qz w g c n l->1<=n->g≠0:=λg c n l f j e=>by
  have k:=f.range 0 (by omega);have i:(sec l 0).length=128:=by obtain⟨_,_,_,_,_,i,_⟩:=f;exact Qh i (by omega)
  have d:=k 0 _ (Zfj (sec l 0) 0 (by omega));rw[e] at d;simp only[Nat.zero_mul,Nat.zero_add] at d;rw[d] at b;simp at b
 rintro(e | e | e | e)
 .have:=h.cells.1;rw[<-e,b] at this;cases this
 .exact a _ _ _ _ h.safe h.ok.n1 e.symm
 .exact a _ _ _ _ h.now h.ok.n1 e.symm
 .obtain⟨o,q,m,_⟩:=h.hung;rw[e] at b;simp[World.cell?,m] at b
theorem Nib.of_turned (hn:Nib w) (ht:Zb T w w') (b:¬T 0):Nib w':=λi c=>by have a:=hn i c;rw[<-a];exact World.cell?_of_block (ht.block _ (World.block_lt_of_cell? w _ a) b)
theorem Nib.turnedD (hn:Nib w) (h:Xd w F D) (ht:Zb F.has w w'):Nib w':=hn.of_turned ht (hn.apartD h)
theorem Nib.apart (hn:Nib w) (h:JAt w F p J):¬JT F p 0:=by
 have a:=hn 0 (by omega);rintro(e | e)
 .exact hn.apartD h.disk e
 .have:=h.cells.1;rw[<-e,a] at this;cases this
theorem Nib.turned (hn:Nib w) (h:JAt w F p J) (ht:Zb (JT F p) w w'):Nib w':=hn.of_turned ht (hn.apart h)
end
section
variable {listed:Array Bool}{fuel i:Nat}{oi:Oper}{lr:List Oper}{a:Act}{w:World}
section
variable {P : Program} {ops : Array Oper} {Q : Exit → Act → World → Prop} {md : Region.Mode} {S : World → Prop}
theorem op_at {b:List Oper} (h:ops.toList.drop i=oi::b):ops[i]?=some oi:=by have c:=Vs (λl:List Oper=>l[0]?) h;simp only[List.getElem?_drop,Nat.add_zero,List.getElem?_cons_zero,Array.getElem?_toList] at c;exact c
theorem take_at {v:Value} (b:ops.toList.drop i=oi::lr)
 (hs:Region.noSelect ops=true) (hf:Region.free md ops listed i=true) (hr:(Region.ready md ops listed).contains i=true)
 (d:∀c a w,Q (.panic c) (a.put oi.dst v) w->Q (.panic c) a w) (hy:YieldsIf P ops S oi v a) (hS:S w)
 (h:wpAnyH P md ops Q S fuel (listed.setIfInBounds i true) (a.put oi.dst v) w):wpAnyH P md ops Q S (fuel+1) listed a w :=
 wpAnyH_take (op_at b) hs hf hr d hy hS h
theorem Zdk {o:Oper} {rs:List Nat} (c:ops.toList.drop i=o::lr)
 (h:∀b:Act->World->Prop,Shut (∀a w,S w->(S w->wpAnyH P md ops Q S fuel (listed.setIfInBounds i true) a w)->b a w)->if Region.wanted o (yielded ops a.tmps)=true then Oper.wp P o a w b Q else b (a.put o.dst undef) w)
 (hs:AllReadyH P md ops Q S fuel listed a w rs):AllReadyH P md ops Q S fuel listed a w (i::rs):=AllReadyH.cons (op_at c) h hs
end
section
variable {P : Program} {ops : Array Oper} {Q : Exit → Act → World → Prop} {md : Region.Mode} {S : World → Prop}
theorem tkA (i : Nat) {oi : Oper} {lr : List Oper} {v : Value} {fuel : Nat} {listed : Array Bool} {a : Act} {w : World} (hi : ops.toList.drop i = oi :: lr) (hy : YieldsIf P ops S oi v a) (hS : S w)
    (h : wpAnyH P md ops Q S fuel (listed.setIfInBounds i true) (a.put oi.dst v) w) (hs : Region.noSelect ops = true := by kernel_rfl) (hf : Region.free md ops listed i = true := by kernel_rfl) (hr : (Region.ready md ops listed).contains i = true := by kernel_rfl)
    (hQ : ∀ c a w, Q (.panic c) (a.put oi.dst v) w → Q (.panic c) a w := by exact fun _ _ _ h => h) : wpAnyH P md ops Q S (fuel + 1) listed a w := take_at hi hs hf hr hQ hy hS h
theorem tkB (i : Nat) {oi : Oper} {lr : List Oper} {v : Value} {fuel : Nat} {listed : Array Bool} {a : Act} {w : World} (hi : ops.toList.drop i = oi :: lr) (hy : ∀ w, S w → (execOp a.eval oi).run P w = .ok (.value v) w) (hS : S w)
    (h : wpAnyH P md ops Q S fuel (listed.setIfInBounds i true) (a.put oi.dst v) w) (hw : Region.wanted oi (yielded ops a.tmps) = true := by rfl) (hs : Region.noSelect ops = true := by kernel_rfl) (hf : Region.free md ops listed i = true := by kernel_rfl) (hr : (Region.ready md ops listed).contains i = true := by kernel_rfl)
    (hQ : ∀ c a w, Q (.panic c) (a.put oi.dst v) w → Q (.panic c) a w := by exact fun _ _ _ h => h) : wpAnyH P md ops Q S (fuel + 1) listed a w := take_at hi hs hf hr hQ (.inl ⟨hw, hy⟩) hS h
theorem rdA (i : Nat) {o : Oper} {lr : List Oper} {fuel : Nat} {listed : Array Bool} {a : Act} {w : World} (ho : ops.toList.drop i = o :: lr)
    (h : ∀ K' : Act → World → Prop, Shut (∀ a w, S w → (S w → wpAnyH P md ops Q S fuel (listed.setIfInBounds i true) a w) → K' a w) → if Region.wanted o (yielded ops a.tmps) = true then Oper.wp P o a w K' Q else K' (a.put o.dst undef) w)
    (hr : Region.ready md ops listed = [i] := by kernel_rfl) : wpAnyH P md ops Q S (fuel + 1) listed a w := wpAnyH_ready hr (by simp) (Zdk ho h AllReadyH.nil)
theorem dnA {listed : Array Bool} {a : Act} {w : World} {fuel : Nat} (h : Q .normal a w) (hr : Region.ready md ops listed = [] := by kernel_rfl) : wpAnyH P md ops (NoPanic Q) S fuel listed a w := wpAnyH_done hr (NoPanic.normal h) fuel
theorem rgA {id : Nat} {a : Act} {w : World} (hS : S w.drew) (h : S w.drew → wpAnyH P .any ops (NoPanic Q) S ops.size (Array.replicate ops.size false) a w.drew) (hm : P.follows .mixedOrders = true := by kernel_rfl) : (Code.region id ops true).wp P Q a w := wp_region_noPanic (wp_region_held_drew hm hS h)
end
theorem tdS {P : Program} {ops : Array Oper} {Q : Exit → Act → World → Prop} {md : Region.Mode} {S : World → Prop} {i : Nat} {is : List Nat} {oi : Oper} {lr : List Oper} {v : Value} {fuel : Nat} {listed : Array Bool} {a : Act} {w : World} (hy : ∀ w, S w → (execOp a.eval oi).run P w = .ok (.value v) w) (hS : S w)
    (h : Td is (wpAnyH P md ops Q S fuel (listed.setIfInBounds i true) (a.put oi.dst v) w)) (hi : ops.toList.drop i = oi :: lr := by rfl) (hw : Region.wanted oi (yielded ops a.tmps) = true := by rfl) (hs : Region.noSelect ops = true := by kernel_rfl) (hf : Region.free md ops listed i = true := by kernel_rfl) (hr : (Region.ready md ops listed).contains i = true := by kernel_rfl)
    (hQ : ∀ c a w, Q (.panic c) (a.put oi.dst v) w → Q (.panic c) a w := by exact fun _ _ _ h => h) : Td (i :: is) (wpAnyH P md ops Q S (fuel + 1) listed a w) := tkB i hi hy hS h hw hs hf hr hQ
end
section
open Go.RowKit
theorem Dk.write_n (D:Dk) (k:Int) (l:List UInt8):(D.write k l).2.n=D.n:=by
 unfold Dk.write;repeat' split
 all_goals rfl
theorem Dk.flush_n (D:Dk):D.flush.2.n=D.n:=by
 unfold Dk.flush;repeat' split
 all_goals rfl
theorem Jn.lay_n (J:Jn) (k:Nat) (L:List UInt8):(J.lay k L).D.n=J.D.n:=by
 unfold Jn.lay;split
 .exact Dk.write_n _ _ _
 .rfl
theorem Jn.flush_n (J:Jn):J.flush.D.n=J.D.n:=by
 unfold Jn.flush;split
 .exact Dk.flush_n _
 .rfl
def Jn.spStep (J:Jn) (f:List UInt8):Jn:=J.lay (J.D.home (Zp f)) (mkF (Zm f) (3*16777216+Zp f) (Xv f))
def Jn.spreads (J:Jn) (Ls:List (List UInt8)):Jn:=Ls.foldl Jn.spStep J
def Jn.spread (J:Jn) (Ls:List (List UInt8)):Jn:=(J.spreads Ls).flush
theorem Jn.spreads_n (J:Jn) (Ls:List (List UInt8)):(J.spreads Ls).D.n=J.D.n:=by
 unfold Jn.spreads
 induction Ls generalizing J with
 | nil=>rfl
 | cons f r a=>rw[List.foldl_cons,a,Jn.spStep,Jn.lay_n]
theorem Jn.spreads_snoc (J:Jn) (Ls:List (List UInt8)) (k:Nat) (hk:k<Ls.length):J.spreads (Ls.take (k+1))=(J.spreads (Ls.take k)).spStep Ls[k]:=by rw[List.take_succ_eq_append_getElem hk,Jn.spreads,List.foldl_append];rfl
theorem spread_any (w:World) (F:Ft) (p:Nat) (J:Jn) (h:JAt w F p J) (hn:Nib w) (hn2:2<=J.D.n) (B:Nat) (v:Value) (Ls:List (List UInt8)) (hm:Zbb B w v Ls) (x:∀k,JT F p k->k<B) :
  Calls Tryz.prog 82 #[jptr p,v] w λe w'=>e=.returned (.tuple #[])/\JAt w' F p (J.spread Ls)/\Zb (JT F p) w w':=by
 have y:=Hd x;have hlen:=hm.range;have Hm:=Hd hm
 obtain⟨a,j,R,a4,U⟩:∃a j,v=.slice a Ls.length j/\Ls.length<=j/\j<=maxLen:=by
  rcases hlen with ⟨rfl,rfl⟩ | ⟨g,j,rfl,V,X,_⟩
  .exact⟨none,0,rfl,Va _,by simp[maxLen]⟩
  .exact⟨_,j,rfl,V,X⟩
 unfold maxLen at U;clear hlen hm x;rw[R];have Hv:=Hd R
 clear R;go_enter Tryz.func82,Tryz.ntmps82;go_wp2_with fail;go_loopw [8] (λi wr=>∃k:Nat,k<=Ls.length/\i=.int .i64 (k:Int)/\JAt wr F p (J.spreads (Ls.take k))/\Nib wr/\Zb (JT F p) w wr) (λi _=>Ls.length - (intOf i).toNat)
 case atStart=>exact⟨0,Vl _,rfl,h,hn,Zb.refl _ _⟩
 case round =>
  obtain⟨k,hk,rfl,z,A,O⟩:=hrel;clear h hn;by_cases l:k<Ls.length
  .have hd:decide ((k:Int)<(Ls.length:Int))=true:=by simpa using l
   have hm:=Hm.out.turned O y.out
   obtain⟨P,rfl,C⟩:∃P,a=some ⟨P,0,none⟩/\wr.rangeAt P (k*128) (bv Ls[k]):=by
    rcases hm.range with ⟨_,X⟩ | ⟨g,c,V,_,_,_,h3⟩
    .rw[X] at l;simp at l
    .have h4:=Hv.out;rw[V] at h4;simp only[Value.slice.injEq] at h4;exact⟨g,h4.1.symm,h3 k l⟩
   have m:=hm.lens Ls[k] (Vo l);have hsn:=Jn.spreads_snoc J Ls k l;have E:(J.spreads (Ls.take k)).D.n=J.D.n:=Jn.spreads_n _ _;have Hsn:=Hd hsn;rw[<-E] at hn2;clear hsn hm E;generalize J.spreads (Ls.take k)=Q at *;generalize Ls[k]=L at *;have s:(bv L).length=128:=by rw[Zk,m]
   have Y:(bv Xc).length=128:=by rw[Zk,Yu]
   go_upto_region 3 with (first | (refine Zz rfl rfl ?_) | (refine wpList_load_mid rfl 159 (.tmp 10) rfl P (k*128) rfl (bv L) _ C Tryz.underlying159 rfl (by rw[Zj,s]) ?_) | (refine Yo 159 (.tmp 5) (.tmp 11) rfl _ (bv L).toArray rfl rfl rfl (by rw[Zj,List.size_toArray,s]) (by rw[List.size_toArray,List.size_toArray,s,Y]) (all_oneCell_toArray (Yq L)) ?_));obtain⟨W3,o⟩:∃W3,W3=wr.alloc (.cells (bv L).toArray 159):=⟨_,rfl⟩;have G:Zh W3 wr.heap.size 159 L:=by rw[o];exact Zh.alloc wr 159 L
   have q:Below wr.heap.size wr W3:=by rw[o];exact(Ve _ _).alloc (Va _) _
   have b:=(z.below q).drew;have hn3:Nib W3.drew:=A.below q.drew;have ht3:=(O.trans (Zb.of_below (T:=JT F p) q)).drew;rw[<-o];have Z:Zh W3.drew wr.heap.size 159 L:=G;have a0:∀k,JT F p k->k<wr.heap.size:=λk hk=>z.lt hk;have hpl:=Zgs L;have hwl:=fwrite_lt L m;clear o G q z A O C;generalize wr.heap.size=g at *;refine rgA (S:=(λW=>Zh W g 159 L)) Z (λhH=>?_);refine tdI [0,1] ?_
   iterate 2
    refine tdS (v:=?_) ?_ hH ?_;rotate_left
    .intro w a5;skip;go_simp;try with_reducible rfl
    try simp only[Act.put,zA,zB,zC]
   refine tdE ?_;refine tkA 2 rfl (v:=.agg (bv L).toArray) (yieldsIf_load_mid rfl 159 (.tmp 5) rfl g 0 rfl (bv L) _ (λW t=>Zh.range t) Tryz.underlying159 rfl (by rw[Zj,Zk,m])) hH ?_;try simp only[Act.put,zA,zB,zC]
   refine tkA 5 rfl (v:=.agg (bv L).toArray) (yieldsIf_load_mid rfl 159 (.tmp 5) rfl g 0 rfl (bv L) _ (λW t=>Zh.range t) Tryz.underlying159 rfl (by rw[Zj,Zk,m])) hH ?_;try simp only[Act.put,zA,zB,zC]
   refine tkA 7 rfl (v:=.agg (bv L).toArray) (yieldsIf_load_mid rfl 159 (.tmp 5) rfl g 0 rfl (bv L) _ (λW t=>Zh.range t) Tryz.underlying159 rfl (by rw[Zj,Zk,m])) hH ?_;try simp only[Act.put,zA,zB,zC]
   refine tkA 9 rfl (v:=.agg (bv L).toArray) (yieldsIf_load_mid rfl 159 (.tmp 5) rfl g 0 rfl (bv L) _ (λW t=>Zh.range t) Tryz.underlying159 rfl (by rw[Zj,Zk,m])) hH ?_;try simp only[Act.put,zA,zB,zC]
   refine rdA 3 rfl (λK f=>?_);go_simp;refine(Qg _ L m).mono ?_;rintro e W4 ⟨rfl,d⟩;have hHn:=Zh.below hH d
   replace b:=b.below d;replace hn3:=hn3.below d;replace ht3:=ht3.trans (Zb.of_below (T:=JT F p) d);clear d hH;go_wp2_with fail;refine f.out _ _ hHn (λhH=>?_);clear hHn;clear f K;try simp only[Act.put,zA,zB,zC]
   refine rdA 4 rfl (λK f=>?_);go_simp;refine(home_any _ F p Q b hn2 (Zp L) (by omega)).mono ?_;rintro e w' ⟨rfl,rfl⟩;go_wp2_with fail;refine f.out _ _ hH (λhH=>?_);clear f K;try simp only[Act.put,zA,zB,zC]
   refine rdA 6 rfl (λK f=>?_);go_simp;refine(Xj _ L m).mono ?_;rintro e W5 ⟨rfl,d⟩;have hHn:=Zh.below hH d
   replace b:=b.below d;replace hn3:=hn3.below d;replace ht3:=ht3.trans (Zb.of_below (T:=JT F p) d);clear d hH;go_wp2_with fail;refine f.out _ _ hHn (λhH=>?_);clear hHn;clear f K;try simp only[Act.put,zA,zB,zC]
   refine rdA 8 rfl (λK f=>?_);go_simp;refine(Qg _ L m).mono ?_;rintro e H ⟨rfl,d⟩;have hHn:=Zh.below hH d
   replace b:=b.below d;replace hn3:=hn3.below d;replace ht3:=ht3.trans (Zb.of_below (T:=JT F p) d);clear d hH;go_wp2_with fail;refine f.out _ _ hHn (λhH=>?_);clear hHn;clear f K;try simp only[Act.put,zA,zB,zC]
   refine rdA 10 rfl (λK f=>?_);go_simp;refine(fbytes_any H L m).mono ?_;rintro e W7 ⟨rfl,u⟩;have d:Below H.heap.size H W7:=by rw[u];exact(Ve _ _).alloc (Va _) _
   have I:IsB W7 (.slice (some ⟨H.heap.size,16,none⟩) 112 112) (Xv L):=by have:=(Zh.alloc H 159 L).isB 16 112 112 (by omega) (by omega) (by simp[maxLen]);rw[<-u,List.take_of_length_le (by simp[m])] at this;exact this
   clear u;have hHn:=Zh.below hH d
   replace b:=b.below d;replace hn3:=hn3.below d;replace ht3:=ht3.trans (Zb.of_below (T:=JT F p) d);clear d hH;go_wp2_with fail;refine f.out _ _ hHn (λhH=>?_);clear hHn;clear f K;try simp only[Act.put,zA,zB,zC]
   refine rdA 11 rfl (λK f=>?_);go_simp;refine(Zfl W7 (Zm L) 3 (Zp L) _ (Xv L) hwl (by omega) hpl I hn3).mono ?_;rintro e W8 ⟨rfl,d⟩;have hHn:=Zh.below hH d
   replace b:=b.below d;replace hn3:=hn3.below d;replace ht3:=ht3.trans (Zb.of_below (T:=JT F p) d);clear I;clear d hH;go_wp2_with fail;refine f.out _ _ hHn (λhH=>?_);clear hHn;clear f K;try simp only[Act.put,zA,zB,zC]
   refine rdA 12 rfl (λK f=>?_);go_simp;have hle:=b.disk.ok.nm
   have M:Q.D.home (Zp L)<=33554432:=by unfold Dk.home Dk.blocks;omega
   refine(lay_any W8 F p Q b (Q.D.home (Zp L)) M _ (Xf _ _ _)).mono ?_;rintro e W9 ⟨rfl,a1,r⟩;have hn9:=hn3.turned b r
   have N:=ht3.trans r;have hHn:Zh W9 g 159 L:=Zh.turned hH r (λe=>Nat.lt_irrefl _ (a0 _ e));clear hH b hn3 ht3 r hle M;go_wp2_with fail;refine f.out _ _ hHn (λhH=>?_);clear hHn;clear f K;try simp only[Act.put,zA,zB,zC]
   refine dnA ?_;go_wp2_with fail;go_roundw
   case rel=>exact⟨k+1,by omega,by go_num,by rw[Hsn.out];exact a1,hn9,N⟩
   case measure=>simp[intOf];omega
  .obtain rfl:k=Ls.length:=by omega
   have hd:decide ((Ls.length:Int)<(Ls.length:Int))=false:=by simp
   rw[List.take_length] at z;go_wp2_with fail;refine(Zfm wr F p _ z).mono ?_;rintro e w1 ⟨rfl,a2,a3⟩;go_wp2_with fail;go_end0;exact⟨rfl,a2,O.trans a3⟩
end
section
open Go.RowKit
def Dk.markOk (D:Dk) (i:Nat):Bool:=(Zao (sec D.now i)&&decide (Zav (sec D.now i)=1))&&decide (Zm (sec D.now i) % 2=i)&&decide (Zp (sec D.now i)<=D.blocks)
def Dk.noteOk (D:Dk) (i:Nat):Bool:=(Zao (sec D.now (2+i))&&decide (Zav (sec D.now (2+i))=2))&&decide (Zp (sec D.now (2+i))<D.blocks)
def Dk.mark (D:Dk):List UInt8:=if Zm (sec D.now 0)<Zm (sec D.now 1) then sec D.now 1 else sec D.now 0
def Dk.lastTo (D:Dk) (m:List UInt8):Nat->Nat
 | 0=>Zm m
 | k+1=>max (D.lastTo m k) (Zm (sec D.now (2+k)))
def Dk.againTo (D:Dk) (m:List UInt8):Nat->List (List UInt8)
 | 0=>[]
 | k+1=>if k<Zp m/\Zm (sec D.now (2+k))=Zm m then D.againTo m k++[sec D.now (2+k)] else D.againTo m k
def toI64 (n:Nat):Int:=if n<9223372036854775808 then n else (n:Int) - 18446744073709551616
def mseq (m:List UInt8):Int:=toI64 (leR ((Xv m).take 8))
def Dk.found (D:Dk):Jn:=⟨D,D.lastTo D.mark D.blocks,mseq D.mark,0⟩
def Dk.openJ (D:Dk):Int × Jn :=
 if D.n<32 then (60,⟨D,0,0,0⟩) else if D.off then (43,⟨D,0,0,0⟩)
 else if D.markOk 0=false/\D.markOk 1=false then (60,⟨D,0,0,0⟩)
 else if D.markOk 0=false\/D.markOk 1=false then (62,⟨D,0,0,0⟩)
 else if ∃i,i<D.blocks/\D.noteOk i=false then (62,⟨D,0,0,0⟩)
 else if (D.againTo D.mark D.blocks).length=Zp D.mark/\0<(D.againTo D.mark D.blocks).length
  then ((D.found.spread (D.againTo D.mark D.blocks)).off,D.found.spread (D.againTo D.mark D.blocks)) else (0,D.found)
end
section
open Go.RowKit
variable {g n r:Nat}{T:TypeId}{w w0 W:World}{L:List UInt8}
def Dk.take (D:Dk) (k kind:Nat):List UInt8 × Bool × Int :=
 if D.off then (Xc,false,43) else (sec D.now k,(Zao (sec D.now k)&&decide (Zav (sec D.now k)=kind)),0)
theorem run_arrayAt_frame (W:World) (a:Option Addr) (cap:Nat):(Instr.arrayAt 159 (.slice a 128 cap)).run Tryz.prog W=.ok (.pointer a) W:=by unfold Instr.arrayAt;simp only[Sem.run_bind,run_underlying Tryz.underlying159,Result.andThen];rfl
def RowN (w:World) (g:Nat) (T:TypeId) (n:Nat):Prop:=∃R,Zh w g T R/\R.length=n
theorem Zh.rowN (h:Zh w g T L) (hl:L.length=n):RowN w g T n:=⟨L,h,hl⟩
theorem RowN.below {w':World} {n:Nat} (h:RowN w g T n) (hb:Below w.heap.size w w'):RowN w' g T n:=by obtain⟨R,a,b⟩:=h;exact⟨R,a.below hb,b⟩
theorem RowN.run_store (h:RowN w g T n) {l:List UInt8} (hl:l.length=n):(storeCells ⟨g,0,none⟩ (bv l)).run Tryz.prog w=.ok () (w.setCells g 0 (bv l)):=by obtain⟨R,a,b⟩:=h;exact a.run_store (by omega)
theorem RowN.store (h:RowN w g T n) {l:List UInt8} (hl:l.length=n):Zh (w.setCells g 0 (bv l)) g T l:=by obtain⟨R,a,b⟩:=h;exact a.store (by omega)
def TkHeld (T:TypeId) (g r:Nat) (L:List UInt8) (B:Nat) (w0 W:World):Prop:=Zh W g T L/\RowN W r T 128/\Below B w0 W
theorem tk_keep {W':World} (h:TkHeld T g r L w0.heap.size w0 W) (hb:Below W.heap.size W W'):TkHeld T g r L w0.heap.size w0 W' :=
 ⟨h.1.below hb,h.2.1.below hb,h.2.2.trans (hb.mono h.2.2.size)⟩
theorem tk_store (h:TkHeld T g r L w0.heap.size w0 W) (hl:L.length=128) (hne:r≠g) (hr:w0.heap.size<=r):
  TkHeld T g r L w0.heap.size w0 (W.setCells r 0 (bv L))/\(storeCells ⟨r,0,none⟩ (bv L)).run Tryz.prog W=.ok () (W.setCells r 0 (bv L))/\Zh (W.setCells r 0 (bv L)) r T L:=by
 have a:=Zu W r 0 (bv L);have hs:=h.2.1.store hl;exact⟨⟨h.1.turned a (λe=>hne e.symm),hs.rowN hl,h.2.2.trans (a.below h.2.2.size (λk b=>by omega))⟩,h.2.1.run_store hl,hs⟩
theorem cell_frame {B o:Nat} (h:IsB w (.slice (some ⟨B,o,none⟩) 128 128) L) (hl:L.length=128):w.rangeAt B o (bv L):=λj v b=>by
 have a:j<L.length:=by have:=(List.getElem?_eq_some_iff.1 b).1;simpa [bv] using this
 rw[Zfj L j a] at b;rw[isB_cell h j a];exact b
theorem take_any (w:World) (F:Ft) (p:Nat) (J:Jn) (h:JAt w F p J) (hn:Nib w) (k a:Nat) (hk:k<J.D.n) (Y:a<=3):
  Calls Tryz.prog 76 #[jptr p,.int .i64 (k:Int),.int .i64 (a:Int)] w λe w' =>
   e=.returned (.tuple #[.agg (bv (J.D.take k a).1).toArray,.bool (J.D.take k a).2.1,.int .i64 (J.D.take k a).2.2])/\Below w.heap.size w w':=by
 have Z:=h.disk.ok.nm;obtain⟨W1,b⟩:∃W1,W1=w.alloc (.cells (bv Xc).toArray 159):=⟨_,rfl⟩;have o:Zh W1 w.heap.size 159 Xc:=by rw[b];exact Zh.alloc w 159 Xc
 have c:Below w.heap.size w W1:=by rw[b];exact(Ve _ _).alloc (Va _) _
 have H:=h.below c;have M:W1.heap.size=w.heap.size+1:=by rw[b];simp
 obtain⟨P,Q,R,U⟩:=H.cells;have HR:=Hd (read_any W1 F J.D H.disk k (by omega) (by omega))
 cases y:J.D.off with
 | true =>
  have z:J.D.take k a=(Xc,false,43):=by simp[Dk.take,y]
  have A:J.D.read k=([],43):=by simp[Dk.read,y]
  rw[z];rw[A] at HR;clear z A H h y Q R U;go_enter Tryz.func76,Tryz.ntmps76;go_upto_region 1 with (refine Zz rfl rfl ?_);rw[<-b];clear b;go_wp2_with fail;refine HR.out.mono ?_;rintro e j ⟨v,rfl,u⟩;have hb2:=u.below
  have d:=o.below hb2;have hB2:=c.trans (hb2.mono c.size);have hbf:=λW=>zero_frame W;have hst:=d.run_store (l:=Xc) rfl;have hr3:=d.store (l:=Xc) rfl;have hB3:=hB2.trans ((Zu j w.heap.size 0 (bv Xc)).below (B:=w.heap.size) hB2.size (λk hk=>by omega));have hv:=hr3.run_load Yu;have q:(bv Xc).length=128:=by rw[Zk,Yu]
  generalize j.setCells w.heap.size 0 (bv Xc)=W3 at *;clear o d hr3 c hB2 hb2 u HR P;go_wp2_with fail;exact Vn (Zdz Tryz.results76 rfl hv) rfl ⟨rfl,hB3⟩
 | false =>
  have z:J.D.take k a=(sec J.D.now k,(Zao (sec J.D.now k)&&decide (Zav (sec J.D.now k)=a)),0):=by simp[Dk.take,y]
  have A:J.D.read k=(sec J.D.now k,0):=by simp[Dk.read,y,hk]
  rw[z];rw[A] at HR;have hl:=Qh h.disk.ok.now hk
  generalize sec J.D.now k=L at *;clear z A H h y Q R U;go_enter Tryz.func76,Tryz.ntmps76;go_upto_region 1 with (refine Zz rfl rfl ?_);rw[<-b];clear b;go_wp2_with fail;refine HR.out.mono ?_;rintro e j ⟨v,rfl,u⟩;have hb2:=u.below
  have d:=o.below hb2;have hB2:=c.trans (hb2.mono c.size);have hi2:=u.isB
  have hv:v=.slice (some ⟨W1.heap.size,0,none⟩) 128 128:=by
   rcases u with ⟨rfl,_⟩ | ⟨_,rfl,_⟩
   .simp at hl
   .rfl
  subst hv;have hrg:=cell_frame hi2 hl
  have q:(bv L).length=128:=by rw[Zk,hl]
  have N:(bv Xc).length=128:=by rw[Zk,Yu]
  have O:=λW=>run_arrayAt_frame W (some ⟨W1.heap.size,0,none⟩) 128;clear o c hb2 u HR P hi2 M;go_upto_region 5 with (first | (refine Zz rfl rfl ?_) | (refine wpList_load_mid rfl 159 (.tmp 26) rfl W1.heap.size 0 rfl (bv L) _ hrg Tryz.underlying159 rfl (by rw[Zj,q]) ?_) | (refine Yo 159 (.tmp 11) (.tmp 27) rfl _ (bv L).toArray rfl rfl rfl (by rw[Zj,List.size_toArray,q]) (by rw[List.size_toArray,List.size_toArray,q,N]) (all_oneCell_toArray (Yq L)) ?_));obtain⟨W3,s⟩:∃W3,W3=j.alloc (.cells (bv L).toArray 159):=⟨_,rfl⟩;have hr3:Zh W3 j.heap.size 159 L:=by rw[s];exact Zh.alloc j 159 L
  have x:Below j.heap.size j W3:=by rw[s];exact(Ve _ _).alloc (Va _) _
  have hB3:=hB2.trans (x.mono hB2.size);have hR3:=d.below x;have C:w.heap.size≠j.heap.size:=by have:=d.lt;omega
  rw[<-s];have E:TkHeld 159 j.heap.size w.heap.size L w.heap.size w W3.drew:=⟨hr3,hR3.rowN Yu,hB3.drew⟩
  clear s hr3 x hB3 hR3 d hB2 hrg O;generalize j.heap.size=g at *
  cases I:Zao L with
  | false =>
   refine rgA (S:=(TkHeld 159 g w.heap.size L w.heap.size w)) E (λhH=>?_);refine tkA 0 rfl (v:=.agg (bv L).toArray) (yieldsIf_load_mid rfl 159 (.tmp 11) rfl g 0 rfl (bv L) _ (λW t=>t.1.range) Tryz.underlying159 rfl (by rw[Zj,Zk,hl])) hH ?_;try simp only[Act.put,zA,zB,zC]
   refine tkA 1 rfl (v:=.agg (bv L).toArray) (yieldsIf_load_mid rfl 159 (.tmp 11) rfl g 0 rfl (bv L) _ (λW t=>t.1.range) Tryz.underlying159 rfl (by rw[Zj,Zk,hl])) hH ?_;try simp only[Act.put,zA,zB,zC]
   refine rdA 2 rfl (λK f=>?_);go_simp;refine(fright_any _ L hl (hn.below hH.2.2)).mono ?_;rintro e V ⟨rfl,m⟩;rw[I];have hH4:=tk_keep hH m
   clear m hH;go_wp2_with fail;refine f.out _ _ hH4 (λhH=>?_);clear hH4;clear f K;try simp only[Act.put,zA,zB,zC]
   refine tkB 3 rfl (v:=?_) ?_ hH ?_;rotate_left
   .intro w i;skip;go_simp;try with_reducible rfl
   try simp only[Act.put,zA,zB,zC]
   refine tkA 4 rfl (v:=undef) (Or.inr ⟨by rfl,rfl⟩) hH ?_;try simp only[Act.put,zA,zB,zC]
   refine tkA 5 rfl (v:=undef) (Or.inr ⟨by rfl,rfl⟩) hH ?_;try simp only[Act.put,zA,zB,zC]
   refine tkA 6 rfl (v:=undef) (Or.inr ⟨by rfl,rfl⟩) hH ?_;try simp only[Act.put,zA,zB,zC]
   refine tkA 7 rfl (v:=undef) (Or.inr ⟨by rfl,rfl⟩) hH ?_;try simp only[Act.put,zA,zB,zC]
   refine tkB 8 rfl (v:=?_) ?_ hH ?_;rotate_left
   .intro w i;skip;go_simp;try with_reducible rfl
   try simp only[Act.put,zA,zB,zC]
   refine rdA 9 rfl (λK f=>?_);have hS9:=tk_store hH hl C (Va _)
   generalize V.setCells w.heap.size 0 (bv L)=W9 at hS9;have hv:=hS9.2.2.run_load hl
   have hst:=hS9.2.1;have hH9:=hS9.1;clear hS9 hH;go_simp;refine f.out _ _ hH9 (λhH=>?_);clear hst;clear f K;try simp only[Act.put,zA,zB,zC]
   refine tdI [10,11] ?_
   iterate 2
    refine tdS (v:=?_) ?_ hH ?_;rotate_left
    .intro w i;skip;go_simp;try with_reducible rfl
    try simp only[Act.put,zA,zB,zC]
   refine tdE ?_;refine dnA ?_;go_wp2_with fail;exact Vn (Zdz Tryz.results76 rfl hv) rfl ⟨by rw[I];first | rfl | (rw[Bool.true_and];rfl) | (rw[Bool.true_and,<-X];rfl),hH.2.2⟩
  | true =>
   have X:(((Zav L:Nat):Int)==(a:Int))=decide (Zav L=a):=int_beq _ _;refine rgA (S:=(TkHeld 159 g w.heap.size L w.heap.size w)) E (λhH=>?_);refine tkA 0 rfl (v:=.agg (bv L).toArray) (yieldsIf_load_mid rfl 159 (.tmp 11) rfl g 0 rfl (bv L) _ (λW t=>t.1.range) Tryz.underlying159 rfl (by rw[Zj,Zk,hl])) hH ?_;try simp only[Act.put,zA,zB,zC]
   refine tkA 1 rfl (v:=.agg (bv L).toArray) (yieldsIf_load_mid rfl 159 (.tmp 11) rfl g 0 rfl (bv L) _ (λW t=>t.1.range) Tryz.underlying159 rfl (by rw[Zj,Zk,hl])) hH ?_;try simp only[Act.put,zA,zB,zC]
   refine rdA 2 rfl (λK f=>?_);go_simp;refine(fright_any _ L hl (hn.below hH.2.2)).mono ?_;rintro e V ⟨rfl,m⟩;rw[I];have hH4:=tk_keep hH m
   clear m hH;go_wp2_with fail;refine f.out _ _ hH4 (λhH=>?_);clear hH4;clear f K;try simp only[Act.put,zA,zB,zC]
   refine tkB 3 rfl (v:=?_) ?_ hH ?_;rotate_left
   .intro w i;skip;go_simp;try with_reducible rfl
   try simp only[Act.put,zA,zB,zC]
   refine tkA 4 rfl (v:=.agg (bv L).toArray) (yieldsIf_load_mid rfl 159 (.tmp 11) rfl g 0 rfl (bv L) _ (λW t=>t.1.range) Tryz.underlying159 rfl (by rw[Zj,Zk,hl])) hH ?_;try simp only[Act.put,zA,zB,zC]
   refine tkB 6 rfl (v:=?_) ?_ hH ?_;rotate_left
   .intro w i;skip;go_simp;try with_reducible rfl
   try simp only[Act.put,zA,zB,zC]
   refine rdA 5 rfl (λK f=>?_);go_simp;refine(fkind_any _ L hl).mono ?_;rintro e W5 ⟨rfl,G⟩;have hH5:=tk_keep hH G
   clear G hH;go_wp2_with fail;refine f.out _ _ hH5 (λhH=>?_);clear hH5;clear f K;try simp only[Act.put,zA,zB,zC]
   refine tdI [7,8] ?_
   iterate 2
    refine tdS (v:=?_) ?_ hH ?_;rotate_left
    .intro w i;skip;go_simp;try with_reducible rfl
    try simp only[Act.put,zA,zB,zC]
   refine tdE ?_;refine rdA 9 rfl (λK f=>?_);have hS9:=tk_store hH hl C (Va _)
   generalize W5.setCells w.heap.size 0 (bv L)=W9 at hS9;have hv:=hS9.2.2.run_load hl
   have hst:=hS9.2.1;have hH9:=hS9.1;clear hS9 hH;go_simp;refine f.out _ _ hH9 (λhH=>?_);clear hst;clear f K;try simp only[Act.put,zA,zB,zC]
   refine tdI [10,11] ?_
   iterate 2
    refine tdS (v:=?_) ?_ hH ?_;rotate_left
    .intro w i;skip;go_simp;try with_reducible rfl
    try simp only[Act.put,zA,zB,zC]
   refine tdE ?_;refine dnA ?_;go_wp2_with fail;exact Vn (Zdz Tryz.results76 rfl hv) rfl ⟨by rw[I];first | rfl | (rw[Bool.true_and];rfl) | (rw[Bool.true_and,<-X];rfl),hH.2.2⟩
end
section
open Go.RowKit
section
variable {o : Oper} {y : Nat → Option Bool} {a : Act} {w w' : World} {K : Act → World → Prop} {Q : Exit → Act → World → Prop} {X : Prop}
theorem arm_value {v:Value} (hw:Region.wanted o y=true) (b:(execOp a.eval o).run Tryz.prog w=.ok (.value v) w') (h:K (a.put o.dst v) w'):if Region.wanted o y=true then Oper.wp Tryz.prog o a w K Q else X:=by rw[if_pos hw];unfold Oper.wp;rw[b];exact h
theorem run_build_one (w:World) (L:List UInt8) (hl:L.length=128):(Instr.buildSlice 165 1 #[(0,.agg (bv L).toArray)]).run Tryz.prog w=.ok (.slice (some ⟨w.heap.size,0,none⟩) 1 1) (w.alloc (.cells (bv L).toArray 159)):=by
 obtain⟨i,h,j,f,m⟩:=Ue (P:=Tryz.prog) (e:=159) info_frame3;have c:(bv L).length=128:=by rw[Zk,hl]
 refine run_buildSlice w _ _ 1 _ _ i _ Tryz.underlying165 h j (by rw[f];decide) (by rw[f];decide) ?_;rw[f];generalize l:((Array.range (1*128)).map λk=>(Value.agg (bv Xc).toArray).cells[k % (Value.agg (bv Xc).toArray).cells.size]!)=b;have d:b.size=128:=by rw[<-l];simp
 have g:=fill_at (λ_ _=>undef) (bv L) b 0 0 (by rw[c,d];omega);simp only[Nat.zero_add,List.take_zero,List.nil_append] at g;rw[List.drop_of_length_le (by rw[Array.length_toList,d,c];omega),List.append_nil] at g;simp only[Instr.fill,Value.cells,Nat.zero_mul,List.size_toArray,c,d];simp only[Nat.zero_add];simp;apply Array.ext';rw[List.toList_toArray];exact g
theorem arm_build_one (hw:Region.wanted o y=true) (x:Operand) (b:o.op=.buildSlice 165 1 #[(0,x)]) (L:List UInt8) (hl:L.length=128) (hx:a.eval x=.agg (bv L).toArray)
  (h:K (a.put o.dst (.slice (some ⟨w.heap.size,0,none⟩) 1 1)) (w.alloc (.cells (bv L).toArray 159))):if Region.wanted o y=true then Oper.wp Tryz.prog o a w K Q else X:=by
 refine arm_value hw ?_ h;unfold execOp;simp only[b,List.map_toArray,List.map_cons,List.map_nil,hx,Sem.run_bind,run_build_one w L hl,Result.andThen_ok];rfl
theorem Zcp (hw:Region.wanted o y=true) (s x:Operand) (t b:TypeId) (c:o.op=.call { callee:=.builtin .append,args:=#[s,x],argTypes:=#[t,b] }) (u v r:Value)
  (hs:a.eval s=u) (hx:a.eval x=v) (hr:(Builtin.append_ #[t,b] o.type #[u,v]).run Tryz.prog w=.ok r w') (h:K (a.put o.dst r) w'):if Region.wanted o y=true then Oper.wp Tryz.prog o a w K Q else X:=by
 refine arm_value hw ?_ h;unfold execOp;simp only[c,resolve,invoke,builtin,Sem.run_bind,Sem.run_pure,Result.andThen_ok,List.map_toArray,List.map_cons,List.map_nil,hs,hx,hr]
end
theorem Zed {P:Program} {ops:Array Oper} {c:List Oper} {op:Oper} {a:Act} {w:World} {Q:Exit->Act->World->Prop} (hw:Region.wanted op (yielded ops a.tmps)=true) (e:TypeId) (x:Operand) (g:op.op=.load e x)
  (b o:Nat) (hx:a.eval x=.pointer (some ⟨b,o,none⟩)) (f:List Value) (d:TypeDesc) (hc:w.rangeAt b o f)
  (hu:P.underlying e=some d) (i:d.isRow=true) (j:(P.info? e).map (·.size)=some f.length)
  (h:wpList P ops Q c (a.put op.dst (.agg f.toArray)) w):wpList P ops Q (op::c) a w :=
 wpList_step λK k=>by rw[if_pos hw];exact wp_load_mid e x g b o hx f d hc hu i j (k _ _ h)
end
section
open Go.RowKit
theorem wpList_append_run {ops:Array Oper} {w w':World} {Q:Exit->Act->World->Prop} {a:Act} {o:Oper} {b:List Oper} (hg:o.guard=none) (s x:Operand) (t c:TypeId) (d:o.op=.call { callee:=.builtin .append,args:=#[s,x],argTypes:=#[t,c] }) (u v r:Value)
  (hs:a.eval s=u) (hx:a.eval x=v) (hr:(Builtin.append_ #[t,c] o.type #[u,v]).run Tryz.prog w=.ok r w') (h:wpList Tryz.prog ops Q b (a.put o.dst r) w'):wpList Tryz.prog ops Q (o::b) a w:=by
 refine wpList_plain hg λK e=>?_;unfold Oper.wp execOp;simp only[d,resolve,invoke,builtin,Sem.run_bind,Sem.run_pure,Result.andThen_ok,List.map_toArray,List.map_cons,List.map_nil,hs,hx,hr];exact e _ _ h
end
section
open Go.RowKit
def Jn.fmtTo (J:Jn):Nat->Jn
 | 0=>J
 | i+1=>((J.fmtTo i).lay (2+i) (mkF 0 (2*16777216+0) [])).lay (J.D.home i) (mkF 0 (3*16777216+i) [])
def Jn.fmtMarks (J:Jn):Nat->Jn
 | 0=>J
 | i+1=>(J.fmtMarks i).lay i (Xl i 0 0)
def Jn.format (J:Jn):Jn:=(((J.fmtTo J.D.blocks).flush).fmtMarks 2).flush
def Dk.format (D:Dk):Int × Dk:=if D.n<32 then (60,D) else ((Jn.format ⟨D,0,0,0⟩).off,(Jn.format ⟨D,0,0,0⟩).D)
theorem Jn.fmtTo_n (J:Jn) (i:Nat):(J.fmtTo i).D.n=J.D.n:=by
 induction i with
 | zero=>rfl
 | succ i a=>rw[Jn.fmtTo,Jn.lay_n,Jn.lay_n,a]
theorem Dk.home_n {D D':Dk} (h:D.n=D'.n) (i:Nat):D.home i=D'.home i:=by unfold Dk.home Dk.blocks;rw[h]
theorem format_any (w:World) (F:Ft) (D:Dk) (h:Xd w F D) (hn:Nib w) :
  Calls Tryz.prog 54 #[F.ptr] w λe w'=>e=.returned (.int .i64 D.format.1)/\Xd w' F D.format.2/\Zb F.has w w':=by
 have a9:=h.ok.nm;have HS:=Hd (Zbt w F D h);by_cases y:D.n<32
 .have G:D.format=(60,D):=by rw[Dk.format,if_pos y]
  rw[G];have HD:=Hd h
  have Y:decide ((D.n:Int)<32)=true:=by simp;omega
  clear G h;go_enter Tryz.func54,Tryz.ntmps54;go_wp2_with fail;refine HS.out.mono ?_;rintro e w1 ⟨rfl,rfl⟩;go_wp2_with fail;go_ret;exact⟨rfl,HD.out,Zb.refl _ _⟩
 .have G:D.format=((Jn.format ⟨D,0,0,0⟩).off,(Jn.format ⟨D,0,0,0⟩).D):=by rw[Dk.format,if_neg y]
  rw[G];have Y:decide ((D.n:Int)<32)=false:=by simp;omega
  have o:JAt (w.alloc (.cells #[F.ptr,.int .u64 0,.int .i64 0,.int .i64 0] 158)) F w.heap.size ⟨D,0,0,0⟩ :=
   ⟨λhk=>Nat.lt_irrefl _ (h.lt hk),Vg w _,h.below ((Ve _ _).alloc (Va _) _)⟩
  have H:Nib (w.alloc (.cells #[F.ptr,.int .u64 0,.int .i64 0,.int .i64 0] 158)):=hn.below ((Ve _ _).alloc (Va _) _);have I:Zb (JT F w.heap.size) w (w.alloc (.cells #[F.ptr,.int .u64 0,.int .i64 0,.int .i64 0] 158)):=Zb.of_below ((Ve _ _).alloc (Va _) _)
  have HT:Hid (∀w',Zb (JT F w.heap.size) w w'->Zb F.has w w'):=Hd (λw' f=>f.mono λk hk Z=>by
   rcases Z with Z | Z
   .exact Z
   .omega)
  have Hf:Hid (Jn.format ⟨D,0,0,0⟩=((((⟨D,0,0,0⟩:Jn).fmtTo D.blocks).flush).fmtMarks 2).flush):=Hd rfl;obtain⟨c,d⟩:∃c:Jn,c=⟨D,0,0,0⟩:=⟨_,rfl⟩;have J:c.D.n=D.n:=by rw[d]
  have L:c.D.blocks=D.blocks:=by rw[d]
  rw[<-d] at o;rw[<-d] at Hf;have a7:32<=D.n:=by omega
  clear h hn G y;go_enter Tryz.func54,Tryz.ntmps54;rw[<-d];clear d;go_wp2_with fail;refine HS.out.mono ?_;rintro e w1 ⟨rfl,rfl⟩;go_wp2_with fail;generalize w.alloc (.cells #[F.ptr,.int .u64 0,.int .i64 0,.int .i64 0] 158)=W0 at *;generalize w.heap.size=p at *;have HJD:=Hd J
  have a0:=Hd L;have aa:c.D.blocks<=8191:=by unfold Dk.blocks;omega
  refine(Zbp W0 F p c o (by omega)).mono ?_;rintro e w1 ⟨rfl,rfl⟩;have M:2<=c.D.n:=by omega
  clear J L Y;go_wp2_with fail;have Hn2:=Hd M
  generalize N:c.D.blocks=b at *;have Hbl:=Hd N
  clear N M;go_loopw [18] (λi wr=>∃k:Nat,k<=b/\i=.int .i64 (k:Int)/\JAt wr F p (c.fmtTo k)/\Nib wr/\Zb (JT F p) w wr) (λi _=>b - (intOf i).toNat)
  case atStart=>exact⟨0,Vl _,rfl,o,H,I⟩
  case round =>
   obtain⟨k,hk,rfl,l,a,f⟩:=hrel;clear o H I;by_cases a1:k<b
   .have Y:decide ((k:Int)<(b:Int))=true:=by simpa using a1
    have a2:2<=(c.fmtTo k).D.n:=by rw[Jn.fmtTo_n];exact Hn2.out
    have z:Hid (c.fmtTo (k+1)=((c.fmtTo k).lay (2+k) (mkF 0 (2*16777216+0) [])).lay ((c.fmtTo k).D.home k) (mkF 0 (3*16777216+k) [])):=by
     show c.fmtTo (k+1)=_
     rw[Jn.fmtTo,Dk.home_n (Jn.fmtTo_n c k)]
    generalize c.fmtTo k=t at *;go_wp2_with fail;refine(Zfl wr 0 2 0 (.slice none 0 0) [] (by omega) (by omega) (by omega) (IsB.nil _) a).mono ?_;rintro e w3 ⟨rfl,q⟩;have hj3:=l.below q
    have O:=a.below q;have ht3:=f.trans (Zb.of_below (T:=JT F p) q);clear l a f q;go_wp2_with fail;have hl4:=lay_any w3 F p t hj3 (2+k) (by omega) (mkF 0 (2*16777216+0) []) (Xf _ _ _);rw[show ((2+k:Nat):Int)=2+(k:Int) by omega] at hl4
    refine hl4.mono ?_;rintro e w4 ⟨rfl,A,B⟩;have hn4:=O.turned hj3 B
    have u:=ht3.trans B;have P:t.D.home k=(t.lay (2+k) (mkF 0 (2*16777216+0) [])).D.home k:=Dk.home_n (Jn.lay_n _ _ _).symm k;have Q:2<=(t.lay (2+k) (mkF 0 (2*16777216+0) [])).D.n:=by rw[Jn.lay_n];exact a2
    have a3:=Hd P;clear hl4 hj3 O ht3 B P;generalize t.lay (2+k) (mkF 0 (2*16777216+0) [])=J4 at *;go_wp2_with fail;refine(home_any w4 F p J4 A Q k (by omega)).mono ?_;rintro e w5 ⟨rfl,rfl⟩;go_wp2_with fail;refine(Zfl w4 0 3 k (.slice none 0 0) [] (by omega) (by omega) (by omega) (IsB.nil _) hn4).mono ?_;rintro e w6 ⟨rfl,r⟩;have hj6:=A.below r;have hn6:=hn4.below r;have ht6:=u.trans (Zb.of_below (T:=JT F p) r);have hnm6:=hj6.disk.ok.nm;have R:J4.D.home k<=33554432:=by unfold Dk.home Dk.blocks;omega
    clear A hn4 u r;go_wp2_with fail;refine(lay_any w6 F p J4 hj6 (J4.D.home k) R (mkF 0 (3*16777216+k) []) (Xf _ _ _)).mono ?_;rintro e w7 ⟨rfl,a4,C⟩;have hn7:=hn6.turned hj6 C
    have S:=ht6.trans C;clear hj6 hn6 ht6 C hnm6 R;go_wp2_with fail;go_roundw
    case rel=>exact⟨k+1,by omega,by go_num,by rw[z.out,a3.out];exact a4,hn7,S⟩
    case measure=>simp[intOf];omega
   .obtain rfl:k=b:=by omega
    have Y:decide ((k:Int)<(k:Int))=false:=by simp
    have a5:Hid (c.format=(((c.fmtTo k).flush).fmtMarks 2).flush):=by have:=Hf.out;rw[<-a0.out] at this;exact this
    generalize c.fmtTo k=t at *;go_wp2_with fail;refine(Zfm wr F p t l).mono ?_;rintro e w8 ⟨rfl,U,E⟩;have hn8:=a.turned l E
    have v:=f.trans E;clear l a f E;generalize t.flush=V at *;go_wp2_with fail;go_loopw [36] (λi wr=>∃m:Nat,m<=2/\i=.int .i64 (m:Int)/\JAt wr F p (V.fmtMarks m)/\Nib wr/\Zb (JT F p) w wr) (λi _=>2 - (intOf i).toNat)
    case atStart=>exact⟨0,Vl _,rfl,U,hn8,v⟩
    case round =>
     obtain⟨m,hm,rfl,l,a,f⟩:=hrel;clear U hn8 v;by_cases a8:m<2
     .have ab:decide ((m:Int)<2)=true:=by simp;omega
      have z:Hid (V.fmtMarks (m+1)=(V.fmtMarks m).lay m (Xl m 0 0)):=Hd rfl;generalize V.fmtMarks m=Jm at *;have a6:IntKind.u64.wrap (m:Int)=(m:Int):=by rw[Zba,Nat.mod_eq_of_lt (by omega)]
      go_wp2_with fail;refine(marked_any wr m 0 0 (by omega) (by omega) a).mono ?_;rintro e w9 ⟨rfl,s⟩;have hj9:=l.below s
      have W:=a.below s;have ht9:=f.trans (Zb.of_below (T:=JT F p) s);clear l a f s;go_wp2_with fail;refine(lay_any w9 F p Jm hj9 m (by omega) (Xl m 0 0) (Xf _ _ _)).mono ?_;rintro e ad ⟨rfl,X,g⟩;have hn10:=W.turned hj9 g;have ht10':=ht9.trans g;clear hj9 W ht9 g a6;go_wp2_with fail;go_roundw
      case rel=>exact⟨m+1,by omega,by go_num,by rw[z.out];exact X,hn10,ht10'⟩
      case measure=>simp[intOf];omega
     .obtain rfl:m=2:=by omega
      generalize V.fmtMarks 2=Jm at *;go_wp2_with fail;refine(Zfm wr F p Jm l).mono ?_;rintro e ae ⟨rfl,j,x⟩;have ht11':=f.trans x
      have HF:=Hd (And.intro j.disk (HT.out _ ht11'));obtain⟨c0,c1,c2,c3⟩:=j.cells;have Hf3:=Hd a5.out;clear l a f x ht11' j;generalize Jm.flush=Jf at *;go_wp2_with fail;go_ret;rw[Hf3.out];exact⟨rfl,HF.out⟩
end
section
open Go.RowKit
variable {F:Ft}{J:Jn}{D:Dk}{p B g:Nat}{W w' W':World}{T:TypeId}{L:List UInt8}
def Xp (F:Ft) (D:Dk) (w:World) (e:Ending) (w':World):Prop :=
 (if D.openJ.1=0 then ∃p,e=.returned (.tuple #[jptr p,.int .i64 0])/\JAt w' F p D.openJ.2/\w.heap.size<=p else e=.returned (.tuple #[.pointer none,.int .i64 D.openJ.1])/\Xd w' F D.openJ.2.D)/\Zb F.has w w'
theorem Xp.bad {w:World} {c:Int} (b:D.openJ=(c,⟨D,0,0,0⟩)) (hc:c≠0) (d:Xd w F D) (hb:Below w.heap.size w w'):Xp F D w (.returned (.tuple #[.pointer none,.int .i64 c])) w':=by unfold Xp;rw[b,if_neg hc];exact⟨⟨rfl,d.below hb⟩,Zb.of_below hb⟩
theorem Xp.ok {w:World} (b:D.openJ=(0,J)) (hj:JAt w' F p J) (hp:w.heap.size<=p) (ht:Zb F.has w w'):Xp F D w (.returned (.tuple #[jptr p,.int .i64 0])) w':=by unfold Xp;rw[b,if_pos rfl];exact⟨⟨p,rfl,hj,hp⟩,ht⟩
theorem Xp.away {w:World} {o c:Int} (b:D.openJ=(c,J)) (d:c=o) (hc:¬o=0) (e:Xd w' F J.D) (ht:Zb F.has w w'):Xp F D w (.returned (.tuple #[.pointer none,.int .i64 o])) w':=by subst d;unfold Xp;rw[b,if_neg hc];exact⟨⟨rfl,e⟩,ht⟩
def Zaf (D:Dk) (k i:Nat):List UInt8:=if i<k/\D.markOk i=true then sec D.now i else Xc
def Xr (D:Dk) (k:Nat):Nat:=(if 0<k/\D.markOk 0=true then 1 else 0)+(if 1<k/\D.markOk 1=true then 1 else 0)
theorem Zgb (h:D.Ok) (h2:2<=D.n) (k i:Nat) (b:i<2):(Zaf D k i).length=128:=by
 unfold Zaf;split
 .exact Qh h.now (by omega)
 .exact Yu
theorem mkAt_step (h:D.Ok) (h2:2<=D.n) (k:Nat) (hk:k<2) (b:D.markOk k=true):
  Zai (Zaf D k 0++Zaf D k 1) (k*128) (sec D.now k)=Zaf D (k+1) 0++Zaf D (k+1) 1/\Xr D (k+1)=Xr D k+1:=by
 have e:(sec D.now k).length=128:=Qh h.now (by omega);have l0:=Zgb h h2 k 0 (by omega);have l1:=Zgb h h2 k 1 (by omega);rcases(show k=0\/k=1 by omega) with rfl | rfl
 .have c:Zaf D 1 0=sec D.now 0:=by simp[Zaf,b]
  have d:Zaf D 1 1=Zaf D 0 1:=by simp[Zaf]
  constructor
  .rw[c,d,Nat.zero_mul];have:=layB_mid (a:=[]) (m:=Zaf D 0 0) (r:=Zaf D 0 1) (v:=sec D.now 0) (o:=0) rfl (by omega);simpa using this
  .simp[Xr,b]
 .have c:Zaf D 2 0=Zaf D 1 0:=by simp[Zaf]
  have d:Zaf D 2 1=sec D.now 1:=by simp[Zaf,b]
  constructor
  .rw[c,d,Nat.one_mul];have:=layB_mid (a:=Zaf D 1 0) (m:=Zaf D 1 1) (r:=[]) (v:=sec D.now 1) (o:=128) l0 (by omega);simpa using this
  .simp[Xr,b]
theorem mkAt_skip (k:Nat) (hk:k<2) (b:D.markOk k=false):Zaf D (k+1) 0++Zaf D (k+1) 1=Zaf D k 0++Zaf D k 1/\Xr D (k+1)=Xr D k:=by
 rcases(show k=0\/k=1 by omega) with rfl | rfl<;>simp[Zaf,Xr,b]
theorem zero_marks (w:World):(zeroValue 160).run Tryz.prog w=.ok (.agg (bv (Xc++Xc)).toArray) w:=by kernel_rfl
section
variable {ops : Array Oper} {w : World} {Q : Exit → Act → World → Prop} {a : Act} {o : Oper} {rest : List Oper}
theorem Zfu (hg:o.guard=none) (b:o.op=.alloc 160)
 (h:wpList Tryz.prog ops Q rest (a.put o.dst (.pointer (some ⟨w.heap.size,0,none⟩))) (w.alloc (.cells (bv (Xc++Xc)).toArray 160))):wpList Tryz.prog ops Q (o::rest) a w:=by
 refine wpList_val _ _ hg ?_ h;unfold execOp;simp only[b,Instr.alloc,Sem.run_bind,zero_marks,Result.andThen_ok];rfl
end
section
variable {ops : Array Oper} {w : World} {Q : Exit → Act → World → Prop} {a : Act} {o : Oper} {rest : List Oper}
theorem Zhe (hg:o.guard=none) (x:Operand) (b:o.op=.buildSlice 165 1 #[(0,x)]) (L:List UInt8) (hl:L.length=128) (hx:a.eval x=.agg (bv L).toArray)
 (h:wpList Tryz.prog ops Q rest (a.put o.dst (.slice (some ⟨w.heap.size,0,none⟩) 1 1)) (w.alloc (.cells (bv L).toArray 159))):wpList Tryz.prog ops Q (o::rest) a w:=by
 refine wpList_val _ _ hg ?_ h;unfold execOp;simp only[b,List.map_toArray,List.map_cons,List.map_nil,hx,Sem.run_bind,run_build_one w L hl,Result.andThen_ok];rfl
end
theorem Zh.run_store_at {w:World} (h:Zh w g T L) (o:Nat) {l:List UInt8} (hl:o+l.length<=L.length):(storeCells ⟨g,o,none⟩ (bv l)).run Tryz.prog w=.ok () (w.setCells g o (bv l)):=by have b:=run_storeCells_cells (P:=Tryz.prog) g o (bv l) 0 w (λj c=>(h.there o l.length hl j (by rw[Zk] at c;omega)).1) (λj c=>(h.there o l.length hl j (by rw[Zk] at c;omega)).2) (Yq l);simpa using b
theorem Zh.range_at {w:World} (h:Zh w g T L) (o n:Nat) (hn:o+n<=L.length):w.rangeAt g o (bv ((L.drop o).take n)):=λj v b=>by
 have d:j<((L.drop o).take n).length:=by have:=(List.getElem?_eq_some_iff.1 b).1;simpa [bv] using this
 have c:=d;simp only[List.length_take,List.length_drop] at c;rw[Zfj _ j d] at b;rw[h.cell (o+j) (by omega)];rw[<-b];simp
theorem open_bad (w:World) (F:Ft) (D:Dk) (h:Xd w F D) (hn:Nib w) (b:D.n<32\/D.off=true):
  Calls Tryz.prog 48 #[F.ptr] w (Xp F D w):=by
 have t:=h.ok.nm;have HS:=Hd (Zbt w F D h);have HD:=Hd h;by_cases d:D.n<32
 .have k:D.openJ=(60,⟨D,0,0,0⟩):=by rw[Dk.openJ,if_pos d]
  have q:=Hd k;have u:decide ((D.n:Int)<32)=true:=by simp;omega
  clear h k b;go_enter Tryz.func48,Tryz.ntmps48;go_wp2_with fail;refine HS.out.mono ?_;rintro e v ⟨rfl,rfl⟩;go_wp2_with fail;go_ret2;exact Xp.bad q.out (by decide) HD.out (Ve _ _)
 .have r:D.off=true:=b.resolve_left d
  have k:D.openJ=(43,⟨D,0,0,0⟩):=by rw[Dk.openJ,if_neg d,if_pos r]
  have q:=Hd k;have u:decide ((D.n:Int)<32)=false:=by simp;omega
  obtain⟨W0,f⟩:∃W0,W0=(w.alloc (.cells #[F.ptr,.int .u64 0,.int .i64 0,.int .i64 0] 158)).alloc (.cells (bv (Xc++Xc)).toArray 160):=⟨_,rfl⟩;have c:Below w.heap.size w W0:=by rw[f];exact((Ve _ _).alloc (Va _) _).alloc (by simp) _
  have l:JAt W0 F w.heap.size ⟨D,0,0,0⟩:=by refine⟨λx=>Nat.lt_irrefl _ (h.lt x),?_,h.below c⟩;rw[f,Vv _ _ _ (by simp)];exact Vg w _
  have s:(⟨D,0,0,0⟩:Jn).D.take 0 1=(Xc,false,43):=by rw[Dk.take,if_pos r]
  have HT:=take_any W0 F w.heap.size _ l (hn.below c) 0 1 (by show 0<D.n;omega) (by omega)
  rw[s] at HT;have HT:=Hd HT
  have m:(bv Xc).length=128:=by rw[Zk,Yu]
  clear h k b r s l d;go_enter Tryz.func48,Tryz.ntmps48;go_wp2_with fail;refine HS.out.mono ?_;rintro e v ⟨rfl,rfl⟩;go_upto_region 7 with (refine Zfu rfl rfl ?_);rw[<-f];clear f;go_wp2_with fail;go_loopw [27] (λi wr=>i=.int .i64 0/\wr=W0) (λi _=>0)
  case atStart=>exact⟨rfl,rfl⟩
  case round =>
   obtain⟨rfl,rfl⟩:=hrel;go_wp2_with fail;refine HT.out.mono ?_;rintro e y ⟨rfl,j⟩;have hb3:=(c.trans (j.mono c.size)).alloc (Vk c.size j.size) (.cells (bv Xc).toArray 159)
   clear j;go_wp2_with (first | (refine Zz rfl rfl ?_) | (refine Yo 159 (.tmp 8) (.tmp 34) rfl _ (bv Xc).toArray rfl rfl rfl (by rw[Zj,List.size_toArray,m]) (by rw[List.size_toArray,m]) (all_oneCell_toArray (Yq Xc)) ?_));go_ret2;exact Xp.bad q.out (by decide) HD.out hb3
structure OpAt (w W:World) (F:Ft) (p B:Nat) (J:Jn):Prop where
 jat:JAt W F p J
 nib:Nib W
 below:Below w.heap.size w W
 pB:p<B
 wp:w.heap.size<=p
 base:B<=W.heap.size
 nw:0<w.heap.size
 fw:∀k,F.has k->k<w.heap.size
theorem OpAt.step {w:World} (h:OpAt w W F p B J) (hb:Below W.heap.size W W'):OpAt w W' F p B J :=
 ⟨h.jat.below hb,h.nib.below hb,h.below.trans (hb.mono h.below.size),h.pB,h.wp,Vk h.base hb.size,h.nw,h.fw⟩
theorem OpAt.own {w:World} (h:OpAt w W F p B J) {T:Nat->Prop} (hg:∀g,T g->w.heap.size<=g/\g≠p) (ht:Zb T W W'):OpAt w W' F p B J:=by
 refine⟨h.jat.turned ht (λk b e=>?_),h.nib.of_turned ht (λe=>?_),h.below.trans (ht.below h.below.size (λk b=>(hg k b).1)),h.pB,h.wp,Vk h.base ht.size,h.nw,h.fw⟩
 .have h1:=hg k e
  rcases b with b | b
  .have:=h.fw k b;omega
  .exact h1.2 b
 .have h1:=hg _ e;have:=h.nw;omega
theorem OpAt.put_last {w:World} (h:OpAt w W F p B J) (n:Nat):OpAt w (W.setCell ⟨p,1,none⟩ (.int .u64 (n:Int))) F p B { J with last:=n }:=by have b:=Zc W p 1 (.int .u64 (n:Int));exact⟨h.jat.put_last n,h.nib.of_turned b (λe=>by have:=h.nw;have:=h.wp;omega),h.below.trans (b.below h.below.size (λk c=>by have:=h.wp;omega)),h.pB,h.wp,Vk h.base b.size,h.nw,h.fw⟩
theorem OpAt.put_seq {w:World} (h:OpAt w W F p B J) (n:Int):OpAt w (W.setCell ⟨p,2,none⟩ (.int .i64 n)) F p B { J with seq:=n }:=by have b:=Zc W p 2 (.int .i64 n);exact⟨h.jat.put_seq n,h.nib.of_turned b (λe=>by have:=h.nw;have:=h.wp;omega),h.below.trans (b.below h.below.size (λk c=>by have:=h.wp;omega)),h.pB,h.wp,Vk h.base b.size,h.nw,h.fw⟩
theorem OpAt.rebase {w:World} {B':Nat} (h:OpAt w W F p B J) (h1:p<B') (h2:B'<=W.heap.size):OpAt w W F p B' J:=⟨h.jat,h.nib,h.below,h1,h.wp,h2,h.nw,h.fw⟩
theorem wrap_toI64 {n:Nat} (h:n<18446744073709551616):IntKind.i64.wrap (n:Int)=toI64 n:=by
 rw[IntKind.wrap_i64,toI64]
 split<;>omega
theorem blocks_n0 (D:Dk):(⟨D,0,0,0⟩:Jn).D.blocks=D.blocks:=rfl
theorem mod2_walk (n k:Nat) (hk:k<2):(((n:Int).tmod 2)==(k:Int))=decide (n % 2=k):=by rw[Int.tmod_eq_emod_of_nonneg (by omega),Bool.eq_iff_iff];simp;omega
theorem mod2_walk2 (n k:Nat) (hk:k<2):(((n:Int) % 2)==(k:Int))=decide (n % 2=k):=by rw[Bool.eq_iff_iff];simp;omega
theorem open_rest (w:World) (F:Ft) (D:Dk) (h:Xd w F D) (hn:Nib w) (b8:¬D.n<32) (ho:D.off=false):
  Calls Tryz.prog 48 #[F.ptr] w (Xp F D w):=by
 have bn:=h.ok.nm;have HS:=Hd (Zbt w F D h);have HD:=Hd h;have hd:decide ((D.n:Int)<32)=false:=by simp;omega
 obtain⟨W0,a8⟩:∃W0,W0=(w.alloc (.cells #[F.ptr,.int .u64 0,.int .i64 0,.int .i64 0] 158)).alloc (.cells (bv (Xc++Xc)).toArray 160):=⟨_,rfl⟩;have Y:Below w.heap.size w W0:=by rw[a8];exact((Ve _ _).alloc (Va _) _).alloc (by simp) _
 have aR:JAt W0 F w.heap.size ⟨D,0,0,0⟩:=by refine⟨λhk=>Nat.lt_irrefl _ (h.lt hk),?_,h.below Y⟩;rw[a8,Vv _ _ _ (by simp)];exact Vg w _
 have aS:Zh W0 (w.heap.size+1) 160 (Xc++Xc):=by
  rw[a8];have:=Zh.alloc (w.alloc (.cells #[F.ptr,.int .u64 0,.int .i64 0,.int .i64 0] 158)) 160 (Xc++Xc)
  simpa using this
 have aA:OpAt w W0 F w.heap.size (w.heap.size+2) ⟨D,0,0,0⟩ :=
  ⟨aR,hn.below Y,Y,by omega,Va _,by rw[a8];simp,World.block_lt_of_cell? w _ (hn 0 (by omega)),λk hk=>h.lt hk⟩
 have aw:(bv Xc).length=128:=by rw[Zk,Yu]
 have O:=h.ok;have Hoff:=Hd ho;have bo:D.blocks<=8191:=by unfold Dk.blocks;omega
 have bl:32<=D.n:=by omega
 clear h aR Y ho b8;go_enter Tryz.func48,Tryz.ntmps48;go_wp2_with fail;refine HS.out.mono ?_;rintro e w1 ⟨rfl,rfl⟩;go_upto_region 7 with (refine Zfu rfl rfl ?_);rw[<-a8];clear a8;generalize aT:w.heap.size=p at *;have Hpp:=Hd aT
 clear aT;go_wp2_with fail;go_loopw [6,27] (λr i wr=>∃k:Nat,k<=2/\i=.int .i64 (k:Int)/\r=.int .i64 ((Xr D k:Nat):Int)/\OpAt w wr F p (p+2) ⟨D,0,0,0⟩/\Zh wr (p+1) 160 (Zaf D k 0++Zaf D k 1)) (λ_ i _=>2 - (intOf i).toNat)
 case atStart=>exact⟨0,by omega,rfl,rfl,aA,by simpa [Zaf] using aS⟩
 case round =>
  obtain⟨k,hk,rfl,rfl,s,a0⟩:=hrel;clear aA aS;by_cases a1:k<2
  .have hl:(sec D.now k).length=128:=Qh O.now (by omega)
   have ht:=take_any wr F p _ s.jat s.nib k 1 (by show k<D.n;omega) (by omega)
   rw[show (⟨D,0,0,0⟩:Jn).D.take k 1=(sec D.now k,(Zao (sec D.now k)&&decide (Zav (sec D.now k)=1)),0) by rw[Dk.take,if_neg (by simp[Hoff.out])]] at ht
   have HT:=Hd ht;have a2:Hid (D.markOk k=((Zao (sec D.now k)&&decide (Zav (sec D.now k)=1))&&decide (Zm (sec D.now k) % 2=k)&&decide (Zp (sec D.now k)<=D.blocks))):=Hd rfl;have b9:Hid (D.markOk k=true->Zai (Zaf D k 0++Zaf D k 1) (k*128) (sec D.now k)=Zaf D (k+1) 0++Zaf D (k+1) 1/\Xr D (k+1)=Xr D k+1):=Hd (mkAt_step O (by omega) k a1);have aF:Hid (D.markOk k=false->Zaf D (k+1) 0++Zaf D (k+1) 1=Zaf D k 0++Zaf D k 1/\Xr D (k+1)=Xr D k):=Hd (mkAt_skip k a1);have aU:(Zaf D k 0++Zaf D k 1).length=256:=by rw[List.length_append,Zgb O (by omega) k 0 (by omega),Zgb O (by omega) k 1 (by omega)]
   have bm:Xr D k<=2:=by unfold Xr;split<;>split<;>omega
   have bp:decide ((k:Int)<2)=true:=by simp;omega
   clear ht;generalize sec D.now k=L at *;generalize Zaf D k 0++Zaf D k 1=M at *;generalize Xr D k=c at *;have y:(bv L).length=128:=by rw[Zk,hl]
   generalize aG:(Zao L&&decide (Zav L=1))=aH at *;clear aG;go_wp2_with fail;refine HT.out.mono ?_;rintro e w2 ⟨rfl,I⟩;have hop2:=s.step I
   have aB:=a0.below I;clear s a0 I HT;go_upto_region 14 with (first | (refine Zz rfl rfl ?_) | (refine Yo 159 (.tmp 8) (.tmp 34) rfl _ (bv L).toArray rfl rfl rfl (by rw[Zj,List.size_toArray,y]) (by rw[List.size_toArray,List.size_toArray,aw,y]) (all_oneCell_toArray (Yq L)) ?_));have N:Below w2.heap.size w2 (w2.alloc (.cells (bv L).toArray 159)):=(Ve _ _).alloc (Va _) _;have hop3:=hop2.step N;have hrw3:=aB.below N;have hr3:=Zh.alloc w2 159 L;clear hop2 aB N;generalize w2.alloc (.cells (bv L).toArray 159)=w3 at *;generalize w2.heap.size=q at *
   cases aH with
   | false =>
    obtain⟨e1,e2⟩:=aF.out (by rw[a2.out];rfl);have E1:=Hd e1
    have E2:=Hd e2;clear e1 e2;go_wp2_with fail;go_roundw
    case rel=>exact⟨k+1,by omega,by go_num,by rw[E2.out],hop3,by rw[E1.out];exact hrw3⟩
    case measure=>simp[intOf];omega
   | true =>
    have hrg:=hr3.range;have bq:IntKind.u64.wrap (k:Int)=(k:Int):=by rw[Zba,Nat.mod_eq_of_lt (by omega)]
    go_wp2_with (refine Zed (by rfl) 159 (.tmp 8) rfl q 0 rfl (bv L) _ hrg Tryz.underlying159 rfl (by rw[Zj,y]) ?_);refine(Xj w3 L hl).mono ?_;rintro e w4 ⟨rfl,Z⟩;have hop4:=hop3.step Z
    have ai:=hrw3.below Z;have hr4:=hr3.below Z;have hrg4:=hr4.range;clear hop3 hrw3 hr3 hrg Z;have hm2:=mod2_walk (Zm L) k a1;have hm3:=mod2_walk2 (Zm L) k a1;have hbl0:=blocks_n0 D;by_cases a9:Zm L % 2=k
    case neg =>
     rw[Vb a9] at hm2 hm3;obtain⟨e1,e2⟩:=aF.out (by rw[a2.out,Vb a9];rfl);have E1:=Hd e1
     have E2:=Hd e2;clear e1 e2 a9;go_wp2_with fail;go_roundw
     case rel=>exact⟨k+1,by omega,by go_num,by rw[E2.out],hop4,by rw[E1.out];exact ai⟩
     case measure=>simp[intOf];omega
    rw[Vd a9] at hm2 hm3;have Hw2:=Hd a9
    clear a9;go_wp2_with (refine Zed (by rfl) 159 (.tmp 8) rfl q 0 rfl (bv L) _ hrg4 Tryz.underlying159 rfl (by rw[Zj,y]) ?_);refine(Qg w4 L hl).mono ?_;rintro e w5 ⟨rfl,a4⟩;have hop5:=hop4.step a4
    have a7:=ai.below a4;have hr5:=hr4.below a4;have hrg5:=hr5.range;clear hop4 ai hr4 hrg4 a4;have hpl:=Zgs L;go_wp2_with fail;refine(Zbp w5 F p _ hop5.jat (by show 2<=D.n;omega)).mono ?_
    rintro e w6 ⟨rfl,rfl⟩;by_cases P:Zp L<=D.blocks
    case neg =>
     have aI:decide (((Zp L:Nat):Int)<=(D.blocks:Int))=false:=by simp;omega
     have aJ:decide (Zp L<=D.blocks)=false:=Vb P;obtain⟨e1,e2⟩:=aF.out (by rw[a2.out,Vb P,Bool.and_false]);have E1:=Hd e1;have E2:=Hd e2;clear e1 e2 P;go_wp2_with fail;go_roundw
     case rel=>exact⟨k+1,by omega,by go_num,by rw[E2.out],hop5,by rw[E1.out];exact a7⟩
     case measure=>simp[intOf];omega
    have aI:decide (((Zp L:Nat):Int)<=(D.blocks:Int))=true:=by simp;omega
    have aJ:decide (Zp L<=D.blocks)=true:=Vd P;obtain⟨e1,e2⟩:=b9.out (by rw[a2.out,Vd Hw2.out,Vd P];rfl);have E1:=Hd e1;have E2:=Hd e2;have hst:=a7.run_store_at (k*128) (l:=L) (by rw[aU,hl];omega);have hrw7:=a7.lay (k*128) L (by rw[aU,hl];omega);have hop7:=hop5.own (T:=(·=p+1)) (λg hg=>by have:=Hpp.out;omega) (Zu w5 (p+1) (k*128) (bv L));rw[e1] at hrw7;clear e1 e2 P hop5 a7 hr5;generalize w5.setCells (p+1) (k*128) (bv L)=w7 at *;rw[<-Hpp.out] at hst;go_wp2_with (refine wpList_load_mid rfl 159 (.tmp 8) rfl q 0 rfl (bv L) _ hrg5 Tryz.underlying159 rfl (by rw[Zj,y]) ?_);go_roundw
    case rel=>exact⟨k+1,by omega,by go_num,by rw[E2.out];first | rfl | go_num,hop7,hrw7⟩
    case measure=>simp[intOf];omega
  .obtain rfl:k=2:=by omega
   clear a1 hk;by_cases G:D.markOk 0=true
   case neg =>
    by_cases C:D.markOk 1=true
    case neg =>
     have hc:((Xr D 2:Nat):Int)=0:=by simp[Xr,G,C]
     have he:D.openJ=(60,⟨D,0,0,0⟩):=by rw[Dk.openJ,if_neg (by omega),if_neg (by simp[Hoff.out]),if_pos ⟨by simpa using G,by simpa using C⟩]
     have HE:=Hd he;rw[hc];clear he hc G C a0;go_wp2_with fail;go_ret2;exact Xp.bad HE.out (by decide) HD.out s.below
    have hc:((Xr D 2:Nat):Int)=1:=by simp[Xr,G,C]
    have he:D.openJ=(62,⟨D,0,0,0⟩):=by rw[Dk.openJ,if_neg (by omega),if_neg (by simp[Hoff.out]),if_neg (by simp[C]),if_pos (.inl (by simpa using G))]
    have HE:=Hd he;rw[hc];clear he hc G C a0;go_wp2_with fail;go_ret2;exact Xp.bad HE.out (by decide) HD.out s.below
   by_cases C:D.markOk 1=true
   case neg =>
    have hc:((Xr D 2:Nat):Int)=1:=by simp[Xr,G,C]
    have he:D.openJ=(62,⟨D,0,0,0⟩):=by rw[Dk.openJ,if_neg (by omega),if_neg (by simp[Hoff.out]),if_neg (by simp[G]),if_pos (.inr (by simpa using C))]
    have HE:=Hd he;rw[hc];clear he hc G C a0;go_wp2_with fail;go_ret2;exact Xp.bad HE.out (by decide) HD.out s.below
   have hc:((Xr D 2:Nat):Int)=2:=by simp[Xr,G,C]
   have e0:Zaf D 2 0=sec D.now 0:=by simp[Zaf,G]
   have e1:Zaf D 2 1=sec D.now 1:=by simp[Zaf,C]
   rw[hc];rw[e0,e1] at a0;have Hm0:=Hd G
   have aV:=Hd C;have aa:(sec D.now 0).length=128:=Qh O.now (by omega);have ax:(sec D.now 1).length=128:=Qh O.now (by omega);have a2:Hid (D.mark=if Zm (sec D.now 0)<Zm (sec D.now 1) then sec D.now 1 else sec D.now 0):=Hd rfl
   rw[Hpp.out];clear hc e0 e1 G C;generalize sec D.now 0=E at *;generalize sec D.now 1=L1 at *;have Y:(bv E).length=128:=by rw[Zk,aa]
   have aK:(bv L1).length=128:=by rw[Zk,ax]
   have hM:(E++L1).length=256:=by rw[List.length_append,aa,ax]
   have aW:Hid (∀W,Zh W (p+1) 160 (E++L1)->W.rangeAt (p+1) 0 (bv E)):=Hd (λW h=>by
    have:=h.range_at 0 128 (by omega)
    rwa[List.drop_zero,List.take_left' aa] at this)
   have aL:Hid (∀W,Zh W (p+1) 160 (E++L1)->W.rangeAt (p+1) 128 (bv L1)):=Hd (λW h=>by
    have:=h.range_at 128 128 (by omega)
    rwa[List.drop_left' aa,List.take_of_length_le (by omega)] at this)
   have hrg:=aW.out _ a0;go_upto_region 24 with (first | (refine Zz rfl rfl ?_) | (refine wpList_load_mid rfl 159 (.tmp 67) rfl (p+1) 0 rfl (bv E) _ hrg Tryz.underlying159 rfl (by rw[Zj,Y]) ?_) | (refine Yo 159 (.tmp 11) (.tmp 68) rfl _ (bv E).toArray rfl rfl rfl (by rw[Zj,List.size_toArray,Y]) (by rw[List.size_toArray,List.size_toArray,Y,aw]) (all_oneCell_toArray (Yq E)) ?_));have N:Below wr.heap.size wr (wr.alloc (.cells (bv E).toArray 159)):=(Ve _ _).alloc (Va _) _;have hj3:=(s.step N).step (Ve _ _).drew;have hr3:=Zh.alloc wr 159 E;have ay:(λW=>Zh W (p+1) 160 (E++L1)/\Zh W wr.heap.size 159 E) (wr.alloc (.cells (bv E).toArray 159)).drew:=⟨a0.below N.drew,hr3⟩;have br:p+2<=wr.heap.size:=s.base;have hgb:wr.heap.size<(wr.alloc (.cells (bv E).toArray 159)).drew.heap.size:=hr3.lt;clear s a0 hrg N hr3;generalize wr.alloc (.cells (bv E).toArray 159)=w3 at *;generalize wr.heap.size=g at *;refine rgA (S:=(λW=>Zh W (p+1) 160 (E++L1)/\Zh W g 159 E)) ay (λhH=>?_);refine tkB 0 rfl (v:=?_) ?_ hH ?_;rotate_left
   .intro w f;skip;go_simp;try with_reducible rfl
   try simp only[Act.put,zA,zB,zC]
   refine tkA 1 rfl (v:=.agg (bv L1).toArray) (yieldsIf_load_mid rfl 159 (.tmp 69) rfl (p+1) 128 rfl (bv L1) _ (λW z=>aL.out W z.1) Tryz.underlying159 rfl (by rw[Zj,aK])) hH ?_;try simp only[Act.put,zA,zB,zC]
   refine tkA 3 rfl (v:=.agg (bv E).toArray) (yieldsIf_load_mid rfl 159 (.tmp 11) rfl g 0 rfl (bv E) _ (λW z=>Zh.range z.2) Tryz.underlying159 rfl (by rw[Zj,Y])) hH ?_;try simp only[Act.put,zA,zB,zC]
   refine rdA 2 rfl (λK d=>?_);go_simp;refine(Xj _ L1 ax).mono ?_;rintro e W5 ⟨rfl,b⟩;have hHn:=show (λW=>Zh W (p+1) 160 (E++L1)/\Zh W g 159 E) _ from ⟨Zh.below hH.1 b,Zh.below hH.2 b⟩
   replace hj3:=hj3.step b;replace hgb:=Vm hgb b.size;clear b hH;go_wp2_with fail;refine d.out _ _ hHn (λhH=>?_);clear hHn;clear d K;try simp only[Act.put,zA,zB,zC]
   refine rdA 4 rfl (λK d=>?_);go_simp;refine(Xj _ E aa).mono ?_;rintro e X ⟨rfl,b⟩;have hHn:=show (λW=>Zh W (p+1) 160 (E++L1)/\Zh W g 159 E) _ from ⟨Zh.below hH.1 b,Zh.below hH.2 b⟩
   replace hj3:=hj3.step b;replace hgb:=Vm hgb b.size;clear b hH;go_wp2_with fail;refine d.out _ _ hHn (λhH=>?_);clear hHn;clear d K;try simp only[Act.put,zA,zB,zC]
   refine tkB 5 rfl (v:=?_) ?_ hH ?_;rotate_left
   .intro w f;skip;go_simp;try with_reducible rfl
   try simp only[Act.put,zA,zB,zC]
   refine dnA ?_;clear ay;have hd7:=aw
   have aM:=hH.1;have hH1:=hH.2;clear hH;go_upto_if 74 with fail;go_cut [] (λwx=>OpAt w wx F p (p+2) ⟨D,0,0,0⟩/\Zh wx g 159 D.mark)
   case first =>
    by_cases ab:Zm E<Zm L1
    .have aj:decide (Zm E<Zm L1)=true:=Vd ab
     have az:D.mark=L1:=by rw[a2.out,if_pos ab]
     have ba:=Hd az;have hrg:=aL.out _ aM;have hst:=hH1.run_store_at 0 (l:=L1) (by omega);have hH2:=hH1.lay 0 L1 (by omega);rw[layB_all (by omega)] at hH2;have hj4:=hj3.own (T:=(·=g)) (λk hk=>by have:=Hpp.out;omega) (Zu X g 0 (bv L1));rw[aj];clear hj3 aM hH1 ab az aj hd7;generalize X.setCells g 0 (bv L1)=w4 at *;go_wp2_with (refine wpList_load_mid rfl 159 (.tmp 75) rfl (p+1) 128 rfl (bv L1) _ hrg Tryz.underlying159 rfl (by rw[Zj,aK]) ?_);go_meet;exact⟨hj4,by rw[ba.out];exact hH2⟩
    .have aj:decide (Zm E<Zm L1)=false:=Vb ab
     have az:D.mark=E:=by rw[a2.out,if_neg ab]
     rw[aj];clear ab aj hd7;go_wp2_with fail;go_meet;exact⟨hj3,by rw[az];exact hH1⟩
   case rest =>
    obtain⟨s,a5⟩:=hcut
    have A:D.mark.length=128:=by rw[a2.out];split<;>assumption
    clear hj3 aM hH1 a2 aW aL hM Y aK aa ax hd7 hgb;generalize aX:D.mark=m at *;have HMm:=Hd aX
    clear aX;have H:(bv m).length=128:=by rw[Zk,A]
    have hrg:=a5.range;go_wp2_with (refine wpList_load_mid rfl 159 (.tmp 11) rfl g 0 rfl (bv m) _ hrg Tryz.underlying159 rfl (by rw[Zj,H]) ?_);refine(Xj wc m A).mono ?_;rintro e w5 ⟨rfl,a4⟩;have hop5:=s.step a4;have hrm5:=a5.below a4;have q1:=hop5.jat.cells.2.1;have f1:=Zf hop5.jat.head 1;have hop6:=hop5.put_last (Zm m);have hrm6:=hrm5.turned (Zc w5 p 1 (.int .u64 ((Zm m:Nat):Int))) (by omega);clear s a5 a4 hrg hop5 hrm5;go_upto_region 27 with fail;clear q1 f1;generalize w5.setCell ⟨p,1,none⟩ (.int .u64 ((Zm m:Nat):Int))=w6 at *;have hrg:=hrm6.range;go_wp2_with (refine wpList_load_mid rfl 159 (.tmp 11) rfl g 0 rfl (bv m) _ hrg Tryz.underlying159 rfl (by rw[Zj,H]) ?_);refine(fbytes_any w6 m A).mono ?_;rintro e w7 ⟨rfl,aN⟩;have aO:Below w6.heap.size w6 w7:=by rw[aN];exact(Ve _ _).alloc (Va _) _
    have aY:IsB w7 (.slice (some ⟨w6.heap.size,16,none⟩) 8 112) ((Xv m).take 8):=by have:=(Zh.alloc w6 159 m).isB 16 8 112 (by omega) (by omega) (by simp[maxLen]);rw[<-aN] at this;exact this
    have hop7:=hop6.step aO;have hrm7:=hrm6.below aO
    have bb:IntKind.i64.wrap ((leR ((Xv m).take 8):Nat):Int)=mseq m:=wrap_toI64 (by
     have:=leR_lt ((Xv m).take 8);rw[show ((Xv m).take 8).length=8 by simp[Xv,A]] at this
     omega)
    have HT:=Hd (told_any w7 _ _ aY (by simp;omega));clear hop6 hrm6 aO aN hrg aY;go_wp2_with fail;refine HT.out.mono ?_;rintro e w8 ⟨rfl,rfl⟩;have q2:=hop7.jat.cells.2.2.1;have f2:=Zf hop7.jat.head 2;have hop8:=hop7.put_seq (mseq m);have hrm8:=hrm7.turned (Zc w7 p 2 (.int .i64 (mseq m))) (by omega);clear hop7 hrm7 HT;generalize leR ((Xv m).take 8)=tn at *;generalize aZ:mseq m=sq at *;have Hsq:=Hd aZ;clear aZ;go_upto_region 28 with fail;clear q2 f2 bb;generalize w7.setCell ⟨p,2,none⟩ (.int .i64 sq)=w9 at *;have b0:g<w9.heap.size:=hrm8.lt;have hop9:=hop8.rebase (B':=g+1) (by omega) b0;have hmF:=Zbb.nil (g+1) w9;have HB:=Zbp w9 F p _ hop9.jat (by show 2<=D.n;omega)
    dsimp only at HB;go_wp2_with fail;refine HB.mono ?_;rintro e bs ⟨rfl,rfl⟩;clear HB hop8;go_wp2_with fail;go_loopw [12,92] (λx i wr=>∃k:Nat,k<=D.blocks/\(∀j,j<k->D.noteOk j=true)/\i=.int .i64 (k:Int)/\OpAt w wr F p (g+1) ⟨D,D.lastTo m k,sq,0⟩/\Zh wr g 159 m/\Zbb (g+1) wr x (D.againTo m k)) (λ_ i _=>D.blocks - (intOf i).toNat)
    case atStart=>exact⟨0,Vl _,λj hj=>by omega,rfl,hop9,hrm8,hmF⟩
    case round =>
     obtain⟨k,hk,aC,rfl,s,a5,ak⟩:=hrel;have Hall:=Hd aC
     clear hop9 hrm8 hmF b0 aC;by_cases a1:k<D.blocks
     .have bc:decide ((k:Int)<(D.blocks:Int))=true:=by simpa using a1
      have aP:2+k<D.n:=by unfold Dk.blocks at a1;omega
      have hl:(sec D.now (2+k)).length=128:=Qh O.now aP;have ht:=take_any wr F p _ s.jat s.nib (2+k) 2 aP (by omega);rw[show (⟨D,D.lastTo m k,sq,0⟩:Jn).D.take (2+k) 2=(sec D.now (2+k),(Zao (sec D.now (2+k))&&decide (Zav (sec D.now (2+k))=2)),0) by rw[Dk.take,if_neg (by simp[Hoff.out])],show ((2+k:Nat):Int)=2+(k:Int) by omega] at ht
      have HT:=Hd ht;have aQ:Hid (D.noteOk k=((Zao (sec D.now (2+k))&&decide (Zav (sec D.now (2+k))=2))&&decide (Zp (sec D.now (2+k))<D.blocks))):=Hd rfl;have ad:Hid (D.lastTo m (k+1)=max (D.lastTo m k) (Zm (sec D.now (2+k)))):=Hd rfl;have ae:Hid (D.againTo m (k+1)=if k<Zp m/\Zm (sec D.now (2+k))=Zm m then D.againTo m k++[sec D.now (2+k)] else D.againTo m k):=Hd rfl
      have aD:Hid (D.noteOk k=false->D.openJ=(62,⟨D,0,0,0⟩)):=Hd (λh=>by rw[Dk.openJ,if_neg (by omega),if_neg (by simp[Hoff.out]),if_neg (by simp[Hm0.out]),if_neg (by simp[Hm0.out,aV.out]),if_pos ⟨k,a1,h⟩])
      have b1:Hid ((D.againTo m k).length<=8191):=Hd (by
       have:∀j,(D.againTo m j).length<=j:=λj=>by
        induction j with
        | zero=>exact Va _
        | succ j ih =>
         rw[Dk.againTo];split
         .rw[List.length_append,List.length_singleton];omega
         .omega
       have:=this k
       omega)
      clear ht aP;generalize sec D.now (2+k)=L at *;generalize D.lastTo m k=R at *;generalize D.againTo m k=ag at *;have y:(bv L).length=128:=by rw[Zk,hl]
      generalize aG:(Zao L&&decide (Zav L=2))=aH at *;clear aG;go_wp2_with fail;refine HT.out.mono ?_;rintro e w2 ⟨rfl,I⟩;have hop2:=s.step I
      have aE:=a5.below I;have hmr2:=ak.below I;clear s a5 ak I HT;go_upto_region 33 with (first | (refine Zz rfl rfl ?_) | (refine Yo 159 (.tmp 14) (.tmp 100) rfl _ (bv L).toArray rfl rfl rfl (by rw[Zj,List.size_toArray,y]) (by rw[List.size_toArray,List.size_toArray,aw,y]) (all_oneCell_toArray (Yq L)) ?_));have N:Below w2.heap.size w2 (w2.alloc (.cells (bv L).toArray 159)):=(Ve _ _).alloc (Va _) _;have hop3:=hop2.step N;have hrm3:=aE.below N;have hmr3:=hmr2.below N;have hr3:=Zh.alloc w2 159 L;have bt:g+1<=w2.heap.size:=hop2.base;clear hop2 aE hmr2 N;generalize w2.alloc (.cells (bv L).toArray 159)=w3 at *;generalize w2.heap.size=q at *
      cases aH with
      | false =>
       have he:=aD.out (by rw[aQ.out];rfl);have HE:=Hd he;clear he;go_wp2_with fail;go_ret2;exact Xp.bad HE.out (by decide) HD.out hop3.below
      | true =>
       have hrg:=hr3.range;go_wp2_with (refine Zed (by rfl) 159 (.tmp 14) rfl q 0 rfl (bv L) _ hrg Tryz.underlying159 rfl (by rw[Zj,y]) ?_);refine(Qg w3 L hl).mono ?_;rintro e w4 ⟨rfl,Z⟩;have hop4:=hop3.step Z;have hrm4:=hrm3.below Z;have hmr4:=hmr3.below Z;have hr4:=hr3.below Z;clear hop3 hrm3 hmr3 hr3 hrg Z;have HB:=Zbp w4 F p _ hop4.jat (by show 2<=D.n;omega)
       dsimp only at HB;have hpl:=Zgs L
       go_wp2_with fail;refine HB.mono ?_;rintro e w5 ⟨rfl,rfl⟩;clear HB;by_cases P:Zp L<D.blocks
       case neg =>
        have he:=aD.out (by rw[aQ.out,Vb P];rfl);have HE:=Hd he;have aI:decide ((D.blocks:Int)<=((Zp L:Nat):Int))=true:=by simp;omega
        have aJ:decide (D.blocks<=Zp L)=true:=Vd (by omega);clear he P;go_wp2_with fail;go_ret2;exact Xp.bad HE.out (by decide) HD.out hop4.below
       have aI:decide ((D.blocks:Int)<=((Zp L:Nat):Int))=false:=by simp;omega
       have aJ:decide (D.blocks<=Zp L)=false:=Vb (by omega);have b2:D.noteOk k=true:=by rw[aQ.out,Vd P];rfl
       have af:=Hd b2;clear b2 P;go_upto_region 37 with fail;have hj3:=hop4.step (Ve _ _).drew;have hm3:=hmr4.drew;have ho3:Zh w4.drew g 159 m:=hrm4.below (Ve _ w4).drew;have ay:(λW=>Zh W q 159 L) w4.drew:=hr4.below (Ve _ w4).drew;clear hop4 hrm4 hmr4 hr4;refine rgA (S:=(λW=>Zh W q 159 L)) ay (λhH=>?_);refine tdI [0,1,2,3] ?_
       iterate 4
        refine tdS (v:=?_) ?_ hH ?_;rotate_left
        .intro w f;skip;go_simp;try with_reducible rfl
        try simp only[Act.put,zA,zB,zC]
       refine tdE ?_;refine tkA 5 rfl (v:=.agg (bv L).toArray) (yieldsIf_load_mid rfl 159 (.tmp 14) rfl q 0 rfl (bv L) _ (λW z=>Zh.range z) Tryz.underlying159 rfl (by rw[Zj,y])) hH ?_;try simp only[Act.put,zA,zB,zC]
       refine wpAnyH_ready (rs:=[4,6]) (by kernel_rfl) (by simp) ?_;refine Zdk rfl (λK d=>?_) ?_
       .have q1:=hj3.jat.cells.2.1
        dsimp only at q1;go_simp;refine d.out _ _ hH (λ_=>?_);clear q1;clear d K;try simp only[Act.put,zA,zB,zC]
        refine rdA 6 rfl (λK d=>?_);go_simp;refine(Xj _ L hl).mono ?_;rintro e W5 ⟨rfl,b⟩;have hHn:=Zh.below hH b
        replace hj3:=hj3.step b;replace hm3:=hm3.below b;replace ho3:=ho3.below b;clear b hH;go_wp2_with fail;refine d.out _ _ hHn (λhH=>?_);clear hHn;clear d K;try simp only[Act.put,zA,zB,zC]
        refine rdA 7 rfl (λK d=>?_);go_simp;refine d.out _ _ hH (λ_=>?_);clear d K;try simp only[Act.put,zA,zB,zC]
        refine tdI [8,9] ?_
        iterate 2
         refine tdS (v:=?_) ?_ hH ?_;rotate_left
         .intro w f;skip;go_simp;try with_reducible rfl
         try simp only[Act.put,zA,zB,zC]
        refine tdE ?_;refine rdA 10 rfl (λK d=>?_);have q1:=hj3.jat.cells.2.1
        have f1:=Zf hj3.jat.head 1;go_simp
        have al:(if R<Zm L then ((Zm L:Nat):Int) else (R:Int))=((max R (Zm L):Nat):Int):=by split<;>omega
        rw[al];have hHn:Zh (W5.setCell ⟨p,1,none⟩ (.int .u64 ((max R (Zm L):Nat):Int))) q 159 L:=Zh.turned hH (Zc W5 p 1 _) (by omega)
        have hop6:=hj3.put_last (max R (Zm L));have hm6:=hm3.turned (Zc W5 p 1 (.int .u64 ((max R (Zm L):Nat):Int))) (λk hk=>by omega);have ho6:=ho3.turned (Zc W5 p 1 (.int .u64 ((max R (Zm L):Nat):Int))) (by omega);clear hj3 hm3 ho3 q1 f1 al hH;generalize W5.setCell ⟨p,1,none⟩ (.int .u64 ((max R (Zm L):Nat):Int))=X at *;refine d.out _ _ hHn (λhH=>?_);clear hHn;clear d K;try simp only[Act.put,zA,zB,zC]
        refine dnA ?_;have hr6:=hH
        clear hH;by_cases t:k<Zp m
        .have am:decide ((k:Int)<((Zp m:Nat):Int))=true:=by simpa using t
         have an:decide (k<Zp m)=true:=Vd t;have Hkm:=Hd t;by_cases u:Zm L=Zm m
         .have ao:(((Zm L:Nat):Int)==((Zm m:Nat):Int))=true:=by rw[beq_iff_eq];omega
          have ap:(Zm L==Zm m)=true:=by simpa using u
          have aq:decide (Zm L=Zm m)=true:=Vd u;have Hww:=Hd u;clear u t;go_upto_region 38 with fail;replace hop6:=hop6.step (Ve _ _).drew;replace hm6:=hm6.drew;have U:(λW=>Zh W q 159 L/\Zh W g 159 m) X.drew:=⟨hr6.below (Ve _ X).drew,ho6.below (Ve _ X).drew⟩;clear hr6 ho6;refine rgA (S:=(λW=>Zh W q 159 L/\Zh W g 159 m)) U (λhH=>?_);refine tkB 0 rfl (v:=?_) ?_ hH ?_;rotate_left
          .intro w f;skip;go_simp;try with_reducible rfl
          try simp only[Act.put,zA,zB,zC]
          refine tkA 1 rfl (v:=.agg (bv m).toArray) (yieldsIf_load_mid rfl 159 (.tmp 11) rfl g 0 rfl (bv m) _ (λW z=>Zh.range z.2) Tryz.underlying159 rfl (by rw[Zj,H])) hH ?_;try simp only[Act.put,zA,zB,zC]
          refine rdA 2 rfl (λK d=>?_);go_simp;refine(Qg _ m A).mono ?_;rintro e W7 ⟨rfl,b⟩;have hHn:=show (λW=>Zh W q 159 L/\Zh W g 159 m) _ from ⟨Zh.below hH.1 b,Zh.below hH.2 b⟩
          replace hop6:=hop6.step b;replace hm6:=hm6.below b;clear b hH;go_wp2_with fail;refine d.out _ _ hHn (λhH=>?_);clear hHn;clear d K;try simp only[Act.put,zA,zB,zC]
          refine tdI [3,4] ?_
          iterate 2
           refine tdS (v:=?_) ?_ hH ?_;rotate_left
           .intro w f;skip;go_simp;try with_reducible rfl
           try simp only[Act.put,zA,zB,zC]
          refine tdE ?_;refine tkA 5 rfl (v:=.agg (bv L).toArray) (yieldsIf_load_mid rfl 159 (.tmp 14) rfl q 0 rfl (bv L) _ (λW z=>Zh.range z.1) Tryz.underlying159 rfl (by rw[Zj,y])) hH ?_;try simp only[Act.put,zA,zB,zC]
          refine tkA 7 rfl (v:=.agg (bv m).toArray) (yieldsIf_load_mid rfl 159 (.tmp 11) rfl g 0 rfl (bv m) _ (λW z=>Zh.range z.2) Tryz.underlying159 rfl (by rw[Zj,H])) hH ?_;try simp only[Act.put,zA,zB,zC]
          refine rdA 6 rfl (λK d=>?_);go_simp;refine(Xj _ L hl).mono ?_;rintro e W8 ⟨rfl,b⟩;have hHn:=show (λW=>Zh W q 159 L/\Zh W g 159 m) _ from ⟨Zh.below hH.1 b,Zh.below hH.2 b⟩
          replace hop6:=hop6.step b;replace hm6:=hm6.below b;clear b hH;go_wp2_with fail;refine d.out _ _ hHn (λhH=>?_);clear hHn;clear d K;try simp only[Act.put,zA,zB,zC]
          refine rdA 8 rfl (λK d=>?_);go_simp;refine(Xj _ m A).mono ?_;rintro e W9 ⟨rfl,b⟩;have hHn:=show (λW=>Zh W q 159 L/\Zh W g 159 m) _ from ⟨Zh.below hH.1 b,Zh.below hH.2 b⟩
          replace hop6:=hop6.step b;replace hm6:=hm6.below b;clear b hH;go_wp2_with fail;refine d.out _ _ hHn (λhH=>?_);clear hHn;clear d K;try simp only[Act.put,zA,zB,zC]
          refine tdI [9,10] ?_
          iterate 2
           refine tdS (v:=?_) ?_ hH ?_;rotate_left
           .intro w f;skip;go_simp;try with_reducible rfl
           try simp only[Act.put,zA,zB,zC]
          refine tdE ?_;refine dnA ?_;have hr6:=hH.1
          have ho6:=hH.2;clear hH;have hrg:=hr6.range;have a3:Below W9.heap.size W9 (W9.alloc (.cells (bv L).toArray 159)):=(Ve _ _).alloc (Va _) _;have hop9:=hop6.step a3;have hm9:=hm6.below a3;have ho9:=ho6.below a3;have hr9:=Zh.alloc W9 159 L;obtain⟨bd,be,ar,au,V⟩:=hm9.snoc hop9.base (by have:=b1.out;omega) L hl W9.heap.size hr9;have hop11:=hop9.own (T:=λj=>g+1<=j) (λj hj=>by have:=Hpp.out;omega) V;have ho11:=ho9.turned V (by omega);clear hop6 hm6 ho6 a3 hop9 hm9 ho9 hr9 V;go_wp2_with (first | (refine wpList_load_mid rfl 159 (.tmp 14) rfl q 0 rfl (bv L) _ hrg Tryz.underlying159 rfl (by rw[Zj,y]) ?_) | (refine Zhe rfl (.tmp 139) rfl L hl rfl ?_) | (refine wpList_append_run rfl (.tmp 138) (.tmp 140) 165 165 rfl _ _ _ rfl rfl ar ?_));have hop6:=hop11;have ho6:=ho11;have hm6:=au;go_roundw
          case rel=>exact⟨k+1,by omega,λj hj=>by
                   by_cases e:j=k
                   .rw[e];exact af.out
                   .exact Hall.out j (by omega),by go_num,by rw[ad.out];exact hop6,ho6,by rw[ae.out,if_pos ⟨Hkm.out,Hww.out⟩];exact hm6⟩
          case measure=>simp[intOf];omega
         .have ao:(((Zm L:Nat):Int)==((Zm m:Nat):Int))=false:=by rw[beq_eq_false_iff_ne];omega
          have ap:(Zm L==Zm m)=false:=by simpa using u
          have aq:decide (Zm L=Zm m)=false:=Vb u;have Hww:=Hd u;clear u t;go_upto_region 38 with fail;replace hop6:=hop6.step (Ve _ _).drew;replace hm6:=hm6.drew;have U:(λW=>Zh W q 159 L/\Zh W g 159 m) X.drew:=⟨hr6.below (Ve _ X).drew,ho6.below (Ve _ X).drew⟩;clear hr6 ho6;refine rgA (S:=(λW=>Zh W q 159 L/\Zh W g 159 m)) U (λhH=>?_);refine tkB 0 rfl (v:=?_) ?_ hH ?_;rotate_left
          .intro w f;skip;go_simp;try with_reducible rfl
          try simp only[Act.put,zA,zB,zC]
          refine tkA 1 rfl (v:=.agg (bv m).toArray) (yieldsIf_load_mid rfl 159 (.tmp 11) rfl g 0 rfl (bv m) _ (λW z=>Zh.range z.2) Tryz.underlying159 rfl (by rw[Zj,H])) hH ?_;try simp only[Act.put,zA,zB,zC]
          refine rdA 2 rfl (λK d=>?_);go_simp;refine(Qg _ m A).mono ?_;rintro e W7 ⟨rfl,b⟩;have hHn:=show (λW=>Zh W q 159 L/\Zh W g 159 m) _ from ⟨Zh.below hH.1 b,Zh.below hH.2 b⟩
          replace hop6:=hop6.step b;replace hm6:=hm6.below b;clear b hH;go_wp2_with fail;refine d.out _ _ hHn (λhH=>?_);clear hHn;clear d K;try simp only[Act.put,zA,zB,zC]
          refine tdI [3,4] ?_
          iterate 2
           refine tdS (v:=?_) ?_ hH ?_;rotate_left
           .intro w f;skip;go_simp;try with_reducible rfl
           try simp only[Act.put,zA,zB,zC]
          refine tdE ?_;refine tkA 5 rfl (v:=.agg (bv L).toArray) (yieldsIf_load_mid rfl 159 (.tmp 14) rfl q 0 rfl (bv L) _ (λW z=>Zh.range z.1) Tryz.underlying159 rfl (by rw[Zj,y])) hH ?_;try simp only[Act.put,zA,zB,zC]
          refine tkA 7 rfl (v:=.agg (bv m).toArray) (yieldsIf_load_mid rfl 159 (.tmp 11) rfl g 0 rfl (bv m) _ (λW z=>Zh.range z.2) Tryz.underlying159 rfl (by rw[Zj,H])) hH ?_;try simp only[Act.put,zA,zB,zC]
          refine rdA 6 rfl (λK d=>?_);go_simp;refine(Xj _ L hl).mono ?_;rintro e W8 ⟨rfl,b⟩;have hHn:=show (λW=>Zh W q 159 L/\Zh W g 159 m) _ from ⟨Zh.below hH.1 b,Zh.below hH.2 b⟩
          replace hop6:=hop6.step b;replace hm6:=hm6.below b;clear b hH;go_wp2_with fail;refine d.out _ _ hHn (λhH=>?_);clear hHn;clear d K;try simp only[Act.put,zA,zB,zC]
          refine rdA 8 rfl (λK d=>?_);go_simp;refine(Xj _ m A).mono ?_;rintro e W9 ⟨rfl,b⟩;have hHn:=show (λW=>Zh W q 159 L/\Zh W g 159 m) _ from ⟨Zh.below hH.1 b,Zh.below hH.2 b⟩
          replace hop6:=hop6.step b;replace hm6:=hm6.below b;clear b hH;go_wp2_with fail;refine d.out _ _ hHn (λhH=>?_);clear hHn;clear d K;try simp only[Act.put,zA,zB,zC]
          refine tdI [9,10] ?_
          iterate 2
           refine tdS (v:=?_) ?_ hH ?_;rotate_left
           .intro w f;skip;go_simp;try with_reducible rfl
           try simp only[Act.put,zA,zB,zC]
          refine tdE ?_;refine dnA ?_;have ho6:=hH.2
          clear hH;go_wp2_with fail;go_roundw
          case rel=>exact⟨k+1,by omega,λj hj=>by
                   by_cases e:j=k
                   .rw[e];exact af.out
                   .exact Hall.out j (by omega),by go_num,by rw[ad.out];exact hop6,ho6,by rw[ae.out,if_neg (λh=>Hww.out h.2)];exact hm6⟩
          case measure=>simp[intOf];omega
        .have am:decide ((k:Int)<((Zp m:Nat):Int))=false:=by simpa using t
         have an:decide (k<Zp m)=false:=Vb t;have Hkm:=Hd t;clear t;go_upto_region 38 with fail;replace hop6:=hop6.step (Ve _ _).drew;replace hm6:=hm6.drew;have U:(λW=>Zh W q 159 L/\Zh W g 159 m) X.drew:=⟨hr6.below (Ve _ X).drew,ho6.below (Ve _ X).drew⟩;clear hr6 ho6;refine rgA (S:=(λW=>Zh W q 159 L/\Zh W g 159 m)) U (λhH=>?_);refine tkB 0 rfl (v:=?_) ?_ hH ?_;rotate_left
         .intro w f;skip;go_simp;try with_reducible rfl
         try simp only[Act.put,zA,zB,zC]
         refine tkA 1 rfl (v:=.agg (bv m).toArray) (yieldsIf_load_mid rfl 159 (.tmp 11) rfl g 0 rfl (bv m) _ (λW z=>Zh.range z.2) Tryz.underlying159 rfl (by rw[Zj,H])) hH ?_;try simp only[Act.put,zA,zB,zC]
         refine rdA 2 rfl (λK d=>?_);go_simp;refine(Qg _ m A).mono ?_;rintro e W7 ⟨rfl,b⟩;have hHn:=show (λW=>Zh W q 159 L/\Zh W g 159 m) _ from ⟨Zh.below hH.1 b,Zh.below hH.2 b⟩
         replace hop6:=hop6.step b;replace hm6:=hm6.below b;clear b hH;go_wp2_with fail;refine d.out _ _ hHn (λhH=>?_);clear hHn;clear d K;try simp only[Act.put,zA,zB,zC]
         refine tdI [3,4] ?_
         iterate 2
          refine tdS (v:=?_) ?_ hH ?_;rotate_left
          .intro w f;skip;go_simp;try with_reducible rfl
          try simp only[Act.put,zA,zB,zC]
         refine tdE ?_;refine tkA 5 rfl (v:=undef) (Or.inr ⟨by rfl,rfl⟩) hH ?_;try simp only[Act.put,zA,zB,zC]
         refine tkA 7 rfl (v:=undef) (Or.inr ⟨by rfl,rfl⟩) hH ?_;try simp only[Act.put,zA,zB,zC]
         refine rdA 6 rfl (λK d=>?_);go_simp;refine d.out _ _ hH (λ_=>?_);clear d K;try simp only[Act.put,zA,zB,zC]
         refine rdA 8 rfl (λK d=>?_);go_simp;refine d.out _ _ hH (λ_=>?_);clear d K;try simp only[Act.put,zA,zB,zC]
         refine tkA 9 rfl (v:=undef) (Or.inr ⟨by rfl,rfl⟩) hH ?_;try simp only[Act.put,zA,zB,zC]
         refine tkB 10 rfl (v:=?_) ?_ hH ?_;rotate_left
         .intro w f;skip;go_simp;try with_reducible rfl
         try simp only[Act.put,zA,zB,zC]
         refine dnA ?_;have ho6:=hH.2
         clear hH;go_wp2_with fail;go_roundw
         case rel=>exact⟨k+1,by omega,λj hj=>by
                  by_cases e:j=k
                  .rw[e];exact af.out
                  .exact Hall.out j (by omega),by go_num,by rw[ad.out];exact hop6,ho6,by rw[ae.out,if_neg (λh=>Hkm.out h.1)];exact hm6⟩
         case measure=>simp[intOf];omega
       refine Zdk rfl (λK d=>?_) ?_
       .go_simp
        refine(Xj _ L hl).mono ?_;rintro e W5 ⟨rfl,b⟩;have hHn:=Zh.below hH b
        replace hj3:=hj3.step b;replace hm3:=hm3.below b;replace ho3:=ho3.below b;clear b hH;go_wp2_with fail;refine d.out _ _ hHn (λhH=>?_);clear hHn;clear d K;try simp only[Act.put,zA,zB,zC]
        refine rdA 4 rfl (λK d=>?_);have q1:=hj3.jat.cells.2.1
        dsimp only at q1;go_simp;refine d.out _ _ hH (λ_=>?_);clear q1;clear d K;try simp only[Act.put,zA,zB,zC]
        refine rdA 7 rfl (λK d=>?_);go_simp;refine d.out _ _ hH (λ_=>?_);clear d K;try simp only[Act.put,zA,zB,zC]
        refine tdI [8,9] ?_
        iterate 2
         refine tdS (v:=?_) ?_ hH ?_;rotate_left
         .intro w f;skip;go_simp;try with_reducible rfl
         try simp only[Act.put,zA,zB,zC]
        refine tdE ?_;refine rdA 10 rfl (λK d=>?_);have q1:=hj3.jat.cells.2.1
        have f1:=Zf hj3.jat.head 1;go_simp
        have al:(if R<Zm L then ((Zm L:Nat):Int) else (R:Int))=((max R (Zm L):Nat):Int):=by split<;>omega
        rw[al];have hHn:Zh (W5.setCell ⟨p,1,none⟩ (.int .u64 ((max R (Zm L):Nat):Int))) q 159 L:=Zh.turned hH (Zc W5 p 1 _) (by omega)
        have hop6:=hj3.put_last (max R (Zm L));have hm6:=hm3.turned (Zc W5 p 1 (.int .u64 ((max R (Zm L):Nat):Int))) (λk hk=>by omega);have ho6:=ho3.turned (Zc W5 p 1 (.int .u64 ((max R (Zm L):Nat):Int))) (by omega);clear hj3 hm3 ho3 q1 f1 al hH;generalize W5.setCell ⟨p,1,none⟩ (.int .u64 ((max R (Zm L):Nat):Int))=X at *;refine d.out _ _ hHn (λhH=>?_);clear hHn;clear d K;try simp only[Act.put,zA,zB,zC]
        refine dnA ?_;have hr6:=hH
        clear hH;by_cases t:k<Zp m
        .have am:decide ((k:Int)<((Zp m:Nat):Int))=true:=by simpa using t
         have an:decide (k<Zp m)=true:=Vd t;have Hkm:=Hd t;by_cases u:Zm L=Zm m
         .have ao:(((Zm L:Nat):Int)==((Zm m:Nat):Int))=true:=by rw[beq_iff_eq];omega
          have ap:(Zm L==Zm m)=true:=by simpa using u
          have aq:decide (Zm L=Zm m)=true:=Vd u;have Hww:=Hd u;clear u t;go_upto_region 38 with fail;replace hop6:=hop6.step (Ve _ _).drew;replace hm6:=hm6.drew;have U:(λW=>Zh W q 159 L/\Zh W g 159 m) X.drew:=⟨hr6.below (Ve _ X).drew,ho6.below (Ve _ X).drew⟩;clear hr6 ho6;refine rgA (S:=(λW=>Zh W q 159 L/\Zh W g 159 m)) U (λhH=>?_);refine tkB 0 rfl (v:=?_) ?_ hH ?_;rotate_left
          .intro w f;skip;go_simp;try with_reducible rfl
          try simp only[Act.put,zA,zB,zC]
          refine tkA 1 rfl (v:=.agg (bv m).toArray) (yieldsIf_load_mid rfl 159 (.tmp 11) rfl g 0 rfl (bv m) _ (λW z=>Zh.range z.2) Tryz.underlying159 rfl (by rw[Zj,H])) hH ?_;try simp only[Act.put,zA,zB,zC]
          refine rdA 2 rfl (λK d=>?_);go_simp;refine(Qg _ m A).mono ?_;rintro e W7 ⟨rfl,b⟩;have hHn:=show (λW=>Zh W q 159 L/\Zh W g 159 m) _ from ⟨Zh.below hH.1 b,Zh.below hH.2 b⟩
          replace hop6:=hop6.step b;replace hm6:=hm6.below b;clear b hH;go_wp2_with fail;refine d.out _ _ hHn (λhH=>?_);clear hHn;clear d K;try simp only[Act.put,zA,zB,zC]
          refine tdI [3,4] ?_
          iterate 2
           refine tdS (v:=?_) ?_ hH ?_;rotate_left
           .intro w f;skip;go_simp;try with_reducible rfl
           try simp only[Act.put,zA,zB,zC]
          refine tdE ?_;refine tkA 5 rfl (v:=.agg (bv L).toArray) (yieldsIf_load_mid rfl 159 (.tmp 14) rfl q 0 rfl (bv L) _ (λW z=>Zh.range z.1) Tryz.underlying159 rfl (by rw[Zj,y])) hH ?_;try simp only[Act.put,zA,zB,zC]
          refine tkA 7 rfl (v:=.agg (bv m).toArray) (yieldsIf_load_mid rfl 159 (.tmp 11) rfl g 0 rfl (bv m) _ (λW z=>Zh.range z.2) Tryz.underlying159 rfl (by rw[Zj,H])) hH ?_;try simp only[Act.put,zA,zB,zC]
          refine rdA 6 rfl (λK d=>?_);go_simp;refine(Xj _ L hl).mono ?_;rintro e W8 ⟨rfl,b⟩;have hHn:=show (λW=>Zh W q 159 L/\Zh W g 159 m) _ from ⟨Zh.below hH.1 b,Zh.below hH.2 b⟩
          replace hop6:=hop6.step b;replace hm6:=hm6.below b;clear b hH;go_wp2_with fail;refine d.out _ _ hHn (λhH=>?_);clear hHn;clear d K;try simp only[Act.put,zA,zB,zC]
          refine rdA 8 rfl (λK d=>?_);go_simp;refine(Xj _ m A).mono ?_;rintro e W9 ⟨rfl,b⟩;have hHn:=show (λW=>Zh W q 159 L/\Zh W g 159 m) _ from ⟨Zh.below hH.1 b,Zh.below hH.2 b⟩
          replace hop6:=hop6.step b;replace hm6:=hm6.below b;clear b hH;go_wp2_with fail;refine d.out _ _ hHn (λhH=>?_);clear hHn;clear d K;try simp only[Act.put,zA,zB,zC]
          refine tdI [9,10] ?_
          iterate 2
           refine tdS (v:=?_) ?_ hH ?_;rotate_left
           .intro w f;skip;go_simp;try with_reducible rfl
           try simp only[Act.put,zA,zB,zC]
          refine tdE ?_;refine dnA ?_;have hr6:=hH.1
          have ho6:=hH.2;clear hH;have hrg:=hr6.range;have a3:Below W9.heap.size W9 (W9.alloc (.cells (bv L).toArray 159)):=(Ve _ _).alloc (Va _) _;have hop9:=hop6.step a3;have hm9:=hm6.below a3;have ho9:=ho6.below a3;have hr9:=Zh.alloc W9 159 L;obtain⟨bd,be,ar,au,V⟩:=hm9.snoc hop9.base (by have:=b1.out;omega) L hl W9.heap.size hr9;have hop11:=hop9.own (T:=λj=>g+1<=j) (λj hj=>by have:=Hpp.out;omega) V;have ho11:=ho9.turned V (by omega);clear hop6 hm6 ho6 a3 hop9 hm9 ho9 hr9 V;go_wp2_with (first | (refine wpList_load_mid rfl 159 (.tmp 14) rfl q 0 rfl (bv L) _ hrg Tryz.underlying159 rfl (by rw[Zj,y]) ?_) | (refine Zhe rfl (.tmp 139) rfl L hl rfl ?_) | (refine wpList_append_run rfl (.tmp 138) (.tmp 140) 165 165 rfl _ _ _ rfl rfl ar ?_));have hop6:=hop11;have ho6:=ho11;have hm6:=au;go_roundw
          case rel=>exact⟨k+1,by omega,λj hj=>by
                   by_cases e:j=k
                   .rw[e];exact af.out
                   .exact Hall.out j (by omega),by go_num,by rw[ad.out];exact hop6,ho6,by rw[ae.out,if_pos ⟨Hkm.out,Hww.out⟩];exact hm6⟩
          case measure=>simp[intOf];omega
         .have ao:(((Zm L:Nat):Int)==((Zm m:Nat):Int))=false:=by rw[beq_eq_false_iff_ne];omega
          have ap:(Zm L==Zm m)=false:=by simpa using u
          have aq:decide (Zm L=Zm m)=false:=Vb u;have Hww:=Hd u;clear u t;go_upto_region 38 with fail;replace hop6:=hop6.step (Ve _ _).drew;replace hm6:=hm6.drew;have U:(λW=>Zh W q 159 L/\Zh W g 159 m) X.drew:=⟨hr6.below (Ve _ X).drew,ho6.below (Ve _ X).drew⟩;clear hr6 ho6;refine rgA (S:=(λW=>Zh W q 159 L/\Zh W g 159 m)) U (λhH=>?_);refine tkB 0 rfl (v:=?_) ?_ hH ?_;rotate_left
          .intro w f;skip;go_simp;try with_reducible rfl
          try simp only[Act.put,zA,zB,zC]
          refine tkA 1 rfl (v:=.agg (bv m).toArray) (yieldsIf_load_mid rfl 159 (.tmp 11) rfl g 0 rfl (bv m) _ (λW z=>Zh.range z.2) Tryz.underlying159 rfl (by rw[Zj,H])) hH ?_;try simp only[Act.put,zA,zB,zC]
          refine rdA 2 rfl (λK d=>?_);go_simp;refine(Qg _ m A).mono ?_;rintro e W7 ⟨rfl,b⟩;have hHn:=show (λW=>Zh W q 159 L/\Zh W g 159 m) _ from ⟨Zh.below hH.1 b,Zh.below hH.2 b⟩
          replace hop6:=hop6.step b;replace hm6:=hm6.below b;clear b hH;go_wp2_with fail;refine d.out _ _ hHn (λhH=>?_);clear hHn;clear d K;try simp only[Act.put,zA,zB,zC]
          refine tdI [3,4] ?_
          iterate 2
           refine tdS (v:=?_) ?_ hH ?_;rotate_left
           .intro w f;skip;go_simp;try with_reducible rfl
           try simp only[Act.put,zA,zB,zC]
          refine tdE ?_;refine tkA 5 rfl (v:=.agg (bv L).toArray) (yieldsIf_load_mid rfl 159 (.tmp 14) rfl q 0 rfl (bv L) _ (λW z=>Zh.range z.1) Tryz.underlying159 rfl (by rw[Zj,y])) hH ?_;try simp only[Act.put,zA,zB,zC]
          refine tkA 7 rfl (v:=.agg (bv m).toArray) (yieldsIf_load_mid rfl 159 (.tmp 11) rfl g 0 rfl (bv m) _ (λW z=>Zh.range z.2) Tryz.underlying159 rfl (by rw[Zj,H])) hH ?_;try simp only[Act.put,zA,zB,zC]
          refine rdA 6 rfl (λK d=>?_);go_simp;refine(Xj _ L hl).mono ?_;rintro e W8 ⟨rfl,b⟩;have hHn:=show (λW=>Zh W q 159 L/\Zh W g 159 m) _ from ⟨Zh.below hH.1 b,Zh.below hH.2 b⟩
          replace hop6:=hop6.step b;replace hm6:=hm6.below b;clear b hH;go_wp2_with fail;refine d.out _ _ hHn (λhH=>?_);clear hHn;clear d K;try simp only[Act.put,zA,zB,zC]
          refine rdA 8 rfl (λK d=>?_);go_simp;refine(Xj _ m A).mono ?_;rintro e W9 ⟨rfl,b⟩;have hHn:=show (λW=>Zh W q 159 L/\Zh W g 159 m) _ from ⟨Zh.below hH.1 b,Zh.below hH.2 b⟩
          replace hop6:=hop6.step b;replace hm6:=hm6.below b;clear b hH;go_wp2_with fail;refine d.out _ _ hHn (λhH=>?_);clear hHn;clear d K;try simp only[Act.put,zA,zB,zC]
          refine tdI [9,10] ?_
          iterate 2
           refine tdS (v:=?_) ?_ hH ?_;rotate_left
           .intro w f;skip;go_simp;try with_reducible rfl
           try simp only[Act.put,zA,zB,zC]
          refine tdE ?_;refine dnA ?_;have ho6:=hH.2
          clear hH;go_wp2_with fail;go_roundw
          case rel=>exact⟨k+1,by omega,λj hj=>by
                   by_cases e:j=k
                   .rw[e];exact af.out
                   .exact Hall.out j (by omega),by go_num,by rw[ad.out];exact hop6,ho6,by rw[ae.out,if_neg (λh=>Hww.out h.2)];exact hm6⟩
          case measure=>simp[intOf];omega
        .have am:decide ((k:Int)<((Zp m:Nat):Int))=false:=by simpa using t
         have an:decide (k<Zp m)=false:=Vb t;have Hkm:=Hd t;clear t;go_upto_region 38 with fail;replace hop6:=hop6.step (Ve _ _).drew;replace hm6:=hm6.drew;have U:(λW=>Zh W q 159 L/\Zh W g 159 m) X.drew:=⟨hr6.below (Ve _ X).drew,ho6.below (Ve _ X).drew⟩;clear hr6 ho6;refine rgA (S:=(λW=>Zh W q 159 L/\Zh W g 159 m)) U (λhH=>?_);refine tkB 0 rfl (v:=?_) ?_ hH ?_;rotate_left
         .intro w f;skip;go_simp;try with_reducible rfl
         try simp only[Act.put,zA,zB,zC]
         refine tkA 1 rfl (v:=.agg (bv m).toArray) (yieldsIf_load_mid rfl 159 (.tmp 11) rfl g 0 rfl (bv m) _ (λW z=>Zh.range z.2) Tryz.underlying159 rfl (by rw[Zj,H])) hH ?_;try simp only[Act.put,zA,zB,zC]
         refine rdA 2 rfl (λK d=>?_);go_simp;refine(Qg _ m A).mono ?_;rintro e W7 ⟨rfl,b⟩;have hHn:=show (λW=>Zh W q 159 L/\Zh W g 159 m) _ from ⟨Zh.below hH.1 b,Zh.below hH.2 b⟩
         replace hop6:=hop6.step b;replace hm6:=hm6.below b;clear b hH;go_wp2_with fail;refine d.out _ _ hHn (λhH=>?_);clear hHn;clear d K;try simp only[Act.put,zA,zB,zC]
         refine tdI [3,4] ?_
         iterate 2
          refine tdS (v:=?_) ?_ hH ?_;rotate_left
          .intro w f;skip;go_simp;try with_reducible rfl
          try simp only[Act.put,zA,zB,zC]
         refine tdE ?_;refine tkA 5 rfl (v:=undef) (Or.inr ⟨by rfl,rfl⟩) hH ?_;try simp only[Act.put,zA,zB,zC]
         refine tkA 7 rfl (v:=undef) (Or.inr ⟨by rfl,rfl⟩) hH ?_;try simp only[Act.put,zA,zB,zC]
         refine rdA 6 rfl (λK d=>?_);go_simp;refine d.out _ _ hH (λ_=>?_);clear d K;try simp only[Act.put,zA,zB,zC]
         refine rdA 8 rfl (λK d=>?_);go_simp;refine d.out _ _ hH (λ_=>?_);clear d K;try simp only[Act.put,zA,zB,zC]
         refine tkA 9 rfl (v:=undef) (Or.inr ⟨by rfl,rfl⟩) hH ?_;try simp only[Act.put,zA,zB,zC]
         refine tkB 10 rfl (v:=?_) ?_ hH ?_;rotate_left
         .intro w f;skip;go_simp;try with_reducible rfl
         try simp only[Act.put,zA,zB,zC]
         refine dnA ?_;have ho6:=hH.2
         clear hH;go_wp2_with fail;go_roundw
         case rel=>exact⟨k+1,by omega,λj hj=>by
                  by_cases e:j=k
                  .rw[e];exact af.out
                  .exact Hall.out j (by omega),by go_num,by rw[ad.out];exact hop6,ho6,by rw[ae.out,if_neg (λh=>Hkm.out h.1)];exact hm6⟩
         case measure=>simp[intOf];omega
       exact AllReadyH.nil
     .have bf:k=D.blocks:=by omega
      have bc:decide ((k:Int)<(D.blocks:Int))=false:=by simp;omega
      have he:D.openJ=if (D.againTo m k).length=Zp m/\0<(D.againTo m k).length then (((⟨D,D.lastTo m k,sq,0⟩:Jn).spread (D.againTo m k)).off,(⟨D,D.lastTo m k,sq,0⟩:Jn).spread (D.againTo m k)) else (0,⟨D,D.lastTo m k,sq,0⟩):=by rw[Dk.openJ,if_neg (by omega),if_neg (by simp[Hoff.out]),if_neg (by simp[Hm0.out]),if_neg (by simp[Hm0.out,aV.out]),if_neg (by rintro⟨i,hi,e⟩;rw[Hall.out i (by omega)] at e;cases e),Dk.found,HMm.out,Hsq.out,<-bf]
      have HE:=Hd he
      have bu:(D.againTo m k).length<=k:=by
       have:∀j,(D.againTo m j).length<=j:=λj=>by
        induction j with
        | zero=>exact Va _
        | succ j ih =>
         rw[Dk.againTo];split
         .rw[List.length_append,List.length_singleton];omega
         .omega
       exact this k
      clear he Hall Hsq HMm;generalize D.againTo m k=ag at *;generalize D.lastTo m k=R at *;have hpl:=Zgs m
      obtain⟨xa,xc,hx,bw,bx⟩:∃a av,u12=.slice a ag.length av/\ag.length<=av/\av<=maxLen:=by
       rcases ak.range with ⟨h1,h2⟩ | ⟨g,av,h1,h2,h3,_⟩
       .exact⟨none,0,by rw[h1,h2];rfl,by rw[h2];exact Va _,by simp[maxLen]⟩
       .exact⟨_,av,h1,h2,h3⟩
      subst hx;have hrg:=a5.range
      go_wp2_with (refine wpList_load_mid rfl 159 (.tmp 11) rfl g 0 rfl (bv m) _ hrg Tryz.underlying159 rfl (by rw[Zj,H]) ?_);refine(Qg wr m A).mono ?_;rintro e w2 ⟨rfl,I⟩;have hop2:=s.step I
      have hmr2:=ak.below I;clear s ak a5 hrg I;by_cases h1:ag.length=Zp m
      case neg =>
       have ao:(((ag.length:Nat):Int)==((Zp m:Nat):Int))=false:=by rw[beq_eq_false_iff_ne];omega
       have ap:(ag.length==Zp m)=false:=by simpa using h1
       have aq:decide (ag.length=Zp m)=false:=Vb h1;have a6:D.openJ=(0,⟨D,R,sq,0⟩):=by rw[HE.out,if_neg (λh=>h1 h.1)]
       have ah:=Hd a6;clear a6 h1;go_wp2_with fail;go_ret2;exact Xp.ok ah.out hop2.jat hop2.wp (Zb.of_below hop2.below)
      have ao:(((ag.length:Nat):Int)==((Zp m:Nat):Int))=true:=by rw[beq_iff_eq];omega
      have ap:(ag.length==Zp m)=true:=by simpa using h1
      have aq:decide (ag.length=Zp m)=true:=Vd h1;by_cases h2:0<ag.length
      case neg =>
       have bg:decide ((0:Int)<((ag.length:Nat):Int))=false:=Vb (by omega);have bh:decide (0<ag.length)=false:=Vb h2;have a6:D.openJ=(0,⟨D,R,sq,0⟩):=by rw[HE.out,if_neg (λh=>h2 h.2)]
       have ah:=Hd a6;clear a6 h1 h2;go_wp2_with fail;go_ret2;exact Xp.ok ah.out hop2.jat hop2.wp (Zb.of_below hop2.below)
      have bg:decide ((0:Int)<((ag.length:Nat):Int))=true:=Vd (by omega);have bh:decide (0<ag.length)=true:=Vd h2;have a6:D.openJ=(((⟨D,R,sq,0⟩:Jn).spread ag).off,(⟨D,R,sq,0⟩:Jn).spread ag):=by rw[HE.out,if_pos ⟨h1,h2⟩]
      have ah:=Hd a6;clear a6 h1 h2;go_wp2_with fail
      refine(spread_any w2 F p ⟨D,R,sq,0⟩ hop2.jat hop2.nib (by show 2<=D.n;omega) (g+1) _ ag hmr2 (λj hj=>by
       rcases hj with hj | hj
       .have:=hop2.fw j hj;have:=Hpp.out;omega
       .omega)).mono ?_
      rintro e w3 ⟨rfl,hj3,b3⟩
      have b4:Zb F.has w w3:=((Zb.of_below (T:=JT F p) hop2.below).trans b3).mono λj hj hT=>by
       rcases hT with hT | hT
       .exact hT
       .have:=hop2.wp;omega
      have b5:=hop2.wp;have HW:=Hd b5;clear hop2 hmr2 b3 b5;generalize (⟨D,R,sq,0⟩:Jn).spread ag=J1 at *;have q3:=hj3.cells.2.2.2;by_cases h0:J1.off=0
      .have bi:(J1.off==0)=true:=by simpa using h0
       have bj:(J1.off != 0)=false:=by simp[h0]
       have b6:D.openJ=(0,J1):=by rw[ah.out,h0]
       have bk:=Hd b6;clear b6;rw[h0] at q3;clear h0;go_wp2_with fail;go_ret2;exact Xp.ok bk.out hj3 HW.out b4
      .have bi:(J1.off==0)=false:=by simpa using h0
       have bj:(J1.off != 0)=true:=by simpa using h0
       have H0:=Hd h0;generalize b7:J1.off=oj at *;clear h0;have Hoj:=Hd b7;clear b7;go_wp2_with fail;go_region;go_wp2_with fail;go_ret2;exact Xp.away ah.out rfl H0.out hj3.drew.disk b4.drew
theorem open_any (w:World) (F:Ft) (D:Dk) (h:Xd w F D) (hn:Nib w):Calls Tryz.prog 48 #[F.ptr] w (Xp F D w):=by
 by_cases b:D.n<32\/D.off=true
 .exact open_bad w F D h hn b
 .exact open_rest w F D h hn (λe=>b (.inl e)) (by
   cases e:D.off with
   | false=>rfl
   | true=>exact absurd (.inr e) b)
end
section
open Go.RowKit
variable {kv:List (Int × Value)}{w:World}{M:Nat}
def KMap (w:World) (M:Nat) (kv:List (Int × Value)):Prop :=
 ∃(es:List MapEntry) (clock:Nat),w.heap[M]?=some (.map es.toArray clock)/\es.map (λe=>(e.key,e.val))=kv.map λx=>(Value.int .i64 x.1,x.2)
def kAt:List (Int × Value)->Int->Nat->Option (Nat × Value)
 | [],_,_=>none
 | x::r,n,k=>if x.1=n then some (k,x.2) else kAt r n (k+1)
def Zal (kv:List (Int × Value)) (n:Int):Option Value:=(kAt kv n 0).map (·.2)
theorem kAt_shift (kv:List (Int × Value)) (n:Int):∀k,kAt kv n k=(kAt kv n 0).map λx=>(x.1+k,x.2):=by
 induction kv with
 | nil=>intro k;rfl
 | cons x r a =>
  intro k;simp only[kAt];split
  .simp
  .rw[a (k+1),a (0+1),Option.map_map];congr 1;funext y;simp only[Function.comp,Prod.mk.injEq,and_true];omega
theorem kLook_cons (x:Int × Value) (r:List (Int × Value)) (n:Int):Zal (x::r) n=if x.1=n then some x.2 else Zal r n:=by
 simp only[Zal,kAt];split
 .rfl
 .rw[kAt_shift r n (0+1),Option.map_map];rfl
theorem kLook_const (a:List Int) (v:Value) (n:Int):Zal (a.map λx=>(x,v)) n=if n∈a then some v else none:=by
 induction a with
 | nil=>rfl
 | cons x r b =>
  rw[List.map_cons,kLook_cons,b];by_cases h:x=n
  .subst h;simp
  .have c:n≠x:=λe=>h e.symm;simp[h,c]
theorem kAt_none {n:Int} (h:Zal kv n=none):kAt kv n 0=none:=by simpa [Zal] using h
theorem Zds:∀(a:List MapEntry) (kv:List (Int × Value)) (n:Int) (k:Nat),a.map (λe=>(e.key,e.val))=kv.map (λx=>(Value.int .i64 x.1,x.2)) ->
  Instr.findNow (.int .i64) (.int .i64 n) a k=some (kAt kv n k)
 | [],[],n,k,_=>rfl
 | [],_::_,n,k,h=>by simp at h
 | _::_,[],n,k,h=>by simp at h
 | e::a,x::kv,n,k,h=>by
  simp only[List.map_cons,List.cons.injEq,Prod.mk.injEq] at h;obtain⟨⟨c,d⟩,f⟩:=h;have ih:=Zds a kv n (k+1) f
  simp only[Instr.findNow,c,Instr.sameNow,if_true,kAt];by_cases b:x.1=n
  .subst b;simp[d]
  .have g:(n==x.1)=false:=beq_eq_false_iff_ne.2 (λe=>b e.symm);rw[g,if_neg b];exact ih
theorem KMap.made (w:World):KMap (w.alloc (.map #[] 0)) w.heap.size []:=⟨[],0,Vg w _,rfl⟩
theorem KMap.lt (h:KMap w M kv):M<w.heap.size:=by obtain⟨b,c,a,d⟩:=h;exact Za a
section
variable {P : Program} {T K E : TypeId}
theorem KMap.run_look (h:KMap w M kv) (c:P.underlying T=some (.map K E)) (a:P.underlying K=some (.int .i64)) (z:Value) (hz:∀w,(zeroValue E).run P w=.ok z w) (n:Int):
  (Instr.lookup T (.map (some M)) (.int .i64 n) false).run P w=.ok ((Zal kv n).getD z) w:=by
 obtain⟨e,g,d,f⟩:=h;have hf:=Zds e kv n 0 f
 cases b:kAt kv n 0 with
 | none =>
  rw[b] at hf;simp[Instr.lookup,run_underlying c,Go.MapKept.run_getObj_map d,Go.MapKept.run_checkKey (P:=P) (k:=.int .i64 n) a (by simp[Go.MapKept.IsKey]),Vz (P:=P) a hf,Result.andThen,hz,Zal,b]
 | some x =>
  rw[b] at hf;simp[Instr.lookup,run_underlying c,Go.MapKept.run_getObj_map d,Go.MapKept.run_checkKey (P:=P) (k:=.int .i64 n) a (by simp[Go.MapKept.IsKey]),Vz (P:=P) a hf,Result.andThen,Zal,b]
theorem KMap.run_look_ok (h:KMap w M kv) (c:P.underlying T=some (.map K E)) (a:P.underlying K=some (.int .i64)) (z:Value) (hz:∀w,(zeroValue E).run P w=.ok z w) (n:Int):
  (Instr.lookup T (.map (some M)) (.int .i64 n) true).run P w=.ok (.tuple #[(Zal kv n).getD z,.bool (Zal kv n).isSome]) w:=by
 obtain⟨e,g,d,f⟩:=h;have hf:=Zds e kv n 0 f
 cases b:kAt kv n 0 with
 | none =>
  rw[b] at hf;simp[Instr.lookup,run_underlying c,Go.MapKept.run_getObj_map d,Go.MapKept.run_checkKey (P:=P) (k:=.int .i64 n) a (by simp[Go.MapKept.IsKey]),Vz (P:=P) a hf,Result.andThen,hz,Zal,b]
 | some x =>
  rw[b] at hf;simp[Instr.lookup,run_underlying c,Go.MapKept.run_getObj_map d,Go.MapKept.run_checkKey (P:=P) (k:=.int .i64 n) a (by simp[Go.MapKept.IsKey]),Vz (P:=P) a hf,Result.andThen,Zal,b]
theorem KMap.run_new (h:KMap w M kv) (i:P.underlying T=some (.map K E)) (f:P.underlying K=some (.int .i64)) (n:Int) (v:Value) (hn:Zal kv n=none):
  ∃w',(Instr.mapUpdate T (.map (some M)) (.int .i64 n) v).run P w=.ok () w'/\KMap w' M (kv++[(n,v)])/\Zb (·=M) w w':=by
 obtain⟨b,a,c,g⟩:=h;have hf:=Zds b kv n 0 g
 rw[kAt_none hn] at hf;refine⟨{ w with heap:=w.heap.setIfInBounds M (.map (b.toArray.push ⟨.int .i64 n,v,a⟩) (a+1)) },?_,?_,?_⟩
 .simp[Instr.mapUpdate,run_underlying i,Go.MapKept.run_getObj_map c,Go.MapKept.run_checkKey (P:=P) (k:=.int .i64 n) f (by simp[Go.MapKept.IsKey]),Vz (P:=P) f hf,Go.MapKept.run_setObj_map _ c,Result.andThen]
 .refine⟨b++[⟨.int .i64 n,v,a⟩],a+1,?_,by simp[g]⟩
  show (w.heap.setIfInBounds M _)[M]?=_
  rw[Array.getElem?_setIfInBounds_self_of_lt (Za c)];simp
 .refine⟨rfl,rfl,rfl,by simp,λk j d=>?_⟩
  show (w.heap.setIfInBounds M _)[k]?=_
  rw[Array.getElem?_setIfInBounds_ne (λe=>d e.symm)]
end
end
section
open Go.RowKit
variable {w' w:World}{v:Value}{l:List Int}
def IsI (w:World) (v:Value) (zs:List Int):Prop :=
 ∃a cap,v=.slice a zs.length cap/\zs.length<=cap/\cap<=maxLen/\(a=none->cap=0) /\
  ∀x,a=some x->(0<zs.length->x.spot=none)/\∀i,(h:i<zs.length)->w.cell? ⟨x.block,x.off+i,none⟩=some (.int .i64 zs[i])
theorem IsI.nil (w:World):IsI w (.slice none 0 0) []:=⟨none,0,rfl,Va _,by simp[maxLen],λ_=>rfl,λx h=>by cases h⟩
theorem IsI.of_cells (h:IsI w v l) (hw:∀a u,w.cell? a=some u->w'.cell? a=some u):IsI w' v l:=by obtain⟨a,b,e,f,g,j,c⟩:=h;exact⟨a,b,e,f,g,j,λx d=>⟨(c x d).1,λi k=>hw _ _ ((c x d).2 i k)⟩⟩
theorem IsI.below (h:IsI w v l) (hb:Below w.heap.size w w'):IsI w' v l:=h.of_cells (Zi hb)
end
section
open Go.RowKit
variable {w:World}{zs:List Int}{ls:List (List UInt8)}{cap n:Nat}{v:Value}{a:Option Addr}
def Ql (nb:Nat) (met:List Int):List Int->List (List UInt8)->Bool
 | n::r,b::s=>(decide (0<=n)&&decide (n<(nb:Int))&&!decide (n∈met)&&decide (b.length=112))&&Ql nb (met++[n]) r s
 | _,_=>true
def Zaa (nb:Nat) (zs:List Int) (ls:List (List UInt8)):Bool:=decide (zs.length=ls.length)&&Ql nb [] zs ls
theorem rightGo_step {nb:Nat} {met:List Int} {k:Nat} (h1:k<zs.length) (h2:k<ls.length):
  Ql nb met (zs.drop k) (ls.drop k)=((decide (0<=zs[k])&&decide (zs[k]<(nb:Int))&&!decide (zs[k]∈met)&&decide (ls[k].length=112))&&Ql nb (met++[zs[k]]) (zs.drop (k+1)) (ls.drop (k+1))):=by
 rw[List.drop_eq_getElem_cons h1,List.drop_eq_getElem_cons h2,Ql]
theorem isI_at (h:IsI w (.slice a n cap) zs) (i:Nat) (f:i<zs.length):∃b o,a=some ⟨b,o,none⟩/\w.cell? ⟨b,o+i,none⟩=some (.int .i64 zs[i]):=by
 obtain⟨k,d,e,l,m,g,c⟩:=h;simp only[Value.slice.injEq] at e;obtain⟨rfl,rfl,rfl⟩:=e
 cases a with
 | none=>have:=g rfl;omega
 | some x =>
  obtain⟨b,o,s⟩:=x;obtain⟨j,c⟩:=c _ rfl;obtain rfl:s=none:=j (by omega);exact⟨b,o,rfl,c i f⟩
theorem isBs_at (h:IsBs w (.slice a n cap) ls) (i:Nat) (f:i<ls.length):∃b o u,a=some ⟨b,o,none⟩/\w.cell? ⟨b,o+i,none⟩=some u/\IsB w u ls[i]:=by
 obtain⟨m,d,e,p,q,g,c⟩:=h;simp only[Value.slice.injEq] at e;obtain⟨rfl,rfl,rfl⟩:=e
 cases a with
 | none=>have:=g rfl;omega
 | some x =>
  obtain⟨b,o,s⟩:=x;obtain⟨j,c⟩:=c _ rfl;obtain rfl:s=none:=j (by omega);obtain⟨u,k,l⟩:=c i f;exact⟨b,o,u,rfl,k,l⟩
theorem IsI.form (h:IsI w v zs):∃a cap,v=.slice a zs.length cap/\zs.length<=cap/\cap<=maxLen:=by obtain⟨a,cap,b,c,d,_⟩:=h;exact⟨a,cap,b,c,d⟩
theorem IsBs.form (h:IsBs w v ls):∃a cap,v=.slice a ls.length cap/\ls.length<=cap/\cap<=maxLen:=by obtain⟨a,cap,b,c,d,_⟩:=h;exact⟨a,cap,b,c,d⟩
theorem IsB.form {l:List UInt8} (h:IsB w v l):∃a cap,v=.slice a l.length cap/\l.length<=cap/\cap<=maxLen:=by obtain⟨a,cap,b,c,d,_⟩:=h;exact⟨a,cap,b,c,d⟩
theorem zero_int (w:World):(zeroValue 3).run Tryz.prog w=.ok (.int .i64 0) w:=by kernel_rfl
theorem right_any (w:World) (F:Ft) (p:Nat) (J:Jn) (h:JAt w F p J) (hn2:2<=J.D.n) (u:Value) (zs:List Int) (hu:IsI w u zs) (v:Value) (ls:List (List UInt8)) (hv:IsBs w v ls)
 (y:∀n∈zs,-9223372036854775808<=n/\n<=9223372036854775807):
  Calls Tryz.prog 111 #[jptr p,u,v] w λe w'=>e=.returned (.bool (Zaa J.D.blocks zs ls))/\Below w.heap.size w w':=by
 have a6:=h.disk.ok.nm;obtain⟨au,cu,rfl,a7,Q⟩:=hu.form;obtain⟨av,cv,rfl,a8,R⟩:=hv.form;unfold maxLen at Q R;have a9:J.D.blocks<=8191:=by unfold Dk.blocks;omega
 have S:=Hd y;clear y;have hmm:=λw=>run_makeMap (P:=Tryz.prog) 225 w;by_cases f:zs.length=ls.length
 case neg =>
  have A:Zaa J.D.blocks zs ls=false:=by rw[Zaa,Vb f,Bool.false_and]
  rw[A];have hd:((zs.length:Int) != (ls.length:Int))=true:=by simp;omega
  clear A h hu hv;go_enter Tryz.func111,Tryz.ntmps111;go_wp2_with fail;go_ret;exact⟨rfl,Ve _ _⟩
 generalize B:J.D.blocks=b at *;have Hbb:=Hd B
 clear B;have A:Zaa b zs ls=Ql b [] zs ls:=by rw[Zaa,Vd f,Bool.true_and]
 rw[A];have hd:((zs.length:Int) != (ls.length:Int))=false:=by simp;omega
 have C:=Hd f;have Hu:=Hd hu;have Hv:=Hd hv;have HJ:=Hd h;have E:Below w.heap.size w (w.alloc (.map #[] 0)):=(Ve _ _).alloc (Va _) _;have G:KMap (w.alloc (.map #[] 0)) w.heap.size (([]:List Int).map λx=>(x,.int .i64 1)):=KMap.made w;clear A h hu hv f;go_enter Tryz.func111,Tryz.ntmps111;go_wp2_with fail;generalize w.alloc (.map #[] 0)=w1 at *;go_loopw [18] (λi wr=>∃k:Nat,k<=zs.length/\i=.int .i64 (k:Int)/\KMap wr w.heap.size ((zs.take k).map λx=>(x,.int .i64 1))/\Below w.heap.size w wr/\Hid (Ql b [] zs ls=Ql b (zs.take k) (zs.drop k) (ls.drop k))) (λi _=>zs.length - (intOf i).toNat)
 case atStart=>exact⟨0,Vl _,rfl,G,E,Hd rfl⟩
 case round =>
  obtain⟨k,hk,rfl,r,d,Hr⟩:=hrel;clear G E;by_cases g:k<zs.length
  .have l:k<ls.length:=by have:=C.out;omega
   have T:decide ((k:Int)<(zs.length:Int))=true:=by simpa using g
   have a2:decide ((k:Int)<(ls.length:Int))=true:=by simpa using l
   obtain⟨ub,uo,rfl,a3⟩:=isI_at (Hu.out.below d) k g;obtain⟨vb,vo,x,rfl,a4,U⟩:=isBs_at (Hv.out.below d) k l;have V:ls[k].length<=9223372036854775807:=by obtain⟨a,c,_,h1,W⟩:=U.form;unfold maxLen at W;omega
   have H:=rightGo_step (nb:=b) (met:=zs.take k) g l;have hzb:=S.out zs[k] (Vo g);have I:zs.take (k+1)=zs.take k++[zs[k]]:=List.take_succ_eq_append_getElem g;have Hts:=Hd I;have Hrs:=Hd (Hr.out.trans H);have hj:=HJ.out.below d;have hB:=Zbp wr F p J hj hn2;rw[Hbb.out] at hB;have HB:=Hd hB;clear hB;have hlook:=r.run_look Tryz.underlying225 Tryz.underlying3 (.int .i64 0) zero_int zs[k];have s:Hid (zs[k]∉zs.take k->Zal ((zs.take k).map λx=>(x,Value.int .i64 1)) zs[k]=none):=Hd (λX=>by rw[kLook_const,if_neg X]);rw[kLook_const] at hlook;obtain⟨ax,cx,rfl,_,_⟩:=U.form;obtain⟨aa,ab⟩:=hzb;clear H I hj U;generalize zs[k]=z at *;generalize ls[k].length=N at *;have hp:∀(c:Bool),c=false->(decide (0<=z)&&decide (z<(b:Int))&&!decide (z∈zs.take k)&&decide (N=112))=c->Ql b [] zs ls=false:=λc hc W=>by rw[Hrs.out,W,hc,Bool.false_and]
   have m:=Hd hp;clear hp;by_cases c1:0<=z
   case neg =>
    have d1:decide (z<0)=true:=by simp;omega
    have t:=Hd (m.out false rfl (by simp[c1]));go_wp2_with fail;go_ret;exact⟨by rw[t.out];rfl,d⟩
   have d1:decide (z<0)=false:=by simp;omega
   by_cases c2:z<(b:Int)
   case neg =>
    have d2:decide ((b:Int)<=z)=true:=by simp;omega
    have t:=Hd (m.out false rfl (by simp[c2]));clear m;go_wp2_with fail;refine HB.out.mono ?_;rintro e Y ⟨rfl,rfl⟩;go_wp2_with fail;go_ret;exact⟨by rw[t.out];rfl,d⟩
   have d2:decide ((b:Int)<=z)=false:=by simp;omega
   by_cases o:z∈zs.take k
   case pos =>
    have t:=Hd (m.out false rfl (by simp[o]));rw[if_pos o] at hlook;clear m o;go_wp2_with fail;refine HB.out.mono ?_;rintro e Y ⟨rfl,rfl⟩;go_wp2_with fail;go_ret;exact⟨by rw[t.out];rfl,d⟩
   rw[if_neg o] at hlook;by_cases O:N=112
   case neg =>
    have t:=Hd (m.out false rfl (by simp[O]));have d4:((N:Int) != 112)=true:=by simp;omega
    clear m o O;go_wp2_with fail;refine HB.out.mono ?_;rintro e Y ⟨rfl,rfl⟩;go_wp2_with fail;go_ret;exact⟨by rw[t.out];rfl,d⟩
   obtain⟨w3,a5,q,L⟩:=r.run_new Tryz.underlying225 Tryz.underlying3 z (.int .i64 1) (s.out o);have Z:Below w.heap.size w w3:=d.trans (L.below d.size (λj hj=>by omega))
   have a0:Hid (Ql b [] zs ls=Ql b (zs.take (k+1)) (zs.drop (k+1)) (ls.drop (k+1))):=by
    show Ql b [] zs ls=_
    rw[Hrs.out,Hts.out,Vd c1,Vd c2,Vb o,Vd O];rfl
   have M:KMap w3 w.heap.size ((zs.take (k+1)).map λx=>(x,.int .i64 1)):=by rw[Hts.out,List.map_append];exact q
   have d4:((N:Int) != 112)=false:=by simp;omega
   clear r q L m o O;go_wp2_with fail;refine HB.out.mono ?_;rintro e Y ⟨rfl,rfl⟩;go_wp2_with fail;go_roundw
   case rel=>exact⟨k+1,by omega,by go_num,M,Z,a0⟩
   case measure=>simp[intOf];omega
  .obtain rfl:k=zs.length:=by omega
   have T:decide ((zs.length:Int)<(zs.length:Int))=false:=by simp
   have a1:Hid (Ql b [] zs ls=true):=by
    show _=true
    rw[Hr.out,List.drop_length];rfl
   go_wp2_with fail;go_ret;exact⟨by rw[a1.out];rfl,d⟩
end
end Go.Proofs.YtfaobkmojlhbnaaGreatDoor
