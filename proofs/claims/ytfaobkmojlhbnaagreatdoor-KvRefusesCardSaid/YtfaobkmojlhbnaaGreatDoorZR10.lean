/- Contracts of the functions that the statements of this seat reach, part 10: each says what the call answers and what it leaves of the memory. -/
import Derived.Test.YtfaobkmojlhbnaaGreatDoorZR7
import Derived.Deep.RegionHeld3
import Derived.Deep.RegionLaw
import Derived.Lib.Overlaps
import Derived.Lib.AppendZerosOnto
import Derived.Laws.Externs
import Derived.Laws.NewBlocks
import Derived.Shelf.Spec.SlicesInsert
import Derived.Test.YtfaobkmojlhbnaaGreatDoorZR9
set_option linter.unusedVariables false
set_option linter.unusedSimpArgs false
set_option maxRecDepth 100000
set_option maxHeartbeats 64000000
namespace Go.Proofs.YtfaobkmojlhbnaaGreatDoor
section
open Go.RowKit Go.Deep
def Zbn (w:World) (g cap:Nat):Prop:=∃cur:Array Value,w.heap[g]?=some (.cells cur 179 (0,0))/\cur.size=cap*3
def Yc (w:World) (g o:Nat) (L:List En):Prop:=∀j u,(enV L)[j]?=some u->w.cell? ⟨g,o*3+j,none⟩=some u
section
variable {w w' : World} {g o p cap : Nat} {L M A B : List En}
theorem Zbn.lt (h:Zbn w g cap):g<w.heap.size:=by obtain⟨c,h,_⟩:=h;exact Za h
theorem Zbn.keep (h:Zbn w g cap) (hw:w'.heap[g]?=w.heap[g]?):Zbn w' g cap:=by obtain⟨c,h,a⟩:=h;exact⟨c,hw.trans h,a⟩
theorem Yc.keep (h:Yc w g o L) (hw:w'.heap[g]?=w.heap[g]?):Yc w' g o L:=λj u b=>(World.cell?_of_block (a:=⟨g,o*3+j,none⟩) hw).trans (h j u b)
theorem Yc.nil:Yc w g o []:=λj u a=>by simp[enV] at a
theorem Yc.append (h1:Yc w g o A) (h2:Yc w g (o+A.length) B):Yc w g o (A++B):=λj u a=>by
 rw[Zhl,List.getElem?_append] at a;split at a
 .exact h1 j u a
 .rename_i b
  rw[Zw] at b a;have:=h2 _ u a
  rw[show (o+A.length)*3+(j - A.length*3)=o*3+j by omega] at this
  exact this
theorem enV_take (L:List En) (k:Nat):enV (L.take k)=(enV L).take (k*3):=by
 rcases Nat.le_total k L.length with h | h
 .have e:enV L=enV (L.take k)++enV (L.drop k):=by rw[<-Zhl,List.take_append_drop]
  rw[e,List.take_left' (by rw[Zw,List.length_take];omega)]
 .rw[List.take_of_length_le h,List.take_of_length_le (by rw[Zw];omega)]
theorem enV_drop (L:List En) (k:Nat):enV (L.drop k)=(enV L).drop (k*3):=by
 rcases Nat.le_total k L.length with h | h
 .have e:enV L=enV (L.take k)++enV (L.drop k):=by rw[<-Zhl,List.take_append_drop]
  rw[e,List.drop_left' (by rw[Zw,List.length_take];omega)]
 .rw[List.drop_of_length_le h,List.drop_of_length_le (by rw[Zw];omega)];rfl
theorem Yc.take (h:Yc w g o L) (k:Nat):Yc w g o (L.take k):=λj u a=>by
 rw[enV_take,List.getElem?_take] at a;split at a
 .exact h j u a
 .cases a
theorem Yc.drop (h:Yc w g o L) (k:Nat):Yc w g (o+k) (L.drop k):=λj u a=>by
 rw[enV_drop,List.getElem?_drop] at a;have:=h _ u a
 rw[show o*3+(k*3+j)=(o+k)*3+j by omega] at this
 exact this
theorem Zbn.set (h:Zbn w g cap) (hp:p+M.length<=cap):Zbn (w.setCells g (p*3) (enV M)) g cap:=by obtain⟨b,c,f⟩:=h;obtain⟨a,d,e⟩:=Zak g 179 (enV M) (p*3) w b c (by rw[Zw];omega);refine⟨a,d,?_⟩;rw[<-Array.length_toList,e];simp only[List.length_append,List.length_take,List.length_drop,Zw,Array.length_toList];omega
theorem Yc.set_in (h:Zbn w g cap) (hp:p+M.length<=cap):Yc (w.setCells g (p*3) (enV M)) g p M:=λj u b=>by
 obtain⟨a,d,e⟩:=h;obtain⟨c,f,i⟩:=Zak g 179 (enV M) (p*3) w a d (by rw[Zw];omega);have k:j<(enV M).length:=(List.getElem?_eq_some_iff.1 b).1
 rw[Vc _ _ _ _ _ _ f,<-Array.getElem?_toList,i,Zfy _ _ _ _ (by rw[Array.length_toList,e];omega),if_neg (by omega),if_pos (by omega),show p*3+j - p*3=j by omega]
 exact b
theorem Yc.set_out (h:Zbn w g cap) (hp:p+M.length<=cap) (hl:Yc w g o L) (m:o+L.length<=p\/p+M.length<=o):Yc (w.setCells g (p*3) (enV M)) g o L:=λj u c=>by
 obtain⟨a,d,i⟩:=h;obtain⟨e,k,l⟩:=Zak g 179 (enV M) (p*3) w a d (by rw[Zw];omega);have b:j<(enV L).length:=(List.getElem?_eq_some_iff.1 c).1
 rw[Zw] at b;have h5:=hl j u c
 rw[Vc _ _ _ _ _ _ d,<-Array.getElem?_toList] at h5;rw[Vc _ _ _ _ _ _ k,<-Array.getElem?_toList,l,Zfy _ _ _ _ (by rw[Array.length_toList,i];omega),Zw];by_cases f:o*3+j<p*3
 .rw[if_pos f];exact h5
 .rw[if_neg f,if_neg (by omega)];exact h5
theorem Yc.mine {B:Nat} (hr:Zbn w g cap) (h:Yc w g 0 L) (hc:L.length<=cap) (hm:cap<=maxLen) (hB:B<=g):Zq B w (.slice (some ⟨g,0,none⟩) L.length cap) L:=by
 obtain⟨b,c,e⟩:=hr;refine⟨by rw[Zw],.inr ⟨g,cap,b,rfl,hB,c,hc,hm,e,?_⟩⟩;apply List.ext_getElem?;intro j;by_cases d:j<L.length*3
 .rw[List.getElem?_take,if_pos d]
  have a:j<(enV L).length:=by rw[Zw];exact d
  have:=h j _ (List.getElem?_eq_getElem a);rw[Vc _ _ _ _ _ _ c,<-Array.getElem?_toList,Nat.zero_mul,Nat.zero_add] at this;rw[this,List.getElem?_eq_getElem a]
 .rw[List.getElem?_eq_none (by rw[List.length_take];omega),List.getElem?_eq_none (by rw[Zw];omega)]
theorem Zq.lies {B n:Nat} (h:Zq B w (.slice (some ⟨g,0,none⟩) n cap) L):Zbn w g cap/\Yc w g 0 L/\B<=g/\L.length<=cap/\cap<=maxLen/\n=L.length:=by
 have r:=h.isE;rcases h.2 with ⟨e,_⟩ | ⟨s,l,c,e,q,m,d,f,i,a⟩
 .cases e
 .simp only[Value.slice.injEq,Option.some.injEq,Addr.mk.injEq,and_true,true_and] at e
  obtain⟨rfl,rfl,rfl⟩:=e;refine⟨⟨c,m,i⟩,λj u k=>?_,q,d,f,rfl⟩;have b:j<(enV L).length:=(List.getElem?_eq_some_iff.1 k).1
  rw[Zw] at b;rw[Vc _ _ _ _ _ _ m,Nat.zero_mul,Nat.zero_add,<-Array.getElem?_toList];rw[<-a,List.getElem?_take,if_pos b] at k;exact k
theorem Yc.firsts (h:Yc w g o L) (n c:Nat):∀w':World,w'.heap=w.heap->(Builtin.firstCells 3 L.length (.slice (some ⟨g,o*3,none⟩) n c)).run Tryz.prog w'=.ok (enV L).toArray w':=λw' a =>
 Uc (P:=Tryz.prog) w' 3 L.length ⟨g,o*3,none⟩ n c _ (by rw[Zw]) λj u b=>by
  rw[Addr.add_lit];have:=h j u b
  rw[<-this];unfold World.cell?;rw[a]
theorem Qo (hr:Zbn w g cap) (i:TypeId) (nd k:Nat) (a:Value) (b:Nat) (hlo:∀w:World,(Builtin.lenOf a).run Tryz.prog w=.ok b w) (hk:M.length=min nd b) (c:(Builtin.firstCells 3 M.length a).run Tryz.prog w=.ok (enV M).toArray w) (hfit:p+M.length<=cap) :
  (Builtin.copy_ #[172,172] i #[.slice (some ⟨g,p*3,none⟩) nd k,a]).run Tryz.prog w=.ok (.int .i64 (M.length:Int)) (w.setCells g (p*3) (enV M)):=by
 obtain⟨l,f,m⟩:=hr;have hst:=run_storeCells_cells (P:=Tryz.prog) g (p*3) (enV M) 0 w (λj h=>by rw[Vc _ _ _ _ _ _ f,Array.getElem?_eq_getElem (by rw[Zw] at h;omega)];rfl) (λj h=>Zf f _) (Zek M)
 have d:∀w,(sizeOf 179).run Tryz.prog w=.ok 3 w:=λw=>by kernel_rfl
 simp only[Nat.add_zero] at hst;have e:b.min nd=M.length:=by rw[hk];exact Nat.min_comm _ _
 unfold Builtin.copy_;simp[run_underlying Tryz.underlying172,d,hlo,e,c,hst,goInt]
def Zev:En:=⟨[],[],0⟩
theorem zero_enV (n:Nat):(Builtin.zeroCells (Value.cells (.agg #[.string ⟨#[]⟩,.string ⟨#[]⟩,.int .i64 0])) n).toList=enV (List.replicate n Zev):=by
 have a:(Value.cells (.agg #[.string ⟨#[]⟩,.string ⟨#[]⟩,.int .i64 0])).size=3:=rfl;apply List.ext_getElem?;intro j;by_cases b:j<n*3
 .obtain⟨i,r,rfl,c⟩:∃i r,j=i*3+r/\r<3:=⟨j / 3,j % 3,by omega,Nat.mod_lt _ (by omega)⟩
  rw[enV_get _ i (by simp;omega) r c];have d:i*3+r<(Builtin.zeroCells (Value.cells (.agg #[.string ⟨#[]⟩,.string ⟨#[]⟩,.int .i64 0])) n).size:=by rw[size_zeroCells,a];exact b
  rw[Array.getElem?_toList,Array.getElem?_eq_getElem d];simp only[Builtin.zeroCells,Value.cells,Array.getElem_ofFn,List.getElem_replicate,Zev,enC];have e:(i*3+r) % 3=r:=by omega
  rcases(show r=0\/r=1\/r=2 by omega) with rfl | rfl | rfl<;>simp
 .rw[List.getElem?_eq_none (by rw[Array.length_toList,size_zeroCells,a];omega),List.getElem?_eq_none (by rw[Zw];simp;omega)]
theorem Zhv (hr:Zbn w g cap) (e:TypeId) (n c:Nat) (hn:0<n) (hfit:p+n<=cap) :
  (Builtin.clear_ #[172] e #[.slice (some ⟨g,p*3,none⟩) n c]).run Tryz.prog w=.ok (.tuple #[]) (w.setCells g (p*3) (enV (List.replicate n Zev))):=by
 obtain⟨f,d,h⟩:=hr;have hst:=run_storeCells_cells (P:=Tryz.prog) g (p*3) (enV (List.replicate n Zev)) 0 w (λj a=>by rw[Vc _ _ _ _ _ _ d,Array.getElem?_eq_getElem (by rw[Zw] at a;simp at a;omega)];rfl) (λj a=>Zf d _) (Zek _)
 simp only[Nat.add_zero] at hst;have b:∀w,(zeroValue 179).run Tryz.prog w=.ok (.agg #[.string ⟨#[]⟩,.string ⟨#[]⟩,.int .i64 0]) w:=λw=>by kernel_rfl
 unfold Builtin.clear_;obtain⟨m,rfl⟩:∃m,n=m+1:=⟨n - 1,by omega⟩;rw[<-zero_enV] at hst ⊢;simp[run_underlying Tryz.underlying172,b,hst]
theorem Zfp (hr:Zbn w g cap) (d:TypeId) (n c:Nat) (a:Value) (hsrc:Src Tryz.prog 3 172 a M.length (enV M) w) (hfit:n+M.length<=cap) (hc:c=cap) :
  (Builtin.append_ #[172,172] d #[.slice (some ⟨g,0,none⟩) n c,a]).run Tryz.prog w=.ok (.slice (some ⟨g,0,none⟩) (n+M.length) c) (w.setCells g (n*3) (enV M)):=by
 subst hc;obtain⟨i,k,q,b,r⟩:=Ue (P:=Tryz.prog) (e:=179) info_entry;obtain⟨l,f,m⟩:=hr
 have:=run_append_room_src w 172 172 d 179 i Tryz.underlying172 k g 0 n c a M.length (enV M) (by rw[b];exact hsrc) hfit (by
  intro j h;rw[Zw] at h
  rw[Vc _ _ _ _ _ _ f,Array.getElem?_eq_getElem (by rw[b];omega)];rfl) (λj h=>Zf f _)
 rw[b,Nat.zero_add] at this;exact this
theorem Yc.src (h:Yc w g o L) (n c:Nat) (hn:n=L.length):Src Tryz.prog 3 172 (.slice (some ⟨g,o*3,none⟩) n c) L.length (enV L) w:=by
 subst hn
 exact Src.ofSlice (P:=Tryz.prog) w (size:=3) (tx:=172) Tryz.underlying172 ⟨g,o*3,none⟩ L.length c (enV L) (by rw[Zw]) (λj u a=>by
  rw[Addr.add_lit]
  exact h j u a) (Zek L)
theorem IsE.src {v:Value} (h:IsE w v L):Src Tryz.prog 3 172 v L.length (enV L) w:=by have b:=h.firsts;obtain⟨a,cap,rfl,_⟩:=h.form;exact⟨.inl ⟨_,Tryz.underlying172⟩,λ_=>rfl,b w rfl,b w.drew rfl,by rw[Zw],Zek L⟩
end
end
section
open Go.RowKit Go.Deep
variable {v:Value}
theorem run_zeros_en {w:World} {g cap:Nat} {L:List En} (hr:Zbn w g cap) (hl:Yc w g 0 L) (i k:Nat) (D:i<=L.length) (hb:cap<i+k) (hk:0<k) (hs:i+k<=1000000) (hc:cap<=maxLen):
  ∃G a,(∀m,(Builtin.append_ #[172,3] m #[.slice (some ⟨g,0,none⟩) i cap,.int .i64 (k:Int)]).run Tryz.prog w=.ok (.slice (some ⟨w.heap.size,0,none⟩) (i+k) G) (w.drew.alloc (.cells a 179))) /\
   Zbn (w.drew.alloc (.cells a 179)) w.heap.size G/\Yc (w.drew.alloc (.cells a 179)) w.heap.size 0 (L.take i)/\i+k<=G/\G<=maxLen:=by
 obtain⟨z,n,o,p,c⟩:=Ue (P:=Tryz.prog) (e:=179) info_entry;have d:(L.take i).length=i:=by rw[List.length_take];omega
 have f:(Builtin.firstCells z.size i (.slice (some ⟨g,0,none⟩) i cap)).run Tryz.prog w.drew=.ok (enV (L.take i)).toArray w.drew:=by
  rw[p];have:=(hl.take i).firsts i cap w.drew rfl
  rw[d,Nat.zero_mul] at this;exact this
 obtain⟨G,q⟩:∃G,G=grownCap w (i+k) cap 179:=⟨_,rfl⟩;obtain⟨a,b⟩:∃a:Array Value,a=(enV (L.take i)).toArray++Builtin.zeroCells (Value.cells (.agg #[.string ⟨#[]⟩,.string ⟨#[]⟩,.int .i64 0])) k++Builtin.zeroCells (Value.cells (.agg #[.string ⟨#[]⟩,.string ⟨#[]⟩,.int .i64 0])) (G - (i+k)):=⟨_,rfl⟩;have r:i+k<=G:=by rw[q];exact grownCap_ge w _ _ _
 have s:G<=maxLen:=by rw[q];exact grownCap_le_maxLen w (i+k) cap 179 (by unfold maxLen;omega)
 have t:(Value.cells (.agg #[.string ⟨#[]⟩,.string ⟨#[]⟩,.int .i64 0])).size=3:=rfl;have y:a.size=G*3:=by rw[b];simp only[Array.size_append,List.size_toArray,size_zeroCells,t,Zw,d];omega
 refine⟨G,a,λm=>?_,⟨a,Vg w.drew _,y⟩,λj u A=>?_,r,s⟩
 .have h:=Lib.run_append_grow_zeros w 172 3 m 179 z _ .i64 .i64 Tryz.underlying172 Tryz.underlying3 n o (some ⟨g,0,none⟩) i cap (enV (L.take i)) f k (by omega) (by omega) (by omega) (by unfold maxLen at hc;omega) (by rw[c];omega) (by rw[c];exact growslice_fits hb (by omega));rw[b,q];exact h
 .have l:j<(enV (L.take i)).length:=(List.getElem?_eq_some_iff.1 A).1;have C:(w.drew.alloc (.cells a 179)).heap[w.heap.size]?=some (.cells a 179 (0,0)):=Vg w.drew _;rw[Vc _ _ _ _ _ _ C,Nat.zero_mul,Nat.zero_add,b,Array.append_assoc,Array.getElem?_append_left (by simpa using l)];simpa using A
def Zau (B:Nat) (w:World) (v:Value) (L':List En) (e:Ending) (w':World):Prop:=∃v',e=.returned v'/\Zq B w' v' L'/\Zb (λk=>v.ownBlock=some k) w w'/\(v'.ownBlock=v.ownBlock\/∃k,v'.ownBlock=some k/\w.heap.size<=k)
theorem Zau.of_grown {B:Nat} {w w':World} {v':Value} {a:List En} (hm:Zq B w' v' a) (hg:w.grownBy w' v.ownBlock) (b:v'.ownBlock=v.ownBlock\/v'.ownBlock=some w.heap.size):Zau B w v a (.returned v') w' :=
 ⟨v',rfl,hm,⟨hg.os,hg.tape,hg.output,hg.size,λk c d=>hg.block k c λe=>d e.symm⟩,b.imp id λe=>⟨_,e,Va _⟩⟩
section
variable {B : Nat} {w : World} {g cap gx : Nat} {L : List En} {x : En}
theorem einsert_shift (i:Nat) (b:Zq B w (.slice (some ⟨g,0,none⟩) L.length cap) L) (hx:w.heap[gx]?=some (.cells (enC x).toArray 179 (0,0))) (hne:gx≠g)
 (hi:i<L.length) (t:L.length+1<=cap) (hlen:L.length<=1000000):
  Calls Tryz.prog 105 #[.slice (some ⟨g,0,none⟩) L.length cap,.int .i64 (i:Int),.slice (some ⟨gx,0,none⟩) 1 1] w (Zau B w (.slice (some ⟨g,0,none⟩) L.length cap) (L.take i++x::L.drop i)):=by
 obtain⟨h,y,z,U,A,_⟩:=b.lies;unfold maxLen at A;obtain⟨z1,z2,z3,z4⟩:¬((i:Int)=(L.length:Int))/\¬((cap:Int)<(L.length:Int)+1)/\¬(cap=i)/\¬(cap=i+1):=by omega
 have C:∀D E,(callFunc 135 #[.slice (some ⟨gx,0,none⟩) 1 1,.slice (some ⟨g,(i+1)*3,none⟩) D E]).run Tryz.prog w=.ok (.value (.bool false)) w:=λD E=>by
  obtain⟨V,X,F⟩:=h;have G:w.shape? gx=some (179,3):=by simp[World.shape?,hx,enC]
  have H:w.shape? g=some (179,cap*3):=by simp[World.shape?,X,F]
  rw[run_callFunc_extern Tryz.func135 (by kernel_rfl) (by kernel_rfl) (by kernel_rfl) (e:=Extern.SlicesOverlaps.overlaps #[172,172] #[4]) (by kernel_rfl),
   Lib.run_overlaps_apart w 172 4 179 Tryz.underlying172 3 (λw=>by kernel_rfl) ⟨gx,0,none⟩ ⟨g,(i+1)*3,none⟩ 1 1 D E hne _ _ _ _ G H (by omega) (Zf hx _) (Zf hx _)]
  rfl
 have l:(L.drop i).length=L.length - i:=List.length_drop;have m:Yc w gx 0 [x]:=λj u P=>by rw[Vc _ _ _ _ _ _ hx,Nat.zero_mul,Nat.zero_add];rw[enV_one] at P;simpa using P
 have n:∀d f I,(Builtin.copy_ #[172,172] d #[.slice (some ⟨g,(i+1)*3,none⟩) (L.length - i) f,.slice (some ⟨g,i*3,none⟩) (L.length+1 - i) I]).run Tryz.prog w.drew=.ok (.int .i64 ((L.length - i:Nat):Int)) (w.drew.setCells g ((i+1)*3) (enV (L.drop i))):=λd f I=>by have Q:=y.drop i;rw[Nat.zero_add] at Q;have:=Qo (w:=w.drew) (p:=i+1) (M:=L.drop i) (h.keep rfl) d (L.length - i) f (.slice (some ⟨g,i*3,none⟩) (L.length+1 - i) I) (L.length+1 - i) (λ_=>rfl) (by omega) (Q.firsts _ _ w.drew rfl) (by omega);rw[l] at this;exact this
 have a:Zbn (w.drew.setCells g ((i+1)*3) (enV (L.drop i))) g cap:=Zbn.set (h.keep rfl) (by omega);have o:∀(W:World),(W.heap=(w.drew.setCells g ((i+1)*3) (enV (L.drop i))).heap)->∀d f,(Builtin.copy_ #[172,172] d #[.slice (some ⟨g,i*3,none⟩) (L.length+1 - i) f,.slice (some ⟨gx,0,none⟩) 1 1]).run Tryz.prog W=.ok (.int .i64 ((1:Nat):Int)) (W.setCells g (i*3) (enV [x])):=λW R d f=>by have J:Yc W gx 0 [x]:=m.keep (by rw[R];exact Xa _ _ _ _ _ hne);have:=Qo (w:=W) (p:=i) (M:=[x]) (a.keep (by rw[R])) d (L.length+1 - i) f (.slice (some ⟨gx,0,none⟩) 1 1) 1 (λ_=>rfl) (by simp;omega) (J.firsts _ _ W rfl) (by simp;omega);exact this
 have S:Yc (w.drew.setCells g ((i+1)*3) (enV (L.drop i))) g 0 (L.take i):=Yc.set_out (w:=w.drew) (h.keep rfl) (by omega) ((y.take i).keep rfl) (.inl (by rw[List.length_take];omega));have T:Yc (w.drew.setCells g ((i+1)*3) (enV (L.drop i))) g (i+1) (L.drop i):=Yc.set_in (w:=w.drew) (h.keep rfl) (by omega);have q:Zb (·=g) w (w.drew.setCells g ((i+1)*3) (enV (L.drop i))):=((Zb.refl _ w).drew.trans (Zu _ _ _ _));generalize N:w.drew.setCells g ((i+1)*3) (enV (L.drop i))=O at *;have r:(L.take i).length=i:=by rw[List.length_take];omega
 have c:Zq B (O.setCells g (i*3) (enV [x])) (.slice (some ⟨g,0,none⟩) (L.length+1) cap) (L.take i++x::L.drop i):=by
  have s:(L.take i++x::L.drop i).length=L.length+1:=by simp;omega
  have Y:Yc (O.setCells g (i*3) (enV [x])) g 0 (L.take i++([x]++L.drop i)):=by refine(Yc.set_out a (by simp;omega) S (.inl (by omega))).append ?_;rw[r,Nat.zero_add];exact(Yc.set_in a (by simp;omega)).append (Yc.set_out a (by simp;omega) T (.inr (Va _)))
  have:=Yc.mine (B:=B) (a.set (by simp;omega)) Y (by simp at s ⊢;omega) (by unfold maxLen;omega) z;rw[show (L.take i++([x]++L.drop i)).length=L.length+1 from s] at this
  exact this
 have Z:Hid (Zau B w (.slice (some ⟨g,0,none⟩) L.length cap) (L.take i++x::L.drop i) (.returned (.slice (some ⟨g,0,none⟩) (L.length+1) cap)) (O.setCells g (i*3) (enV [x]))):=Hd ⟨_,rfl,c,(q.trans (Zu _ _ _ _)).mono λk _ hk=>by rw[hk];rfl,.inl rfl⟩;clear c q l N S T a h y m b hx r;go_enter Tryz.func105,Tryz.ntmps105;have a0:IntKind.i64.wrap ((i:Int)+1)=(i:Int)+1:=by rw[IntKind.wrap_i64];omega
 obtain⟨a1,a2,a3,a4⟩:(0:Int)<=(i:Int)+1/\(i:Int)<=(L.length:Int)+1/\(i:Int)+1<=(L.length:Int)+1/\((i:Int)+1).toNat=i+1:=by omega
 go_wp2_with (simp only[C]);go_region_law (refine step_copy_runI rfl _ _ 172 172 rfl _ _ (by simp[Act.eval,Act.put]) (by simp[Act.eval,Act.put]) (n _ _ _) ?_);go_wp2_with (at_builtin;refine wpList_copy_runI _ rfl _ _ 172 172 rfl _ _ rfl rfl (o _ rfl _ _) ?_);go_ret;exact Z.out
theorem einsert_grow (i:Nat) (f:Zq B w (.slice (some ⟨g,0,none⟩) L.length cap) L) (hx:w.heap[gx]?=some (.cells (enC x).toArray 179 (0,0))) (hB:B<=w.heap.size)
 (hi:i<L.length) (O:cap<L.length+1) (hlen:L.length<=100000):
  Calls Tryz.prog 105 #[.slice (some ⟨g,0,none⟩) L.length cap,.int .i64 (i:Int),.slice (some ⟨gx,0,none⟩) 1 1] w (Zau B w (.slice (some ⟨g,0,none⟩) L.length cap) (L.take i++x::L.drop i)):=by
 obtain⟨P,Q,a1,a2,r,_⟩:=f.lies;obtain⟨z1,z2,z3,t,R⟩:¬((i:Int)=(L.length:Int))/\(cap:Int)<(L.length:Int)+1/\¬(cap=i)/\(L.length:Int)+1 - (i:Int)=((L.length+1 - i:Nat):Int)/\i+(L.length+1 - i)=L.length+1:=by omega
 obtain⟨G,y,d,c,X,S,T⟩:=run_zeros_en P Q i (L.length+1 - i) (by omega) (by omega) (by omega) (by omega) r;rw[R] at d S;rw[<-t] at d;unfold maxLen at r;have hsg:=P.lt
 have U:=Za hx;have z:(L.drop i).length=L.length - i:=List.length_drop;have A:(L.take i).length=i:=by rw[List.length_take];omega
 have C:Yc w gx 0 [x]:=λj u Y=>by rw[Vc _ _ _ _ _ _ hx,Nat.zero_mul,Nat.zero_add];rw[enV_one] at Y;simpa using Y
 have N:Below w.heap.size w (w.drew.alloc (.cells y 179)):=(Ve _ _).drew.alloc (Va _) _;have hxl1:=C.keep (N.block gx U);have hl1:=Q.keep (N.block g hsg);have Hrz:=Hd d;clear d t;generalize D:w.drew.alloc (.cells y 179)=a at *;generalize m:w.heap.size=s at *
 have h:∀(W:World),W.heap=a.heap->∀n o,(Builtin.copy_ #[172,172] n #[.slice (some ⟨s,i*3,none⟩) (L.length+1 - i) o,.slice (some ⟨gx,0,none⟩) 1 1]).run Tryz.prog W=.ok (.int .i64 ((1:Nat):Int)) (W.setCells s (i*3) (enV [x])):=λW E n o =>
  Qo (w:=W) (p:=i) (M:=[x]) (c.keep (by rw[E])) n (L.length+1 - i) o (.slice (some ⟨gx,0,none⟩) 1 1) 1 (λ_=>rfl) (by simp;omega) (hxl1.firsts _ _ W E) (by simp;omega)
 have q:Zbn (a.setCells s (i*3) (enV [x])) s G:=c.set (by simp;omega);have F:Yc (a.setCells s (i*3) (enV [x])) s 0 (L.take i):=Yc.set_out c (by simp;omega) X (.inl (by omega));have H:Yc (a.setCells s (i*3) (enV [x])) s i [x]:=Yc.set_in c (by simp;omega);have I:Yc (a.setCells s (i*3) (enV [x])) g 0 L:=hl1.keep (Xa _ _ _ _ _ (by omega));have ht2:=Zu a s (i*3) (enV [x]);have l:∀(W:World),W.heap=(a.setCells s (i*3) (enV [x])).heap->∀n o V,(Builtin.copy_ #[172,172] n #[.slice (some ⟨s,(i+1)*3,none⟩) (L.length - i) o,.slice (some ⟨g,i*3,none⟩) (L.length - i) V]).run Tryz.prog W=.ok (.int .i64 ((L.length - i:Nat):Int)) (W.setCells s ((i+1)*3) (enV (L.drop i))):=λW E n o V=>by have Z:=(I.drop i).keep (w':=W) (by rw[E]);rw[Nat.zero_add] at Z;have:=Qo (w:=W) (p:=i+1) (M:=L.drop i) (q.keep (by rw[E])) n (L.length - i) o (.slice (some ⟨g,i*3,none⟩) (L.length - i) V) (L.length - i) (λ_=>rfl) (by omega) (Z.firsts _ _ W rfl) (by omega);rw[z] at this;exact this
 have HF:Hid (Zau B w (.slice (some ⟨g,0,none⟩) L.length cap) (L.take i++x::L.drop i) (.returned (.slice (some ⟨s,0,none⟩) (L.length+1) G)) ((a.setCells s (i*3) (enV [x])).drew.setCells s ((i+1)*3) (enV (L.drop i)))):=Hd (by
  have J:(L.take i++x::L.drop i).length=L.length+1:=by simp;omega
  have b:Zbn (a.setCells s (i*3) (enV [x])).drew s G:=q.keep rfl;have h1:Yc ((a.setCells s (i*3) (enV [x])).drew.setCells s ((i+1)*3) (enV (L.drop i))) s 0 (L.take i++([x]++L.drop i)):=by refine(Yc.set_out b (by omega) (F.keep rfl) (.inl (by omega))).append ?_;rw[A,Nat.zero_add];exact(Yc.set_out b (by omega) (H.keep rfl) (.inl (by simp))).append (Yc.set_in b (by omega))
  have:=Yc.mine (B:=B) (b.set (by omega)) h1 (by simp at J ⊢;omega) T hB;rw[show (L.take i++([x]++L.drop i)).length=L.length+1 from J] at this
  refine⟨_,rfl,this,?_,.inr ⟨s,rfl,by omega⟩⟩;have t3:Zb (·=s) a ((a.setCells s (i*3) (enV [x])).drew.setCells s ((i+1)*3) (enV (L.drop i))):=ht2.drew.trans (Zu _ _ _ _)
  subst m
  exact(Zb.of_below N).then t3 λk hk e=>by omega)
 have HS:=Hd m;have HW1:=Hd D;have hc1':=h a rfl;have HC2:=Hd l;clear h l F H I ht2 q z A C hxl1 hl1 N m D hx f P Q c X;have a3:IntKind.i64.wrap ((i:Int)+1)=(i:Int)+1:=by rw[IntKind.wrap_i64];omega
 obtain⟨a4,a5,a6,a7,a8,a0,a9⟩:(0:Int)<=(i:Int)+1/\(i:Int)<=(L.length:Int)+1/\(i:Int)+1<=(L.length:Int)+1/\(i:Int)<=(L.length:Int)/\¬(G=i)/\¬(G=i+1)/\((i:Int)+1).toNat=i+1:=by omega
 go_enter Tryz.func105,Tryz.ntmps105;go_wp2_with (at_builtin;refine Lib.wpList_append_run _ rfl _ _ _ _ rfl _ _ rfl rfl _ _ (Hrz.out _) ?_);go_region_law (refine step_copy_runI rfl _ _ 172 172 rfl (.slice (some ⟨s,(i+1)*3,none⟩) (L.length+1 - (i+1)) (G - (i+1))) (.slice (some ⟨g,i*3,none⟩) (L.length - i) (cap - i)) (by simp[Act.eval,Act.put]) (by simp[Act.eval,Act.put]) (by rw[show L.length+1 - (i+1)=L.length - i by omega];exact HC2.out (a.setCells s (i*3) (enV [x])).drew rfl _ _ _) ?_)
 go_wp2;go_ret;exact HF.out
theorem einsert_end (b:Zq B w v L) (hx:w.heap[gx]?=some (.cells (enC x).toArray 179 (0,0))) (hB:B<=w.heap.size) (hlen:L.length<=100000):
  Calls Tryz.prog 105 #[v,.int .i64 (L.length:Int),.slice (some ⟨gx,0,none⟩) 1 1] w (Zau B w v (L++[x])):=by
 have c:IsE w (.slice (some ⟨gx,0,none⟩) 1 1) [x]:=by
  refine⟨_,1,rfl,Va _,by simp[maxLen],λh=>(by cases h),?_⟩;rintro y ⟨⟩;refine⟨λ_=>rfl,λi m=>?_⟩;obtain rfl:i=0:=by simpa using m
  exact⟨by rw[Vc _ _ _ _ _ _ hx];rfl,by rw[Vc _ _ _ _ _ _ hx];rfl,by rw[Vc _ _ _ _ _ _ hx];rfl⟩
 obtain⟨p,q,d,j,k,l⟩:=b.app c hB (by simp;omega);have HE:=Hd (Zau.of_grown j k l)
 obtain⟨a,cap,rfl,n,e⟩:=b.isE.form;unfold maxLen at e;have o:((L.length:Int)==(L.length:Int))=true:=by simp
 clear b hx c j k l;by_cases f:cap=L.length
 .subst f;go_enter Tryz.func105,Tryz.ntmps105;go_wp2_with (at_builtin;refine Lib.wpList_append_run _ rfl _ _ _ _ rfl _ _ rfl rfl _ _ d ?_;clear d);go_ret;exact HE.out
 .go_enter Tryz.func105,Tryz.ntmps105;go_wp2_with (at_builtin;refine Lib.wpList_append_run _ rfl _ _ _ _ rfl _ _ rfl rfl _ _ d ?_;clear d);go_ret;exact HE.out
theorem einsert_any (i:Nat) (a:Zq B w v L) (hx:w.heap[gx]?=some (.cells (enC x).toArray 179 (0,0))) (hne:v.ownBlock≠some gx) (hB:B<=w.heap.size)
 (c:i<=L.length) (hlen:L.length<=100000):
  Calls Tryz.prog 105 #[v,.int .i64 (i:Int),.slice (some ⟨gx,0,none⟩) 1 1] w (Zau B w v (L.take i++x::L.drop i)):=by
 by_cases d:i=L.length
 .subst d;rw[List.take_length,List.drop_length];exact einsert_end a hx hB hlen
 .rcases a.form with ⟨_,f⟩ | ⟨g,cap,rfl,h,j,_⟩
  .subst f;simp at c;subst c;exact absurd rfl d
  .have b:gx≠g:=λe=>hne (by rw[e];rfl)
   by_cases k:L.length+1<=cap
   .exact einsert_shift i a hx b (by omega) k (by omega)
   .exact einsert_grow i a hx hB (by omega) (by omega) (by omega)
theorem Zdl {ops:Array Oper} {w w':World} {K:Act->World->Prop} {Q:Exit->Act->World->Prop} {a:Act} {o:Oper} {E:Prop} (hg:o.guard=none) (s x:Operand) (t b:TypeId) (c:o.op=.call { callee:=.builtin .append,args:=#[s,x],argTypes:=#[t,b] }) (u v r:Value)
 (hs:a.eval s=u) (hx:a.eval x=v) (hr:(Builtin.append_ #[t,b] o.type #[u,v]).run Tryz.prog w=.ok r w') (h:K (a.put o.dst r) w'):if Region.wanted o (yielded ops a.tmps)=true then Oper.wp Tryz.prog o a w K Q else E:=by
 rw[if_pos (by simp[Region.wanted,hg])];unfold Oper.wp execOp;simp only[c,resolve,invoke,builtin,Sem.run_bind,Sem.run_pure,Result.andThen_ok,List.map_toArray,List.map_cons,List.map_nil,hs,hx,hr];exact h
theorem edelete_row (i:Nat) (f:Zq B w (.slice (some ⟨g,0,none⟩) L.length cap) L) (hi:i<L.length) (hlen:L.length<=100000):
  Calls Tryz.prog 127 #[.slice (some ⟨g,0,none⟩) L.length cap,.int .i64 (i:Int),.int .i64 ((i+1:Nat):Int)] w (Zau B w (.slice (some ⟨g,0,none⟩) L.length cap) (L.take i++L.drop (i+1))):=by
 obtain⟨j,A,C,S,D,_⟩:=f.lies;unfold maxLen at D;obtain⟨m,P⟩:∃m,L.length=m+1:=⟨L.length - 1,by omega⟩;have a:(L.drop (i+1)).length=m - i:=by rw[List.length_drop];omega
 have l:(L.take i).length=i:=by rw[List.length_take];omega
 have q:i+(m - i)=m:=by omega
 have b:Zbn (w.drew.setCells g (i*3) (enV (L.drop (i+1)))) g cap:=Zbn.set (j.keep rfl) (by omega);have Q:Yc (w.drew.setCells g (i*3) (enV (L.drop (i+1)))) g 0 (L.take i++L.drop (i+1)):=by refine(Yc.set_out (w:=w.drew) (j.keep rfl) (by omega) ((A.take i).keep rfl) (.inl (by omega))).append ?_;rw[l,Nat.zero_add];exact Yc.set_in (w:=w.drew) (j.keep rfl) (by omega)
 have r:Zb (·=g) w (w.drew.setCells g (i*3) (enV (L.drop (i+1)))):=(Zb.refl _ w).drew.trans (Zu _ _ _ _);have s:∀h (d:Value),Src Tryz.prog 3 172 d (m - i) (enV (L.drop (i+1))) w.drew->(Builtin.append_ #[172,172] h #[.slice (some ⟨g,0,none⟩) i cap,d]).run Tryz.prog w.drew=.ok (.slice (some ⟨g,0,none⟩) m cap) (w.drew.setCells g (i*3) (enV (L.drop (i+1)))):=λh d T=>by have:=Zfp (w:=w.drew) (M:=L.drop (i+1)) (j.keep rfl) h i cap d (by rw[a];exact T) (by omega) rfl;rw[a,q] at this;exact this
 have hcl:∀(W:World),W.heap=(w.drew.setCells g (i*3) (enV (L.drop (i+1)))).heap->∀h c,(Builtin.clear_ #[172] h #[.slice (some ⟨g,m*3,none⟩) (L.length - m) c]).run Tryz.prog W=.ok (.tuple #[]) (W.setCells g (m*3) (enV (List.replicate 1 Zev))):=λW U h c=>by
  rw[show L.length - m=1 by omega]
  exact Zhv (w:=W) (p:=m) (b.keep (by rw[U])) h 1 c (by omega) (by omega)
 have R:Hid (Zau B w (.slice (some ⟨g,0,none⟩) L.length cap) (L.take i++L.drop (i+1)) (.returned (.slice (some ⟨g,0,none⟩) m cap)) ((w.drew.setCells g (i*3) (enV (L.drop (i+1)))).setCells g (m*3) (enV (List.replicate 1 Zev)))):=Hd (by
  have E:(L.take i++L.drop (i+1)).length=m:=by rw[List.length_append];omega
  have z:=Yc.set_out (M:=List.replicate 1 Zev) (p:=m) b (by simp;omega) Q (.inl (by omega));have:=Yc.mine (B:=B) (b.set (p:=m) (M:=List.replicate 1 Zev) (by simp;omega)) z (by omega) (by unfold maxLen;omega) C;rw[E] at this
  exact⟨_,rfl,this,(r.trans (Zu _ _ _ _)).mono λk _ V=>by rw[V];rfl,.inl rfl⟩)
 have t:cap=i+1->Src Tryz.prog 3 172 (.slice (some ⟨g,0,none⟩) 0 0) (m - i) (enV (L.drop (i+1))) w.drew:=λe=>by
  have X:L.drop (i+1)=[]:=List.drop_eq_nil_of_le (by omega);rw[X,show m - i=0 by omega]
  exact Yc.src (w:=w.drew) (g:=g) (o:=0) Yc.nil 0 0 rfl
 have u:∀n c,n=m - i->Src Tryz.prog 3 172 (.slice (some ⟨g,(i+1)*3,none⟩) n c) (m - i) (enV (L.drop (i+1))) w.drew:=λn c e=>by have z:=(A.drop (i+1)).keep (w':=w.drew) rfl;rw[Nat.zero_add] at z;have:=Yc.src z n c (by omega);rw[a] at this;exact this
 have y:=Hd s;have HCL:=Hd hcl;have HS1:=Hd t;have HS2:=Hd u;have HM:=Hd P;obtain⟨z1,z5,Y,Z,a0,a1⟩:¬((i:Int)=((i+1:Nat):Int))/\¬(cap=m)/\((i+1:Nat):Int)<=(L.length:Int)/\(i:Int)<=(L.length:Int)/\(L.length:Int)<=(cap:Int)/\(m:Int)<=(L.length:Int):=by omega
 generalize L.length=N at *;clear s hcl t u P a l q b Q r f j A;by_cases F:cap=i+1
 .subst F
  go_enter Tryz.func127,Tryz.ntmps127;go_wp2_with fail;obtain⟨G,H,I,J,O⟩:((i:Int)+1).toNat=i+1/\(0:Int)<=(i:Int)+1/\(i:Int)<=(i:Int)+1/\(i:Int)<=((i+1:Nat):Int)/\(i:Int)+1<=(N:Int):=by omega
  go_region_law (refine Zdl rfl (.tmp 22) (.tmp 25) 172 172 rfl _ _ _ (by rfl) (by rfl) (y.out _ _ (by first | exact HS1.out rfl | exact HS1.out trivial)) ?_);have hcl:=HCL.out _ rfl 0 ((i+1) - m)
  go_wp2_with (simp only[hcl]);go_ret;exact R.out
 .go_enter Tryz.func127,Tryz.ntmps127
  go_wp2_with fail;obtain⟨G,H,I,J,O⟩:((i:Int)+1).toNat=i+1/\(0:Int)<=(i:Int)+1/\(i:Int)<=(i:Int)+1/\(i:Int)<=(cap:Int)/\(i:Int)+1<=(N:Int):=by omega
  go_region_law (refine Zdl rfl (.tmp 22) (.tmp 25) 172 172 rfl _ _ _ (by rfl) (by rfl) (y.out _ _ (HS2.out _ _ (by have:=HM.out;omega))) ?_);have hcl:=HCL.out _ rfl 0 (cap - m)
  go_wp2_with (simp only[hcl]);go_ret;exact R.out
theorem edelete_any (i:Nat) (a:Zq B w v L) (b:i<L.length) (hlen:L.length<=100000):
  Calls Tryz.prog 127 #[v,.int .i64 (i:Int),.int .i64 ((i+1:Nat):Int)] w (Zau B w v (L.take i++L.drop (i+1))):=by
 rcases a.form with ⟨_,c⟩ | ⟨g,cap,rfl,d,e,_⟩
 .subst c;simp at b
 .exact edelete_row i a b hlen
end
end
section
open Go.RowKit Go.Deep
variable {B':Nat}
section
variable {B : Nat} {w : World} {g cap : Nat} {L M : List En}
theorem run_clear_nil (d:TypeId) (a:Option Addr) (c:Nat):(Builtin.clear_ #[172] d #[.slice a 0 c]).run Tryz.prog w=.ok (.tuple #[]) w:=by
 unfold Builtin.clear_;have b:∀w,(zeroValue 179).run Tryz.prog w=.ok (.agg #[.string ⟨#[]⟩,.string ⟨#[]⟩,.int .i64 0]) w:=λw=>by kernel_rfl
 cases a<;>simp[run_underlying Tryz.underlying172,b]
theorem erep_end_room (i m t:Nat) (a:Option Addr) (e:Zq B w (.slice (some ⟨g,0,none⟩) L.length cap) L) (hu:IsE w (.slice a m t) M) (hm:m=M.length) (Q:i<L.length) (u:i+m<=cap) (hlen:L.length<=100000) (C:m<=100000):
  Calls Tryz.prog 146 #[.slice (some ⟨g,0,none⟩) L.length cap,.int .i64 (i:Int),.int .i64 (L.length:Int),.slice a m t] w (Zau B w (.slice (some ⟨g,0,none⟩) L.length cap) (L.take i++M)):=by
 obtain⟨hr,z,v,D,q,_⟩:=e.lies;have f:(L.take i).length=i:=by rw[List.length_take];omega
 have r:∀j,(Builtin.append_ #[172,172] j #[.slice (some ⟨g,0,none⟩) i cap,.slice a m t]).run Tryz.prog w=.ok (.slice (some ⟨g,0,none⟩) (i+m) cap) (w.setCells g (i*3) (enV M)):=λj=>by have:=Zfp hr j i cap (.slice a m t) hu.src (by omega) rfl;rw[<-hm] at this;exact this
 have b:Zbn (w.setCells g (i*3) (enV M)) g cap:=hr.set (by omega);have x:Yc (w.setCells g (i*3) (enV M)) g 0 (L.take i++M):=by refine(Yc.set_out hr (by omega) (z.take i) (.inl (by omega))).append ?_;rw[f,Nat.zero_add];exact Yc.set_in hr (by omega)
 have s:(L.take i++M).length=i+m:=by rw[List.length_append];omega
 have l:=Zu w g (i*3) (enV M)
 have d:i+m<L.length->∀j c,(Builtin.clear_ #[172] j #[.slice (some ⟨g,(i+m)*3,none⟩) (L.length - (i+m)) c]).run Tryz.prog (w.setCells g (i*3) (enV M))=.ok (.tuple #[]) ((w.setCells g (i*3) (enV M)).setCells g ((i+m)*3) (enV (List.replicate (L.length - (i+m)) Zev))):=λf j c =>
  Zhv (p:=i+m) b j _ c (by omega) (by omega)
 have y:∀W:World,Zbn W g cap->Yc W g 0 (L.take i++M)->Zb (·=g) w W->Hid (Zau B w (.slice (some ⟨g,0,none⟩) L.length cap) (L.take i++M) (.returned (.slice (some ⟨g,0,none⟩) (i+m) cap)) W):=λW E F G=>Hd (by
  have:=Yc.mine (B:=B) E F (by omega) q v;rw[s] at this
  exact⟨_,rfl,this,G.mono λk _ H=>by rw[H];rfl,.inl rfl⟩)
 have n:=y _ b x l
 have o:i+m<L.length->Hid (Zau B w (.slice (some ⟨g,0,none⟩) L.length cap) (L.take i++M) (.returned (.slice (some ⟨g,0,none⟩) (i+m) cap)) ((w.setCells g (i*3) (enV M)).setCells g ((i+m)*3) (enV (List.replicate (L.length - (i+m)) Zev)))):=λh =>
  y _ (b.set (p:=i+m) (by simp;omega)) (Yc.set_out (p:=i+m) b (by simp;omega) x (.inl (by omega))) (l.trans (Zu _ _ _ _))
 unfold maxLen at q;have HAP:=Hd r
 obtain⟨R,I,J,O,S⟩:¬((i:Int)=(L.length:Int))/\(i:Int)<=(L.length:Int)/\(L.length:Int)<=(cap:Int)/\(i:Int)<=(cap:Int)/\¬(cap=i):=by omega
 clear y e hu hr z r b x s l f;by_cases A:i+m<L.length
 .have hcl2:=Hd (d A)
  have HE:=o A;clear n o d;have hm':=Hd hm;clear hm;obtain⟨P,T,U,V,X⟩:((i:Int)+(m:Int))<(L.length:Int)/\¬(cap=i+m)/\((i:Int)+(m:Int))<=(L.length:Int)/\(0:Int)<=((i:Int)+(m:Int))/\((i:Int)+(m:Int)).toNat=i+m:=by omega
  generalize L.length=N at *;go_enter Tryz.func146,Tryz.ntmps146;have hr:=HAP.out 172
  have d:=hcl2.out 0 (cap - (i+m));go_wp2_with (first | (at_builtin;refine Lib.wpList_append_run _ rfl _ _ _ _ rfl _ _ rfl rfl _ _ hr ?_;clear hr) | (simp only[d]));go_ret;exact HE.out
 .have HE:=n
  clear n o d;have hm':=Hd hm
  clear hm;have P:¬((i:Int)+(m:Int))<(L.length:Int):=by omega
  generalize L.length=N at *;go_enter Tryz.func146,Tryz.ntmps146;have hr:=HAP.out 172
  go_wp2_with (at_builtin;refine Lib.wpList_append_run _ rfl _ _ _ _ rfl _ _ rfl rfl _ _ hr ?_;clear hr);go_ret;exact HE.out
theorem erep_end_grow (i m r:Nat) (a:Option Addr) (b:Zq B w (.slice (some ⟨g,0,none⟩) L.length cap) L) (hu:IsE w (.slice a m r) M) (hm:m=M.length) (H:i<L.length) (l:cap<i+m) (hB:B<=w.heap.size) (hlen:L.length<=100000) (y:m<=100000):
  Calls Tryz.prog 146 #[.slice (some ⟨g,0,none⟩) L.length cap,.int .i64 (i:Int),.int .i64 (L.length:Int),.slice a m r] w (Zau B w (.slice (some ⟨g,0,none⟩) L.length cap) (L.take i++M)):=by
 obtain⟨hr,s,n,z,e,_⟩:=b.lies;have f:(L.take i).length=i:=by rw[List.length_take];omega
 have c:Zq B w (.slice (some ⟨g,0,none⟩) i cap) (L.take i):=by have:=Yc.mine (B:=B) hr (s.take i) (by omega) e n;rw[f] at this;exact this
 obtain⟨A,C,h,d,t,u⟩:=c.app hu hB (by omega);have D:Hid (Zau B w (.slice (some ⟨g,0,none⟩) L.length cap) (L.take i++M) (.returned A) C):=Hd (Zau.of_grown (v:=.slice (some ⟨g,0,none⟩) L.length cap) d t u)
 obtain⟨I,x,j,o,p⟩:=d.isE.form;have k:(L.take i++M).length=i+m:=by rw[List.length_append];omega
 rw[k] at j;subst j;unfold maxLen at e;obtain⟨J,E,F,G,O,P⟩:¬((i:Int)=(L.length:Int))/\(i:Int)<=(L.length:Int)/\(L.length:Int)<=(cap:Int)/\(i:Int)<=(cap:Int)/\¬(cap=i)/\¬((i:Int)+(m:Int))<(L.length:Int):=by omega
 have q:=Hd h;clear b hu hr s h k f c d t u o p hm;generalize L.length=N at *;go_enter Tryz.func146,Tryz.ntmps146;have hr:=q.out;go_wp2_with (at_builtin;refine Lib.wpList_append_run _ rfl _ _ _ _ rfl _ _ rfl rfl _ _ hr ?_;clear hr);go_ret;exact D.out
theorem erep_grow (i j m U:Nat) (a:Option Addr) (o:Zq B w (.slice (some ⟨g,0,none⟩) L.length cap) L) (hu:IsE w (.slice a m U) M) (hm:m=M.length) (a1:i<j) (hj:j<L.length) (u:cap<i+m+(L.length - j)) (hB:B<=w.heap.size) (hlen:L.length<=100000) (a2:m<=100000):
  Calls Tryz.prog 146 #[.slice (some ⟨g,0,none⟩) L.length cap,.int .i64 (i:Int),.int .i64 (j:Int),.slice a m U] w (Zau B w (.slice (some ⟨g,0,none⟩) L.length cap) (L.take i++(M++L.drop j))):=by
 obtain⟨hr,X,a3,Y,z,_⟩:=o.lies;obtain⟨Q,hQ⟩:∃Q,Q=L.length - j:=⟨_,rfl⟩;rw[<-hQ] at u;have A:(L.take i).length=i:=by rw[List.length_take];omega
 have C:(L.drop j).length=Q:=by rw[List.length_drop];omega
 obtain⟨G,f,D,E,l1,a4,F⟩:=run_zeros_en (w:=w.drew) (hr.keep rfl) (X.keep rfl) i (m+Q) (by omega) (by omega) (by omega) (by omega) z;have H:(i:Int)+(m:Int)+(Q:Int) - (i:Int)=((m+Q:Nat):Int):=by omega
 have q:∀d,(Builtin.append_ #[172,3] d #[.slice (some ⟨g,0,none⟩) i cap,.int .i64 ((i:Int)+(m:Int)+(Q:Int) - (i:Int))]).run Tryz.prog w.drew=.ok (.slice (some ⟨w.heap.size,0,none⟩) (i+(m+Q)) G) (w.drew.drew.alloc (.cells f 179)):=λd=>by rw[H];exact D d
 have b:Zbn (w.drew.drew.alloc (.cells f 179)) w.heap.size G:=E;have I:Yc (w.drew.drew.alloc (.cells f 179)) w.heap.size 0 (L.take i):=l1;clear E l1 D H;unfold maxLen at z;have hsg:=hr.lt;have V:Below w.heap.size w (w.drew.drew.alloc (.cells f 179)):=(Ve _ _).drew.drew.alloc (Va _) _;have hu1:=hu.below V;have hl1:=X.keep (V.block g hsg);generalize J:w.drew.drew.alloc (.cells f 179)=h at *;generalize v:w.heap.size=s at *;have r:∀l d n,l=m+Q->(Builtin.copy_ #[172,172] d #[.slice (some ⟨s,i*3,none⟩) l n,.slice a m U]).run Tryz.prog h=.ok (.int .i64 ((m:Nat):Int)) (h.setCells s (i*3) (enV M)):=λl d n Z=>by have:=Qo (w:=h) (p:=i) (M:=M) b d l n (.slice a m U) m (λ_=>rfl) (by omega) (hu1.firsts _ rfl) (by omega);rw[<-hm] at this;exact this
 have x:Zbn (h.setCells s (i*3) (enV M)) s G:=b.set (by omega);have O:Yc (h.setCells s (i*3) (enV M)) s 0 (L.take i):=Yc.set_out b (by omega) I (.inl (by omega));have P:Yc (h.setCells s (i*3) (enV M)) s i M:=Yc.set_in b (by omega);have R:Yc (h.setCells s (i*3) (enV M)) g 0 L:=hl1.keep (Xa _ _ _ _ _ (by omega));have ht2:=Zu h s (i*3) (enV M);generalize S:h.setCells s (i*3) (enV M)=y at *;have t:∀(W:World),W.heap=y.heap->∀l d n sc,l=Q->(Builtin.copy_ #[172,172] d #[.slice (some ⟨s,(i+m)*3,none⟩) l n,.slice (some ⟨g,j*3,none⟩) (L.length - j) sc]).run Tryz.prog W=.ok (.int .i64 ((Q:Nat):Int)) (W.setCells s ((i+m)*3) (enV (L.drop j))):=λW hW l d n sc Z=>by have hd:=(R.drop j).keep (w':=W) (by rw[hW]);rw[Nat.zero_add] at hd;have:=Qo (w:=W) (p:=i+m) (M:=L.drop j) (x.keep (by rw[hW])) d l n (.slice (some ⟨g,j*3,none⟩) (L.length - j) sc) (L.length - j) (λ_=>rfl) (by omega) (hd.firsts _ _ W rfl) (by omega);rw[C] at this;exact this
 have HF:Hid (Zau B w (.slice (some ⟨g,0,none⟩) L.length cap) (L.take i++(M++L.drop j)) (.returned (.slice (some ⟨s,0,none⟩) (i+(m+Q)) G)) (y.drew.setCells s ((i+m)*3) (enV (L.drop j)))):=Hd (by
  have a0:(L.take i++(M++L.drop j)).length=i+(m+Q):=by rw[List.length_append,List.length_append];omega
  have c:Zbn y.drew s G:=x.keep rfl;have h1:Yc (y.drew.setCells s ((i+m)*3) (enV (L.drop j))) s 0 (L.take i++(M++L.drop j)):=by refine(Yc.set_out c (by omega) (O.keep rfl) (.inl (by omega))).append ?_;rw[A,Nat.zero_add];refine(Yc.set_out c (by omega) (P.keep rfl) (.inl (by omega))).append ?_;rw[<-hm];exact Yc.set_in c (by omega)
  have:=Yc.mine (B:=B) (c.set (by omega)) h1 (by omega) F hB;rw[a0] at this;refine⟨_,rfl,this,?_,.inr ⟨s,rfl,by omega⟩⟩;have t3:Zb (·=s) h (y.drew.setCells s ((i+m)*3) (enV (L.drop j))):=ht2.drew.trans (Zu _ _ _ _);subst v
  exact(Zb.of_below V).then t3 λk hk e=>by omega)
 have T:=Hd r;have HCP2:=Hd t;have HRZ:=Hd q;have HS:=Hd v;have HW1:=Hd J;have HW2:=Hd S;have HQ:=Hd hQ;have HM:=Hd hm;obtain⟨y0,y1,y2,y3,a5,y4,y5,y6⟩:¬((i:Int)=(j:Int))/\¬((j:Int)=(L.length:Int))/\(i:Int)<=(j:Int)/\(j:Int)<=(L.length:Int)/\(j:Int)<=(cap:Int)/\(i:Int)<=(cap:Int)/\¬cap=i/\¬cap=j:=by omega
 have y7:(cap:Int)<(i:Int)+(m:Int)+(Q:Int):=by omega
 have x1:IntKind.i64.wrap ((i:Int)+(m:Int))=(i:Int)+(m:Int):=Vf _ (by omega);have x2:IntKind.i64.wrap ((i:Int)+(m:Int)+(Q:Int))=(i:Int)+(m:Int)+(Q:Int):=Vf _ (by omega);obtain⟨x3,x4,x5,x6,x7,x8⟩:((i:Int)+(m:Int)).toNat=i+m/\(0:Int)<=(i:Int)+(m:Int)/\(i:Int)+(m:Int)<=(i:Int)+((m:Int)+(Q:Int))/\(i:Int)<=(i:Int)+((m:Int)+(Q:Int))/\¬G=i/\¬G=i+m:=by omega
 clear r t q O P R ht2 x C A hu hu1 hl1 V v J S o hr X b I hm F;have HQQ:=HQ.out
 clear HQ;subst HQQ;generalize L.length=N at *;go_enter Tryz.func146,Tryz.ntmps146;go_upto_region 9 with fail;go_region;have hr:=HRZ.out 172
 have Y:=λd n=>T.out (m+(N - j)) d n rfl;go_wp2_with (at_builtin;refine Lib.wpList_append_run _ rfl _ _ _ _ rfl _ _ rfl rfl _ _ hr ?_;clear hr);go_region_law (refine step_copy_runI rfl _ _ 172 172 rfl (.slice (some ⟨s,(i+m)*3,none⟩) (i+(m+(N - j)) - (i+m)) (G - (i+m))) (.slice (some ⟨g,j*3,none⟩) (N - j) (cap - j)) (by simp[Act.eval,Act.put]) (by simp[Act.eval,Act.put]) (HCP2.out y.drew rfl (i+(m+(N - j)) - (i+m)) _ _ _ (by omega)) ?_);go_wp2;go_ret;exact HF.out
theorem erep_shrink (i j m F:Nat) (a:Option Addr) (y:Zq B w (.slice (some ⟨g,0,none⟩) L.length cap) L) (hu:IsE w (.slice a m F) M) (G:∀k,Zap (.slice a m F) k->k≠g) (hm:m=M.length) (a6:i<j) (hj:j<L.length) (Z:i+m<=j) (hlen:L.length<=100000) (a7:m<=100000):
  Calls Tryz.prog 146 #[.slice (some ⟨g,0,none⟩) L.length cap,.int .i64 (i:Int),.int .i64 (j:Int),.slice a m F] w (Zau B w (.slice (some ⟨g,0,none⟩) L.length cap) (L.take i++(M++L.drop j))):=by
 obtain⟨hr,hl,a0,hc1,H,_⟩:=y.lies;obtain⟨Q,hQ⟩:∃Q,Q=L.length - j:=⟨_,rfl⟩;have C:(L.take i).length=i:=by rw[List.length_take];omega
 have I:(L.drop j).length=Q:=by rw[List.length_drop];omega
 have f:Zbn w.drew g cap:=hr.keep rfl;have z:∀t b l,t=m+Q->(Builtin.copy_ #[172,172] b #[.slice (some ⟨g,i*3,none⟩) t l,.slice a m F]).run Tryz.prog w.drew=.ok (.int .i64 ((m:Nat):Int)) (w.drew.setCells g (i*3) (enV M)):=λt b l a1=>by have:=Qo (w:=w.drew) (p:=i) (M:=M) f b t l (.slice a m F) m (λ_=>rfl) (by omega) (hu.drew.firsts _ rfl) (by omega);rw[<-hm] at this;exact this
 have D:Zbn (w.drew.setCells g (i*3) (enV M)) g cap:=f.set (by omega);have J:Yc (w.drew.setCells g (i*3) (enV M)) g 0 (L.take i):=Yc.set_out f (by omega) ((hl.take i).keep rfl) (.inl (by omega));have O:Yc (w.drew.setCells g (i*3) (enV M)) g i M:=Yc.set_in f (by omega);have P:Yc (w.drew.setCells g (i*3) (enV M)) g j (L.drop j):=by have Y:=(hl.drop j).keep (w':=w.drew) rfl;rw[Nat.zero_add] at Y;exact Yc.set_out f (by omega) Y (.inr (by omega))
 have R:Zb (·=g) w (w.drew.setCells g (i*3) (enV M)):=(Zb.refl _ w).drew.trans (Zu _ _ _ _);generalize S:w.drew.setCells g (i*3) (enV M)=o at *;have A:∀(W:World),W.heap=o.heap->∀t b l sc,t=Q->(Builtin.copy_ #[172,172] b #[.slice (some ⟨g,(i+m)*3,none⟩) t l,.slice (some ⟨g,j*3,none⟩) (L.length - j) sc]).run Tryz.prog W=.ok (.int .i64 ((Q:Nat):Int)) (W.setCells g ((i+m)*3) (enV (L.drop j))):=λW hW t b l sc a1=>by have hd:=P.keep (w':=W) (by rw[hW]);have:=Qo (w:=W) (p:=i+m) (M:=L.drop j) (D.keep (by rw[hW])) b t l (.slice (some ⟨g,j*3,none⟩) (L.length - j) sc) (L.length - j) (λ_=>rfl) (by omega) (hd.firsts _ _ W rfl) (by omega);rw[I] at this;exact this
 have d:Zbn o.drew g cap:=D.keep rfl;have q:Zbn (o.drew.setCells g ((i+m)*3) (enV (L.drop j))) g cap:=d.set (by omega);have U:(L.take i++(M++L.drop j)).length=i+m+Q:=by rw[List.length_append,List.length_append];omega
 have l3:Yc (o.drew.setCells g ((i+m)*3) (enV (L.drop j))) g 0 (L.take i++(M++L.drop j)):=by refine(Yc.set_out d (by omega) (J.keep rfl) (.inl (by omega))).append ?_;rw[C,Nat.zero_add];refine(Yc.set_out d (by omega) (O.keep rfl) (.inl (by omega))).append ?_;rw[<-hm];exact Yc.set_in d (by omega)
 have E:Zb (·=g) w (o.drew.setCells g ((i+m)*3) (enV (L.drop j))):=R.drew.trans (Zu _ _ _ _)
 have HF:∀W:World,Zbn W g cap->Yc W g 0 (L.take i++(M++L.drop j))->Zb (·=g) w W->Hid (Zau B w (.slice (some ⟨g,0,none⟩) L.length cap) (L.take i++(M++L.drop j)) (.returned (.slice (some ⟨g,0,none⟩) (i+m+Q) cap)) W):=λW Y h2 h3=>Hd (by
  have:=Yc.mine (B:=B) Y h2 (by omega) H a0;rw[U] at this
  exact⟨_,rfl,this,h3.mono λk _ hk=>by rw[hk];rfl,.inl rfl⟩)
 have u:=HF _ q l3 E
 have v:i+m+Q<L.length->Hid (Zau B w (.slice (some ⟨g,0,none⟩) L.length cap) (L.take i++(M++L.drop j)) (.returned (.slice (some ⟨g,0,none⟩) (i+m+Q) cap)) ((o.drew.setCells g ((i+m)*3) (enV (L.drop j))).setCells g ((i+m+Q)*3) (enV (List.replicate (L.length - (i+m+Q)) Zev)))):=λh =>
  HF _ (q.set (p:=i+m+Q) (by simp;omega)) (Yc.set_out (p:=i+m+Q) q (by simp;omega) l3 (.inl (by omega))) (E.trans (Zu _ _ _ _))
 have hcl:i+m+Q<L.length->∀b c,(Builtin.clear_ #[172] b #[.slice (some ⟨g,(i+m+Q)*3,none⟩) (L.length - (i+m+Q)) c]).run Tryz.prog (o.drew.setCells g ((i+m)*3) (enV (L.drop j)))=.ok (.tuple #[]) ((o.drew.setCells g ((i+m)*3) (enV (L.drop j))).setCells g ((i+m+Q)*3) (enV (List.replicate (L.length - (i+m+Q)) Zev))):=λC b c =>
  Zhv (p:=i+m+Q) q b _ c (by omega) (by omega)
 have r:=Hd z;have HCP2:=Hd A;have HCL:=Hd hcl;have x:Hid (∀n b a c,n=0->(Builtin.clear_ #[172] b #[.slice a n c]).run Tryz.prog (o.drew.setCells g ((i+m)*3) (enV (L.drop j)))=.ok (.tuple #[]) (o.drew.setCells g ((i+m)*3) (enV (L.drop j)))):=Hd λn b a c e=>by rw[e];exact run_clear_nil b a c
 have a8:=Hd S;clear HF y hu hr hl f z A hcl D d q J O P l3 R E U C I S hm G;unfold maxLen at H;obtain⟨y0,y1,y2,y3,a9,y4,y5,y6⟩:¬((i:Int)=(j:Int))/\¬((j:Int)=(L.length:Int))/\(i:Int)<=(j:Int)/\(j:Int)<=(L.length:Int)/\(j:Int)<=(cap:Int)/\(i:Int)<=(cap:Int)/\¬cap=i/\¬cap=j:=by omega
 obtain⟨y8,y7,y9⟩:¬cap=i+m/\¬(cap:Int)<(i:Int)+(m:Int)+(Q:Int)/\(i:Int)+(m:Int)<=(j:Int):=by omega
 have x1:IntKind.i64.wrap ((i:Int)+(m:Int))=(i:Int)+(m:Int):=Vf _ (by omega);have x2:IntKind.i64.wrap ((i:Int)+(m:Int)+(Q:Int))=(i:Int)+(m:Int)+(Q:Int):=Vf _ (by omega);obtain⟨x3,a2,x4,aa,x5,x6,x7,x8⟩:((i:Int)+(m:Int)).toNat=i+m/\((i:Int)+(m:Int)+(Q:Int)).toNat=i+m+Q/\(0:Int)<=(i:Int)+(m:Int)/\(0:Int)<=(i:Int)+(m:Int)+(Q:Int)/\(i:Int)+(m:Int)<=(i:Int)+(m:Int)+(Q:Int)/\(i:Int)<=(i:Int)+(m:Int)+(Q:Int)/\(i:Int)+(m:Int)+(Q:Int)<=(cap:Int)/\(i:Int)+(m:Int)+(Q:Int)<=(L.length:Int):=by omega
 obtain⟨T,hT⟩:∃T,T=i+m+Q:=⟨_,rfl⟩;rw[<-hT] at u v HCL a2;subst hQ;generalize L.length=N at *;have HT:=Hd hT
 obtain⟨a3,ab,a4,a5⟩:(T:Int)<=(cap:Int)/\(i:Int)<=(T:Int)/\(i:Int)+(m:Int)<=(T:Int)/\(T:Int)<=(N:Int):=by omega
 clear hT;by_cases hs:T<N
 .have hcl:=HCL.out hs 0 (cap - (T))
  have HE:=v hs;have q2:¬(cap=T):=by have:=HT.out;omega
  clear u v;go_enter Tryz.func146,Tryz.ntmps146;go_upto_region 9 with fail;go_region;have hc1:=λb l=>r.out (T - i) b l (by have:=HT.out;omega)
  go_upto_region 18 with fail;go_region_law (refine step_copy_runI rfl _ _ 172 172 rfl (.slice (some ⟨g,(i+m)*3,none⟩) (T - (i+m)) (cap - (i+m))) (.slice (some ⟨g,j*3,none⟩) (N - j) (cap - j)) (by simp[Act.eval,Act.put]) (by simp[Act.eval,Act.put]) (HCP2.out o.drew rfl (T - (i+m)) _ _ _ (by have:=HT.out;omega)) ?_);skip;go_wp2_with (simp only[hcl]);go_ret;exact HE.out
 .have V:Hid (T=N):=Hd (by have:=HT.out;omega)
  clear hs;clear v HCL;by_cases X:cap=T
  .subst X
   go_enter Tryz.func146,Tryz.ntmps146;go_upto_region 9 with fail;go_region;have hc1:=λb l=>r.out (cap - i) b l (by have:=HT.out;omega)
   go_upto_region 18 with fail;go_region_law (refine step_copy_runI rfl _ _ 172 172 rfl (.slice (some ⟨g,(i+m)*3,none⟩) (cap - (i+m)) (cap - (i+m))) (.slice (some ⟨g,j*3,none⟩) (N - j) (cap - j)) (by simp[Act.eval,Act.put]) (by simp[Act.eval,Act.put]) (HCP2.out o.drew rfl (cap - (i+m)) _ _ _ (by have:=HT.out;omega)) ?_);have hcl:=λa c=>x.out (N - (cap)) 0 a c (by have:=V.out;omega)
   have s:=λa c=>x.out 0 0 a c rfl;go_wp2_with (first | (simp only[hcl]) | (simp only[s]));go_ret;exact u.out
  .have q2:¬(cap=T):=X
   go_enter Tryz.func146,Tryz.ntmps146;go_upto_region 9 with fail;go_region;have hc1:=λb l=>r.out (T - i) b l (by have:=HT.out;omega)
   go_upto_region 18 with fail;go_region_law (refine step_copy_runI rfl _ _ 172 172 rfl (.slice (some ⟨g,(i+m)*3,none⟩) (T - (i+m)) (cap - (i+m))) (.slice (some ⟨g,j*3,none⟩) (N - j) (cap - j)) (by simp[Act.eval,Act.put]) (by simp[Act.eval,Act.put]) (HCP2.out o.drew rfl (T - (i+m)) _ _ _ (by have:=HT.out;omega)) ?_);have hcl:=λa c=>x.out (N - (T)) 0 a c (by have:=V.out;omega)
   have s:=λa c=>x.out 0 0 a c rfl;go_wp2_with (first | (simp only[hcl]) | (simp only[s]));go_ret;exact u.out
theorem erep_widen (i j m t c:Nat) (l:Zq B w (.slice (some ⟨g,0,none⟩) L.length cap) L) (hu:Zq B' w (.slice (some ⟨c,0,none⟩) m t) M) (n:c≠g) (a8:i<j) (hj:j<L.length) (J:j<i+m) (O:i+m+(L.length - j)<=cap) (hlen:L.length<=100000) (a9:m<=100000):
  Calls Tryz.prog 146 #[.slice (some ⟨g,0,none⟩) L.length cap,.int .i64 (i:Int),.int .i64 (j:Int),.slice (some ⟨c,0,none⟩) m t] w (Zau B w (.slice (some ⟨g,0,none⟩) L.length cap) (L.take i++(M++L.drop j))):=by
 obtain⟨P,R,S,hc1,u,_⟩:=l.lies;obtain⟨v,x,_,aa,U,I⟩:=hu.lies;obtain⟨Q,hQ⟩:∃Q,Q=L.length - j:=⟨_,rfl⟩;obtain⟨T,hT⟩:∃T,T=i+m+Q:=⟨_,rfl⟩;have y:(L.take i).length=i:=by rw[List.length_take];omega
 have z:(L.drop j).length=Q:=by rw[List.length_drop];omega
 have b:Zbn w.drew.drew g cap:=P.keep rfl
 have hov:∀(W:World),W.heap=w.heap->∀V X,(callFunc 135 #[.slice (some ⟨g,(i+m)*3,none⟩) V X,.slice (some ⟨c,0,none⟩) m t]).run Tryz.prog W=.ok (.value (.bool false)) W:=λW Y V X=>by
  obtain⟨ab,hg,Z⟩:=P;obtain⟨a6,a0,A⟩:=v;have a1:W.shape? g=some (179,cap*3):=by simp[World.shape?,Y,hg,Z]
  have a2:W.shape? c=some (179,t*3):=by simp[World.shape?,Y,a0,A]
  have hf:∀o,W.frozen? ⟨g,o,none⟩=false:=λo=>Zf (by rw[Y];exact hg) o
  rw[run_callFunc_extern Tryz.func135 (by kernel_rfl) (by kernel_rfl) (by kernel_rfl) (e:=Extern.SlicesOverlaps.overlaps #[172,172] #[4]) (by kernel_rfl),
   Lib.run_overlaps_apart W 172 4 179 Tryz.underlying172 3 (λw=>by kernel_rfl) ⟨g,(i+m)*3,none⟩ ⟨c,0,none⟩ V X m t (λe=>n e.symm) _ _ _ _ a1 a2 (by omega) (hf _) (hf _)]
  rfl
 have q:∀d f h sc,d=Q->(Builtin.copy_ #[172,172] f #[.slice (some ⟨g,(i+m)*3,none⟩) d h,.slice (some ⟨g,j*3,none⟩) (L.length - j) sc]).run Tryz.prog w.drew.drew=.ok (.int .i64 ((Q:Nat):Int)) (w.drew.drew.setCells g ((i+m)*3) (enV (L.drop j))):=λd f h sc a3=>by have hd:=(R.drop j).keep (w':=w.drew.drew) rfl;rw[Nat.zero_add] at hd;have:=Qo (w:=w.drew.drew) (p:=i+m) (M:=L.drop j) b f d h (.slice (some ⟨g,j*3,none⟩) (L.length - j) sc) (L.length - j) (λ_=>rfl) (by omega) (hd.firsts _ _ _ rfl) (by omega);rw[z] at this;exact this
 have a:Zbn (w.drew.drew.setCells g ((i+m)*3) (enV (L.drop j))) g cap:=b.set (by omega);have C:Yc (w.drew.drew.setCells g ((i+m)*3) (enV (L.drop j))) g 0 (L.take i):=Yc.set_out b (by omega) ((R.take i).keep rfl) (.inl (by omega));have D:Yc (w.drew.drew.setCells g ((i+m)*3) (enV (L.drop j))) g (i+m) (L.drop j):=Yc.set_in b (by omega);have r:Yc (w.drew.drew.setCells g ((i+m)*3) (enV (L.drop j))) c 0 M:=x.keep (Xa _ _ _ _ _ n);have E:Zb (·=g) w (w.drew.drew.setCells g ((i+m)*3) (enV (L.drop j))):=(Zb.refl _ w).drew.drew.trans (Zu _ _ _ _);generalize F:w.drew.drew.setCells g ((i+m)*3) (enV (L.drop j))=G at *;have s:∀d f h,d=m+Q->(Builtin.copy_ #[172,172] f #[.slice (some ⟨g,i*3,none⟩) d h,.slice (some ⟨c,0,none⟩) m t]).run Tryz.prog G=.ok (.int .i64 ((m:Nat):Int)) (G.setCells g (i*3) (enV M)):=λd f h a3=>by have:=Qo (w:=G) (p:=i) (M:=M) a f d h (.slice (some ⟨c,0,none⟩) m t) m (λ_=>rfl) (by omega) (r.firsts _ _ _ rfl) (by omega);rw[<-I] at this;exact this
 have HE:Hid (Zau B w (.slice (some ⟨g,0,none⟩) L.length cap) (L.take i++(M++L.drop j)) (.returned (.slice (some ⟨g,0,none⟩) T cap)) (G.setCells g (i*3) (enV M))):=Hd (by
  have a4:(L.take i++(M++L.drop j)).length=T:=by rw[List.length_append,List.length_append];omega
  have l3:Yc (G.setCells g (i*3) (enV M)) g 0 (L.take i++(M++L.drop j)):=by refine(Yc.set_out a (by omega) C (.inl (by omega))).append ?_;rw[y,Nat.zero_add];refine(Yc.set_in a (by omega)).append ?_;rw[<-I];exact Yc.set_out a (by omega) D (.inr (by omega))
  have:=Yc.mine (B:=B) (a.set (by omega)) l3 (by omega) u S;rw[a4] at this
  exact⟨_,rfl,this,(E.trans (Zu _ _ _ _)).mono λk _ hk=>by rw[hk];rfl,.inl rfl⟩)
 have H:=Hd q;have HCP2:=Hd s;have HW2:=Hd F;have HM:=Hd I;have HOV:=Hd hov;clear l hu P R b q s a C D x r v E y z F I hov;unfold maxLen at u U;obtain⟨y0,y1,y2,y3,ad,y4,y5,y6⟩:¬((i:Int)=(j:Int))/\¬((j:Int)=(L.length:Int))/\(i:Int)<=(j:Int)/\(j:Int)<=(L.length:Int)/\(j:Int)<=(cap:Int)/\(i:Int)<=(cap:Int)/\¬cap=i/\¬cap=j:=by omega
 obtain⟨y8,y7,y9⟩:¬cap=i+m/\¬(cap:Int)<(i:Int)+(m:Int)+(Q:Int)/\¬(i:Int)+(m:Int)<=(j:Int):=by omega
 have x1:IntKind.i64.wrap ((i:Int)+(m:Int))=(i:Int)+(m:Int):=Vf _ (by omega);have x2:IntKind.i64.wrap ((i:Int)+(m:Int)+(Q:Int))=(i:Int)+(m:Int)+(Q:Int):=Vf _ (by omega);obtain⟨x3,ae,x4,af,x7,a5,ag,a7⟩:((i:Int)+(m:Int)).toNat=i+m/\((i:Int)+(m:Int)+(Q:Int)).toNat=T/\(0:Int)<=(i:Int)+(m:Int)/\(0:Int)<=(i:Int)+(m:Int)+(Q:Int)/\(i:Int)+(m:Int)+(Q:Int)<=(cap:Int)/\(T:Int)<=(cap:Int)/\(i:Int)<=(T:Int)/\(i:Int)+(m:Int)<=(T:Int):=by omega
 subst hQ;generalize L.length=N at *;have HT:=Hd hT
 clear hT;go_enter Tryz.func146,Tryz.ntmps146;go_upto_region 9 with fail;go_region;have hov:=HOV.out w.drew rfl
 go_wp2_with (simp only[hov]);go_region_law (refine step_copy_runI rfl _ _ 172 172 rfl (.slice (some ⟨g,(i+m)*3,none⟩) (T - (i+m)) (cap - (i+m))) (.slice (some ⟨g,j*3,none⟩) (N - j) (cap - j)) (by simp[Act.eval,Act.put]) (by simp[Act.eval,Act.put]) (H.out (T - (i+m)) _ _ _ (by have:=HT.out;omega)) ?_);have hc1:=λf h=>HCP2.out (T - i) f h (by have:=HT.out;omega)
 go_wp2_with fail;go_ret;exact HE.out
theorem Zfa {v u:Value} (i j:Nat) (b:Zq B w v L) (hu:Zq B' w u M) (f:∀k,u.ownBlock=some k->v.ownBlock≠some k) (c:i<j) (hj:j<=L.length) (hB:B<=w.heap.size) (hlen:L.length<=100000) (d:M.length<=100000):
  Calls Tryz.prog 146 #[v,.int .i64 (i:Int),.int .i64 (j:Int),u] w (Zau B w v (L.take i++(M++L.drop j))):=by
 rcases b.form with ⟨_,q⟩ | ⟨g,cap,rfl,r,s,t,F⟩
 .subst q;simp at hj;omega
 .have hue:=hu.isE
  obtain⟨a,h,l,_,_⟩:=hue.form;subst l;by_cases y:j=L.length
  .subst y
   rw[List.drop_length,List.append_nil];by_cases m:i+M.length<=cap
   .exact erep_end_room i M.length h a b hue rfl c m hlen d
   .exact erep_end_grow i M.length h a b hue rfl c (by omega) hB hlen d
  .by_cases m:i+M.length+(L.length - j)<=cap
   .by_cases n:i+M.length<=j
    .refine erep_shrink i j M.length h a b hue (λk z e=>?_) rfl c (by omega) n hlen d;obtain⟨x,_,_,A,C⟩:=z;cases A;exact f x.block rfl (by rw[C,e];rfl)
    .rcases hu.form with ⟨o,D⟩ | ⟨p,E,o,_⟩
     .rw[D] at n;simp at n;omega
     .simp only[Value.slice.injEq,true_and] at o;obtain⟨rfl,rfl⟩:=o;exact erep_widen i j M.length h p b hu (λe=>f p rfl (by rw[e];rfl)) c (by omega) (by omega) m hlen d
   .exact erep_grow i j M.length h a b hue rfl c (by omega) (by omega) hB hlen d
end
end
section
open Go.RowKit
variable {f:Pf}{R:Rp}
section
variable {n : Nat} {J : Jn} {seq : Int} {B : List (List UInt8)} {F : Ft} {p : Nat} {tb : Nat}
theorem layAt_all:∀m,m<=1000000->LayAt n J seq B F p tb m
 | 0,_,w,f,R,leaf,a,N,b,l,h,d,e,k,g,i=>by have:l=[]:=Vh (by omega);exact lay_fits 0 leaf a N b h d e (by omega) g i (by subst this;simp[Nd.sum,Zg])
 | m+1,j,w,f,R,leaf,a,N,b,l,h,d,e,k,g,i=>by
  by_cases c:893<(Nd.mk leaf l).sum
  .exact lay_long m (layAt_all m (by omega)) leaf a N b h d e k j g i c
  .exact lay_fits (m+1) leaf a N b h d e (by omega) g i (by omega)
theorem Zdm {w:World} (leaf:Bool) {v:Value} {l:List En} (h:Tr n J seq B w F p f R tb) (hE:IsE w v l) (hm:l.length<=1000000) (hf:∀e∈l,e.few) (hs:∀k,Zap v k->¬PJ F p f k):
  Calls Tryz.prog 101 #[trp tb,ndV leaf v] w (Zam n J seq B w F p f tb (R.layL ⟨leaf,l⟩)):=by
 obtain⟨a,b,rfl,_⟩:=hE.form;exact layAt_all l.length hm w f R leaf a l.length b l h hE rfl (Va _) hf hs
theorem Zhc {w:World} (h:Tr n J seq B w F p f R tb) (page:Int) (r:-9223372036854775808<=page) (b2:page<=9223372036854775807):
  Calls Tryz.prog 148 #[trp tb,.int .i64 page] w λe w'=>e=.returned (.int .i64 (R.freeT page).1)/\Qa n J seq B w F p f w' (R.freeT page).2 tb:=by
 have s:w.cell? ⟨tb,0,none⟩=some (Qs f.q):=by rw[Vc _ _ _ _ _ _ h.head];rfl
 have t:=Hd (lp_root h.lp);obtain⟨X,d⟩:∃X,X=R.freeT page:=⟨_,rfl⟩;rw[<-d];have HX:=Hd d;have H:=Hd h;by_cases g:page=R.root
 .have u:(page==R.root)=true:=by rw[beq_iff_eq];exact g
  have i:Hid (X=(R.setRoot (-1)).2.free page):=Hd (by rw[d,Rp.freeT,if_pos g]);have HSR:=Hd (Zdv h.lp (-1) (by decide) (by decide));have j:(R.setRoot (-1)).1=0:=by unfold Rp.setRoot;simp
  rw[j] at HSR;clear h d g j;go_enter Tryz.func148,Tryz.ntmps148;go_wp2_with fail;refine t.out.mono ?_;rintro e x ⟨rfl,rfl⟩;go_wp2_with fail;refine HSR.out.mono ?_;rintro e y ⟨rfl,k⟩;obtain⟨C,b,c,m,o⟩:=H.out.to k;have z:y.cell? ⟨tb,0,none⟩=some (Qs f.q):=by rw[<-c,Vc _ _ _ _ _ _ b.head];rfl
  have HFR:=Hd (Zga b.lp page r b2);rw[c] at HFR;have HT2:=Hd b;have HQ2:=Hd c;have HK2:=Hd m;have HTT2:=Hd o;clear k b c m o s;go_wp2_with fail;refine HFR.out.mono ?_;rintro e A ⟨rfl,a⟩;have HE:=Hd (Qa.then HQ2.out HK2.out HTT2.out (HT2.out.to a));rw[<-i.out] at HE;rw[<-i.out];clear a z;go_wp2_with fail;go_ret;exact⟨rfl,HE.out⟩
 .have u:(page==R.root)=false:=by rw[beq_eq_false_iff_ne];exact g
  have i:Hid (X=R.free page):=Hd (by rw[d,Rp.freeT,if_neg g]);have HFR:=Hd (Zga h.lp page r b2);clear h d g;go_enter Tryz.func148,Tryz.ntmps148;go_wp2_with fail;refine t.out.mono ?_;rintro e x ⟨rfl,rfl⟩;go_wp2_with fail;refine HFR.out.mono ?_;rintro e A ⟨rfl,a⟩;have HE:=Hd (H.out.to a);rw[<-i.out] at HE;rw[<-i.out];clear a s;go_wp2_with fail;go_ret;exact⟨rfl,HE.out⟩
end
structure NdAt (w:World) (B nb:Nat) (leaf:Bool) (v:Value) (l:List En):Prop where
 box:w.heap[nb]?=some (ndO leaf v)
 row:Zq B w v l
 low:B<=nb
section
variable {w w' : World} {B nb : Nat} {leaf : Bool} {v v' : Value} {l : List En}
theorem NdAt.ne (h:NdAt w B nb leaf v l) {k:Nat} (hk:v.ownBlock=some k):k≠nb:=by rintro rfl;obtain⟨_,c,a⟩:=Zcv h.row hk.symm;rw[h.box] at a;simp only[Option.some.injEq,Obj.cells.injEq,and_true] at a;exact absurd a.2 (by decide)
theorem NdAt.below (h:NdAt w B nb leaf v l) (hb:Below w.heap.size w w'):NdAt w' B nb leaf v l:=⟨(hb.block _ (Za h.box)).trans h.box,h.row.below hb,h.low⟩
theorem NdAt.turned {T:Nat->Prop} (h:NdAt w B nb leaf v l) (ht:Zb T w w') (h1:¬T nb) (h2:∀k,Zap v k->¬T k):NdAt w' B nb leaf v l :=
 ⟨(ht.block _ (Za h.box) h1).trans h.box,h.row.keep1 λk a=>ht.block k (h.row.lt a).2 (h2 k (h.row.in_blk a)),h.low⟩
theorem NdAt.lt (h:NdAt w B nb leaf v l):nb<w.heap.size:=Za h.box
end
theorem nd_box (w:World) (leaf:Bool) (v:Value):Below w.heap.size w (w.alloc (.cells #[.bool leaf,v] 174))/\(w.alloc (.cells #[.bool leaf,v] 174)).heap[w.heap.size]?=some (ndO leaf v)/\(w.alloc (.cells #[.bool leaf,v] 174)).heap.size=w.heap.size+1 :=
 ⟨Zl w _,Vg w _,by simp⟩
end
end Go.Proofs.YtfaobkmojlhbnaaGreatDoor
