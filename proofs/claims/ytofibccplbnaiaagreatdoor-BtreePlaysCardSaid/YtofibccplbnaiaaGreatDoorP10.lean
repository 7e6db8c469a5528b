/- Contracts of the functions that the statements of this seat reach, part 10: each says what the call answers and what it leaves of the memory. -/
import Derived.Test.YtofibccplbnaiaaGreatDoorP7
import Derived.Deep.RegionHeld3
import Derived.Deep.RegionLaw
import Derived.Lib.Overlaps
import Derived.Lib.AppendZerosOnto
import Derived.Laws.Externs
import Derived.Laws.NewBlocks
import Derived.Shelf.Spec.SlicesInsert
import Derived.Test.YtofibccplbnaiaaGreatDoorP8
import Derived.Test.YtofibccplbnaiaaGreatDoorP9
set_option linter.unusedVariables false
set_option linter.unusedSimpArgs false
set_option maxRecDepth 100000
set_option maxHeartbeats 64000000
namespace Go.Proofs.YtofibccplbnaiaaGreatDoor
section
open Go.RowKit Go.Deep
def Zbg (w:World) (g cap:Nat):Prop:=∃cur:Array Value,w.heap[g]?=some (.cells cur 82 (0,0))∧cur.size=cap*3
def Yb (w:World) (g o:Nat) (L:List En):Prop:=∀j u,(enV L)[j]?=some u→w.cell? ⟨g,o*3+j,none⟩=some u
section
variable {w w' : World} {g o p cap : Nat} {L M A B : List En}
theorem Zbg.lt (h:Zbg w g cap):g<w.heap.size:=by obtain⟨c,h,_⟩:=h;exact Za h
theorem Zbg.keep (h:Zbg w g cap) (hw:w'.heap[g]?=w.heap[g]?):Zbg w' g cap:=by obtain⟨c,h,h2⟩:=h;exact⟨c,hw.trans h,h2⟩
theorem Yb.keep (h:Yb w g o L) (hw:w'.heap[g]?=w.heap[g]?):Yb w' g o L:=fun j u hj=>(World.cell?_of_block (a:=⟨g,o*3+j,none⟩) hw).trans (h j u hj)
theorem Yb.nil:Yb w g o []:=fun j u hj=>by simp[enV] at hj
theorem Yb.append (h1:Yb w g o A) (h2:Yb w g (o+A.length) B):Yb w g o (A++B):=fun j u hj=>by
 rw[Zgb,List.getElem?_append] at hj;split at hj
 ·exact h1 j u hj
 ·rename_i hlt
  rw[Zw] at hlt hj;have:=h2 _ u hj
  rw[show (o+A.length)*3+(j - A.length*3)=o*3+j by omega] at this
  exact this
theorem enV_take (L:List En) (k:Nat):enV (L.take k)=(enV L).take (k*3):=by
 rcases Nat.le_total k L.length with h | h
 ·have e:enV L=enV (L.take k)++enV (L.drop k):=by rw[←Zgb,List.take_append_drop]
  rw[e,List.take_left' (by rw[Zw,List.length_take];omega)]
 ·rw[List.take_of_length_le h,List.take_of_length_le (by rw[Zw];omega)]
theorem enV_drop (L:List En) (k:Nat):enV (L.drop k)=(enV L).drop (k*3):=by
 rcases Nat.le_total k L.length with h | h
 ·have e:enV L=enV (L.take k)++enV (L.drop k):=by rw[←Zgb,List.take_append_drop]
  rw[e,List.drop_left' (by rw[Zw,List.length_take];omega)]
 ·rw[List.drop_of_length_le h,List.drop_of_length_le (by rw[Zw];omega)];rfl
theorem Yb.take (h:Yb w g o L) (k:Nat):Yb w g o (L.take k):=fun j u hj=>by
 rw[enV_take,List.getElem?_take] at hj;split at hj
 ·exact h j u hj
 ·cases hj
theorem Yb.drop (h:Yb w g o L) (k:Nat):Yb w g (o+k) (L.drop k):=fun j u hj=>by
 rw[enV_drop,List.getElem?_drop] at hj;have:=h _ u hj
 rw[show o*3+(k*3+j)=(o+k)*3+j by omega] at this
 exact this
theorem Zbg.set (h:Zbg w g cap) (hp:p+M.length≤cap):Zbg (w.setCells g (p*3) (enV M)) g cap:=by obtain⟨cur,h1,h2⟩:=h;obtain⟨cur',h3,h4⟩:=Zaj g 82 (enV M) (p*3) w cur h1 (by rw[Zw];omega);refine⟨cur',h3,?_⟩;rw[←Array.length_toList,h4];simp only[List.length_append,List.length_take,List.length_drop,Zw,Array.length_toList];omega
theorem Yb.set_in (h:Zbg w g cap) (hp:p+M.length≤cap):Yb (w.setCells g (p*3) (enV M)) g p M:=fun j u hj=>by
 obtain⟨cur,h1,h2⟩:=h;obtain⟨cur',h3,h4⟩:=Zaj g 82 (enV M) (p*3) w cur h1 (by rw[Zw];omega);have hlt:j<(enV M).length:=(List.getElem?_eq_some_iff.1 hj).1
 rw[cell_of_row _ _ _ _ _ _ h3,←Array.getElem?_toList,h4,Zet _ _ _ _ (by rw[Array.length_toList,h2];omega),if_neg (by omega),if_pos (by omega),show p*3+j - p*3=j by omega]
 exact hj
theorem Yb.set_out (h:Zbg w g cap) (hp:p+M.length≤cap) (hl:Yb w g o L) (hd:o+L.length≤p∨p+M.length≤o):Yb (w.setCells g (p*3) (enV M)) g o L:=fun j u hj=>by
 obtain⟨cur,h1,h2⟩:=h;obtain⟨cur',h3,h4⟩:=Zaj g 82 (enV M) (p*3) w cur h1 (by rw[Zw];omega);have hlt:j<(enV L).length:=(List.getElem?_eq_some_iff.1 hj).1
 rw[Zw] at hlt;have h5:=hl j u hj
 rw[cell_of_row _ _ _ _ _ _ h1,←Array.getElem?_toList] at h5;rw[cell_of_row _ _ _ _ _ _ h3,←Array.getElem?_toList,h4,Zet _ _ _ _ (by rw[Array.length_toList,h2];omega),Zw];by_cases hq:o*3+j<p*3
 ·rw[if_pos hq];exact h5
 ·rw[if_neg hq,if_neg (by omega)];exact h5
theorem Yb.mine {B:Nat} (hr:Zbg w g cap) (h:Yb w g 0 L) (hc:L.length≤cap) (hm:cap≤maxLen) (hB:B≤g):Zq B w (.slice (some ⟨g,0,none⟩) L.length cap) L:=by
 obtain⟨cur,h1,h2⟩:=hr;refine⟨by rw[Zw],.inr ⟨g,cap,cur,rfl,hB,h1,hc,hm,h2,?_⟩⟩;apply List.ext_getElem?;intro j;by_cases hj:j<L.length*3
 ·rw[List.getElem?_take,if_pos hj]
  have hj2:j<(enV L).length:=by rw[Zw];exact hj
  have:=h j _ (List.getElem?_eq_getElem hj2);rw[cell_of_row _ _ _ _ _ _ h1,←Array.getElem?_toList,Nat.zero_mul,Nat.zero_add] at this;rw[this,List.getElem?_eq_getElem hj2]
 ·rw[List.getElem?_eq_none (by rw[List.length_take];omega),List.getElem?_eq_none (by rw[Zw];omega)]
theorem Zq.lies {B n:Nat} (h:Zq B w (.slice (some ⟨g,0,none⟩) n cap) L):Zbg w g cap∧Yb w g 0 L∧B≤g∧L.length≤cap∧cap≤maxLen∧n=L.length:=by
 have hE:=h.isE;rcases h.2 with ⟨e,_⟩ | ⟨g',cap',cur,e,hb,hg,hnc,hcm,hcs,htake⟩
 ·cases e
 ·simp only[Value.slice.injEq,Option.some.injEq,Addr.mk.injEq,and_true,true_and] at e
  obtain⟨rfl,rfl,rfl⟩:=e;refine⟨⟨cur,hg,hcs⟩,fun j u hj=>?_,hb,hnc,hcm,rfl⟩;have hlt:j<(enV L).length:=(List.getElem?_eq_some_iff.1 hj).1
  rw[Zw] at hlt;rw[cell_of_row _ _ _ _ _ _ hg,Nat.zero_mul,Nat.zero_add,←Array.getElem?_toList];rw[←htake,List.getElem?_take,if_pos hlt] at hj;exact hj
theorem Yb.firsts (h:Yb w g o L) (n c:Nat):∀w':World,w'.heap=w.heap→(Builtin.firstCells 3 L.length (.slice (some ⟨g,o*3,none⟩) n c)).run Tryz.prog w'=.ok (enV L).toArray w':=fun w' hw =>
 run_firstCells_some (P:=Tryz.prog) w' 3 L.length ⟨g,o*3,none⟩ n c _ (by rw[Zw]) fun j u hj=>by
  rw[Addr.add_lit];have:=h j u hj
  rw[←this];unfold World.cell?;rw[hw]
theorem Qo (hr:Zbg w g cap) (ty:TypeId) (nd dc:Nat) (src:Value) (ns:Nat) (hlo:∀w:World,(Builtin.lenOf src).run Tryz.prog w=.ok ns w) (hk:M.length=min nd ns) (hfc:(Builtin.firstCells 3 M.length src).run Tryz.prog w=.ok (enV M).toArray w) (hfit:p+M.length≤cap) :
  (Builtin.copy_ #[78,78] ty #[.slice (some ⟨g,p*3,none⟩) nd dc,src]).run Tryz.prog w=.ok (.int .i64 (M.length:Int)) (w.setCells g (p*3) (enV M)):=by
 obtain⟨cur,hg,hcs⟩:=hr;have hst:=run_storeCells_cells (P:=Tryz.prog) g (p*3) (enV M) 0 w (fun j hj=>by rw[cell_of_row _ _ _ _ _ _ hg,Array.getElem?_eq_getElem (by rw[Zw] at hj;omega)];rfl) (fun j hj=>Zf hg _) (Zdk M)
 have hsz:∀w,(sizeOf 82).run Tryz.prog w=.ok 3 w:=fun w=>by kernel_rfl
 simp only[Nat.add_zero] at hst;have e:ns.min nd=M.length:=by rw[hk];exact Nat.min_comm _ _
 unfold Builtin.copy_;simp[run_underlying Tryz.underlying78,hsz,hlo,e,hfc,hst,goInt]
def Zdr:En:=⟨[],[],0⟩
theorem zero_enV (n:Nat):(Builtin.zeroCells (Value.cells (.agg #[.string ⟨#[]⟩,.string ⟨#[]⟩,.int .i64 0])) n).toList=enV (List.replicate n Zdr):=by
 have hz3:(Value.cells (.agg #[.string ⟨#[]⟩,.string ⟨#[]⟩,.int .i64 0])).size=3:=rfl;apply List.ext_getElem?;intro j;by_cases hj:j<n*3
 ·obtain⟨i,r,rfl,hr⟩:∃i r,j=i*3+r∧r<3:=⟨j / 3,j % 3,by omega,Nat.mod_lt _ (by omega)⟩
  rw[enV_get _ i (by simp;omega) r hr];have hs:i*3+r<(Builtin.zeroCells (Value.cells (.agg #[.string ⟨#[]⟩,.string ⟨#[]⟩,.int .i64 0])) n).size:=by rw[size_zeroCells,hz3];exact hj
  rw[Array.getElem?_toList,Array.getElem?_eq_getElem hs];simp only[Builtin.zeroCells,Value.cells,Array.getElem_ofFn,List.getElem_replicate,Zdr,enC];have hm:(i*3+r) % 3=r:=by omega
  rcases(show r=0∨r=1∨r=2 by omega) with rfl | rfl | rfl<;>simp
 ·rw[List.getElem?_eq_none (by rw[Array.length_toList,size_zeroCells,hz3];omega),List.getElem?_eq_none (by rw[Zw];simp;omega)]
theorem Zgk (hr:Zbg w g cap) (ty:TypeId) (n c:Nat) (hn:0<n) (hfit:p+n≤cap) :
  (Builtin.clear_ #[78] ty #[.slice (some ⟨g,p*3,none⟩) n c]).run Tryz.prog w=.ok (.tuple #[]) (w.setCells g (p*3) (enV (List.replicate n Zdr))):=by
 obtain⟨cur,hg,hcs⟩:=hr;have hst:=run_storeCells_cells (P:=Tryz.prog) g (p*3) (enV (List.replicate n Zdr)) 0 w (fun j hj=>by rw[cell_of_row _ _ _ _ _ _ hg,Array.getElem?_eq_getElem (by rw[Zw] at hj;simp at hj;omega)];rfl) (fun j hj=>Zf hg _) (Zdk _)
 simp only[Nat.add_zero] at hst;have hzv:∀w,(zeroValue 82).run Tryz.prog w=.ok (.agg #[.string ⟨#[]⟩,.string ⟨#[]⟩,.int .i64 0]) w:=fun w=>by kernel_rfl
 unfold Builtin.clear_;obtain⟨m,rfl⟩:∃m,n=m+1:=⟨n - 1,by omega⟩;rw[←zero_enV] at hst ⊢;simp[run_underlying Tryz.underlying78,hzv,hst]
theorem Zen (hr:Zbg w g cap) (ty:TypeId) (n c:Nat) (src:Value) (hsrc:Src Tryz.prog 3 78 src M.length (enV M) w) (hfit:n+M.length≤cap) (hc:c=cap) :
  (Builtin.append_ #[78,78] ty #[.slice (some ⟨g,0,none⟩) n c,src]).run Tryz.prog w=.ok (.slice (some ⟨g,0,none⟩) (n+M.length) c) (w.setCells g (n*3) (enV M)):=by
 subst hc;obtain⟨i,hi,hz,hs,hb⟩:=info_parts (P:=Tryz.prog) (e:=82) info_entry;obtain⟨cur,hg,hcs⟩:=hr
 have:=run_append_room_src w 78 78 ty 82 i Tryz.underlying78 hi g 0 n c src M.length (enV M) (by rw[hs];exact hsrc) hfit (by
  intro j hj;rw[Zw] at hj
  rw[cell_of_row _ _ _ _ _ _ hg,Array.getElem?_eq_getElem (by rw[hs];omega)];rfl) (fun j hj=>Zf hg _)
 rw[hs,Nat.zero_add] at this;exact this
theorem Yb.src (h:Yb w g o L) (n c:Nat) (hn:n=L.length):Src Tryz.prog 3 78 (.slice (some ⟨g,o*3,none⟩) n c) L.length (enV L) w:=by
 subst hn
 exact Src.ofSlice (P:=Tryz.prog) w (size:=3) (tx:=78) Tryz.underlying78 ⟨g,o*3,none⟩ L.length c (enV L) (by rw[Zw]) (fun j u hj=>by
  rw[Addr.add_lit]
  exact h j u hj) (Zdk L)
theorem IsE.src {v:Value} (h:IsE w v L):Src Tryz.prog 3 78 v L.length (enV L) w:=by have hf:=h.firsts;obtain⟨a,cap,rfl,_⟩:=h.form;exact⟨.inl ⟨_,Tryz.underlying78⟩,fun _=>rfl,hf w rfl,hf w.drew rfl,by rw[Zw],Zdk L⟩
end
end
section
open Go.RowKit Go.Deep
theorem run_zeros_en {w:World} {g cap:Nat} {L:List En} (hr:Zbg w g cap) (hl:Yb w g 0 L) (i k:Nat) (hi:i≤L.length) (hb:cap<i+k) (hk:0<k) (hs:i+k≤1000000) (hc:cap≤maxLen) :
  ∃G ROW,(∀ty,(Builtin.append_ #[78,3] ty #[.slice (some ⟨g,0,none⟩) i cap,.int .i64 (k:Int)]).run Tryz.prog w=.ok (.slice (some ⟨w.heap.size,0,none⟩) (i+k) G) (w.drew.alloc (.cells ROW 82))) ∧
   Zbg (w.drew.alloc (.cells ROW 82)) w.heap.size G∧Yb (w.drew.alloc (.cells ROW 82)) w.heap.size 0 (L.take i)∧i+k≤G∧G≤maxLen:=by
 obtain⟨i0,hi0,hz0,hzs,hzb⟩:=info_parts (P:=Tryz.prog) (e:=82) info_entry;have hlt:(L.take i).length=i:=by rw[List.length_take];omega
 have hold:(Builtin.firstCells i0.size i (.slice (some ⟨g,0,none⟩) i cap)).run Tryz.prog w.drew=.ok (enV (L.take i)).toArray w.drew:=by
  rw[hzs];have:=(hl.take i).firsts i cap w.drew rfl
  rw[hlt,Nat.zero_mul] at this;exact this
 obtain⟨G,hG⟩:∃G,G=grownCap w (i+k) cap 82:=⟨_,rfl⟩;obtain⟨ROW,hROW⟩:∃ROW:Array Value,ROW=(enV (L.take i)).toArray++Builtin.zeroCells (Value.cells (.agg #[.string ⟨#[]⟩,.string ⟨#[]⟩,.int .i64 0])) k++Builtin.zeroCells (Value.cells (.agg #[.string ⟨#[]⟩,.string ⟨#[]⟩,.int .i64 0])) (G - (i+k)):=⟨_,rfl⟩;have hGn:i+k≤G:=by rw[hG];exact grownCap_ge w _ _ _
 have hGm:G≤maxLen:=by rw[hG];exact grownCap_le_maxLen w (i+k) cap 82 (by unfold maxLen;omega)
 have hz3:(Value.cells (.agg #[.string ⟨#[]⟩,.string ⟨#[]⟩,.int .i64 0])).size=3:=rfl;have hRs:ROW.size=G*3:=by rw[hROW];simp only[Array.size_append,List.size_toArray,size_zeroCells,hz3,Zw,hlt];omega
 refine⟨G,ROW,fun ty=>?_,⟨ROW,heap_alloc_new w.drew _,hRs⟩,fun j u hj=>?_,hGn,hGm⟩
 ·have h:=Lib.run_append_grow_zeros w 78 3 ty 82 i0 _ .i64 .i64 Tryz.underlying78 Tryz.underlying3 hi0 hz0 (some ⟨g,0,none⟩) i cap (enV (L.take i)) hold k (by omega) (by omega) (by omega) (by unfold maxLen at hc;omega) (by rw[hzb];omega) (by rw[hzb];exact growslice_fits hb (by omega));rw[hROW,hG];exact h
 ·have hlt2:j<(enV (L.take i)).length:=(List.getElem?_eq_some_iff.1 hj).1;have hh:(w.drew.alloc (.cells ROW 82)).heap[w.heap.size]?=some (.cells ROW 82 (0,0)):=heap_alloc_new w.drew _;rw[cell_of_row _ _ _ _ _ _ hh,Nat.zero_mul,Nat.zero_add,hROW,Array.append_assoc,Array.getElem?_append_left (by simpa using hlt2)];simpa using hj
def Zar (B:Nat) (w:World) (v:Value) (L':List En) (e:Ending) (w':World):Prop:=∃v',e=.returned v'∧Zq B w' v' L'∧Zb (fun k=>v.ownBlock=some k) w w'∧(v'.ownBlock=v.ownBlock∨∃k,v'.ownBlock=some k∧w.heap.size≤k)
theorem Zar.of_grown {B:Nat} {w w':World} {v v':Value} {L':List En} (hm:Zq B w' v' L') (hg:w.grownBy w' v.ownBlock) (ho:v'.ownBlock=v.ownBlock∨v'.ownBlock=some w.heap.size):Zar B w v L' (.returned v') w' :=
 ⟨v',rfl,hm,⟨hg.os,hg.tape,hg.output,hg.size,fun k hk hn=>hg.block k hk fun e=>hn e.symm⟩,ho.imp id fun e=>⟨_,e,Nat.le_refl _⟩⟩
section
variable {B : Nat} {w : World} {g cap gx : Nat} {L : List En} {x : En}
theorem einsert_shift (i:Nat) (hown:Zq B w (.slice (some ⟨g,0,none⟩) L.length cap) L) (hx:w.heap[gx]?=some (.cells (enC x).toArray 82 (0,0))) (hne:gx≠g)
  (hi:i<L.length) (hroom:L.length+1≤cap) (hlen:L.length≤1000000) :
  Calls Tryz.prog 43 #[.slice (some ⟨g,0,none⟩) L.length cap,.int .i64 (i:Int),.slice (some ⟨gx,0,none⟩) 1 1] w (Zar B w (.slice (some ⟨g,0,none⟩) L.length cap) (L.take i++x::L.drop i)):=by
 obtain⟨hr,hl,hBg,hc1,hcm,_⟩:=hown.lies;unfold maxLen at hcm;have z1:¬((i:Int)=(L.length:Int)):=by omega
 have z2:¬((cap:Int)<(L.length:Int)+1):=by omega
 have z3:¬(cap=i):=by omega
 have z4:¬(cap=i+1):=by omega
 have hov:∀lb cb,(callFunc 83 #[.slice (some ⟨gx,0,none⟩) 1 1,.slice (some ⟨g,(i+1)*3,none⟩) lb cb]).run Tryz.prog w=.ok (.value (.bool false)) w:=fun lb cb=>by
  obtain⟨cur,hg,hcs⟩:=hr;have hsx:w.shape? gx=some (82,3):=by simp[World.shape?,hx,enC]
  have hsg:w.shape? g=some (82,cap*3):=by simp[World.shape?,hg,hcs]
  rw[run_callFunc_extern Tryz.func83 (by kernel_rfl) (by kernel_rfl) (by kernel_rfl) (e:=Extern.SlicesOverlaps.overlaps #[78,78] #[4]) (by kernel_rfl),
   Lib.run_overlaps_apart w 78 4 82 Tryz.underlying78 3 (fun w=>by kernel_rfl) ⟨gx,0,none⟩ ⟨g,(i+1)*3,none⟩ 1 1 lb cb hne _ _ _ _ hsx hsg (by omega) (Zf hx _) (Zf hx _)]
  rfl
 have hdl:(L.drop i).length=L.length - i:=List.length_drop;have hxl:Yb w gx 0 [x]:=fun j u hj=>by rw[cell_of_row _ _ _ _ _ _ hx,Nat.zero_mul,Nat.zero_add];rw[enV_one] at hj;simpa using hj
 have hcp1:∀ty dc sc,(Builtin.copy_ #[78,78] ty #[.slice (some ⟨g,(i+1)*3,none⟩) (L.length - i) dc,.slice (some ⟨g,i*3,none⟩) (L.length+1 - i) sc]).run Tryz.prog w.drew=.ok (.int .i64 ((L.length - i:Nat):Int)) (w.drew.setCells g ((i+1)*3) (enV (L.drop i))):=fun ty dc sc=>by have hd:=hl.drop i;rw[Nat.zero_add] at hd;have:=Qo (w:=w.drew) (p:=i+1) (M:=L.drop i) (hr.keep rfl) ty (L.length - i) dc (.slice (some ⟨g,i*3,none⟩) (L.length+1 - i) sc) (L.length+1 - i) (fun _=>rfl) (by omega) (hd.firsts _ _ w.drew rfl) (by omega);rw[hdl] at this;exact this
 have hr1:Zbg (w.drew.setCells g ((i+1)*3) (enV (L.drop i))) g cap:=Zbg.set (hr.keep rfl) (by omega);have hcp2:∀(W:World),(W.heap=(w.drew.setCells g ((i+1)*3) (enV (L.drop i))).heap)→∀ty dc,(Builtin.copy_ #[78,78] ty #[.slice (some ⟨g,i*3,none⟩) (L.length+1 - i) dc,.slice (some ⟨gx,0,none⟩) 1 1]).run Tryz.prog W=.ok (.int .i64 ((1:Nat):Int)) (W.setCells g (i*3) (enV [x])):=fun W hW ty dc=>by have hx1:Yb W gx 0 [x]:=hxl.keep (by rw[hW];exact Xg _ _ _ _ _ hne);have:=Qo (w:=W) (p:=i) (M:=[x]) (hr1.keep (by rw[hW])) ty (L.length+1 - i) dc (.slice (some ⟨gx,0,none⟩) 1 1) 1 (fun _=>rfl) (by simp;omega) (hx1.firsts _ _ W rfl) (by simp;omega);exact this
 have l1:Yb (w.drew.setCells g ((i+1)*3) (enV (L.drop i))) g 0 (L.take i):=Yb.set_out (w:=w.drew) (hr.keep rfl) (by omega) ((hl.take i).keep rfl) (.inl (by rw[List.length_take];omega));have l2:Yb (w.drew.setCells g ((i+1)*3) (enV (L.drop i))) g (i+1) (L.drop i):=Yb.set_in (w:=w.drew) (hr.keep rfl) (by omega);have ht1:Zb (·=g) w (w.drew.setCells g ((i+1)*3) (enV (L.drop i))):=((Zb.refl _ w).drew.trans (Zu _ _ _ _));generalize hw2:w.drew.setCells g ((i+1)*3) (enV (L.drop i))=w2 at *;have hlt:(L.take i).length=i:=by rw[List.length_take];omega
 have hfin:Zq B (w2.setCells g (i*3) (enV [x])) (.slice (some ⟨g,0,none⟩) (L.length+1) cap) (L.take i++x::L.drop i):=by
  have hll:(L.take i++x::L.drop i).length=L.length+1:=by simp;omega
  have h1:Yb (w2.setCells g (i*3) (enV [x])) g 0 (L.take i++([x]++L.drop i)):=by refine(Yb.set_out hr1 (by simp;omega) l1 (.inl (by omega))).append ?_;rw[hlt,Nat.zero_add];exact(Yb.set_in hr1 (by simp;omega)).append (Yb.set_out hr1 (by simp;omega) l2 (.inr (Nat.le_refl _)))
  have:=Yb.mine (B:=B) (hr1.set (by simp;omega)) h1 (by simp at hll ⊢;omega) (by unfold maxLen;omega) hBg;rw[show (L.take i++([x]++L.drop i)).length=L.length+1 from hll] at this
  exact this
 have HF:Hid (Zar B w (.slice (some ⟨g,0,none⟩) L.length cap) (L.take i++x::L.drop i) (.returned (.slice (some ⟨g,0,none⟩) (L.length+1) cap)) (w2.setCells g (i*3) (enV [x]))):=Hd ⟨_,rfl,hfin,(ht1.trans (Zu _ _ _ _)).mono fun k _ hk=>by rw[hk];rfl,.inl rfl⟩;clear hfin ht1 hdl hw2 l1 l2 hr1 hr hl hxl hown hx hlt;go_enter Tryz.func43,Tryz.ntmps43;have hw1:IntKind.i64.wrap ((i:Int)+1)=(i:Int)+1:=by rw[IntKind.wrap_i64];omega
 have hb1:(0:Int)≤(i:Int)+1:=by omega
 have hb2:(i:Int)≤(L.length:Int)+1:=by omega
 have hb3:(i:Int)+1≤(L.length:Int)+1:=by omega
 have htn:((i:Int)+1).toNat=i+1:=by omega
 go_wp2_with (simp only[hov]);go_region_law (refine step_copy_runI rfl _ _ 78 78 rfl _ _ (by simp[Act.eval,Act.put]) (by simp[Act.eval,Act.put]) (hcp1 _ _ _) ?_);go_wp2_with (at_builtin;refine wpList_copy_runI _ rfl _ _ 78 78 rfl _ _ rfl rfl (hcp2 _ rfl _ _) ?_);go_ret;exact HF.out
theorem einsert_grow (i:Nat) (hown:Zq B w (.slice (some ⟨g,0,none⟩) L.length cap) L) (hx:w.heap[gx]?=some (.cells (enC x).toArray 82 (0,0))) (hB:B≤w.heap.size)
  (hi:i<L.length) (hroom:cap<L.length+1) (hlen:L.length≤100000) :
  Calls Tryz.prog 43 #[.slice (some ⟨g,0,none⟩) L.length cap,.int .i64 (i:Int),.slice (some ⟨gx,0,none⟩) 1 1] w (Zar B w (.slice (some ⟨g,0,none⟩) L.length cap) (L.take i++x::L.drop i)):=by
 obtain⟨hr,hl,hBg,hc1,hcm,_⟩:=hown.lies;have z1:¬((i:Int)=(L.length:Int)):=by omega
 have z2:(cap:Int)<(L.length:Int)+1:=by omega
 have z3:¬(cap=i):=by omega
 have hkk:(L.length:Int)+1 - (i:Int)=((L.length+1 - i:Nat):Int):=by omega
 have hik:i+(L.length+1 - i)=L.length+1:=by omega
 obtain⟨G,ROW,hrz,hr1,l1,hGn,hGm⟩:=run_zeros_en hr hl i (L.length+1 - i) (by omega) (by omega) (by omega) (by omega) hcm;rw[hik] at hrz hGn;rw[←hkk] at hrz;unfold maxLen at hcm;have hsg:=hr.lt
 have hsx:=Za hx;have hdl:(L.drop i).length=L.length - i:=List.length_drop;have hlt:(L.take i).length=i:=by rw[List.length_take];omega
 have hxl:Yb w gx 0 [x]:=fun j u hj=>by rw[cell_of_row _ _ _ _ _ _ hx,Nat.zero_mul,Nat.zero_add];rw[enV_one] at hj;simpa using hj
 have b1:Below w.heap.size w (w.drew.alloc (.cells ROW 82)):=(Below.refl _ _).drew.alloc (Nat.le_refl _) _;have hxl1:=hxl.keep (b1.block gx hsx);have hl1:=hl.keep (b1.block g hsg);have Hrz:=Hd hrz;clear hrz hkk;generalize hW1:w.drew.alloc (.cells ROW 82)=W1 at *;generalize hsw:w.heap.size=s at *
 have hcp1:∀(W:World),W.heap=W1.heap→∀ty dc,(Builtin.copy_ #[78,78] ty #[.slice (some ⟨s,i*3,none⟩) (L.length+1 - i) dc,.slice (some ⟨gx,0,none⟩) 1 1]).run Tryz.prog W=.ok (.int .i64 ((1:Nat):Int)) (W.setCells s (i*3) (enV [x])):=fun W hW ty dc =>
  Qo (w:=W) (p:=i) (M:=[x]) (hr1.keep (by rw[hW])) ty (L.length+1 - i) dc (.slice (some ⟨gx,0,none⟩) 1 1) 1 (fun _=>rfl) (by simp;omega) (hxl1.firsts _ _ W hW) (by simp;omega)
 have hr2:Zbg (W1.setCells s (i*3) (enV [x])) s G:=hr1.set (by simp;omega);have l2a:Yb (W1.setCells s (i*3) (enV [x])) s 0 (L.take i):=Yb.set_out hr1 (by simp;omega) l1 (.inl (by omega));have l2b:Yb (W1.setCells s (i*3) (enV [x])) s i [x]:=Yb.set_in hr1 (by simp;omega);have hl2:Yb (W1.setCells s (i*3) (enV [x])) g 0 L:=hl1.keep (Xg _ _ _ _ _ (by omega));have ht2:=Zu W1 s (i*3) (enV [x]);have hcp2:∀(W:World),W.heap=(W1.setCells s (i*3) (enV [x])).heap→∀ty dc sc,(Builtin.copy_ #[78,78] ty #[.slice (some ⟨s,(i+1)*3,none⟩) (L.length - i) dc,.slice (some ⟨g,i*3,none⟩) (L.length - i) sc]).run Tryz.prog W=.ok (.int .i64 ((L.length - i:Nat):Int)) (W.setCells s ((i+1)*3) (enV (L.drop i))):=fun W hW ty dc sc=>by have hd:=(hl2.drop i).keep (w':=W) (by rw[hW]);rw[Nat.zero_add] at hd;have:=Qo (w:=W) (p:=i+1) (M:=L.drop i) (hr2.keep (by rw[hW])) ty (L.length - i) dc (.slice (some ⟨g,i*3,none⟩) (L.length - i) sc) (L.length - i) (fun _=>rfl) (by omega) (hd.firsts _ _ W rfl) (by omega);rw[hdl] at this;exact this
 have HF:Hid (Zar B w (.slice (some ⟨g,0,none⟩) L.length cap) (L.take i++x::L.drop i) (.returned (.slice (some ⟨s,0,none⟩) (L.length+1) G)) ((W1.setCells s (i*3) (enV [x])).drew.setCells s ((i+1)*3) (enV (L.drop i)))):=Hd (by
  have hll:(L.take i++x::L.drop i).length=L.length+1:=by simp;omega
  have hr2':Zbg (W1.setCells s (i*3) (enV [x])).drew s G:=hr2.keep rfl;have h1:Yb ((W1.setCells s (i*3) (enV [x])).drew.setCells s ((i+1)*3) (enV (L.drop i))) s 0 (L.take i++([x]++L.drop i)):=by refine(Yb.set_out hr2' (by omega) (l2a.keep rfl) (.inl (by omega))).append ?_;rw[hlt,Nat.zero_add];exact(Yb.set_out hr2' (by omega) (l2b.keep rfl) (.inl (by simp))).append (Yb.set_in hr2' (by omega))
  have:=Yb.mine (B:=B) (hr2'.set (by omega)) h1 (by simp at hll ⊢;omega) hGm hB;rw[show (L.take i++([x]++L.drop i)).length=L.length+1 from hll] at this
  refine⟨_,rfl,this,?_,.inr ⟨s,rfl,by omega⟩⟩;have t3:Zb (·=s) W1 ((W1.setCells s (i*3) (enV [x])).drew.setCells s ((i+1)*3) (enV (L.drop i))):=ht2.drew.trans (Zu _ _ _ _)
  subst hsw
  exact(Zb.of_below b1).then t3 fun k hk e=>by omega)
 have HS:=Hd hsw;have HW1:=Hd hW1;have hc1':=hcp1 W1 rfl;have HC2:=Hd hcp2;clear hcp1 hcp2 l2a l2b hl2 ht2 hr2 hdl hlt hxl hxl1 hl1 b1 hsw hW1 hx hown hr hl hr1 l1;have hw1:IntKind.i64.wrap ((i:Int)+1)=(i:Int)+1:=by rw[IntKind.wrap_i64];omega
 have hb1:(0:Int)≤(i:Int)+1:=by omega
 have hb2:(i:Int)≤(L.length:Int)+1:=by omega
 have hb3:(i:Int)+1≤(L.length:Int)+1:=by omega
 have hb4:(i:Int)≤(L.length:Int):=by omega
 have hgi:¬(G=i):=by omega
 have hgi1:¬(G=i+1):=by omega
 have htn:((i:Int)+1).toNat=i+1:=by omega
 go_enter Tryz.func43,Tryz.ntmps43;go_wp2_with (at_builtin;refine Lib.wpList_append_run _ rfl _ _ _ _ rfl _ _ rfl rfl _ _ (Hrz.out _) ?_);go_region_law (refine step_copy_runI rfl _ _ 78 78 rfl (.slice (some ⟨s,(i+1)*3,none⟩) (L.length+1 - (i+1)) (G - (i+1))) (.slice (some ⟨g,i*3,none⟩) (L.length - i) (cap - i)) (by simp[Act.eval,Act.put]) (by simp[Act.eval,Act.put]) (by rw[show L.length+1 - (i+1)=L.length - i by omega];exact HC2.out (W1.setCells s (i*3) (enV [x])).drew rfl _ _ _) ?_)
 go_wp2;go_ret;exact HF.out
theorem einsert_end {v:Value} (hown:Zq B w v L) (hx:w.heap[gx]?=some (.cells (enC x).toArray 82 (0,0))) (hB:B≤w.heap.size) (hlen:L.length≤100000) :
  Calls Tryz.prog 43 #[v,.int .i64 (L.length:Int),.slice (some ⟨gx,0,none⟩) 1 1] w (Zar B w v (L++[x])):=by
 have hxe:IsE w (.slice (some ⟨gx,0,none⟩) 1 1) [x]:=by
  refine⟨_,1,rfl,Nat.le_refl _,by simp[maxLen],fun h=>(by cases h),?_⟩;rintro y ⟨⟩;refine⟨fun _=>rfl,fun i hi=>?_⟩;obtain rfl:i=0:=by simpa using hi
  exact⟨by rw[cell_of_row _ _ _ _ _ _ hx];rfl,by rw[cell_of_row _ _ _ _ _ _ hx];rfl,by rw[cell_of_row _ _ _ _ _ _ hx];rfl⟩
 obtain⟨v',w1,hr,hm,hg,ho⟩:=hown.app hxe hB (by simp;omega);have HE:=Hd (Zar.of_grown hm hg ho)
 obtain⟨a,cap,rfl,hlc,hmx⟩:=hown.isE.form;unfold maxLen at hmx;have hbe:((L.length:Int)==(L.length:Int))=true:=by simp
 clear hown hx hxe hm hg ho;by_cases hcl:cap=L.length
 ·subst hcl;go_enter Tryz.func43,Tryz.ntmps43;go_wp2_with (at_builtin;refine Lib.wpList_append_run _ rfl _ _ _ _ rfl _ _ rfl rfl _ _ hr ?_;clear hr);go_ret;exact HE.out
 ·go_enter Tryz.func43,Tryz.ntmps43;go_wp2_with (at_builtin;refine Lib.wpList_append_run _ rfl _ _ _ _ rfl _ _ rfl rfl _ _ hr ?_;clear hr);go_ret;exact HE.out
theorem einsert_any {v:Value} (i:Nat) (hown:Zq B w v L) (hx:w.heap[gx]?=some (.cells (enC x).toArray 82 (0,0))) (hne:v.ownBlock≠some gx) (hB:B≤w.heap.size)
  (hi:i≤L.length) (hlen:L.length≤100000) :
  Calls Tryz.prog 43 #[v,.int .i64 (i:Int),.slice (some ⟨gx,0,none⟩) 1 1] w (Zar B w v (L.take i++x::L.drop i)):=by
 by_cases he:i=L.length
 ·subst he;rw[List.take_length,List.drop_length];exact einsert_end hown hx hB hlen
 ·rcases hown.form with ⟨_,hn⟩ | ⟨g,cap,rfl,hnc,hcm,_⟩
  ·subst hn;simp at hi;subst hi;exact absurd rfl he
  ·have hne':gx≠g:=fun e=>hne (by rw[e];rfl)
   by_cases hr:L.length+1≤cap
   ·exact einsert_shift i hown hx hne' (by omega) hr (by omega)
   ·exact einsert_grow i hown hx hB (by omega) (by omega) (by omega)
theorem Zcp {ops:Array Oper} {w w':World} {K:Act→World→Prop} {Q:Exit→Act→World→Prop} {a:Act} {o:Oper} {E:Prop} (hg:o.guard=none) (s x:Operand) (t t':TypeId) (ho:o.op=.call { callee:=.builtin .append,args:=#[s,x],argTypes:=#[t,t'] }) (u v r:Value)
  (hs:a.eval s=u) (hx:a.eval x=v) (hr:(Builtin.append_ #[t,t'] o.type #[u,v]).run Tryz.prog w=.ok r w') (h:K (a.put o.dst r) w'):if Region.wanted o (yielded ops a.tmps)=true then Oper.wp Tryz.prog o a w K Q else E:=by
 rw[if_pos (by simp[Region.wanted,hg])];unfold Oper.wp execOp;simp only[ho,resolve,invoke,builtin,Sem.run_bind,Sem.run_pure,Result.andThen_ok,List.map_toArray,List.map_cons,List.map_nil,hs,hx,hr];exact h
theorem edelete_row (i:Nat) (hown:Zq B w (.slice (some ⟨g,0,none⟩) L.length cap) L) (hi:i<L.length) (hlen:L.length≤100000) :
  Calls Tryz.prog 45 #[.slice (some ⟨g,0,none⟩) L.length cap,.int .i64 (i:Int),.int .i64 ((i+1:Nat):Int)] w (Zar B w (.slice (some ⟨g,0,none⟩) L.length cap) (L.take i++L.drop (i+1))):=by
 obtain⟨hr,hl,hBg,hc1,hcm,_⟩:=hown.lies;unfold maxLen at hcm;obtain⟨m,hm⟩:∃m,L.length=m+1:=⟨L.length - 1,by omega⟩;have hdl:(L.drop (i+1)).length=m - i:=by rw[List.length_drop];omega
 have hlt:(L.take i).length=i:=by rw[List.length_take];omega
 have him:i+(m - i)=m:=by omega
 have hr1:Zbg (w.drew.setCells g (i*3) (enV (L.drop (i+1)))) g cap:=Zbg.set (hr.keep rfl) (by omega);have l1:Yb (w.drew.setCells g (i*3) (enV (L.drop (i+1)))) g 0 (L.take i++L.drop (i+1)):=by refine(Yb.set_out (w:=w.drew) (hr.keep rfl) (by omega) ((hl.take i).keep rfl) (.inl (by omega))).append ?_;rw[hlt,Nat.zero_add];exact Yb.set_in (w:=w.drew) (hr.keep rfl) (by omega)
 have ht1:Zb (·=g) w (w.drew.setCells g (i*3) (enV (L.drop (i+1)))):=(Zb.refl _ w).drew.trans (Zu _ _ _ _);have hap:∀ty (src:Value),Src Tryz.prog 3 78 src (m - i) (enV (L.drop (i+1))) w.drew→(Builtin.append_ #[78,78] ty #[.slice (some ⟨g,0,none⟩) i cap,src]).run Tryz.prog w.drew=.ok (.slice (some ⟨g,0,none⟩) m cap) (w.drew.setCells g (i*3) (enV (L.drop (i+1)))):=fun ty src hs=>by have:=Zen (w:=w.drew) (M:=L.drop (i+1)) (hr.keep rfl) ty i cap src (by rw[hdl];exact hs) (by omega) rfl;rw[hdl,him] at this;exact this
 have hcl:∀(W:World),W.heap=(w.drew.setCells g (i*3) (enV (L.drop (i+1)))).heap→∀ty c,(Builtin.clear_ #[78] ty #[.slice (some ⟨g,m*3,none⟩) (L.length - m) c]).run Tryz.prog W=.ok (.tuple #[]) (W.setCells g (m*3) (enV (List.replicate 1 Zdr))):=fun W hW ty c=>by
  rw[show L.length - m=1 by omega]
  exact Zgk (w:=W) (p:=m) (hr1.keep (by rw[hW])) ty 1 c (by omega) (by omega)
 have HF:Hid (Zar B w (.slice (some ⟨g,0,none⟩) L.length cap) (L.take i++L.drop (i+1)) (.returned (.slice (some ⟨g,0,none⟩) m cap)) ((w.drew.setCells g (i*3) (enV (L.drop (i+1)))).setCells g (m*3) (enV (List.replicate 1 Zdr)))):=Hd (by
  have hll:(L.take i++L.drop (i+1)).length=m:=by rw[List.length_append];omega
  have h1:=Yb.set_out (M:=List.replicate 1 Zdr) (p:=m) hr1 (by simp;omega) l1 (.inl (by omega));have:=Yb.mine (B:=B) (hr1.set (p:=m) (M:=List.replicate 1 Zdr) (by simp;omega)) h1 (by omega) (by unfold maxLen;omega) hBg;rw[hll] at this
  exact⟨_,rfl,this,(ht1.trans (Zu _ _ _ _)).mono fun k _ hk=>by rw[hk];rfl,.inl rfl⟩)
 have hs1:cap=i+1→Src Tryz.prog 3 78 (.slice (some ⟨g,0,none⟩) 0 0) (m - i) (enV (L.drop (i+1))) w.drew:=fun e=>by
  have e0:L.drop (i+1)=[]:=List.drop_eq_nil_of_le (by omega);rw[e0,show m - i=0 by omega]
  exact Yb.src (w:=w.drew) (g:=g) (o:=0) Yb.nil 0 0 rfl
 have hs2:∀n c,n=m - i→Src Tryz.prog 3 78 (.slice (some ⟨g,(i+1)*3,none⟩) n c) (m - i) (enV (L.drop (i+1))) w.drew:=fun n c e=>by have h1:=(hl.drop (i+1)).keep (w':=w.drew) rfl;rw[Nat.zero_add] at h1;have:=Yb.src h1 n c (by omega);rw[hdl] at this;exact this
 have HAP:=Hd hap;have HCL:=Hd hcl;have HS1:=Hd hs1;have HS2:=Hd hs2;have HM:=Hd hm;have z1:¬((i:Int)=((i+1:Nat):Int)):=by omega
 have z5:¬(cap=m):=by omega
 have hb1:((i+1:Nat):Int)≤(L.length:Int):=by omega
 have hb2:(i:Int)≤(L.length:Int):=by omega
 have hb3:(L.length:Int)≤(cap:Int):=by omega
 have hb4:(m:Int)≤(L.length:Int):=by omega
 generalize L.length=N at *;clear hap hcl hs1 hs2 hm hdl hlt him hr1 l1 ht1 hown hr hl;by_cases hcj:cap=i+1
 ·subst hcj
  go_enter Tryz.func45,Tryz.ntmps45;go_wp2_with fail;have htn:((i:Int)+1).toNat=i+1:=by omega
  have hw0:(0:Int)≤(i:Int)+1:=by omega
  have hw3:(i:Int)≤(i:Int)+1:=by omega
  have hw4:(i:Int)≤((i+1:Nat):Int):=by omega
  have hw5:(i:Int)+1≤(N:Int):=by omega
  go_region_law (refine Zcp rfl (.tmp 22) (.tmp 25) 78 78 rfl _ _ _ (by rfl) (by rfl) (HAP.out _ _ (by first | exact HS1.out rfl | exact HS1.out trivial)) ?_);have hcl:=HCL.out _ rfl 0 ((i+1) - m)
  go_wp2_with (simp only[hcl]);go_ret;exact HF.out
 ·go_enter Tryz.func45,Tryz.ntmps45
  go_wp2_with fail;have htn:((i:Int)+1).toNat=i+1:=by omega
  have hw0:(0:Int)≤(i:Int)+1:=by omega
  have hw3:(i:Int)≤(i:Int)+1:=by omega
  have hw4:(i:Int)≤(cap:Int):=by omega
  have hw5:(i:Int)+1≤(N:Int):=by omega
  go_region_law (refine Zcp rfl (.tmp 22) (.tmp 25) 78 78 rfl _ _ _ (by rfl) (by rfl) (HAP.out _ _ (HS2.out _ _ (by have:=HM.out;omega))) ?_);have hcl:=HCL.out _ rfl 0 (cap - m)
  go_wp2_with (simp only[hcl]);go_ret;exact HF.out
theorem edelete_any {v:Value} (i:Nat) (hown:Zq B w v L) (hi:i<L.length) (hlen:L.length≤100000) :
  Calls Tryz.prog 45 #[v,.int .i64 (i:Int),.int .i64 ((i+1:Nat):Int)] w (Zar B w v (L.take i++L.drop (i+1))):=by
 rcases hown.form with ⟨_,hn⟩ | ⟨g,cap,rfl,hnc,hcm,_⟩
 ·subst hn;simp at hi
 ·exact edelete_row i hown hi hlen
end
end
section
open Go.RowKit Go.Deep
section
variable {B : Nat} {w : World} {g cap : Nat} {L M : List En}
theorem run_clear_nil (ty:TypeId) (a:Option Addr) (c:Nat):(Builtin.clear_ #[78] ty #[.slice a 0 c]).run Tryz.prog w=.ok (.tuple #[]) w:=by
 unfold Builtin.clear_;have hzv:∀w,(zeroValue 82).run Tryz.prog w=.ok (.agg #[.string ⟨#[]⟩,.string ⟨#[]⟩,.int .i64 0]) w:=fun w=>by kernel_rfl
 cases a<;>simp[run_underlying Tryz.underlying78,hzv]
theorem erep_end_room (i m cu:Nat) (a:Option Addr) (hown:Zq B w (.slice (some ⟨g,0,none⟩) L.length cap) L) (hu:IsE w (.slice a m cu) M) (hm:m=M.length) (hi:i<L.length) (hroom:i+m≤cap) (hlen:L.length≤100000) (hlm:m≤100000) :
  Calls Tryz.prog 106 #[.slice (some ⟨g,0,none⟩) L.length cap,.int .i64 (i:Int),.int .i64 (L.length:Int),.slice a m cu] w (Zar B w (.slice (some ⟨g,0,none⟩) L.length cap) (L.take i++M)):=by
 obtain⟨hr,hl,hBg,hc1,hcm,_⟩:=hown.lies;have hlt:(L.take i).length=i:=by rw[List.length_take];omega
 have hap:∀ty,(Builtin.append_ #[78,78] ty #[.slice (some ⟨g,0,none⟩) i cap,.slice a m cu]).run Tryz.prog w=.ok (.slice (some ⟨g,0,none⟩) (i+m) cap) (w.setCells g (i*3) (enV M)):=fun ty=>by have:=Zen hr ty i cap (.slice a m cu) hu.src (by omega) rfl;rw[←hm] at this;exact this
 have hr1:Zbg (w.setCells g (i*3) (enV M)) g cap:=hr.set (by omega);have l1:Yb (w.setCells g (i*3) (enV M)) g 0 (L.take i++M):=by refine(Yb.set_out hr (by omega) (hl.take i) (.inl (by omega))).append ?_;rw[hlt,Nat.zero_add];exact Yb.set_in hr (by omega)
 have hll:(L.take i++M).length=i+m:=by rw[List.length_append];omega
 have ht1:=Zu w g (i*3) (enV M)
 have hcl:i+m<L.length→∀ty c,(Builtin.clear_ #[78] ty #[.slice (some ⟨g,(i+m)*3,none⟩) (L.length - (i+m)) c]).run Tryz.prog (w.setCells g (i*3) (enV M))=.ok (.tuple #[]) ((w.setCells g (i*3) (enV M)).setCells g ((i+m)*3) (enV (List.replicate (L.length - (i+m)) Zdr))):=fun hlt ty c =>
  Zgk (p:=i+m) hr1 ty _ c (by omega) (by omega)
 have HF:∀W:World,Zbg W g cap→Yb W g 0 (L.take i++M)→Zb (·=g) w W→Hid (Zar B w (.slice (some ⟨g,0,none⟩) L.length cap) (L.take i++M) (.returned (.slice (some ⟨g,0,none⟩) (i+m) cap)) W):=fun W h1 h2 h3=>Hd (by
  have:=Yb.mine (B:=B) h1 h2 (by omega) hcm hBg;rw[hll] at this
  exact⟨_,rfl,this,h3.mono fun k _ hk=>by rw[hk];rfl,.inl rfl⟩)
 have HE1:=HF _ hr1 l1 ht1
 have HE2:i+m<L.length→Hid (Zar B w (.slice (some ⟨g,0,none⟩) L.length cap) (L.take i++M) (.returned (.slice (some ⟨g,0,none⟩) (i+m) cap)) ((w.setCells g (i*3) (enV M)).setCells g ((i+m)*3) (enV (List.replicate (L.length - (i+m)) Zdr)))):=fun h =>
  HF _ (hr1.set (p:=i+m) (by simp;omega)) (Yb.set_out (p:=i+m) hr1 (by simp;omega) l1 (.inl (by omega))) (ht1.trans (Zu _ _ _ _))
 unfold maxLen at hcm;have HAP:=Hd hap
 have z1:¬((i:Int)=(L.length:Int)):=by omega
 have hb2:(i:Int)≤(L.length:Int):=by omega
 have hb3:(L.length:Int)≤(cap:Int):=by omega
 have hb4:(i:Int)≤(cap:Int):=by omega
 have zc:¬(cap=i):=by omega
 clear HF hown hu hr hl hap hr1 l1 hll ht1 hlt;by_cases hs:i+m<L.length
 ·have hcl2:=Hd (hcl hs)
  have HE:=HE2 hs;clear HE1 HE2 hcl;have hm':=Hd hm;clear hm;have q1:((i:Int)+(m:Int))<(L.length:Int):=by omega
  have q2:¬(cap=i+m):=by omega
  have q3:((i:Int)+(m:Int))≤(L.length:Int):=by omega
  have q5:(0:Int)≤((i:Int)+(m:Int)):=by omega
  have q4:((i:Int)+(m:Int)).toNat=i+m:=by omega
  generalize L.length=N at *;go_enter Tryz.func106,Tryz.ntmps106;have hr:=HAP.out 78
  have hcl:=hcl2.out 0 (cap - (i+m));go_wp2_with (first | (at_builtin;refine Lib.wpList_append_run _ rfl _ _ _ _ rfl _ _ rfl rfl _ _ hr ?_;clear hr) | (simp only[hcl]));go_ret;exact HE.out
 ·have HE:=HE1
  clear HE1 HE2 hcl;have hm':=Hd hm
  clear hm;have q1:¬((i:Int)+(m:Int))<(L.length:Int):=by omega
  generalize L.length=N at *;go_enter Tryz.func106,Tryz.ntmps106;have hr:=HAP.out 78
  go_wp2_with (at_builtin;refine Lib.wpList_append_run _ rfl _ _ _ _ rfl _ _ rfl rfl _ _ hr ?_;clear hr);go_ret;exact HE.out
theorem erep_end_grow (i m cu:Nat) (a:Option Addr) (hown:Zq B w (.slice (some ⟨g,0,none⟩) L.length cap) L) (hu:IsE w (.slice a m cu) M) (hm:m=M.length) (hi:i<L.length) (hroom:cap<i+m) (hB:B≤w.heap.size) (hlen:L.length≤100000) (hlm:m≤100000) :
  Calls Tryz.prog 106 #[.slice (some ⟨g,0,none⟩) L.length cap,.int .i64 (i:Int),.int .i64 (L.length:Int),.slice a m cu] w (Zar B w (.slice (some ⟨g,0,none⟩) L.length cap) (L.take i++M)):=by
 obtain⟨hr,hl,hBg,hc1,hcm,_⟩:=hown.lies;have hlt:(L.take i).length=i:=by rw[List.length_take];omega
 have hpre:Zq B w (.slice (some ⟨g,0,none⟩) i cap) (L.take i):=by have:=Yb.mine (B:=B) hr (hl.take i) (by omega) hcm hBg;rw[hlt] at this;exact this
 obtain⟨v',w1,hap,hm1,hg,ho⟩:=hpre.app hu hB (by omega);have HE:Hid (Zar B w (.slice (some ⟨g,0,none⟩) L.length cap) (L.take i++M) (.returned v') w1):=Hd (Zar.of_grown (v:=.slice (some ⟨g,0,none⟩) L.length cap) hm1 hg ho)
 obtain⟨a',cap',hv',hlc,hmx⟩:=hm1.isE.form;have hll:(L.take i++M).length=i+m:=by rw[List.length_append];omega
 rw[hll] at hv';subst hv';unfold maxLen at hcm;have z1:¬((i:Int)=(L.length:Int)):=by omega
 have hb2:(i:Int)≤(L.length:Int):=by omega
 have hb3:(L.length:Int)≤(cap:Int):=by omega
 have hb4:(i:Int)≤(cap:Int):=by omega
 have zc:¬(cap=i):=by omega
 have q1:¬((i:Int)+(m:Int))<(L.length:Int):=by omega
 have hr2:=Hd hap;clear hown hu hr hl hap hll hlt hpre hm1 hg ho hlc hmx hm;generalize L.length=N at *;go_enter Tryz.func106,Tryz.ntmps106;have hr:=hr2.out;go_wp2_with (at_builtin;refine Lib.wpList_append_run _ rfl _ _ _ _ rfl _ _ rfl rfl _ _ hr ?_;clear hr);go_ret;exact HE.out
theorem erep_grow (i j m cu:Nat) (a:Option Addr) (hown:Zq B w (.slice (some ⟨g,0,none⟩) L.length cap) L) (hu:IsE w (.slice a m cu) M) (hm:m=M.length) (hij:i<j) (hj:j<L.length) (hroom:cap<i+m+(L.length - j)) (hB:B≤w.heap.size) (hlen:L.length≤100000) (hlm:m≤100000) :
  Calls Tryz.prog 106 #[.slice (some ⟨g,0,none⟩) L.length cap,.int .i64 (i:Int),.int .i64 (j:Int),.slice a m cu] w (Zar B w (.slice (some ⟨g,0,none⟩) L.length cap) (L.take i++(M++L.drop j))):=by
 obtain⟨hr,hl,hBg,hc1,hcm,_⟩:=hown.lies;obtain⟨Q,hQ⟩:∃Q,Q=L.length - j:=⟨_,rfl⟩;rw[←hQ] at hroom;have hlt:(L.take i).length=i:=by rw[List.length_take];omega
 have hdl:(L.drop j).length=Q:=by rw[List.length_drop];omega
 obtain⟨G,ROW,hrz,hr1,l1,hGn,hGm⟩:=run_zeros_en (w:=w.drew) (hr.keep rfl) (hl.keep rfl) i (m+Q) (by omega) (by omega) (by omega) (by omega) hcm;have hkk:(i:Int)+(m:Int)+(Q:Int) - (i:Int)=((m+Q:Nat):Int):=by omega
 have hrz2:∀ty,(Builtin.append_ #[78,3] ty #[.slice (some ⟨g,0,none⟩) i cap,.int .i64 ((i:Int)+(m:Int)+(Q:Int) - (i:Int))]).run Tryz.prog w.drew=.ok (.slice (some ⟨w.heap.size,0,none⟩) (i+(m+Q)) G) (w.drew.drew.alloc (.cells ROW 82)):=fun ty=>by rw[hkk];exact hrz ty
 have hr1':Zbg (w.drew.drew.alloc (.cells ROW 82)) w.heap.size G:=hr1;have l1':Yb (w.drew.drew.alloc (.cells ROW 82)) w.heap.size 0 (L.take i):=l1;clear hr1 l1 hrz hkk;unfold maxLen at hcm;have hsg:=hr.lt;have b1:Below w.heap.size w (w.drew.drew.alloc (.cells ROW 82)):=(Below.refl _ _).drew.drew.alloc (Nat.le_refl _) _;have hu1:=hu.below b1;have hl1:=hl.keep (b1.block g hsg);generalize hW1:w.drew.drew.alloc (.cells ROW 82)=W1 at *;generalize hsw:w.heap.size=s at *;have hcp1:∀nd ty dc,nd=m+Q→(Builtin.copy_ #[78,78] ty #[.slice (some ⟨s,i*3,none⟩) nd dc,.slice a m cu]).run Tryz.prog W1=.ok (.int .i64 ((m:Nat):Int)) (W1.setCells s (i*3) (enV M)):=fun nd ty dc hnd=>by have:=Qo (w:=W1) (p:=i) (M:=M) hr1' ty nd dc (.slice a m cu) m (fun _=>rfl) (by omega) (hu1.firsts _ rfl) (by omega);rw[←hm] at this;exact this
 have hr2:Zbg (W1.setCells s (i*3) (enV M)) s G:=hr1'.set (by omega);have l2a:Yb (W1.setCells s (i*3) (enV M)) s 0 (L.take i):=Yb.set_out hr1' (by omega) l1' (.inl (by omega));have l2b:Yb (W1.setCells s (i*3) (enV M)) s i M:=Yb.set_in hr1' (by omega);have hl2:Yb (W1.setCells s (i*3) (enV M)) g 0 L:=hl1.keep (Xg _ _ _ _ _ (by omega));have ht2:=Zu W1 s (i*3) (enV M);generalize hW2:W1.setCells s (i*3) (enV M)=W2 at *;have hcp2:∀(W:World),W.heap=W2.heap→∀nd ty dc sc,nd=Q→(Builtin.copy_ #[78,78] ty #[.slice (some ⟨s,(i+m)*3,none⟩) nd dc,.slice (some ⟨g,j*3,none⟩) (L.length - j) sc]).run Tryz.prog W=.ok (.int .i64 ((Q:Nat):Int)) (W.setCells s ((i+m)*3) (enV (L.drop j))):=fun W hW nd ty dc sc hnd=>by have hd:=(hl2.drop j).keep (w':=W) (by rw[hW]);rw[Nat.zero_add] at hd;have:=Qo (w:=W) (p:=i+m) (M:=L.drop j) (hr2.keep (by rw[hW])) ty nd dc (.slice (some ⟨g,j*3,none⟩) (L.length - j) sc) (L.length - j) (fun _=>rfl) (by omega) (hd.firsts _ _ W rfl) (by omega);rw[hdl] at this;exact this
 have HF:Hid (Zar B w (.slice (some ⟨g,0,none⟩) L.length cap) (L.take i++(M++L.drop j)) (.returned (.slice (some ⟨s,0,none⟩) (i+(m+Q)) G)) (W2.drew.setCells s ((i+m)*3) (enV (L.drop j)))):=Hd (by
  have hll:(L.take i++(M++L.drop j)).length=i+(m+Q):=by rw[List.length_append,List.length_append];omega
  have hr2':Zbg W2.drew s G:=hr2.keep rfl;have h1:Yb (W2.drew.setCells s ((i+m)*3) (enV (L.drop j))) s 0 (L.take i++(M++L.drop j)):=by refine(Yb.set_out hr2' (by omega) (l2a.keep rfl) (.inl (by omega))).append ?_;rw[hlt,Nat.zero_add];refine(Yb.set_out hr2' (by omega) (l2b.keep rfl) (.inl (by omega))).append ?_;rw[←hm];exact Yb.set_in hr2' (by omega)
  have:=Yb.mine (B:=B) (hr2'.set (by omega)) h1 (by omega) hGm hB;rw[hll] at this;refine⟨_,rfl,this,?_,.inr ⟨s,rfl,by omega⟩⟩;have t3:Zb (·=s) W1 (W2.drew.setCells s ((i+m)*3) (enV (L.drop j))):=ht2.drew.trans (Zu _ _ _ _);subst hsw
  exact(Zb.of_below b1).then t3 fun k hk e=>by omega)
 have HCP1:=Hd hcp1;have HCP2:=Hd hcp2;have HRZ:=Hd hrz2;have HS:=Hd hsw;have HW1:=Hd hW1;have HW2:=Hd hW2;have HQ:=Hd hQ;have HM:=Hd hm;have y0:¬((i:Int)=(j:Int)):=by omega
 have y1:¬((j:Int)=(L.length:Int)):=by omega
 have y2:(i:Int)≤(j:Int):=by omega
 have y3:(j:Int)≤(L.length:Int):=by omega
 have y3b:(j:Int)≤(cap:Int):=by omega
 have y4:(i:Int)≤(cap:Int):=by omega
 have y5:¬cap=i:=by omega
 have y6:¬cap=j:=by omega
 have y7:(cap:Int)<(i:Int)+(m:Int)+(Q:Int):=by omega
 have x1:IntKind.i64.wrap ((i:Int)+(m:Int))=(i:Int)+(m:Int):=IntWalk.i64_in _ (by omega);have x2:IntKind.i64.wrap ((i:Int)+(m:Int)+(Q:Int))=(i:Int)+(m:Int)+(Q:Int):=IntWalk.i64_in _ (by omega);have x3:((i:Int)+(m:Int)).toNat=i+m:=by omega
 have x4:(0:Int)≤(i:Int)+(m:Int):=by omega
 have x5:(i:Int)+(m:Int)≤(i:Int)+((m:Int)+(Q:Int)):=by omega
 have x6:(i:Int)≤(i:Int)+((m:Int)+(Q:Int)):=by omega
 have x7:¬G=i:=by omega
 have x8:¬G=i+m:=by omega
 clear hcp1 hcp2 hrz2 l2a l2b hl2 ht2 hr2 hdl hlt hu hu1 hl1 b1 hsw hW1 hW2 hown hr hl hr1' l1' hm hGm;have HQQ:=HQ.out
 clear HQ;subst HQQ;generalize L.length=N at *;go_enter Tryz.func106,Tryz.ntmps106;go_upto_region 9 with fail;go_region;have hr:=HRZ.out 78
 have hc1:=fun ty dc=>HCP1.out (m+(N - j)) ty dc rfl;go_wp2_with (at_builtin;refine Lib.wpList_append_run _ rfl _ _ _ _ rfl _ _ rfl rfl _ _ hr ?_;clear hr);go_region_law (refine step_copy_runI rfl _ _ 78 78 rfl (.slice (some ⟨s,(i+m)*3,none⟩) (i+(m+(N - j)) - (i+m)) (G - (i+m))) (.slice (some ⟨g,j*3,none⟩) (N - j) (cap - j)) (by simp[Act.eval,Act.put]) (by simp[Act.eval,Act.put]) (HCP2.out W2.drew rfl (i+(m+(N - j)) - (i+m)) _ _ _ (by omega)) ?_);go_wp2;go_ret;exact HF.out
theorem erep_shrink (i j m cu:Nat) (a:Option Addr) (hown:Zq B w (.slice (some ⟨g,0,none⟩) L.length cap) L) (hu:IsE w (.slice a m cu) M) (hsep:∀k,Zap (.slice a m cu) k→k≠g) (hm:m=M.length) (hij:i<j) (hj:j<L.length) (hroom:i+m≤j) (hlen:L.length≤100000) (hlm:m≤100000) :
  Calls Tryz.prog 106 #[.slice (some ⟨g,0,none⟩) L.length cap,.int .i64 (i:Int),.int .i64 (j:Int),.slice a m cu] w (Zar B w (.slice (some ⟨g,0,none⟩) L.length cap) (L.take i++(M++L.drop j))):=by
 obtain⟨hr,hl,hBg,hc1,hcm,_⟩:=hown.lies;obtain⟨Q,hQ⟩:∃Q,Q=L.length - j:=⟨_,rfl⟩;have hlt:(L.take i).length=i:=by rw[List.length_take];omega
 have hdl:(L.drop j).length=Q:=by rw[List.length_drop];omega
 have hr0:Zbg w.drew g cap:=hr.keep rfl;have hcp1:∀nd ty dc,nd=m+Q→(Builtin.copy_ #[78,78] ty #[.slice (some ⟨g,i*3,none⟩) nd dc,.slice a m cu]).run Tryz.prog w.drew=.ok (.int .i64 ((m:Nat):Int)) (w.drew.setCells g (i*3) (enV M)):=fun nd ty dc hnd=>by have:=Qo (w:=w.drew) (p:=i) (M:=M) hr0 ty nd dc (.slice a m cu) m (fun _=>rfl) (by omega) (hu.drew.firsts _ rfl) (by omega);rw[←hm] at this;exact this
 have hr2:Zbg (w.drew.setCells g (i*3) (enV M)) g cap:=hr0.set (by omega);have l2a:Yb (w.drew.setCells g (i*3) (enV M)) g 0 (L.take i):=Yb.set_out hr0 (by omega) ((hl.take i).keep rfl) (.inl (by omega));have l2b:Yb (w.drew.setCells g (i*3) (enV M)) g i M:=Yb.set_in hr0 (by omega);have l2c:Yb (w.drew.setCells g (i*3) (enV M)) g j (L.drop j):=by have h1:=(hl.drop j).keep (w':=w.drew) rfl;rw[Nat.zero_add] at h1;exact Yb.set_out hr0 (by omega) h1 (.inr (by omega))
 have ht2:Zb (·=g) w (w.drew.setCells g (i*3) (enV M)):=(Zb.refl _ w).drew.trans (Zu _ _ _ _);generalize hW2:w.drew.setCells g (i*3) (enV M)=W2 at *;have hcp2:∀(W:World),W.heap=W2.heap→∀nd ty dc sc,nd=Q→(Builtin.copy_ #[78,78] ty #[.slice (some ⟨g,(i+m)*3,none⟩) nd dc,.slice (some ⟨g,j*3,none⟩) (L.length - j) sc]).run Tryz.prog W=.ok (.int .i64 ((Q:Nat):Int)) (W.setCells g ((i+m)*3) (enV (L.drop j))):=fun W hW nd ty dc sc hnd=>by have hd:=l2c.keep (w':=W) (by rw[hW]);have:=Qo (w:=W) (p:=i+m) (M:=L.drop j) (hr2.keep (by rw[hW])) ty nd dc (.slice (some ⟨g,j*3,none⟩) (L.length - j) sc) (L.length - j) (fun _=>rfl) (by omega) (hd.firsts _ _ W rfl) (by omega);rw[hdl] at this;exact this
 have hr2':Zbg W2.drew g cap:=hr2.keep rfl;have hr3:Zbg (W2.drew.setCells g ((i+m)*3) (enV (L.drop j))) g cap:=hr2'.set (by omega);have hll:(L.take i++(M++L.drop j)).length=i+m+Q:=by rw[List.length_append,List.length_append];omega
 have l3:Yb (W2.drew.setCells g ((i+m)*3) (enV (L.drop j))) g 0 (L.take i++(M++L.drop j)):=by refine(Yb.set_out hr2' (by omega) (l2a.keep rfl) (.inl (by omega))).append ?_;rw[hlt,Nat.zero_add];refine(Yb.set_out hr2' (by omega) (l2b.keep rfl) (.inl (by omega))).append ?_;rw[←hm];exact Yb.set_in hr2' (by omega)
 have ht3:Zb (·=g) w (W2.drew.setCells g ((i+m)*3) (enV (L.drop j))):=ht2.drew.trans (Zu _ _ _ _)
 have HF:∀W:World,Zbg W g cap→Yb W g 0 (L.take i++(M++L.drop j))→Zb (·=g) w W→Hid (Zar B w (.slice (some ⟨g,0,none⟩) L.length cap) (L.take i++(M++L.drop j)) (.returned (.slice (some ⟨g,0,none⟩) (i+m+Q) cap)) W):=fun W h1 h2 h3=>Hd (by
  have:=Yb.mine (B:=B) h1 h2 (by omega) hcm hBg;rw[hll] at this
  exact⟨_,rfl,this,h3.mono fun k _ hk=>by rw[hk];rfl,.inl rfl⟩)
 have HE1:=HF _ hr3 l3 ht3
 have HE2:i+m+Q<L.length→Hid (Zar B w (.slice (some ⟨g,0,none⟩) L.length cap) (L.take i++(M++L.drop j)) (.returned (.slice (some ⟨g,0,none⟩) (i+m+Q) cap)) ((W2.drew.setCells g ((i+m)*3) (enV (L.drop j))).setCells g ((i+m+Q)*3) (enV (List.replicate (L.length - (i+m+Q)) Zdr)))):=fun h =>
  HF _ (hr3.set (p:=i+m+Q) (by simp;omega)) (Yb.set_out (p:=i+m+Q) hr3 (by simp;omega) l3 (.inl (by omega))) (ht3.trans (Zu _ _ _ _))
 have hcl:i+m+Q<L.length→∀ty c,(Builtin.clear_ #[78] ty #[.slice (some ⟨g,(i+m+Q)*3,none⟩) (L.length - (i+m+Q)) c]).run Tryz.prog (W2.drew.setCells g ((i+m)*3) (enV (L.drop j)))=.ok (.tuple #[]) ((W2.drew.setCells g ((i+m)*3) (enV (L.drop j))).setCells g ((i+m+Q)*3) (enV (List.replicate (L.length - (i+m+Q)) Zdr))):=fun hlt ty c =>
  Zgk (p:=i+m+Q) hr3 ty _ c (by omega) (by omega)
 have HCP1:=Hd hcp1;have HCP2:=Hd hcp2;have HCL:=Hd hcl;have HCN:Hid (∀n ty a c,n=0→(Builtin.clear_ #[78] ty #[.slice a n c]).run Tryz.prog (W2.drew.setCells g ((i+m)*3) (enV (L.drop j)))=.ok (.tuple #[]) (W2.drew.setCells g ((i+m)*3) (enV (L.drop j)))):=Hd fun n ty a c e=>by rw[e];exact run_clear_nil ty a c
 have HW2:=Hd hW2;clear HF hown hu hr hl hr0 hcp1 hcp2 hcl hr2 hr2' hr3 l2a l2b l2c l3 ht2 ht3 hll hlt hdl hW2 hm hsep;unfold maxLen at hcm;have y0:¬((i:Int)=(j:Int)):=by omega
 have y1:¬((j:Int)=(L.length:Int)):=by omega
 have y2:(i:Int)≤(j:Int):=by omega
 have y3:(j:Int)≤(L.length:Int):=by omega
 have y3b:(j:Int)≤(cap:Int):=by omega
 have y4:(i:Int)≤(cap:Int):=by omega
 have y5:¬cap=i:=by omega
 have y6:¬cap=j:=by omega
 have y8:¬cap=i+m:=by omega
 have y7:¬(cap:Int)<(i:Int)+(m:Int)+(Q:Int):=by omega
 have y9:(i:Int)+(m:Int)≤(j:Int):=by omega
 have x1:IntKind.i64.wrap ((i:Int)+(m:Int))=(i:Int)+(m:Int):=IntWalk.i64_in _ (by omega);have x2:IntKind.i64.wrap ((i:Int)+(m:Int)+(Q:Int))=(i:Int)+(m:Int)+(Q:Int):=IntWalk.i64_in _ (by omega);have x3:((i:Int)+(m:Int)).toNat=i+m:=by omega
 have x3b:((i:Int)+(m:Int)+(Q:Int)).toNat=i+m+Q:=by omega
 have x4:(0:Int)≤(i:Int)+(m:Int):=by omega
 have x4b:(0:Int)≤(i:Int)+(m:Int)+(Q:Int):=by omega
 have x5:(i:Int)+(m:Int)≤(i:Int)+(m:Int)+(Q:Int):=by omega
 have x6:(i:Int)≤(i:Int)+(m:Int)+(Q:Int):=by omega
 have x7:(i:Int)+(m:Int)+(Q:Int)≤(cap:Int):=by omega
 have x8:(i:Int)+(m:Int)+(Q:Int)≤(L.length:Int):=by omega
 obtain⟨T,hT⟩:∃T,T=i+m+Q:=⟨_,rfl⟩;rw[←hT] at HE1 HE2 HCL x3b;subst hQ;generalize L.length=N at *;have HT:=Hd hT
 have hTcap:(T:Int)≤(cap:Int):=by omega
 have hTi:(i:Int)≤(T:Int):=by omega
 have hTim:(i:Int)+(m:Int)≤(T:Int):=by omega
 have hTN2:(T:Int)≤(N:Int):=by omega
 clear hT;by_cases hs:T<N
 ·have hcl:=HCL.out hs 0 (cap - (T))
  have HE:=HE2 hs;have q2:¬(cap=T):=by have:=HT.out;omega
  clear HE1 HE2;go_enter Tryz.func106,Tryz.ntmps106;go_upto_region 9 with fail;go_region;have hc1:=fun ty dc=>HCP1.out (T - i) ty dc (by have:=HT.out;omega)
  go_upto_region 18 with fail;go_region_law (refine step_copy_runI rfl _ _ 78 78 rfl (.slice (some ⟨g,(i+m)*3,none⟩) (T - (i+m)) (cap - (i+m))) (.slice (some ⟨g,j*3,none⟩) (N - j) (cap - j)) (by simp[Act.eval,Act.put]) (by simp[Act.eval,Act.put]) (HCP2.out W2.drew rfl (T - (i+m)) _ _ _ (by have:=HT.out;omega)) ?_);skip;go_wp2_with (simp only[hcl]);go_ret;exact HE.out
 ·have HTN:Hid (T=N):=Hd (by have:=HT.out;omega)
  clear hs;clear HE2 HCL;by_cases hcN:cap=T
  ·subst hcN
   go_enter Tryz.func106,Tryz.ntmps106;go_upto_region 9 with fail;go_region;have hc1:=fun ty dc=>HCP1.out (cap - i) ty dc (by have:=HT.out;omega)
   go_upto_region 18 with fail;go_region_law (refine step_copy_runI rfl _ _ 78 78 rfl (.slice (some ⟨g,(i+m)*3,none⟩) (cap - (i+m)) (cap - (i+m))) (.slice (some ⟨g,j*3,none⟩) (N - j) (cap - j)) (by simp[Act.eval,Act.put]) (by simp[Act.eval,Act.put]) (HCP2.out W2.drew rfl (cap - (i+m)) _ _ _ (by have:=HT.out;omega)) ?_);have hcl:=fun a c=>HCN.out (N - (cap)) 0 a c (by have:=HTN.out;omega)
   have hcl0:=fun a c=>HCN.out 0 0 a c rfl;go_wp2_with (first | (simp only[hcl]) | (simp only[hcl0]));go_ret;exact HE1.out
  ·have q2:¬(cap=T):=hcN
   go_enter Tryz.func106,Tryz.ntmps106;go_upto_region 9 with fail;go_region;have hc1:=fun ty dc=>HCP1.out (T - i) ty dc (by have:=HT.out;omega)
   go_upto_region 18 with fail;go_region_law (refine step_copy_runI rfl _ _ 78 78 rfl (.slice (some ⟨g,(i+m)*3,none⟩) (T - (i+m)) (cap - (i+m))) (.slice (some ⟨g,j*3,none⟩) (N - j) (cap - j)) (by simp[Act.eval,Act.put]) (by simp[Act.eval,Act.put]) (HCP2.out W2.drew rfl (T - (i+m)) _ _ _ (by have:=HT.out;omega)) ?_);have hcl:=fun a c=>HCN.out (N - (T)) 0 a c (by have:=HTN.out;omega)
   have hcl0:=fun a c=>HCN.out 0 0 a c rfl;go_wp2_with (first | (simp only[hcl]) | (simp only[hcl0]));go_ret;exact HE1.out
theorem erep_widen {B':Nat} (i j m cu gu:Nat) (hown:Zq B w (.slice (some ⟨g,0,none⟩) L.length cap) L) (hu:Zq B' w (.slice (some ⟨gu,0,none⟩) m cu) M) (hsep:gu≠g) (hij:i<j) (hj:j<L.length) (hwide:j<i+m) (hroom:i+m+(L.length - j)≤cap) (hlen:L.length≤100000) (hlm:m≤100000) :
  Calls Tryz.prog 106 #[.slice (some ⟨g,0,none⟩) L.length cap,.int .i64 (i:Int),.int .i64 (j:Int),.slice (some ⟨gu,0,none⟩) m cu] w (Zar B w (.slice (some ⟨g,0,none⟩) L.length cap) (L.take i++(M++L.drop j))):=by
 obtain⟨hr,hl,hBg,hc1,hcm,_⟩:=hown.lies;obtain⟨hur,hul,_,hu1,hum,hm⟩:=hu.lies;obtain⟨Q,hQ⟩:∃Q,Q=L.length - j:=⟨_,rfl⟩;obtain⟨T,hT⟩:∃T,T=i+m+Q:=⟨_,rfl⟩;have hlt:(L.take i).length=i:=by rw[List.length_take];omega
 have hdl:(L.drop j).length=Q:=by rw[List.length_drop];omega
 have hr0:Zbg w.drew.drew g cap:=hr.keep rfl
 have hov:∀(W:World),W.heap=w.heap→∀lb cb,(callFunc 83 #[.slice (some ⟨g,(i+m)*3,none⟩) lb cb,.slice (some ⟨gu,0,none⟩) m cu]).run Tryz.prog W=.ok (.value (.bool false)) W:=fun W hW lb cb=>by
  obtain⟨cur,hg,hcs⟩:=hr;obtain⟨cur2,hg2,hcs2⟩:=hur;have hsx:W.shape? g=some (82,cap*3):=by simp[World.shape?,hW,hg,hcs]
  have hsg:W.shape? gu=some (82,cu*3):=by simp[World.shape?,hW,hg2,hcs2]
  have hf:∀o,W.frozen? ⟨g,o,none⟩=false:=fun o=>Zf (by rw[hW];exact hg) o
  rw[run_callFunc_extern Tryz.func83 (by kernel_rfl) (by kernel_rfl) (by kernel_rfl) (e:=Extern.SlicesOverlaps.overlaps #[78,78] #[4]) (by kernel_rfl),
   Lib.run_overlaps_apart W 78 4 82 Tryz.underlying78 3 (fun w=>by kernel_rfl) ⟨g,(i+m)*3,none⟩ ⟨gu,0,none⟩ lb cb m cu (fun e=>hsep e.symm) _ _ _ _ hsx hsg (by omega) (hf _) (hf _)]
  rfl
 have hcp1:∀nd ty dc sc,nd=Q→(Builtin.copy_ #[78,78] ty #[.slice (some ⟨g,(i+m)*3,none⟩) nd dc,.slice (some ⟨g,j*3,none⟩) (L.length - j) sc]).run Tryz.prog w.drew.drew=.ok (.int .i64 ((Q:Nat):Int)) (w.drew.drew.setCells g ((i+m)*3) (enV (L.drop j))):=fun nd ty dc sc hnd=>by have hd:=(hl.drop j).keep (w':=w.drew.drew) rfl;rw[Nat.zero_add] at hd;have:=Qo (w:=w.drew.drew) (p:=i+m) (M:=L.drop j) hr0 ty nd dc (.slice (some ⟨g,j*3,none⟩) (L.length - j) sc) (L.length - j) (fun _=>rfl) (by omega) (hd.firsts _ _ _ rfl) (by omega);rw[hdl] at this;exact this
 have hr2:Zbg (w.drew.drew.setCells g ((i+m)*3) (enV (L.drop j))) g cap:=hr0.set (by omega);have l2a:Yb (w.drew.drew.setCells g ((i+m)*3) (enV (L.drop j))) g 0 (L.take i):=Yb.set_out hr0 (by omega) ((hl.take i).keep rfl) (.inl (by omega));have l2c:Yb (w.drew.drew.setCells g ((i+m)*3) (enV (L.drop j))) g (i+m) (L.drop j):=Yb.set_in hr0 (by omega);have hul2:Yb (w.drew.drew.setCells g ((i+m)*3) (enV (L.drop j))) gu 0 M:=hul.keep (Xg _ _ _ _ _ hsep);have ht2:Zb (·=g) w (w.drew.drew.setCells g ((i+m)*3) (enV (L.drop j))):=(Zb.refl _ w).drew.drew.trans (Zu _ _ _ _);generalize hW2:w.drew.drew.setCells g ((i+m)*3) (enV (L.drop j))=W2 at *;have hcp2:∀nd ty dc,nd=m+Q→(Builtin.copy_ #[78,78] ty #[.slice (some ⟨g,i*3,none⟩) nd dc,.slice (some ⟨gu,0,none⟩) m cu]).run Tryz.prog W2=.ok (.int .i64 ((m:Nat):Int)) (W2.setCells g (i*3) (enV M)):=fun nd ty dc hnd=>by have:=Qo (w:=W2) (p:=i) (M:=M) hr2 ty nd dc (.slice (some ⟨gu,0,none⟩) m cu) m (fun _=>rfl) (by omega) (hul2.firsts _ _ _ rfl) (by omega);rw[←hm] at this;exact this
 have HE:Hid (Zar B w (.slice (some ⟨g,0,none⟩) L.length cap) (L.take i++(M++L.drop j)) (.returned (.slice (some ⟨g,0,none⟩) T cap)) (W2.setCells g (i*3) (enV M))):=Hd (by
  have hll:(L.take i++(M++L.drop j)).length=T:=by rw[List.length_append,List.length_append];omega
  have l3:Yb (W2.setCells g (i*3) (enV M)) g 0 (L.take i++(M++L.drop j)):=by refine(Yb.set_out hr2 (by omega) l2a (.inl (by omega))).append ?_;rw[hlt,Nat.zero_add];refine(Yb.set_in hr2 (by omega)).append ?_;rw[←hm];exact Yb.set_out hr2 (by omega) l2c (.inr (by omega))
  have:=Yb.mine (B:=B) (hr2.set (by omega)) l3 (by omega) hcm hBg;rw[hll] at this
  exact⟨_,rfl,this,(ht2.trans (Zu _ _ _ _)).mono fun k _ hk=>by rw[hk];rfl,.inl rfl⟩)
 have HCP1:=Hd hcp1;have HCP2:=Hd hcp2;have HW2:=Hd hW2;have HM:=Hd hm;have HOV:=Hd hov;clear hown hu hr hl hr0 hcp1 hcp2 hr2 l2a l2c hul hul2 hur ht2 hlt hdl hW2 hm hov;unfold maxLen at hcm hum;have y0:¬((i:Int)=(j:Int)):=by omega
 have y1:¬((j:Int)=(L.length:Int)):=by omega
 have y2:(i:Int)≤(j:Int):=by omega
 have y3:(j:Int)≤(L.length:Int):=by omega
 have y3b:(j:Int)≤(cap:Int):=by omega
 have y4:(i:Int)≤(cap:Int):=by omega
 have y5:¬cap=i:=by omega
 have y6:¬cap=j:=by omega
 have y8:¬cap=i+m:=by omega
 have y7:¬(cap:Int)<(i:Int)+(m:Int)+(Q:Int):=by omega
 have y9:¬(i:Int)+(m:Int)≤(j:Int):=by omega
 have x1:IntKind.i64.wrap ((i:Int)+(m:Int))=(i:Int)+(m:Int):=IntWalk.i64_in _ (by omega);have x2:IntKind.i64.wrap ((i:Int)+(m:Int)+(Q:Int))=(i:Int)+(m:Int)+(Q:Int):=IntWalk.i64_in _ (by omega);have x3:((i:Int)+(m:Int)).toNat=i+m:=by omega
 have x3b:((i:Int)+(m:Int)+(Q:Int)).toNat=T:=by omega
 have x4:(0:Int)≤(i:Int)+(m:Int):=by omega
 have x4b:(0:Int)≤(i:Int)+(m:Int)+(Q:Int):=by omega
 have x7:(i:Int)+(m:Int)+(Q:Int)≤(cap:Int):=by omega
 have hTcap:(T:Int)≤(cap:Int):=by omega
 have hTi:(i:Int)≤(T:Int):=by omega
 have hTim:(i:Int)+(m:Int)≤(T:Int):=by omega
 subst hQ;generalize L.length=N at *;have HT:=Hd hT
 clear hT;go_enter Tryz.func106,Tryz.ntmps106;go_upto_region 9 with fail;go_region;have hov:=HOV.out w.drew rfl
 go_wp2_with (simp only[hov]);go_region_law (refine step_copy_runI rfl _ _ 78 78 rfl (.slice (some ⟨g,(i+m)*3,none⟩) (T - (i+m)) (cap - (i+m))) (.slice (some ⟨g,j*3,none⟩) (N - j) (cap - j)) (by simp[Act.eval,Act.put]) (by simp[Act.eval,Act.put]) (HCP1.out (T - (i+m)) _ _ _ (by have:=HT.out;omega)) ?_);have hc1:=fun ty dc=>HCP2.out (T - i) ty dc (by have:=HT.out;omega)
 go_wp2_with fail;go_ret;exact HE.out
theorem Zdv {B':Nat} {v u:Value} (i j:Nat) (hown:Zq B w v L) (hu:Zq B' w u M) (hsep:∀k,u.ownBlock=some k→v.ownBlock≠some k) (hij:i<j) (hj:j≤L.length) (hB:B≤w.heap.size) (hlen:L.length≤100000) (hlm:M.length≤100000) :
  Calls Tryz.prog 106 #[v,.int .i64 (i:Int),.int .i64 (j:Int),u] w (Zar B w v (L.take i++(M++L.drop j))):=by
 rcases hown.form with ⟨_,hn⟩ | ⟨g,cap,rfl,hnc,hcm,hBg,hg⟩
 ·subst hn;simp at hj;omega
 ·have hue:=hu.isE
  obtain⟨a,cu,hu1,_,_⟩:=hue.form;subst hu1;by_cases he:j=L.length
  ·subst he
   rw[List.drop_length,List.append_nil];by_cases hr:i+M.length≤cap
   ·exact erep_end_room i M.length cu a hown hue rfl hij hr hlen hlm
   ·exact erep_end_grow i M.length cu a hown hue rfl hij (by omega) hB hlen hlm
  ·by_cases hr:i+M.length+(L.length - j)≤cap
   ·by_cases hw:i+M.length≤j
    ·refine erep_shrink i j M.length cu a hown hue (fun k hk e=>?_) rfl hij (by omega) hw hlen hlm;obtain⟨x,_,_,e1,e2⟩:=hk;cases e1;exact hsep x.block rfl (by rw[e2,e];rfl)
    ·rcases hu.form with ⟨h1,h2⟩ | ⟨gu,cu',h1,_⟩
     ·rw[h2] at hw;simp at hw;omega
     ·simp only[Value.slice.injEq,true_and] at h1;obtain⟨rfl,rfl⟩:=h1;exact erep_widen i j M.length cu gu hown hu (fun e=>hsep gu rfl (by rw[e];rfl)) hij (by omega) (by omega) hr hlen hlm
   ·exact erep_grow i j M.length cu a hown hue rfl hij (by omega) (by omega) hB hlen hlm
end
end
section
open Go.RowKit
section
variable {n : Nat} {J : Jn} {seq : Int} {B : List (List UInt8)} {F : Ft} {p : Nat} {tb : Nat}
theorem layAt_all:∀m,m≤1000000→LayAt n J seq B F p tb m
 | 0,_,w,f,R,leaf,a,N,cap,l,h,hE,hN,hm,hf,hs=>by have:l=[]:=List.eq_nil_of_length_eq_zero (by omega);exact lay_fits 0 leaf a N cap h hE hN (by omega) hf hs (by subst this;simp[Nd.sum,Zg])
 | m+1,hm2,w,f,R,leaf,a,N,cap,l,h,hE,hN,hm,hf,hs=>by
  by_cases hsum:893<(Nd.mk leaf l).sum
  ·exact lay_long m (layAt_all m (by omega)) leaf a N cap h hE hN hm hm2 hf hs hsum
  ·exact lay_fits (m+1) leaf a N cap h hE hN (by omega) hf hs (by omega)
theorem Zcr {w:World} {f:Pf} {R:Rp} (leaf:Bool) {v:Value} {l:List En} (h:Tr n J seq B w F p f R tb) (hE:IsE w v l) (hm:l.length≤1000000) (hf:∀e∈l,e.few) (hs:∀k,Zap v k→¬PJ F p f k) :
  Calls Tryz.prog 39 #[trp tb,ndV leaf v] w (Zan n J seq B w F p f tb (R.layL ⟨leaf,l⟩)):=by
 obtain⟨a,cap,rfl,_⟩:=hE.form;exact layAt_all l.length hm w f R leaf a l.length cap l h hE rfl (Nat.le_refl _) hf hs
theorem Zfs {w:World} {f:Pf} {R:Rp} (h:Tr n J seq B w F p f R tb) (page:Int) (b1:-9223372036854775808≤page) (b2:page≤9223372036854775807) :
  Calls Tryz.prog 108 #[trp tb,.int .i64 page] w fun e w'=>e=.returned (.int .i64 (R.freeT page).1)∧Qc n J seq B w F p f w' (R.freeT page).2 tb:=by
 have c0:w.cell? ⟨tb,0,none⟩=some (Xb f.q):=by rw[cell_of_row _ _ _ _ _ _ h.head];rfl
 have HR:=Hd (lp_root h.lp);obtain⟨X,hX⟩:∃X,X=R.freeT page:=⟨_,rfl⟩;rw[←hX];have HX:=Hd hX;have H:=Hd h;by_cases hp:page=R.root
 ·have hd:(page==R.root)=true:=by rw[beq_iff_eq];exact hp
  have HF:Hid (X=(R.setRoot (-1)).2.free page):=Hd (by rw[hX,Rp.freeT,if_pos hp]);have HSR:=Hd (Zda h.lp (-1) (by decide) (by decide));have hs0:(R.setRoot (-1)).1=0:=by unfold Rp.setRoot;simp
  rw[hs0] at HSR;clear h hX hp hs0;go_enter Tryz.func108,Tryz.ntmps108;go_wp2_with fail;refine HR.out.mono ?_;rintro e w1 ⟨rfl,rfl⟩;go_wp2_with fail;refine HSR.out.mono ?_;rintro e w2 ⟨rfl,hto⟩;obtain⟨f2,hT2,hq2,hk2,ht2⟩:=H.out.to hto;have c2:w2.cell? ⟨tb,0,none⟩=some (Xb f.q):=by rw[←hq2,cell_of_row _ _ _ _ _ _ hT2.head];rfl
  have HFR:=Hd (Zeu hT2.lp page b1 b2);rw[hq2] at HFR;have HT2:=Hd hT2;have HQ2:=Hd hq2;have HK2:=Hd hk2;have HTT2:=Hd ht2;clear hto hT2 hq2 hk2 ht2 c0;go_wp2_with fail;refine HFR.out.mono ?_;rintro e w3 ⟨rfl,hto3⟩;have HE:=Hd (Qc.then HQ2.out HK2.out HTT2.out (HT2.out.to hto3));rw[←HF.out] at HE;rw[←HF.out];clear hto3 c2;go_wp2_with fail;go_ret;exact⟨rfl,HE.out⟩
 ·have hd:(page==R.root)=false:=by rw[beq_eq_false_iff_ne];exact hp
  have HF:Hid (X=R.free page):=Hd (by rw[hX,Rp.freeT,if_neg hp]);have HFR:=Hd (Zeu h.lp page b1 b2);clear h hX hp;go_enter Tryz.func108,Tryz.ntmps108;go_wp2_with fail;refine HR.out.mono ?_;rintro e w1 ⟨rfl,rfl⟩;go_wp2_with fail;refine HFR.out.mono ?_;rintro e w3 ⟨rfl,hto3⟩;have HE:=Hd (H.out.to hto3);rw[←HF.out] at HE;rw[←HF.out];clear hto3 c0;go_wp2_with fail;go_ret;exact⟨rfl,HE.out⟩
end
structure NdAt (w:World) (B nb:Nat) (leaf:Bool) (v:Value) (l:List En):Prop where
 box:w.heap[nb]?=some (ndO leaf v)
 row:Zq B w v l
 low:B≤nb
section
variable {w w' : World} {B nb : Nat} {leaf : Bool} {v v' : Value} {l : List En}
theorem NdAt.ne (h:NdAt w B nb leaf v l) {k:Nat} (hk:v.ownBlock=some k):k≠nb:=by rintro rfl;obtain⟨_,c,hc⟩:=Zek h.row hk.symm;rw[h.box] at hc;simp only[Option.some.injEq,Obj.cells.injEq,and_true] at hc;exact absurd hc.2 (by decide)
theorem NdAt.below (h:NdAt w B nb leaf v l) (hb:Below w.heap.size w w'):NdAt w' B nb leaf v l:=⟨(hb.block _ (Za h.box)).trans h.box,h.row.below hb,h.low⟩
theorem NdAt.turned {T:Nat→Prop} (h:NdAt w B nb leaf v l) (ht:Zb T w w') (h1:¬T nb) (h2:∀k,Zap v k→¬T k):NdAt w' B nb leaf v l :=
 ⟨(ht.block _ (Za h.box) h1).trans h.box,h.row.keep1 fun k hk=>ht.block k (h.row.lt hk).2 (h2 k (h.row.in_blk hk)),h.low⟩
theorem NdAt.lt (h:NdAt w B nb leaf v l):nb<w.heap.size:=Za h.box
end
theorem nd_box (w:World) (leaf:Bool) (v:Value):Below w.heap.size w (w.alloc (.cells #[.bool leaf,v] 84))∧(w.alloc (.cells #[.bool leaf,v] 84)).heap[w.heap.size]?=some (ndO leaf v)∧(w.alloc (.cells #[.bool leaf,v] 84)).heap.size=w.heap.size+1 :=
 ⟨Zj w _,heap_alloc_new w _,by simp⟩
end
end Go.Proofs.YtofibccplbnaiaaGreatDoor
