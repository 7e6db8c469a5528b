/- Contracts of the functions that the statements of this seat reach, part 4: each says what the call answers and what it leaves of the memory. -/
import Derived.Test.YtfaobkmojlhbnaaGreatDoorZR1
import Derived.RangeFuncNested
import Derived.RangeFuncBound
import Derived.RangeFuncCalls
import Derived.RangeFuncLeaves
import Derived.RangeFuncBox
import Derived.OwnWalkIn
import Derived.LoopTactic
import Derived.Laws.MakeOwn
import Derived.WalkSpells
import Derived.Test.YtfaobkmojlhbnaaGreatDoorZR3
import Derived.Shelf.Abstract
import Derived.TacticsInMore
import Derived.LoopNIn
import Derived.LoopIn
import Derived.Shelf.Sort.Plain
import Derived.LoopN
import Derived.Sort.Grow
import Derived.Test.YtfaobkmojlhbnaaGreatDoorZR2
import Derived.Maps.RangeRun
import Derived.Maps.Range
import Derived.Deep.Onto
import Derived.Deep.RegionLaw
import Derived.StillTailTactics
import Derived.Deep.OwnRows
set_option linter.unusedVariables false
set_option linter.unusedSimpArgs false
set_option maxRecDepth 100000
set_option maxHeartbeats 64000000
namespace Go.Proofs.YtfaobkmojlhbnaaGreatDoor
section
open Go.RowKit
variable {b base size n:Nat}{W W':World}{v' v:Value}{t e:TypeId}
def Zcj (W:World) (b k:Nat):Prop:=∃o s n c,W.cell? ⟨b,0,none⟩=some (.slice (some ⟨k,o,s⟩) n c)
structure Zdd (b:Nat) (W W':World):Prop where
 size:W.heap.size<=W'.heap.size
 cells:∀k c e fr,W.heap[k]?=some (.cells c e fr)->k≠b->¬Zcj W b k->W'.heap[k]?=some (.cells c e fr)
 points:∀k,Zcj W' b k->Zcj W b k\/W.heap.size<=k
theorem Zdd.refl (b:Nat) (W:World):Zdd b W W:=⟨Va _,λk c e a h _ _=>h,λk h=>.inl h⟩
theorem Zdd.trans {A B C:World} (h:Zdd b A B) (k:Zdd b B C):Zdd b A C:=by
 refine⟨Vk h.size k.size,λi c e g d j l=>k.cells i c e g (h.cells i c e g d j l) j λf=>?_,λi d=>?_⟩
 .rcases h.points i f with a | a
  .exact l a
  .have:=Za d;omega
 .rcases k.points i d with a | a
  .exact h.points i a
  .exact .inr (Vk h.size a)
theorem Zdd.put (W:World) (l:Nat) (o i:Obj) (hl:W.heap[l]?=some o) (j:o.isCells=false) (hb:b≠l):Zdd b W (W.putObj l i):=by
 have g:∀k c e f,W.heap[k]?=some (.cells c e f)->k≠l:=λk c e f a e=>by subst e;rw[hl] at a;obtain rfl:=Ud a;cases j
 have d:(W.putObj l i).cell? ⟨b,0,none⟩=W.cell? ⟨b,0,none⟩:=World.cell?_of_block (World.putObj_heap_other hb);refine⟨by simp,λk c e f a _ _=>(World.putObj_heap_other (g k c e f a)).trans a,λk a=>.inl ?_⟩;obtain⟨m,s,n,c,h⟩:=a;exact⟨m,s,n,c,by rw[<-d];exact h⟩
theorem Zcj.below {k:Nat} (hb:b<W.heap.size) (h:Below W.heap.size W W'):Zcj W' b k↔Zcj W b k:=by have e:W'.cell? ⟨b,0,none⟩=W.cell? ⟨b,0,none⟩:=World.cell?_of_block (h.block b hb);unfold Zcj;rw[e]
theorem Zdd.of_below (hb:b<W.heap.size) (h:Below W.heap.size W W'):Zdd b W W' :=
 ⟨h.size,λk c e d a _ _=>(h.block k (Za a)).trans a,λk a=>.inl ((Zcj.below hb h).1 a)⟩
theorem grown_of_below (h:Below W.heap.size W W'):W.grownBy W' none:=⟨h.os,h.tape,h.output,h.size,λk a _=>h.block k a⟩
theorem abides_below {β:Type} {J:β->World->Prop} {B:Nat} (a:AbidesFrom B J) {s:β} (hs:J s W) (h:Below W.heap.size W W'):J s W':=a s W W' none hs (grown_of_below h) λr e=>by cases e
theorem nil_points (h:W.cell? ⟨b,0,none⟩=some (.slice none 0 0)) (k:Nat):¬Zcj W b k:=by rintro⟨o,s,n,c,e⟩;rw[h] at e;cases e
theorem Zex {F:Fence} {P:Program} {w:World} {ops:Array Oper} {d:List Oper} {o:Oper} {a:Act} {Q:Exit->Act->World->Prop}
 (hg:o.guard=none) (s x:Operand) (t j:TypeId) (f:o.op=Op.call { callee:=Callee.builtin Builtin.append,args:=#[s,x],argTypes:=#[t,j] }) (u v:Value) (hs:a.eval s=u) (hx:a.eval x=v) {w':World}
 (g:(Builtin.append_ #[t,j] o.type #[u,v]).run P w=.ok v' w') (k:wpListIn F n P ops Q d (a.put o.dst v') w'):wpListIn F n P ops Q (o::d) a w:=by
 refine wpListIn_plain hg λK h=>?_;unfold Oper.wpIn;refine⟨?_,?_⟩
 .simp[Oper.about,f,resolve,Target.leads,Sem.run_pure]
 .rw[Oper.semAt_plain F _ _ (by rw[f];intro c i;cases i)];simp[execOp,f,resolve,invoke,builtin,hs,hx,g,Result.andThen];exact h _ _ k
theorem own_points {xs:List Value} (hv:Boxed W b t v) (hr:W.ownsRow base e size v n xs) (k:Nat):some k=v.ownBlock↔Zcj W b k:=by
 have a:=hv.cell;rcases hr.2 with ⟨rfl,_⟩ | ⟨g,d,f,rfl,_⟩
 .constructor
  .intro h;cases h
  .rintro⟨o,s,i,c,h⟩;rw[a] at h;cases h
 .constructor
  .intro h
   obtain rfl:k=g:=by simpa [Value.ownBlock] using h
   exact⟨0,none,n,d,a⟩
  .rintro⟨o,s,i,c,h⟩;rw[a] at h;simp only[Option.some.injEq,Value.slice.injEq,Addr.mk.injEq] at h;rw[<-h.1.1];rfl
theorem Zdd.appended {w1:World} {a:Obj} {j:Nat} {xs l:List Value} (hv:Boxed W b t v) (g:Boxed (w1.setCell ⟨b,0,none⟩ v') b t v') (hr:W.ownsRow base e size v n xs)
 (hr':(w1.setCell ⟨b,0,none⟩ v').ownsRow base e size v' j l) (hg:(W.alloc a).grownBy w1 v.ownBlock) (d:v'.ownBlock=v.ownBlock\/v'.ownBlock=some (W.alloc a).heap.size):Zdd b W (w1.setCell ⟨b,0,none⟩ v'):=by
 have i:W.heap.size<=w1.heap.size:=by have:=hg.size;simp at this;omega
 refine⟨by simpa [World.setCell] using i,λk c q r f m o=>?_,λk f=>?_⟩
 .have hlt:=Za f;refine(Vx _ _ _ _ m).trans ((hg.block k (by simp;omega) (λp=>o ((own_points hv hr k).1 p))).trans ((Vv _ _ _ hlt).trans f))
 .have h2:=(own_points g hr' k).2 f
  rcases d with h | h
  .exact .inl ((own_points hv hr k).1 (h2.trans h))
  .rw[h] at h2;simp at h2;exact .inr (by omega)
end
section
open Go.RowKit
theorem Zbg:(Tryz.prog.info? 5).map (λi=>(i.zero,i.size,i.bytes))=some (some (.int .u8 0),1,1):=by kernel_rfl
def pickN (c:Int) (n:Nat):Nat:=(if c<0 then -(c+1) else c).toNat % n
theorem pickN_lt (c:Int) {n:Nat} (h:0<n):pickN c n<n:=Nat.mod_lt _ h
theorem Mine.stored {e:TypeId} {base:Nat} {w:World} {g cap:Nat} {l:List UInt8} (h:Mine e base w (.slice (some ⟨g,0,none⟩) l.length cap) l) (j:Nat) (x:UInt8) :
  Mine e base (w.setCell ⟨g,j,none⟩ (.int .u8 (x.toNat:Int))) (.slice (some ⟨g,0,none⟩) (l.set j x).length cap) (l.set j x):=by
 have a:=(World.ownsRow.stored h j (.int .u8 (x.toNat:Int))).1;have b:(bv l).set j (.int .u8 (x.toNat:Int))=bv (l.set j x):=by simp[bv,List.map_set]
 rw[b] at a;rw[List.length_set];simpa [Mine] using a
theorem made_bytes (N:Nat):madeCells (Value.cells (.int .u8 0)) N=(bv (List.replicate N 0)).toArray:=by
 apply Array.ext
 .simp[madeCells,bv]
 .intro i a b;simp[madeCells,bv,Value.cells,Nat.mod_one]
end
section
open Go.RowKit
theorem clone_any (v:Value) (l:List UInt8) (w:World) (hv:IsB w v l) (hl:l.length<=140737488355328) :
  Calls Tryz.prog 106 #[v] w λe w'=>∃u,e=.returned u/\Mine 5 w.heap.size w' u l/\Below w.heap.size w w':=by
 have f:=hv;obtain⟨a,g,rfl,d,j,b,k⟩:=f;have hnl:=λ(w:World) (a:Option Addr) (n c:Nat)=>Lib.run_eql_slice_nil (P:=Tryz.prog) w 77 5 a n c 0 0 Tryz.underlying77;have m:∀w:World,(Instr.buildSlice 77 0 #[]).run Tryz.prog w=.ok (.slice (some ⟨w.heap.size,0,none⟩) 0 0) (w.alloc (.cells #[] 5)):=λw=>by kernel_rfl
 cases a with
 | none =>
  obtain rfl:g=0:=b rfl;obtain rfl:l=[]:=Vh (by omega);clear hv d j b k;go_enter Tryz.func106,Tryz.ntmps106;go_wp2;go_ret;exact⟨_,rfl,Mine.nil _ _ _,Ve _ _⟩
 | some x =>
  clear k d j b;go_enter Tryz.func106,Tryz.ntmps106;go_wp2_with (at_builtin;refine Zdo rfl (.tmp 5) (.tmp 6) 77 rfl w.heap.size 5 Zbg Tryz.underlying77 _ [] rfl (Mine.lit [] (Va _) (by simp[maxLen])) _ l rfl (hv.alloc _) (by simpa using hl) (by simp) ?_);intro o w' h _ i _ _;go_wp2;go_ret;exact⟨_,rfl,h,((Ve _ _).alloc (Va _) _).trans i⟩
end
section
open Go.RowKit
variable {us:List Value}{B:Nat}{w w':World}{v:Value}
section
variable {P : Program}
theorem run_cut1_l (w:World) {t e:TypeId} (ht:P.underlying t=some (.slice e)) (hsz:(P.info? e).map (·.size)=some 1) (a:Option Addr) (b cap n:Nat) (hn:n<=b):
  (Instr.slice t (.slice a b cap) (some (.int .i64 (n:Int))) none none).run P w=.ok (.slice (cutA a cap n) (b - n) (cap - n)) w:=by
 obtain⟨i,d,c⟩:=Option.map_eq_some_iff.1 hsz;have f:(n:Int)<=(b:Int):=by omega
 simp[Instr.slice,run_underlying ht,Instr.sliceBounds,run_sliceBound,sizeOf,typeInfo,d,c,f,cutA]
end
def Zbh (B:Nat) (w:World) (v:Value) (us:List Value):Prop:=w.ownsRow B 77 1 v us.length us
theorem Zbh.keep (h:Zbh B w v us) (hw:∀k,B<=k->k<w.heap.size->w'.heap[k]?=w.heap[k]?):Zbh B w' v us:=Zgx h hw
theorem Zbh.below (h:Zbh B w v us) (hb:Below w.heap.size w w'):Zbh B w' v us:=h.keep λk _ a=>hb.block k a
theorem Zbh.form (h:Zbh B w v us):∃a b,v=.slice a us.length b/\us.length<=b/\b<=maxLen:=by
 rcases h.2 with ⟨rfl,c⟩ | ⟨g,b,e,rfl,i,j,c,f,k,d⟩
 .exact⟨none,0,by rw[c],by omega,by simp[maxLen]⟩
 .exact⟨_,b,rfl,c,f⟩
theorem Zbh.isBs (h:Zbh B w v us) {ls:List (List UInt8)} (hl:us.length=ls.length) (hb:∀i (h1:i<us.length) (h2:i<ls.length),IsB w us[i] ls[i]):IsBs w v ls:=by
 rcases h.2 with ⟨rfl,d⟩ | ⟨g,b,c,rfl,m,f,d,j,n,a⟩
 .obtain rfl:ls=[]:=Vh (by omega);exact⟨none,0,rfl,Va _,by simp[maxLen],λ_=>rfl,λx h=>by cases h⟩
 .refine⟨_,b,by rw[hl],by omega,j,(λh=>by cases h),λx k=>?_⟩
  obtain rfl:=Ud k;refine⟨λ_=>rfl,λi l=>⟨us[i],?_,hb i (by omega) l⟩⟩;rw[Vc _ _ _ _ _ _ f];have e:(c.toList.take (us.length*1))[i]?=some us[i]:=by rw[a];exact List.getElem?_eq_getElem (by omega)
  rw[List.getElem?_take,if_pos (by omega)] at e;simpa using e
theorem Qt.cell {zs:List Int} (h:Qt B w v zs) (h0:zs≠[]):∃g a,v=.slice (some ⟨g,0,none⟩) zs.length a/\zs.length<=a/\a<=maxLen/\∀i (f:i<zs.length),w.cell? ⟨g,i,none⟩=some (.int .i64 zs[i]):=by
 rcases h.2 with ⟨rfl,j⟩ | ⟨g,a,k,rfl,n,l,c,d,m,b⟩
 .exact absurd (Vh j) h0
 .refine⟨g,a,rfl,c,d,λi f=>?_⟩
  rw[Vc _ _ _ _ _ _ l];have e:(iv zs)[i]?=some (.int .i64 zs[i]):=iv_get zs i f
  rw[<-b,List.getElem?_take,if_pos (by omega)] at e;simpa using e
end
section
open Go.RowKit Go.Shelf
attribute [local go_sem] Oper.semAt_some
theorem info_byte1:(Tryz.prog.info? 5).map (·.size)=some 1:=by kernel_rfl
theorem run_cut3 (w:World) (g N c q:Nat) (h:q+112<=c) :
  (Instr.slice 77 (.slice (some ⟨g,0,none⟩) N c) (some (.int .i64 (q:Int))) (some (.int .i64 ((q:Int)+112))) (some (.int .i64 ((q:Int)+112)))).run Tryz.prog w=.ok (.slice (some ⟨g,q,none⟩) 112 112) w:=by
 obtain⟨i,b,a⟩:=Option.map_eq_some_iff.1 info_byte1;obtain⟨r,l⟩:∃r,r=q+112:=⟨_,rfl⟩;obtain⟨e,d,f,j,k⟩:((q:Int)+112)=(r:Int)/\(r:Int)<=(c:Int)/\(q:Int)<=(r:Int)/\¬r=q/\r - q=112:=by omega
 rw[e];simp[Instr.slice,run_underlying Tryz.underlying77,Instr.sliceBounds,run_sliceBound,sizeOf,typeInfo,b,a,d,f,j,k,Addr.add];exact λh=>h.symm
abbrev Zdf (g i:Nat):Value:=.slice (some ⟨g,112*i,none⟩) 112 112
theorem range_take (m k:Nat) (h:k<=m):(List.range m).take k=List.range k:=by rw[List.take_range,Nat.min_eq_left h]
set_option maxRecDepth 100000 in
theorem chunk_stops (n:Nat) (hn:1<=n) (b bb bn g c m:Nat) (w:World) (hbb:w.heap[bb]?=some (.cells #[.slice (some ⟨g,0,none⟩) (112*m) c] 77 (0,0))) (hbn:w.heap[bn]?=some (.cells #[.int .i64 112] 3 (0,0)))
  (hc:112*m<=c) (hm:m<=10000) (hnil:w.cell? ⟨b,0,none⟩=some (.slice none 0 0)) (n1:b≠bb) (n2:b≠bn) :
  SeqStopsK Fence.wide n Tryz.prog 138 #[.pointer (some ⟨bb,0,none⟩),.pointer (some ⟨bn,0,none⟩)] (λx:Nat=>#[Zdf g x]) (Zdd b) (λys=>ys=List.range m) (λpre=>pre <+: List.range m) m w:=λl J Jx W hW hJ hJx hY h0=>by
 have hb:=World.block_lt_of_cell? w _ hnil;dsimp only at hb;have hbbW:=(hW.block bb (Za hbb)).trans hbb;have hbnW:=(hW.block bn (Za hbn)).trans hbn;have hnilW:W.cell? ⟨b,0,none⟩=some (.slice none 0 0):=(hW.cell (p:=⟨b,0,none⟩) hb).trans hnil;have HY:=Hd hY;have HJ:=Hd hJ;have H0:=Hd h0;have HBB:=Hd hbbW;have HBN:=Hd hbnW;have HNIL:=Hd hnilW;have HW:=Hd hW;have hbW:b<W.heap.size:=Vm hb hW.size;clear hJ hY h0 hbb hbn hnil hbbW hbnW hnilW hJx hW;refine callsIn_of_wp Tryz.func138 rfl trivial ?_ rfl;simp only[Tryz.ntmps138,List.size_toArray,List.length_cons,List.length_nil,Nat.reduceAdd,Nat.reduceSub,Array.replicate_succ,Array.replicate_zero,List.push_toArray,List.append_toArray,List.nil_append,List.cons_append];gi_wp2_with fail;gi_loopw [4] (λi wr=>∃k q:Nat,k<=m/\q=112*k/\i=.int .i64 (q:Int)/\J (List.range k) wr/\Zdd b W wr) (λi _=>112*m - (intOf i).toNat)
 case atStart=>exact⟨0,0,Vl _,rfl,rfl,H0.out,Zdd.refl b W⟩
 case round =>
  obtain⟨k,q,hk,hq,rfl,hJs,hkv⟩:=hrel;have HKV:=Hd hkv
  have HJs:=Hd hJs;have hbr:b<wr.heap.size:=Vm hbW hkv.size;have hbb:=hkv.cells bb _ _ _ HBB.out (λe=>n1 e.symm) (nil_points HNIL.out bb);have hbn:=hkv.cells bn _ _ _ HBN.out (λe=>n2 e.symm) (nil_points HNIL.out bn);have cb:wr.cell? ⟨bb,0,none⟩=some (.slice (some ⟨g,0,none⟩) (112*m) c):=(Vc _ _ _ _ _ _ hbb).trans rfl;have cn:wr.cell? ⟨bn,0,none⟩=some (.int .i64 112):=(Vc _ _ _ _ _ _ hbn).trans rfl;clear hkv hJs hbb hbn;obtain⟨N,hN⟩:∃N,N=112*m:=⟨_,rfl⟩;have HN:=Hd hN;rw[<-hN] at cb hc;have HQ:=Hd hq;clear hN hq;by_cases hlt:k<m
  .have hqN:q+112<=N:=by have:=HN.out;have:=HQ.out;omega
   have hd:decide ((q:Int)<(N:Int))=true:=Vd (by omega);obtain⟨R,hR⟩:∃R,R=N - q:=⟨_,rfl⟩;have hdn:decide (q<N)=true:=Vd (by omega);have hcut1:=λW=>run_cut1_l (P:=Tryz.prog) W Tryz.underlying77 info_byte1 (some ⟨g,0,none⟩) N c q (by omega);rw[<-hR] at hcut1;have hR112:(112:Int)<=(R:Int):=by omega
   have hcut3:=λW=>run_cut3 W g N c q (by omega);have hmin:min (112:Int) (R:Int)=112:=by omega
   have hw1:IntKind.i64.wrap ((q:Int)+112)=(q:Int)+112:=Vf _ (by have:=HN.out;omega);generalize cutA (some ⟨g,0,none⟩) c q=ca at *;generalize c - q=cc at *;clear hR hqN;have bd:Below wr.heap.size wr wr.drew:=(Ve _ _).drew;have hJ3:=abides_below HJ.out HJs.out bd;have KV3:=Hd (HKV.out.trans (Zdd.of_below hbr bd));have hyk:=HY.out (List.range k) k wr.drew hJ3 (by simpa using hlt);have HTK:Hid (List.range k++[k]=List.range (k+1)):=Hd (by rw[List.range_succ]);have HQ1:Hid (q+112=112*(k+1)):=Hd (by have:=HQ.out;omega);have HLT:=Hd hlt;simp only[Zdf,<-HQ.out] at hyk;obtain⟨fn,tmps,assign,body,hy,hR⟩:=hyk;clear hJ3 bd hlt;gi_wp2_with fail;gi_region;gi_wp2_with fail;refine hR.mono ?_;rintro e w5 (⟨rfl,hJ5,kv5⟩ | ⟨rfl,hJx5⟩)
   .have HJ5:=Hd hJ5
    have KV5:=Hd (KV3.out.trans kv5);have hbn5:=KV5.out.cells bn _ _ _ HBN.out (λe=>n2 e.symm) (nil_points HNIL.out bn);have cn5:w5.cell? ⟨bn,0,none⟩=some (.int .i64 112):=(Vc _ _ _ _ _ _ hbn5).trans rfl;clear hJ5 kv5 hbn5;gi_wp2_with fail;go_roundw
    case rel=>exact⟨k+1,q+112,HLT.out,HQ1.out,by go_num,by rw[<-HTK.out];exact HJ5.out,KV5.out⟩
    case measure=>have:=HN.out;have:=HQ1.out;have:=HLT.out;simp[intOf];omega
   .have HJX:=Hd hJx5;clear hJx5;gi_wp2_with fail;refine Vn (results_none rfl _ _ _) rfl ?_;exact⟨⟨_,rfl⟩,.inr ⟨_,by rw[HTK.out,<-range_take m (k+1) HLT.out];exact List.take_prefix _ _,HJX.out⟩⟩
  .obtain rfl:k=m:=by omega
   have hqN:q=N:=by rw[HQ.out,HN.out]
   subst hqN;have hd:decide ((q:Int)<(q:Int))=false:=by simp
   have hdn:decide (q<q)=false:=by simp
   gi_wp2_with fail;go_end0;exact⟨⟨_,rfl⟩,.inl ⟨_,rfl,HJs.out⟩⟩
end
section
open Go.Shelf Go.Sort Go.RowKit
def sortR:Go.Shelf.Ren:=⟨λ| 189=>110 | 125=>140 | 257=>139 | 128=>159 | 129=>160 | 294=>150 | 295=>151 | 296=>152 | 297=>153 | 298=>154 | 299=>155 | 216=>156 | 300=>157 | 301=>158 | 328=>163 | 329=>164 | 330=>165 | 331=>166 | 332=>167 | 215=>168 | 343=>169 | n=>n,λ| 28=>32 | 3=>3 | 46=>197 | 0=>0 | 51=>213 | 53=>156 | 4=>4 | 183=>237 | 182=>236 | 131=>131 | 5=>5 | 9=>9 | 218=>246 | 222=>229 | 228=>251 | 229=>252 | n=>n,λ| n=>n⟩
theorem sortLays:Go.Proofs.Lays.n189 Tryz.prog sortR:={
 mixed:=by kernel_rfl
 f125:=Tryz.func140.trans (Vs some (by kernel_rfl))
 f128:=Tryz.func159.trans (Vs some (by kernel_rfl))
 f129:=Tryz.func160.trans (Vs some (by kernel_rfl))
 f189:=Tryz.func110.trans (Vs some (by kernel_rfl))
 f215:=Tryz.func168.trans (Vs some (by kernel_rfl))
 f216:=Tryz.func156.trans (Vs some (by kernel_rfl))
 f257:=Tryz.func139.trans (Vs some (by kernel_rfl))
 f294:=Tryz.func150.trans (Vs some (by kernel_rfl))
 f295:=Tryz.func151.trans (Vs some (by kernel_rfl))
 f296:=Tryz.func152.trans (Vs some (by kernel_rfl))
 f297:=Tryz.func153.trans (Vs some (by kernel_rfl))
 f298:=Tryz.func154.trans (Vs some (by kernel_rfl))
 f299:=Tryz.func155.trans (Vs some (by kernel_rfl))
 f300:=Tryz.func157.trans (Vs some (by kernel_rfl))
 f301:=Tryz.func158.trans (Vs some (by kernel_rfl))
 f328:=Tryz.func163.trans (Vs some (by kernel_rfl))
 f329:=Tryz.func164.trans (Vs some (by kernel_rfl))
 f330:=Tryz.func165.trans (Vs some (by kernel_rfl))
 f331:=Tryz.func166.trans (Vs some (by kernel_rfl))
 f332:=Tryz.func167.trans (Vs some (by kernel_rfl))
 f343:=Tryz.func169.trans (Vs some (by kernel_rfl))
 t0:=Tryz.underlying0
 a0:=Tryz.isAgg0
 z0:=Tryz.sizeOf0
 v0:=Tryz.zeroValue0
 t3:=Tryz.underlying3
 a3:=Tryz.isAgg3
 z3:=Tryz.sizeOf3
 v3:=Tryz.zeroValue3
 t4:=Tryz.underlying4
 a4:=Tryz.isAgg4
 z4:=Tryz.sizeOf4
 v4:=Tryz.zeroValue4
 t5:=Tryz.underlying5
 a5:=Tryz.isAgg5
 z5:=Tryz.sizeOf5
 v5:=Tryz.zeroValue5
 t9:=Tryz.underlying9
 a9:=Tryz.isAgg9
 z9:=Tryz.sizeOf9
 v9:=Tryz.zeroValue9
 t28:=Tryz.underlying32
 a28:=Tryz.isAgg32
 z28:=Tryz.sizeOf32
 v28:=Tryz.zeroValue32
 t46:=Tryz.underlying197
 a46:=Tryz.isAgg197
 z46:=Tryz.sizeOf197
 v46:=Tryz.zeroValue197
 t51:=Tryz.underlying213
 a51:=Tryz.isAgg213
 z51:=Tryz.sizeOf213
 v51:=Tryz.zeroValue213
 t53:=Tryz.underlying156
 a53:=Tryz.isAgg156
 z53:=Tryz.sizeOf156
 v53:=Tryz.zeroValue156
 t131:=Tryz.underlying131
 a131:=Tryz.isAgg131
 z131:=Tryz.sizeOf131
 v131:=Tryz.zeroValue131
 t182:=Tryz.underlying236
 a182:=Tryz.isAgg236
 z182:=Tryz.sizeOf236
 v182:=Tryz.zeroValue236
 t183:=Tryz.underlying237
 a183:=Tryz.isAgg237
 z183:=Tryz.sizeOf237
 v183:=Tryz.zeroValue237
 t218:=Tryz.underlying246
 a218:=Tryz.isAgg246
 z218:=Tryz.sizeOf246
 v218:=Tryz.zeroValue246
 t222:=Tryz.underlying229
 a222:=Tryz.isAgg229
 z222:=Tryz.sizeOf229
 v222:=Tryz.zeroValue229
 t228:=Tryz.underlying251
 a228:=Tryz.isAgg251
 z228:=Tryz.sizeOf251
 v228:=Tryz.zeroValue251
 t229:=Tryz.underlying252
 a229:=Tryz.isAgg252
 z229:=Tryz.sizeOf252
 v229:=Tryz.zeroValue252 }
theorem sortI_any (w:World) (a cap:Nat) (zs:List Int) (hH:Holds (Value.int .i64) w a 0 zs.toArray) (b:a<w.heap.size) (hsz:zs.length<4611686018427387904) :
  Calls Tryz.prog 110 #[.slice (some ⟨a,0,none⟩) zs.length cap] w λe c=>e=.returned (.tuple #[])/\∃n os,c=grow (putRow (Value.int .i64) (Sort.ahead w n) a 0 (zs.mergeSort λx y=>decide (x<=y)).toArray) os :=
 Any.slices_Sort_int sortLays a 0 cap zs w hH b hsz
end
section
open Go.RowKit
theorem insertNil_any (w:World):Calls Tryz.prog 150 #[.slice none 0 0,.int .i64 0,.int .i64 0] w λe a=>e=.returned (.tuple #[])/\a=w:=by go_enter Tryz.func150,Tryz.ntmps150;go_wp2;refine wp_loop_rounds 1 ?_;rw[rounds_succ];go_wp2;go_end0;exact⟨rfl,rfl⟩
theorem lenNil_any (w:World):Calls Tryz.prog 140 #[.int .u64 0] w λe a=>e=.returned (.int .i64 0)/\a=w:=by go_enter Tryz.func140,Tryz.ntmps140;go_wp2;go_ret;exact⟨by kernel_rfl,rfl⟩
theorem pdqNil_any (w:World):Calls Tryz.prog 139 #[.slice none 0 0,.int .i64 0,.int .i64 0,.int .i64 0] w λe a=>e=.returned (.tuple #[])/\a=w:=by have b:=insertNil_any;go_enter Tryz.func139,Tryz.ntmps139;go_wp2;refine wp_loop_rounds 1 ?_;rw[rounds_succ];go_wp2_with (go_at_call 150;refine(b _).mono ?_;rintro e c ⟨rfl,rfl⟩);exact Vn (results_none (fn:=Tryz.f139) rfl _ _ _) rfl ⟨rfl,rfl⟩
theorem sortNil_any (w:World):Calls Tryz.prog 110 #[.slice none 0 0] w λe a=>e=.returned (.tuple #[])/\a=w:=by have b:=lenNil_any;have HP:=pdqNil_any;go_enter Tryz.func110,Tryz.ntmps110;go_wp2_with (first | (go_at_call 140;refine(b _).mono ?_;rintro e c ⟨rfl,rfl⟩) | (go_at_call 139;refine(HP _).mono ?_;rintro e c ⟨rfl,rfl⟩));go_end0;exact⟨rfl,rfl⟩
end
section
open Go.Shelf Go.Sort Go.RowKit
variable {cur:Array Value}{w:World}{g n:Nat}{os:Array Obj}{e:TypeId}
def upI (zs:List Int):List Int:=zs.mergeSort λx y=>decide (x<=y)
theorem upI_length (zs:List Int):(upI zs).length=zs.length:=by simp[upI]
theorem holds_ints {zs:List Int} (hb:w.heap[g]?=some (.cells cur e (0,0))) (ht:cur.toList.take zs.length=iv zs):Holds (Value.int .i64) w g 0 zs.toArray:=by
 intro j c;have a:j<zs.length:=by simpa using c
 refine⟨?_,by simp[World.frozen?,hb]⟩;have b:(cur.toList.take zs.length)[j]?=(iv zs)[j]?:=by rw[ht]
 rw[List.getElem?_take_of_lt a] at b;simp only[World.cell?,hb,Nat.zero_add];simp only[Option.isSome_none,Bool.false_eq_true,if_false];rw[<-Array.getElem?_toList,b];simp[a,iv]
theorem sorted_block {fr:Nat × Nat} (d:Array Int) (hb:w.heap[g]?=some (.cells cur e fr)):
  (grow (putRow (Value.int .i64) (Sort.ahead w n) g 0 d) os).heap[g]?=some (.cells (putCells (Value.int .i64) 0 d cur) e fr):=by
 have a:g<w.heap.size:=Za hb;rw[heap_grow_old _ _ (by simpa using a)];simp[putRow,mapBlock,Sort.ahead,Array.getElem?_modify,hb,onCells]
theorem sorted_turned (d:Array Int):Zb (·=g) w (grow (putRow (Value.int .i64) (Sort.ahead w n) g 0 d) os):=by
 refine⟨rfl,rfl,rfl,by simp,λk b a=>?_⟩;rw[heap_grow_old _ _ (by simpa using b)];have:g≠k:=λe=>a e.symm
 simp[putRow,mapBlock,Sort.ahead,Array.getElem?_modify,this]
theorem sorted_cells (cur:Array Value) (ts:List Int) (h:ts.length<=cur.size):(putCells (Value.int .i64) 0 ts.toArray cur).toList.take ts.length=iv ts:=by
 apply List.ext_getElem?;intro j;by_cases a:j<ts.length
 .rw[List.getElem?_take_of_lt a,Array.getElem?_toList];simp[putCells,a,iv,show j<cur.size by omega]
 .rw[List.getElem?_take_eq_none (by omega),List.getElem?_eq_none (by simp[iv];omega)]
theorem sortMine_any (w:World) (B:Nat) (v:Value) (zs:List Int) (h:Qt B w v zs) (hz:zs.length<=1000000):
  Calls Tryz.prog 110 #[v] w λe w'=>e=.returned (.tuple #[])/\Qt B w' v (upI zs)/\Zb (B<=·) w w':=by
 rcases id h.2 with ⟨rfl,m⟩ | ⟨g,c,cur,rfl,l,f,i,j,d,b⟩
 .obtain rfl:zs=[]:=Vh m;refine(sortNil_any w).mono ?_;rintro e w' ⟨rfl,rfl⟩;exact⟨rfl,by simpa [upI] using h,Zb.refl _ _⟩
 .have a:cur.toList.take zs.length=iv zs:=by simpa using b
  refine(sortI_any w g c zs (holds_ints f a) (Za f) (by omega)).mono ?_;rintro e w' ⟨rfl,n,os,rfl⟩;refine⟨rfl,?_,(sorted_turned _).mono λk _ o=>by rw[o];exact l⟩;have hl:=upI_length zs
  refine⟨by simp[iv],.inr ⟨g,c,_,by rw[hl],l,sorted_block _ f,by rw[hl];exact i,j,by simp[putCells,d],?_⟩⟩;rw[Nat.mul_one];exact sorted_cells cur (upI zs) (by rw[hl,d];omega)
end
section
open Go.RowKit
open Go.MapKept (Stamped IsKey)
variable {kv:List (Int × Value)}{w:World}{M i:Nat}{n:Int}
abbrev kvOf (es:List MapEntry) (kv:List (Int × Value)):Prop:=es.map (λe=>(e.key,e.val))=kv.map λx=>(Value.int .i64 x.1,x.2)
def OTab (w:World) (M:Nat) (kv:List (Int × Value)):Prop:=∃(es:List MapEntry) (clock:Nat),w.heap[M]?=some (.map es.toArray clock)/\kvOf es kv/\Stamped es.toArray clock
theorem OTab.kmap (h:OTab w M kv):KMap w M kv:=by obtain⟨a,b,c,d,_⟩:=h;exact⟨a,b,c,d⟩
theorem OTab.made (w:World):OTab (w.alloc (.map #[] 0)) w.heap.size []:=⟨[],0,Vg w _,rfl,Go.MapKept.stamped_empty 0⟩
theorem OTab.keep {w':World} (h:OTab w M kv) (hw:w'.heap[M]?=w.heap[M]?):OTab w' M kv:=by obtain⟨a,b,c,d⟩:=h;exact⟨a,b,hw.trans c,d⟩
theorem OTab.lt (h:OTab w M kv):M<w.heap.size:=h.kmap.lt
theorem kv_keys {a:List MapEntry} (h:kvOf a kv):a.map (·.key)=kv.map λx=>Value.int .i64 x.1:=by have:=Vs (List.map Prod.fst) h;simpa [List.map_map,Function.comp_def] using this
theorem OTab.nodup (h:OTab w M kv):(kv.map (·.1)).Nodup:=by
 obtain⟨c,g,j,d,f⟩:=h;have a:(c.map (·.key)).Nodup:=f.2.2
 rw[kv_keys d] at a;rw[List.Nodup,List.pairwise_map] at a ⊢;exact a.imp λb e=>b (by rw[e])
def vPut (kv:List (Int × Value)) (n:Int) (v:Value):List (Int × Value):=if (Zal kv n).isSome then kv.map λx=>if x.1=n then (n,v) else x else kv++[(n,v)]
def vDel (kv:List (Int × Value)) (n:Int):List (Int × Value):=kv.filter λx=>x.1 != n
theorem Zib (kv:List (Int × Value)) (n:Int):Zal kv n=none↔∀x∈kv,x.1≠n:=by
 induction kv with
 | nil=>simp[Zal,kAt]
 | cons x r a =>
  rw[kLook_cons];by_cases h:x.1=n
  .simp[h]
  .simp[h,a]
theorem kAt_some:∀{k j:Nat} {v:Value},kAt kv n k=some (j,v)->∃i,j=k+i/\kv[i]?=some (n,v):=by
 induction kv with
 | nil=>intro k j v h;simp[kAt] at h
 | cons x r a =>
  intro k j v h;simp only[kAt] at h;split at h
  .rename_i b;simp only[Option.some.injEq,Prod.mk.injEq] at h;exact⟨0,by omega,by rw[<-h.2,<-b];rfl⟩
  .obtain⟨i,d,c⟩:=a h;exact⟨i+1,by omega,by simpa using c⟩
theorem only_at (hn:(kv.map (·.1)).Nodup) {v:Value} (h:kv[i]?=some (n,v)):∀j x,kv[j]?=some x->x.1=n->j=i:=by
 intro j x c d;have b:(kv.map (·.1))[j]?=some n:=by rw[List.getElem?_map,c];simp[d]
 have e:(kv.map (·.1))[i]?=some n:=by rw[List.getElem?_map,h];rfl
 have a:j<(kv.map (·.1)).length:=(List.getElem?_eq_some_iff.1 b).1;exact(List.getElem?_inj a hn).1 (b.trans e.symm)
theorem modify_at (hn:(kv.map (·.1)).Nodup) {v u:Value} (h:kv[i]?=some (n,v)):kv.modify i (λ_=>(n,u))=kv.map λx=>if x.1=n then (n,u) else x:=by
 apply List.ext_getElem?;intro j;rw[List.getElem?_modify,List.getElem?_map]
 cases b:kv[j]? with
 | none=>simp
 | some x =>
  by_cases a:x.1=n
  .have:=only_at hn h j x b a;simp[this,a]
  .have:i≠j:=by
    rintro rfl;rw[h] at b;exact a (by cases b;rfl)
   simp[this,a]
theorem erase_at:∀{kv:List (Int × Value)} (a:(kv.map (·.1)).Nodup) {i:Nat} {n:Int} {v:Value} (h:kv[i]?=some (n,v)),kv.eraseIdx i=vDel kv n
 | [],_,i,n,v,h=>by simp at h
 | x::r,a,0,n,v,h=>by
  obtain rfl:x=(n,v):=by simpa using h
  have f:∀y∈r,y.1≠n:=λy b e=>by have:=(List.nodup_cons.1 a).1;exact this (List.mem_map.2 ⟨y,b,e⟩)
  simp only[List.eraseIdx_zero,List.tail_cons,vDel,List.filter_cons,bne_self_eq_false,Bool.false_eq_true,if_false];exact(List.filter_eq_self.2 λy b=>by simpa using f y b).symm
 | x::r,a,i+1,n,v,h=>by
  have c:r[i]?=some (n,v):=by simpa using h
  have g:x.1≠n:=λe=>by have:=(List.nodup_cons.1 a).1;exact this (List.mem_map.2 ⟨_,List.mem_of_getElem? c,e.symm⟩)
  have d:=erase_at (List.nodup_cons.1 a).2 c;simp only[List.eraseIdx_cons_succ,vDel,List.filter_cons,g,bne_iff_ne,ne_eq,not_false_eq_true,if_true] at d ⊢;rw[d]
theorem map_erase {α β:Type} (f:α->β):∀(l:List α) (i:Nat),(l.eraseIdx i).map f=(l.map f).eraseIdx i
 | [],i=>rfl
 | x::l,0=>rfl
 | x::l,i+1=>by simp[map_erase f l i]
section
variable {P : Program} {T K E : TypeId}
theorem OTab.run_put (h:OTab w M kv) (I:P.underlying T=some (.map K E)) (B:P.underlying K=some (.int .i64)) (n:Int) (v:Value):
  ∃w',(Instr.mapUpdate T (.map (some M)) (.int .i64 n) v).run P w=.ok () w'/\OTab w' M (vPut kv n v)/\Zb (·=M) w w':=by
 have D:=h.nodup;obtain⟨c,m,r,p,J⟩:=h;have hf:=Zds c kv n 0 p
 have a:∀o,Zb (·=M) w { w with heap:=w.heap.setIfInBounds M o }:=λo=>⟨rfl,rfl,rfl,by simp,λk g F=>by
  show (w.heap.setIfInBounds M _)[k]?=_
  rw[Array.getElem?_setIfInBounds_ne (λe=>F e.symm)]⟩
 have f:∀o,(w.heap.setIfInBounds M o)[M]?=some o:=λo=>by rw[Array.getElem?_setIfInBounds_self_of_lt (Za r)]
 cases g:kAt kv n 0 with
 | none =>
  rw[g] at hf;have C:Zal kv n=none:=by simp[Zal,g]
  refine⟨{ w with heap:=w.heap.setIfInBounds M (.map (c.toArray.push ⟨.int .i64 n,v,m⟩) (m+1)) },?_,?_,a _⟩
  .simp[Instr.mapUpdate,run_underlying I,Go.MapKept.run_getObj_map r,Go.MapKept.run_checkKey (P:=P) (k:=.int .i64 n) B (by simp[Go.MapKept.IsKey]),Vz (P:=P) B hf,Go.MapKept.run_setObj_map _ r,Result.andThen]
  .refine⟨c++[⟨.int .i64 n,v,m⟩],m+1,(f _).trans (by simp),?_,?_⟩
   .show kvOf _ (vPut kv n v)
    simp[vPut,C,kvOf,p]
   .have hq:∀x∈c.toArray.toList,x.key≠.int .i64 n:=by
     intro x N e;have s:x.key∈c.map (·.key):=List.mem_map.2 ⟨x,by simpa using N,rfl⟩
     rw[kv_keys p,e] at s;obtain⟨y,O,L⟩:=List.mem_map.1 s;simp only[Value.int.injEq,true_and] at L;exact(Zib kv n).1 C y O L
    have:=Go.MapKept.stamped_push (val:=v) J hq;simpa using this
 | some x =>
  obtain⟨j,u⟩:=x;rw[g] at hf;obtain⟨i,rfl,G⟩:=kAt_some g;rw[Nat.zero_add] at hf g;have C:(Zal kv n).isSome=true:=by simp[Zal,g]
  obtain⟨e,b,t,Q⟩:∃e,c[i]?=some e/\e.key=.int .i64 n/\e.val=u:=by
   have:=Vs (λl=>l[i]?) p;simp only[List.getElem?_map,G,Option.map_some] at this
   cases b:c[i]? with
   | none=>rw[b] at this;simp at this
   | some e =>
    rw[b] at this;simp only[Option.map_some,Option.some.injEq,Prod.mk.injEq] at this;exact⟨e,rfl,this.1,this.2⟩
  have H:c.toArray[i]?=some e:=by simpa using b
  refine⟨{ w with heap:=w.heap.setIfInBounds M (.map (c.toArray.modify i λe=>{ e with key:=.int .i64 n,val:=v }) m) },?_,?_,a _⟩
  .simp[Instr.mapUpdate,run_underlying I,Go.MapKept.run_getObj_map r,Go.MapKept.run_checkKey (P:=P) (k:=.int .i64 n) B (by simp[Go.MapKept.IsKey]),Vz (P:=P) B hf,b,t,Go.MapKept.run_keyThatStays (P:=P) (d:=.int .i64) (k:=.int .i64 n) (by simp[Go.MapKept.IsKey]),Go.MapKept.run_setObj_map _ r,Result.andThen]
  .refine⟨c.modify i λe=>{ e with key:=.int .i64 n,val:=v },m,(f _).trans (by simp),?_,?_⟩
   .show kvOf _ (vPut kv n v)
    rw[vPut,if_pos C,<-modify_at D G];unfold kvOf at p ⊢;apply List.ext_getElem?;intro q;have hq:=Vs (λl=>l[q]?) p
    simp only[List.getElem?_map,List.getElem?_modify] at hq ⊢;by_cases z:i=q
    .subst z;simp[G,b]
    .simpa [z] using hq
   .have:=Go.MapKept.stamped_modify J i (λe=>{ e with key:=.int .i64 n,val:=v }) (λ_ _=>rfl) (λR _ A=>by
     rw[H] at A;cases A
     exact t.symm)
    simpa using this
theorem OTab.run_del (h:OTab w M kv) (r:P.underlying T=some (.map K E)) (l:P.underlying K=some (.int .i64)) (n:Int) (v:TypeId):
  ∃w',(Builtin.delete_ #[T,K] v #[.map (some M),.int .i64 n]).run P w=.ok (.tuple #[]) w'/\OTab w' M (vDel kv n)/\Zb (·=M) w w':=by
 have p:=h.nodup;obtain⟨c,m,f,g,s⟩:=h;have hf:=Zds c kv n 0 g
 have a:∀o,Zb (·=M) w { w with heap:=w.heap.setIfInBounds M o }:=λo=>⟨rfl,rfl,rfl,by simp,λk d q=>by
  show (w.heap.setIfInBounds M _)[k]?=_
  rw[Array.getElem?_setIfInBounds_ne (λe=>q e.symm)]⟩
 have b:∀o,(w.heap.setIfInBounds M o)[M]?=some o:=λo=>by rw[Array.getElem?_setIfInBounds_self_of_lt (Za f)]
 cases d:kAt kv n 0 with
 | none =>
  rw[d] at hf;have z:Zal kv n=none:=by simp[Zal,d]
  refine⟨{ w with heap:=w.heap.setIfInBounds M (.map c.toArray m) },?_,⟨c,m,b _,?_,s⟩,a _⟩
  .simp[Builtin.delete_,run_underlying r,Go.MapKept.run_getObj_map f,Go.MapKept.run_checkKey (P:=P) (k:=.int .i64 n) l (by simp[Go.MapKept.IsKey]),Vz (P:=P) l hf,Go.MapKept.run_setObj_map _ f,Result.andThen]
  .have:vDel kv n=kv:=List.filter_eq_self.2 λy A=>by simpa using (Zib kv n).1 z y A
   rw[this];exact g
 | some x =>
  obtain⟨j,u⟩:=x;rw[d] at hf;obtain⟨i,rfl,t⟩:=kAt_some d;rw[Nat.zero_add] at hf d
  have B:i<c.length:=by
   have C:c.length=kv.length:=by simpa using Vs List.length g
   have:=(List.getElem?_eq_some_iff.1 t).1;omega
  refine⟨{ w with heap:=w.heap.setIfInBounds M (.map (c.toArray.eraseIdxIfInBounds i) m) },?_,⟨c.eraseIdx i,m,(b _).trans ?_,?_,?_⟩,a _⟩
  .simp[Builtin.delete_,run_underlying r,Go.MapKept.run_getObj_map f,Go.MapKept.run_checkKey (P:=P) (k:=.int .i64 n) l (by simp[Go.MapKept.IsKey]),Vz (P:=P) l hf,Go.MapKept.run_setObj_map _ f,Result.andThen]
  .simp
  .rw[<-erase_at p t];unfold kvOf at g ⊢;rw[map_erase,map_erase,g]
  .have:=Go.MapKept.stamped_erase s i;simpa using this
end
end
section
open Go.RowKit
open Go.MapKept (Stamped IsKey)
variable {done:List Int}{kv:List (Int × Value)}{w:World}{M r:Nat}
def ITab (w:World) (M r:Nat) (kv:List (Int × Value)) (done:List Int):Prop :=
 ∃(es:List MapEntry) (cl since c0:Nat) (seen:Array Nat),w.heap[M]?=some (.map es.toArray cl)/\w.heap[r]?=some (.mapIter (some M) since seen c0)/\kvOf es kv/\Stamped es.toArray cl /\
  (∀x∈es,x.born<since)/\since<=c0/\c0=cl/\(done.map (Value.int .i64)).Perm ((es.filter λe=>seen.contains e.born).map (·.key))
section
variable {P : Program} {T K E : TypeId}
theorem OTab.run_range (h:OTab w M kv) (e:P.underlying T=some (.map K E)):
  ∃w',(Instr.range T (.map (some M))).run P w=.ok (.pointer (some ⟨w.heap.size,0,none⟩)) w'/\ITab w' M w.heap.size kv []/\Below w.heap.size w w':=by
 obtain⟨c,a,b,f,d⟩:=h;refine⟨_,run_range_map w T K E M c.toArray a e b,⟨c,a,a,a,#[],?_,Vg w _,f,d,λx g=>d.1 x (by simpa using g),Va _,rfl,by simp⟩,(Ve _ _).alloc (Va _) _⟩;rw[<-b];exact((Ve w.heap.size w).alloc (Va _) _).block M (Za b)
theorem ITab.keep {w':World} (h:ITab w M r kv done) (h1:w'.heap[M]?=w.heap[M]?) (h2:w'.heap[r]?=w.heap[r]?):ITab w' M r kv done:=by obtain⟨e,f,d,g,seen,a,b,c⟩:=h;exact⟨e,f,d,g,seen,h1.trans a,h2.trans b,c⟩
theorem ITab.lt (h:ITab w M r kv done):M<w.heap.size/\r<w.heap.size:=by obtain⟨e,f,d,g,seen,a,b,c⟩:=h;exact⟨Za a,Za b⟩
theorem perm_ints {a b:List Int} (h:(a.map (Value.int .i64)).Perm (b.map (Value.int .i64))):a.Perm b:=by
 have:=h.map λv=>match v with | .int _ n=>n | _=>(0:Int)
 simpa [List.map_map,Function.comp_def] using this
theorem filter_seen_push {b:List MapEntry} {seen:Array Nat} {e:MapEntry} (hn:(b.map (·.born)).Nodup) (f:e∈b) (hs:seen.contains e.born=false):
  ((b.filter λx=>seen.contains x.born)++[e]).Perm (b.filter λx=>(seen.push e.born).contains x.born):=by
 induction b with
 | nil=>cases f
 | cons x r h =>
  simp only[List.map_cons,List.nodup_cons] at hn;simp only[contains_push];rcases List.mem_cons.1 f with rfl | c
  .have i:∀y∈r,(y.born==e.born)=false:=λy d=>by
    simp only[beq_eq_false_iff_ne,ne_eq];intro q;exact hn.1 (List.mem_map.2 ⟨y,d,q⟩)
   have j:r.filter (λy=>seen.contains y.born||y.born==e.born)=r.filter λy=>seen.contains y.born:=by apply List.filter_congr;intro y d;rw[i y d,Bool.or_false]
   simp only[List.filter_cons,hs,Bool.false_or,beq_self_eq_true,if_true,Bool.false_eq_true,if_false,j];exact List.perm_append_comm
  .have k:(x.born==e.born)=false:=by
    simp only[beq_eq_false_iff_ne,ne_eq];intro q;exact hn.1 (List.mem_map.2 ⟨e,c,q.symm⟩)
   have a:=h hn.2 c;simp only[contains_push] at a;simp only[List.filter_cons,k,Bool.or_false];by_cases g:seen.contains x.born=true
   .simp only[g,if_true,List.cons_append];exact a.cons x
   .simp only[g,if_false,Bool.false_eq_true];exact a
theorem ITab.run_next (h:ITab w M r kv done) (J:TypeId):
  (done.Perm (kv.map (·.1))/\(Instr.next (.pointer (some ⟨r,0,none⟩)) false J).run P w=.ok (.tuple #[.bool false]) w) \/
  ∃(n:Int) (v:Value) (w':World),n∉done/\(n,v)∈kv/\done.length<kv.length/\(Instr.next (.pointer (some ⟨r,0,none⟩)) false J).run P w=.ok (.tuple #[.bool true,.int .i64 n,v]) w' /\
   ITab w' M r kv (done++[n])/\Zb (·=r) w w'/\(Instr.entry (.pointer (some ⟨r,0,none⟩))).run P w'=.ok (.tuple #[.int .i64 n,v]) w':=by
 obtain⟨d,cl,a,g,seen,G,L,H,N,X,o,rfl,I⟩:=h;rcases run_next_at (P:=P) w J r M a g seen d.toArray g L G (λx p=>X x (by simpa using p)) o with ⟨Y,i⟩ | ⟨e,O,s,t,i⟩
 .refine .inl ⟨?_,i⟩;have hall:=all_seen d.toArray seen Y;have Z:(d.filter λe=>seen.contains e.born)=d:=List.filter_eq_self.2 λx p=>hall x (by simpa using p);rw[Z,kv_keys H] at I;apply perm_ints;rw[List.map_map];exact I
 .refine .inr ?_
  obtain⟨u,z⟩:=mem_left O;have c:e∈d:=by simpa using u
  have l:(e.key,e.val)∈kv.map λx=>(Value.int .i64 x.1,x.2):=by rw[<-H];exact List.mem_map.2 ⟨e,c,rfl⟩
  obtain⟨x,p,f⟩:=List.mem_map.1 l;simp only[Prod.mk.injEq] at f;have A:(d.map (·.born)).Nodup:=by simpa using N.2.1
  have Q:(d.map (·.key)).Nodup:=by simpa using N.2.2
  have j:(List.map (Value.int .i64) (done++[x.1])).Perm ((d.filter λy=>(seen.push e.born).contains y.born).map (·.key)):=by have h1:=(filter_seen_push A c z).map (·.key);refine List.Perm.trans ?_ h1;rw[List.map_append,List.map_append];simp only[List.map_cons,List.map_nil,f.1];exact I.append_right _
  have R:r≠M:=by rintro rfl;rw[L] at G;cases G
  have S:s.heap=w.heap:=by rcases t with rfl | rfl<;>rfl
  have b:(Go.ChangeMaps.setBlock s r (.mapIter (some M) a (seen.push e.born) g)).heap=w.heap.setIfInBounds r (.mapIter (some M) a (seen.push e.born) g):=by rw[<-S];rfl
  have B:(Go.ChangeMaps.setBlock s r (.mapIter (some M) a (seen.push e.born) g)).heap[M]?=some (.map d.toArray g):=by rw[b,Array.getElem?_setIfInBounds_ne R];exact G
  have C:(Go.ChangeMaps.setBlock s r (.mapIter (some M) a (seen.push e.born) g)).heap[r]?=some (.mapIter (some M) a (seen.push e.born) g):=by rw[b,Array.getElem?_setIfInBounds_self_of_lt (Za L)]
  refine⟨x.1,x.2,Go.ChangeMaps.setBlock s r (.mapIter (some M) a (seen.push e.born) g),?_,p,?_,?_,⟨d,g,a,g,seen.push e.born,B,C,H,N,X,o,rfl,j⟩,?_,?_⟩
  .intro U
   have h1:Value.int .i64 x.1∈(d.filter λy=>seen.contains y.born).map (·.key):=I.mem_iff.1 (List.mem_map.2 ⟨_,U,rfl⟩);obtain⟨y,hy,V⟩:=List.mem_map.1 h1;obtain⟨W,D⟩:=List.mem_filter.1 hy;have F:y.key=e.key:=by rw[V,f.1]
   have:y=e:=entry_eq_of_key (List.pairwise_map.1 Q) W c F;subst this;rw[z] at D;cases D
  .have h1:=j.length_eq
   simp only[List.length_map,List.length_append,List.length_cons,List.length_nil] at h1;have h2:(d.filter λy=>(seen.push e.born).contains y.born).length<=d.length:=List.length_filter_le _ _
   have h3:d.length=kv.length:=by simpa using Vs List.length H
   omega
  .rw[i,f.1,f.2]
  .rcases t with rfl | rfl
   .exact⟨rfl,rfl,rfl,by rw[b];simp,λk hk m=>by rw[b,Array.getElem?_setIfInBounds_ne (λq=>m q.symm)]⟩
   .exact⟨rfl,rfl,rfl,by rw[b];simp,λk hk m=>by rw[b,Array.getElem?_setIfInBounds_ne (λq=>m q.symm)]⟩
  .rw[f.1,f.2];exact run_entry_at _ r M a seen d.toArray g e C B (by simpa using c) (by simpa using A)
end
end
section
def Zce (L:List UInt8) (i:Nat):Bool:=(L.getD (8+i / 8) 0).toNat.testBit (i % 8)
def Zgl (L:List UInt8) (i:Nat):List UInt8:=L.set (8+i / 8) (L.getD (8+i / 8) 0 ||| UInt8.ofNat (2 ^ (i % 8)))
theorem setBit_length (L:List UInt8) (i:Nat):(Zgl L i).length=L.length:=by simp[Zgl]
theorem setBit_low (L:List UInt8) (i k:Nat) (h:k<8):(Zgl L i)[k]?=L[k]?:=by rw[Zgl,List.getElem?_set_ne (by omega)]
theorem or_pow (x:UInt8) (a b:Nat) (c:a<8) (hb:b<8):(x ||| UInt8.ofNat (2 ^ a)).toNat.testBit b=(x.toNat.testBit b||decide (a=b)):=by
 have d:(2:Nat) ^ a<256:=by have:=Nat.pow_lt_pow_right (a:=2) (by omega) c;omega
 rw[UInt8.toNat_or,UInt8.toNat_ofNat',Nat.mod_eq_of_lt (by omega),Nat.testBit_or,Nat.testBit_two_pow]
theorem bitAt_setBit (L:List UInt8) (i j:Nat) (a:8+i / 8<L.length):Zce (Zgl L i) j=(Zce L j||decide (i=j)):=by
 unfold Zce Zgl;by_cases h:8+i / 8=8+j / 8
 .rw[List.getD_eq_getElem?_getD,<-h,List.getElem?_set_self a,Option.getD_some,or_pow _ _ _ (by omega) (by omega)]
  congr 1;by_cases e:i=j
  .subst e;simp
  .rw[Vb (by omega),Vb e]
 .rw[List.getD_eq_getElem?_getD,List.getElem?_set_ne h,<-List.getD_eq_getElem?_getD,Vb (by omega),Bool.or_false]
def Xm (n r:Nat):List UInt8:=[85,80,71,49,UInt8.ofNat n,UInt8.ofNat (n / 256),UInt8.ofNat r,UInt8.ofNat (r / 256)]++List.replicate 216 0
def Zas (t:List Bool) (L:List UInt8):Nat->List UInt8
 | 0=>L
 | i+1=>if t.getD i false then Zgl (Zas t L i) i else Zas t L i
def Xz (t:List Bool) (r:Int):List UInt8:=Zas t (Xm t.length (r+1).toNat) t.length
theorem Zeu (n r:Nat):(Xm n r).length=224:=by simp[Xm]
theorem Zgj (t:List Bool) (L:List UInt8) (k:Nat):(Zas t L k).length=L.length:=by
 induction k with
 | zero=>rfl
 | succ k a =>
  rw[Zas];split
  .rw[setBit_length,a]
  .exact a
theorem Yd (t:List Bool) (r:Int):(Xz t r).length=224:=by rw[Xz,Zgj,Zeu]
theorem planTo_low (t:List Bool) (L:List UInt8) (i k:Nat) (h:i<8):(Zas t L k)[i]?=L[i]?:=by
 induction k with
 | zero=>rfl
 | succ k a =>
  rw[Zas];split
  .rw[setBit_low _ _ _ h,a]
  .exact a
theorem planTo_bit (t:List Bool) (L:List UInt8) (hL:L.length=224) (j:Nat):∀k,k<=1728->Zce (Zas t L k) j=(Zce L j||(decide (j<k)&&t.getD j false))
 | 0,_=>by simp[Zas]
 | k+1,h=>by
  have b:=planTo_bit t L hL j k (by omega);rw[Zas];by_cases a:t.getD k false=true
  .rw[if_pos a,bitAt_setBit _ _ _ (by rw[Zgj,hL];omega),b]
   by_cases e:k=j
   .subst e
    rw[Vd rfl,Bool.or_true,Vd (show k<k+1 by omega),a]
    simp
   .rw[Vb e,Bool.or_false];congr 2;rw[Bool.eq_iff_iff];simp;omega
  .rw[if_neg a,b]
   congr 1;by_cases e:k=j
   .subst e;simp at a;simp[a]
   .congr 1;rw[Bool.eq_iff_iff];simp;omega
theorem planHead_bit (n r j:Nat) (h:j<1728):Zce (Xm n r) j=false:=by
 have e:(Xm n r).getD (8+j / 8) 0=0:=by
  rw[Xm,List.getD_eq_getElem?_getD,List.getElem?_append_right (by simp),List.getElem?_replicate];simp
  split<;>rfl
 rw[Zce,e];exact Nat.zero_testBit _
theorem planB_bit (t:List Bool) (r:Int) (j:Nat) (hj:j<1728) (ht:t.length<=1728):Zce (Xz t r) j=t.getD j false:=by
 rw[Xz,planTo_bit _ _ (Zeu _ _) _ _ ht,planHead_bit _ _ _ hj,Bool.false_or];by_cases h:j<t.length
 .simp[h]
 .rw[Vb h,Bool.false_and,List.getD_eq_getElem?_getD,List.getElem?_eq_none (by omega)];rfl
def Yx (b:List UInt8) (n:Nat):List Bool:=(List.range n).map λi=>Zce b i
def Xt (b:List UInt8):Int:=((b.getD 6 0).toNat:Int)+256*((b.getD 7 0).toNat:Int) - 1
def Zdj (b:List UInt8) (n:Nat):Bool:=decide (Xt b<(n:Int))&&(decide (Xt b<0)||(Yx b n).getD (Xt b).toNat false)&&(Xz (Yx b n) (Xt b)==b)
theorem Zs (b:List UInt8) (n:Nat):(Yx b n).length=n:=by simp[Yx]
theorem takenOf_planB (t:List Bool) (r:Int) (ht:t.length<=1728):Yx (Xz t r) t.length=t:=by
 apply List.ext_getElem?;intro i;rw[Yx,List.getElem?_map];by_cases h:i<t.length
 .rw[List.getElem?_range h,Option.map_some,planB_bit t r i (by omega) ht,List.getD_eq_getElem?_getD,List.getElem?_eq_getElem h,Option.getD_some]
 .rw[List.getElem?_eq_none (by simpa using h),List.getElem?_eq_none (by omega),Option.map_none]
theorem rootOf_planB (t:List Bool) (r:Int) (h1:-1<=r) (h2:r<65535):Xt (Xz t r)=r:=by
 have a:(Xz t r).getD 6 0=UInt8.ofNat (r+1).toNat:=by rw[List.getD_eq_getElem?_getD,Xz,planTo_low _ _ _ _ (by omega)];rfl
 have b:(Xz t r).getD 7 0=UInt8.ofNat ((r+1).toNat / 256):=by rw[List.getD_eq_getElem?_getD,Xz,planTo_low _ _ _ _ (by omega)];rfl
 rw[Xt,a,b,UInt8.toNat_ofNat',UInt8.toNat_ofNat'];omega
def RootOk (t:List Bool) (r:Int):Prop:=-1<=r/\r<(t.length:Int)/\(r<0\/t.getD r.toNat false=true)
theorem planOk_planB {t:List Bool} {r:Int} (ht:t.length<=1728) (h:RootOk t r):Zdj (Xz t r) t.length=true:=by obtain⟨a,b,c⟩:=h;rw[Zdj,rootOf_planB t r a (by omega),takenOf_planB t r ht];simp only[Bool.and_eq_true,decide_eq_true_eq,beq_self_eq_true,and_true,Bool.or_eq_true];exact⟨b,c⟩
end
section
open Go.RowKit
structure Pg where
 J:Jn
 now:List Bool
 root:Int
 was:List Bool
 wroot:Int
 own:List (Int × List UInt8)
 change:Bool
 off:Int
def Zdc:List UInt8:=List.replicate 896 0
theorem Zdb:Zdc.length=896:=by simp[Zdc]
def Yl (o:List (Int × List UInt8)) (k:Int):Option (List UInt8):=(o.find? λx=>x.1==k).map (·.2)
def oPut (o:List (Int × List UInt8)) (k:Int) (b:List UInt8):List (Int × List UInt8):=if (Yl o k).isSome then o.map λx=>if x.1=k then (k,b) else x else o++[(k,b)]
def oDel (o:List (Int × List UInt8)) (k:Int):List (Int × List UInt8):=o.filter λx=>x.1 != k
def Pg.fails (P:Pg) (page:Int):Int:=if P.off≠0 then P.off else if (P.now.length:Int)<=page\/page < -1\/(0<=page/\P.now.getD page.toNat false=false) then 81 else 0
def Pg.must (P:Pg) (page:Int):Int:=if P.fails page≠0\/page≠-1 then P.fails page else 81
def freeAt (t:List Bool):Option Nat:=t.findIdx? λb=>!b
def Pg.alloc (P:Pg):(Int × Int) × Pg :=
 if P.fails (-1)≠0 then ((0,P.fails (-1)),P) else match freeAt P.now with
 | none=>((0,80),P)
 | some k=>((k,0),{ P with now:=P.now.set k true,own:=oPut P.own k Zdc,change:=true })
def Pg.free (P:Pg) (page:Int):Int × Pg :=
 if P.must page≠0 then (P.must page,P) else if page=P.root then (2,P) else (0,{ P with now:=P.now.set page.toNat false,own:=oDel P.own page,change:=true })
def Zae (off e:Int):Int:=if e=43\/e=44 then e else off
def Jn.reads (J:Jn) (from_:Int):Nat->List UInt8 × Int × Jn
 | 0=>([],0,J)
 | k+1=>let r:=J.reads from_ k;if r.2.1≠0 then r else let s:=r.2.2.read (from_+k);if s.2.1≠0 then ([],s.2.1,s.2.2) else (r.1++s.1,0,s.2.2)
def Pg.read (P:Pg) (page:Int):List UInt8 × Int × Pg :=
 if P.must page≠0 then ([],P.must page,P) else match Yl P.own page with
 | some b=>(b,0,P)
 | none=>let r:=P.J.reads (2+page*8) 8;if r.2.1≠0 then ([],r.2.1,{ P with J:=r.2.2,off:=Zae P.off r.2.1 }) else (r.1,0,{ P with J:=r.2.2 })
def Pg.write (P:Pg) (page:Int) (b:List UInt8):Int × Pg :=
 if P.must page≠0 then (P.must page,P) else if b.length≠896 then (2,P) else (0,{ P with own:=oPut P.own page b,change:=true })
def Pg.setRoot (P:Pg) (page:Int):Int × Pg:=if P.fails page≠0 then (P.fails page,P) else (0,{ P with root:=page,change:=true })
def Xo:Nat->List UInt8->List (List UInt8)
 | 0,_=>[]
 | k+1,b=>b.take 112::Xo k (b.drop 112)
def Zo (from_:Int) (k:Nat):List Int:=(List.range k).map λ(i:Nat)=>from_+(i:Int)
def Zbr (o:List (Int × List UInt8)):List Int:=(o.map (·.1)).mergeSort λx y=>decide (x<=y)
def Pg.places (P:Pg):List Int:=Zo 0 2++(Zbr P.own).flatMap λk=>Zo (2+k*8) 8
def Pg.blocks (P:Pg):List (List UInt8):=Xo 2 (Xz P.now P.root)++(Zbr P.own).flatMap λk=>Xo 8 ((Yl P.own k).getD [])
def Pg.commit (P:Pg):Int × Pg :=
 if P.fails (-1)≠0 then (P.fails (-1),P) else if P.change=false then (0,P) else
 let r:=P.J.write P.places P.blocks
 if r.1≠0 then (r.1,{ P with J:=r.2,off:=Zae P.off r.1 }) else (0,{ P with J:=r.2,was:=P.now,wroot:=P.root,own:=[],change:=false })
def Jn.pages (J:Jn):Nat:=(J.D.blocks - 2) / 8
def Jn.pformat (J:Jn):Int × Jn:=J.write (Zo 0 2) (Xo 2 (Xz (List.replicate J.pages false) (-1)))
def Jn.popen (J:Jn):Int × Jn × Option Pg :=
 let r:=J.reads 0 2
 if r.2.1≠0 then (r.2.1,r.2.2,none) else if Zdj r.1 r.2.2.pages=false then (82,r.2.2,none)
 else (0,r.2.2,some ⟨r.2.2,Yx r.1 r.2.2.pages,Xt r.1,Yx r.1 r.2.2.pages,Xt r.1,[],false,0⟩)
end
section
open Go.RowKit
theorem upI_perm {a b:List Int} (h:a.Perm b):upI a=upI b:=by
 have e:∀a b c:Int,decide (a<=b)=true->decide (b<=c)=true->decide (a<=c)=true:=by intro a b c f g;simp only[decide_eq_true_eq] at *;omega
 have d:∀a b:Int,(decide (a<=b)||decide (b<=a))=true:=by intro a b;simp only[Bool.or_eq_true,decide_eq_true_eq];omega
 refine List.Perm.eq_of_pairwise (le:=λa b=>decide (a<=b)=true) (λa b _ _ f g=>by simp only[decide_eq_true_eq] at f g;omega) (List.pairwise_mergeSort e d a) (List.pairwise_mergeSort e d b) (((List.mergeSort_perm a _).trans h).trans (List.mergeSort_perm b _).symm)
def slen:Value->Nat | .slice _ n _=>n | _=>0
theorem Qt.form {B:Nat} {w:World} {v:Value} {zs:List Int} (h:Qt B w v zs):∃a b,v=.slice a zs.length b/\zs.length<=b/\b<=maxLen:=by obtain⟨a,c,d,e,f,_⟩:=h.isI;exact⟨a,c,d,e,f⟩
theorem keys_any (w:World) (M:Nat) (kv:List (Int × Value)) (h:OTab w M kv) (hl:kv.length<=100000) :
  Calls Tryz.prog 71 #[.map (some M)] w λe w'=>∃v,e=.returned v/\Qt w.heap.size w' v (upI (kv.map (·.1)))/\Below w.heap.size w w':=by
 obtain⟨J,y,z,p⟩:=h.run_range (P:=Tryz.prog) (T:=143) Tryz.underlying143;have hlt:=h.lt
 have q:w.heap.size+1<=J.heap.size:=by have:=z.lt.2;omega
 clear h;go_enter Tryz.func71,Tryz.ntmps71;go_wp2;go_loopw [3,4] (λv _ wr=>∃done:List Int,done.length<=kv.length/\ITab wr M w.heap.size kv done/\Qt (w.heap.size+1) wr v done/\Below w.heap.size w wr/\w.heap.size+1<=wr.heap.size) (λv _ _=>kv.length - slen v)
 case atStart=>exact⟨[],by simp,z,Qt.nil _ _,p,q⟩
 case round =>
  obtain⟨done,L,l,d,i,N⟩:=hrel;clear z p q y;obtain⟨a,c,rfl,O,Q⟩:=d.form;rcases l.run_next (P:=Tryz.prog) 0 with ⟨E,R⟩ | ⟨n,x,f,S,U,F,R,b,m,V⟩
  .have HS:=Hd (sortMine_any wr (w.heap.size+1) _ done d (by omega));have HP:=Hd (upI_perm E);clear E l d;go_wp2_with (go_at_call 110;refine HS.out.mono ?_;rintro e X ⟨rfl,hmi3,A⟩);go_ret;refine⟨_,rfl,?_,i.trans (A.below (B:=w.heap.size) i.size λk G=>by omega)⟩;rw[<-HP.out];exact World.ownsRow.mono hmi3 (by omega)
  .have hs2:=m.size
   have j:=d.keep (w':=f) λk Y W=>m.block k W (by omega);have hmi3:=j.below ((Ve f.heap.size f).alloc (Va _) (.cells #[.int .i64 n] 3));have hit3:=b.keep (w':=f.alloc (.cells #[.int .i64 n] 3)) (((Ve f.heap.size f).alloc (Va _) _).block _ b.lt.1) (((Ve f.heap.size f).alloc (Va _) _).block _ b.lt.2);have o:Below w.heap.size w (f.alloc (.cells #[.int .i64 n] 3)):=(i.trans (m.below (B:=w.heap.size) i.size λk G=>by omega)).alloc (by omega) _;have hs3:w.heap.size+1<=(f.alloc (.cells #[.int .i64 n] 3)).heap.size:=by simp;omega
   obtain⟨Z,w5,r,g,s⟩:=hmi3.grow hs3 (by omega) n f.heap.size (Vg _ _);have ht5:=grown_turned hmi3 s
   have C:Below w.heap.size w w5:=o.trans (ht5.below (B:=w.heap.size) o.size λk G=>by omega);have D:w.heap.size+1<=w5.heap.size:=Vk hs3 ht5.size;have t:ITab w5 M w.heap.size kv (done++[n]):=hit3.keep (ht5.block _ hit3.lt.1 (by omega)) (ht5.block _ hit3.lt.2 (by omega));obtain⟨a6,c6,rfl,H,I⟩:=g.form;have u:(done++[n]).length=done.length+1:=by simp
   clear l d b j o s S U hit3 hmi3 ht5;go_wp2_with (at_builtin;refine wpList_append_run rfl (.tmp 11) (.tmp 13) 32 32 rfl _ _ _ rfl rfl r ?_;clear r);go_roundw
   case rel=>exact⟨done++[n],by omega,t,by rw[u] at g;exact g,C,D⟩
   case measure=>simp only[slen,u];omega
end
section
open Go.RowKit Go.Shelf
attribute [local go_sem] Oper.semAt_some
def Zx (g:Nat) (l:List Nat):List Value:=l.map (Zdf g)
theorem Zbh.grow2 {B:Nat} {w:World} {v:Value} {us:List Value} (h:Zbh B w v us) (hB:B<=w.heap.size) (hL:us.length<=1000000) (u:Value) (hu:u.oneCell'=true) (g:Nat) (hg:w.heap[g]?=some (.cells #[u] 77 (0,0))) :
  ∃d a,(Builtin.append_ #[147,147] 147 #[v,.slice (some ⟨g,0,none⟩) 1 1]).run Tryz.prog w=.ok d a/\Zbh B a d (us++[u])/\w.grownBy a v.ownBlock/\(d.ownBlock=v.ownBlock\/d.ownBlock=some w.heap.size):=by
 obtain⟨i,m,n,o,p⟩:=Ue (P:=Tryz.prog) (e:=77) info_bytes2;have b:∀a:World,a.heap=w.heap->∀j c,([u]:List Value)[j]?=some c->a.cell? ((⟨g,0,none⟩:Addr).add j)=some c:=λa k j c q=>by rw[Addr.add_mid,Nat.zero_add,Vc a _ _ _ _ _ (by rw[k];exact hg)];simpa using q
 obtain⟨d,a,r,s,l,_,f⟩:=Zfc (P:=Tryz.prog) w B 147 147 147 77 i _ 1 24 _ Tryz.underlying147 Tryz.underlying147 (.inl rfl) m n o p rfl (by decide) v us.length us h
  (.slice (some ⟨g,0,none⟩) 1 1) 1 [u] (λa=>rfl) rfl (λa k=>Uc (P:=Tryz.prog) a 1 1 ⟨g,0,none⟩ 1 1 [u] rfl (b a k)) (by
   intro c t
   rw[List.mem_singleton.1 t,hu]) (by simp[maxLen];omega) (by omega) hB
 refine⟨d,a,r,?_,l,f⟩;unfold Zbh;rw[List.length_append];exact s
set_option maxRecDepth 100000 in
theorem appendSeq_any (w:World) (bb bn g c m:Nat) (hbb:w.heap[bb]?=some (.cells #[.slice (some ⟨g,0,none⟩) (112*m) c] 77 (0,0))) (hbn:w.heap[bn]?=some (.cells #[.int .i64 112] 3 (0,0)))
  (hc:112*m<=c) (hm:m<=10000) :
  Calls Tryz.prog 137 #[.slice none 0 0,.func (.func 138) #[] #[.pointer (some ⟨bb,0,none⟩),.pointer (some ⟨bn,0,none⟩)]] w λe w'=>∃v,e=.returned v/\Zbh w.heap.size w' v (Zx g (List.range m))/\Below w.heap.size w w':=by
 refine Un (n:=3).1 ?_;have bO:=Boxed.new w 147 (.slice none 0 0)
 have hB0:Below w.heap.size w (w.alloc (.cells #[.slice none 0 0] 147)):=(Ve _ w).alloc (Va _) _;have hsz:(w.alloc (.cells #[.slice none 0 0] 147)).heap.size=w.heap.size+1:=by simp
 have hlb:=Za hbb;have hln:=Za hbn;refine callsIn_of_wp_marks Tryz.func137 rfl trivial ?_ rfl;simp only[Tryz.ntmps137,List.size_toArray,List.length_cons,List.length_nil,Nat.reduceAdd,Nat.reduceSub,Array.replicate_succ,Array.replicate_zero,List.push_toArray,List.append_toArray,List.nil_append,List.cons_append];gi_wp2_with fail;obtain⟨W0,hW0⟩:∃W0,w.alloc (.cells #[.slice none 0 0] 147)=W0:=⟨_,rfl⟩;rw[hW0] at bO hB0 hsz ⊢;clear hW0
 refine wpIn_rangeFunc_ownF (F:=Fence.wide) rfl (by omega) (gf:=138) (lb:=#[.pointer (some ⟨bb,0,none⟩),.pointer (some ⟨bn,0,none⟩)]) rfl trivial (enters_of Tryz.func138 (by kernel_rfl) rfl)
  (chunk_stops 2 (by omega) w.heap.size bb bn g c m W0 ((hB0.block _ hlb).trans hbb) ((hB0.block _ hln).trans hbn) hc hm bO.cell (by omega) (by omega)) Zdd.trans (λW l o o' hl h1 h2 _=>Zdd.put W l o o' h1 h2 (by omega)) (Ve _ _) (λ_=>rfl)
  (λpre W=>(∃v,Boxed W w.heap.size 147 v/\W.ownsRow w.heap.size 77 1 v pre.length (Zx g pre)/\True)/\Below w.heap.size w W)
  (λ_ _ _=>False)
  (OwnFrom.and (Own.from (holdsRow_own w.heap.size w.heap.size 147 77 1 (λpre:List Nat=>pre.length) (λpre=>Zx g pre) (λ_ _=>True)) _) (ownFrom_below (Va _) (by omega)))
  (λ_=>ownFrom_pure _ (λ_:List Nat=>False))
  ⟨⟨_,bO,Uj _ _ _ _,trivial⟩,hB0⟩
  (λx=>{ tmps:=#[.slice none 0 0,.func (.func 138) #[] #[.pointer (some ⟨bb,0,none⟩),.pointer (some ⟨bn,0,none⟩)],.pointer (some ⟨w.heap.size,0,none⟩),undef,.slice none 0 0,Zdf g x,.func (.func 138) #[] #[.pointer (some ⟨bb,0,none⟩),.pointer (some ⟨bn,0,none⟩)],Zdf g x,undef,undef,undef,undef,undef],defers:=[] })
  ?assign ?body ?done ?stop
 case assign =>
  intro l x W K hK;gi_wp2;exact hK
 case body =>
  rintro l pre x W ⟨⟨v,bv,rv,_⟩,hb⟩ hlt;have hsz2:=hb.size
  have bt:Below W.heap.size W (W.alloc (.cells #[Zdf g x] 77)):=(Ve _ W).alloc (Va _) _
  have rv1:Zbh w.heap.size (W.alloc (.cells #[Zdf g x] 77)) v (Zx g pre):=by
   have:(Zx g pre).length=pre.length:=by simp[Zx]
   unfold Zbh;rw[this];exact World.ownsRow.alloc rv _
  obtain⟨v',w1,hr1,m1,hg1,hown⟩:=rv1.grow2 (by simp;omega) (by simp[Zx];omega) (Zdf g x) rfl W.heap.size (Vg _ _);have e1:Zx g pre++[Zdf g x]=Zx g (pre++[x]):=by simp[Zx]
  have e2:(Zx g (pre++[x])).length=pre.length+1:=by simp[Zx]
  rw[e1] at m1;unfold Zbh at m1;rw[e2] at m1;obtain⟨bv1,bv2,r2,k2,b2⟩:=bv.appended (by decide) rv hb.size (by omega) m1 hg1;have kv:=Zdd.appended bv bv2 rv r2 hg1 hown
  have bb2:=hb.trans b2
  obtain⟨a4,N,k4,rfl,hN⟩:∃a n k,v'=.slice a n k/\n=pre.length+1:=by
   have m1':Zbh w.heap.size w1 v' (Zx g (pre++[x])):=by unfold Zbh;rw[e2];exact m1
   obtain⟨a,k,h,_⟩:=m1'.form;exact⟨a,_,k,h,e2⟩
  obtain⟨a3,N3,k3,rfl,hN3⟩:∃a n k,v=.slice a n k/\n=pre.length:=by
   rcases rv.2 with ⟨rfl,hn⟩ | ⟨g',cap,cur,rfl,_⟩
   .exact⟨none,0,0,rfl,hn.symm⟩
   .exact⟨_,_,cap,rfl,rfl⟩
  have cv:=bv.cell;have cv1:=bv1.cell;have fv1:=bv1.frozen;have HF:=Hd (show ∃v,Boxed (w1.setCell ⟨w.heap.size,0,none⟩ (.slice a4 N k4)) w.heap.size 147 v/\(w1.setCell ⟨w.heap.size,0,none⟩ (.slice a4 N k4)).ownsRow w.heap.size 77 1 v (pre++[x]).length (Zx g (pre++[x]))/\True from ⟨_,bv2,by simpa using r2,trivial⟩)
  have HK:=Hd k2;have HKV:=Hd kv;have HBB:=Hd bb2;clear k2 kv bb2 bv bv1 bv2 rv r2 m1 hg1 hown b2 hb e1 e2 rv1 bt hN hN3;gi_wp2_with (gi_at_builtin;refine Zex rfl (.tmp 8) (.tmp 10) 147 147 rfl _ _ rfl rfl hr1 ?_;clear hr1);exact⟨HK.out,HKV.out,HF.out,HBB.out⟩
 case done =>
  rintro D ys W hD rfl ⟨⟨v,bv,rv,_⟩,hb⟩ hK;have hc:=bv.cell
  have RV:=Hd rv;clear rv;gi_wp2;refine⟨by simp,.inl ⟨_,_,rfl,run_takeDeferred hK,?_⟩⟩;refine⟨_,results_tmp rfl _ _ _,v,rfl,?_,hb.trans (belowK_b (w:=w) (Va _) W D _ _ (by omega) hK rfl rfl)⟩;unfold Zbh;rw[show (Zx g (List.range m)).length=(List.range m).length by simp[Zx]]
  exact ownsRow_putObj RV.out _ hK rfl
 case stop =>
  intro D c pre W hD hpre hF;exact hF.elim
abbrev chunkF (bb bn:Nat):Value:=.func (.func 138) #[] #[.pointer (some ⟨bb,0,none⟩),.pointer (some ⟨bn,0,none⟩)]
theorem chunk_any (w:World) (a:Option Addr) (b vc:Nat):Calls Tryz.prog 109 #[.slice a b vc,.int .i64 112] w λe w'=>e=.returned (chunkF w.heap.size (w.heap.size+1))/\w'.heap[w.heap.size]?=some (.cells #[.slice a b vc] 77 (0,0))/\w'.heap[w.heap.size+1]?=some (.cells #[.int .i64 112] 3 (0,0))/\Below w.heap.size w w':=by
 have c:Hid (((w.alloc (.cells #[.slice a b vc] 77)).alloc (.cells #[.int .i64 112] 3)).heap[w.heap.size]?=some (.cells #[.slice a b vc] 77 (0,0))/\((w.alloc (.cells #[.slice a b vc] 77)).alloc (.cells #[.int .i64 112] 3)).heap[w.heap.size+1]?=some (.cells #[.int .i64 112] 3 (0,0))/\Below w.heap.size w ((w.alloc (.cells #[.slice a b vc] 77)).alloc (.cells #[.int .i64 112] 3))):=Hd (by
  have d:=Vg w (.cells #[.slice a b vc] 77);have h2:=Vg (w.alloc (.cells #[.slice a b vc] 77)) (.cells #[.int .i64 112] 3);have f:(w.alloc (.cells #[.slice a b vc] 77)).heap.size=w.heap.size+1:=by simp
  rw[f] at h2;have hb:=(Ve (w.alloc (.cells #[.slice a b vc] 77)).heap.size (w.alloc (.cells #[.slice a b vc] 77))).alloc (Va _) (.cells #[.int .i64 112] 3)
  exact⟨(hb.block _ (by omega)).trans d,h2,((Ve _ _).alloc (Va _) _).alloc (by omega) _⟩)
 have g:((w.alloc (.cells #[.slice a b vc] 77)).alloc (.cells #[.int .i64 112] 3)).cell? ⟨w.heap.size+1,0,none⟩=some (.int .i64 112):=by rw[Vc _ _ _ _ _ _ c.out.2.1];rfl
 go_enter Tryz.func109,Tryz.ntmps109;go_wp2;go_ret;exact⟨rfl,c.out⟩
theorem collect_any (w:World) (bb a g c m:Nat) (hbb:w.heap[bb]?=some (.cells #[.slice (some ⟨g,0,none⟩) (112*m) c] 77 (0,0))) (hbn:w.heap[a]?=some (.cells #[.int .i64 112] 3 (0,0)))
  (hc:112*m<=c) (hm:m<=10000) :
  Calls Tryz.prog 108 #[chunkF bb a] w λe w'=>∃v,e=.returned v/\Zbh w.heap.size w' v (Zx g (List.range m))/\Below w.heap.size w w':=by
 have b:=Hd (appendSeq_any w bb a g c m hbb hbn hc hm);clear hbb hbn;go_enter Tryz.func108,Tryz.ntmps108;go_wp2_with fail;refine b.out.mono ?_;rintro e h ⟨v,rfl,d,f⟩;go_wp2_with fail;go_ret;exact⟨_,rfl,d,f⟩
theorem placesFrom_succ (from_:Int) (k:Nat):Zo from_ (k+1)=Zo from_ k++[from_+(k:Int)]:=by simp[Zo,List.range_succ]
theorem Yn (from_:Int) (k:Nat):(Zo from_ k).length=k:=by simp[Zo]
theorem Zbx (g:Nat) (l:List Nat):(Zx g l).length=l.length:=by simp[Zx]
theorem parts_any (w:World) (from_:Int) (g c m N:Nat) (hN:N=112*m) (hc:N<=c) (hm:m<=10000) (h1:0<=from_) (h2:from_<=1000000) :
  Calls Tryz.prog 69 #[.int .i64 from_,.slice (some ⟨g,0,none⟩) N c] w λe w'=>∃u v,e=.returned (.tuple #[u,v])/\Qt w.heap.size w' u (Zo from_ m)/\Zbh w.heap.size w' v (Zx g (List.range m))/\Below w.heap.size w w':=by
 have F:=Hd (chunk_any w (some ⟨g,0,none⟩) N c);have HNN:=Hd hN;clear hN;go_enter Tryz.func69,Tryz.ntmps69;go_wp2_with fail;refine F.out.mono ?_;rintro e G ⟨rfl,j,p,l⟩;rw[HNN.out] at j;have HD:=Hd (collect_any G _ _ g c m j p (by have:=HNN.out;omega) hm);have hs1:=l.size;clear j p;go_wp2_with fail;refine HD.out.mono ?_;rintro e H ⟨v,rfl,z,q⟩;have n:Zbh w.heap.size H v (Zx g (List.range m)):=World.ownsRow.mono z hs1;obtain⟨A,C,rfl,_,_⟩:=n.form;rw[Zbx,List.length_range] at *;have hb3:=l.trans (q.mono hs1);have hs2:=hb3.size;have HV:=Hd n;clear z n l q;go_wp2_with fail;go_loopw [7,14] (λu x wr=>∃k:Nat,k<=m/\x=.int .i64 (k:Int)/\Qt w.heap.size wr u (Zo from_ k)/\Zbh w.heap.size wr (.slice A m C) (Zx g (List.range m))/\Below w.heap.size w wr) (λ_ x _=>m - (intOf x).toNat)
 case atStart=>exact⟨0,Vl _,rfl,Qt.nil _ _,HV.out,hb3⟩
 case round =>
  clear hb3 hs2;obtain⟨k,I,rfl,d,h,f⟩:=hrel;obtain⟨a,P,rfl,J,L⟩:=d.form;have hlp:=Yn from_ k
  by_cases y:k<m
  .have Q:decide ((k:Int)<(m:Int))=true:=Vd (by omega)
   have M:IntKind.i64.wrap (from_+(k:Int))=from_+(k:Int):=Vf _ (by omega);have hsr:=f.size;have t:Below wr.heap.size wr (wr.alloc (.cells #[.int .i64 (from_+(k:Int))] 3)):=(Ve _ _).alloc (Va _) _;have hmi2:=d.below t;have hrv2:=h.below t;obtain⟨R,w5,r,b,o⟩:=hmi2.grow (by simp;omega) (by omega) (from_+(k:Int)) wr.heap.size (Vg _ _);have i:Zbh w.heap.size w5 (.slice A m C) (Zx g (List.range m)):=Zfh hrv2 hmi2 (by decide) o;have ht5:=grown_turned hmi2 o;have s:Below w.heap.size w w5:=(f.trans (t.mono hsr)).trans (ht5.below (B:=w.heap.size) (by simp;omega) λk I=>by omega);rw[<-placesFrom_succ] at b;obtain⟨S,T,rfl,D,E⟩:=b.form;have HM:=Hd b;have HR:=Hd i;have HB:=Hd s;clear d h f t hmi2 hrv2 b o i ht5 s;go_wp2_with (at_builtin;refine wpList_append_run rfl (.tmp 17) (.tmp 21) 32 32 rfl _ _ _ rfl rfl r ?_;clear r);go_roundw
   case rel=>exact⟨k+1,y,by go_num,HM.out,HR.out,HB.out⟩
   case measure=>simp[intOf];omega
  .obtain rfl:k=m:=by omega
   have O:decide ((k:Int)<(k:Int))=false:=by simp
   have HM:=Hd d;have HR:=Hd h;have HB:=Hd f;clear d h f;go_wp2_with fail;go_ret2;exact⟨_,_,rfl,HM.out,HR.out,HB.out⟩
end
section
open Go.RowKit
variable {w w':World}{B g:Nat}{v:Value}{t:List Bool}{L:List UInt8}{T:TypeId}
theorem info_bool:(Tryz.prog.info? 4).map (λi=>(i.zero,i.size,i.bytes))=some (some (.bool false),1,1):=by kernel_rfl
def bov (t:List Bool):List Value:=t.map λb=>.bool b
theorem bov_get (t:List Bool) (i:Nat) (h:i<t.length):(bov t)[i]?=some (.bool t[i]):=by simp[bov,h]
theorem Xu (t:List Bool):(bov t).length=t.length:=by simp[bov]
def Qb (B:Nat) (w:World) (v:Value) (t:List Bool):Prop:=w.ownsRow B 4 1 v t.length (bov t)
theorem Qb.form (h:Qb B w v t):∃a b,v=.slice a t.length b/\t.length<=b/\b<=maxLen:=by
 rcases h.2 with ⟨rfl,c⟩ | ⟨g,b,e,rfl,i,j,c,f,k,d⟩
 .exact⟨none,0,by rw[c],by omega,by simp[maxLen]⟩
 .exact⟨_,b,rfl,c,f⟩
theorem Qb.cell (h:Qb B w v t) (h0:t≠[]):∃g a,v=.slice (some ⟨g,0,none⟩) t.length a/\t.length<=a/\a<=maxLen/\∀i (f:i<t.length),w.cell? ⟨g,i,none⟩=some (.bool t[i]):=by
 rcases h.2 with ⟨rfl,j⟩ | ⟨g,a,k,rfl,n,l,c,d,m,b⟩
 .exact absurd (Vh j) h0
 .refine⟨g,a,rfl,c,d,λi f=>?_⟩
  rw[Vc _ _ _ _ _ _ l];have e:(bov t)[i]?=some (.bool t[i]):=bov_get t i f
  rw[<-b,List.getElem?_take,if_pos (by omega)] at e;simpa using e
theorem Qb.keep (h:Qb B w v t) (hw:∀k,B<=k->k<w.heap.size->w'.heap[k]?=w.heap[k]?):Qb B w' v t:=Zgx h hw
theorem Qb.below (h:Qb B w v t) (hb:Below w.heap.size w w'):Qb B w' v t:=h.keep λk _ a=>hb.block k a
theorem Zh.set (h:Zh w g T L) (j:Nat) (x:UInt8):Zh (w.setCell ⟨g,j,none⟩ (.int .u8 (x.toNat:Int))) g T (L.set j x):=by have:=Ze (i:=j) h (.int .u8 (x.toNat:Int));unfold Zh;rw[this];congr 2;apply Array.ext';simp[bv,List.map_set]
theorem Zh.frozen (h:Zh w g T L) (j:Nat):w.frozen? ⟨g,j,none⟩=false:=Zf h j
theorem run_make224 (w:World):(Instr.makeSlice 77 (.int .i64 224) (.int .i64 224)).run Tryz.prog w=.ok (.slice (some ⟨w.heap.size,0,none⟩) 224 224) (w.alloc (.cells (bv (List.replicate 224 0)).toArray 5)):=by kernel_rfl
theorem run_copy_word (h:Zh w g 5 L) (hl:L.length=224) (l:TypeId):
  (Builtin.copy_ #[77,9] l #[.slice (some ⟨g,0,none⟩) 224 224,.string ⟨#[85,80,71,49]⟩]).run Tryz.prog w=.ok (.int .i64 4) (w.setCells g 0 (bv [85,80,71,49])):=by
 obtain⟨i,m,o,c,n⟩:=Ue (P:=Tryz.prog) (e:=5) Zbg;have d:∀w,(sizeOf 5).run Tryz.prog w=.ok 1 w:=λw=>by simp[sizeOf,typeInfo,m,c]
 have a:=run_storeCells_cells (P:=Tryz.prog) g 0 (bv [85,80,71,49]) 0 w (λj f=>(h.there 0 4 (by omega) j (by simpa [bv] using f)).1) (λj f=>(h.there 0 4 (by omega) j (by simpa [bv] using f)).2) (Yq _);simp only[Nat.add_zero] at a;have k:(Builtin.firstCells 1 4 (.string ⟨#[85,80,71,49]⟩)).run Tryz.prog w=.ok (bv [85,80,71,49]).toArray w:=by kernel_rfl
 have b:(Builtin.lenOf (.string ⟨#[85,80,71,49]⟩)).run Tryz.prog w=.ok 4 w:=by kernel_rfl
 unfold Builtin.copy_;simp[run_underlying Tryz.underlying77,d,b,a,goInt,k]
end
section
open Go.RowKit
variable {xs:List Value}{P:Program}{B n:Nat}{e:TypeId}{w:World}{v:Value}
theorem Zfr (h:w.ownsRow B e 1 v n xs):∀w':World,w'.heap=w.heap->(Builtin.firstCells 1 n v).run P w'=.ok xs.toArray w':=by
 intro w' k;obtain⟨b,l⟩:=h;rw[Nat.mul_one] at b;rcases l with ⟨rfl,d⟩ | ⟨g,m,c,rfl,r,o,d,s,t,a⟩
 .subst d;obtain rfl:xs=[]:=Vh b;simp[Builtin.firstCells]
 .by_cases p:n=0
  .subst p;obtain rfl:xs=[]:=Vh b;simp[Builtin.firstCells,loadCells,loadCellsFrom]
  refine Uc (P:=P) w' 1 n _ _ _ xs (by simp[b]) ?_;intro j u f;have q:j<n:=by have:=(List.getElem?_eq_some_iff.1 f).1;omega
  rw[Addr.add_mid,Nat.zero_add,Vc w' _ _ _ _ _ (by rw[k];exact o)];have i:(c.toList.take (n*1))[j]?=some u:=by rw[a];exact f
  rw[List.getElem?_take,if_pos (by omega)] at i;simpa using i
theorem own_lenOf (h:w.ownsRow B e 1 v n xs):∀w':World,(Builtin.lenOf v).run P w'=.ok n w':=by
 intro w';rcases h.2 with ⟨rfl,a⟩ | ⟨g,b,c,rfl,_⟩
 .subst a;simp[Builtin.lenOf]
 .simp[Builtin.lenOf]
end
section
open Go.RowKit
variable {t:List Bool}{b:Bool}
theorem isB_at {w:World} {a:Option Addr} {n cap:Nat} {l:List UInt8} (h:IsB w (.slice a n cap) l) (i:Nat) (f:i<l.length):∃b o,a=some ⟨b,o,none⟩/\w.cell? ⟨b,o+i,none⟩=some (.int .u8 (l[i].toNat:Int)):=by
 obtain⟨k,d,e,m,p,g,c⟩:=h;simp only[Value.slice.injEq] at e;obtain⟨rfl,rfl,rfl⟩:=e
 cases a with
 | none=>have:=g rfl;omega
 | some x =>
  obtain⟨b,o,s⟩:=x;obtain⟨j,c⟩:=c _ rfl;obtain rfl:s=none:=j (by omega);exact⟨b,o,rfl,c i f⟩
theorem bov_oneCell (t:List Bool):∀u∈bov t,u.oneCell'=true:=by intro u a;obtain⟨_,_,rfl⟩:=List.mem_map.1 a;rfl
theorem cloneO_any (w:World) (B:Nat) (v:Value) (t:List Bool) (hv:Qb B w v t) (ht:t.length<=1000000):
  Calls Tryz.prog 107 #[v] w λe w'=>∃u,e=.returned u/\Qb w.heap.size w' u t/\Below w.heap.size w w':=by
 have D:=λ(w:World) (a:Option Addr) (n c:Nat)=>Lib.run_eql_slice_nil (P:=Tryz.prog) w 139 4 a n c 0 0 Tryz.underlying139;have E:∀w:World,(Instr.buildSlice 139 0 #[]).run Tryz.prog w=.ok (.slice (some ⟨w.heap.size,0,none⟩) 0 0) (w.alloc (.cells #[] 4)):=λw=>by kernel_rfl
 rcases id hv.2 with ⟨rfl,q⟩ | ⟨g,F,G,r,H,I,q,J,L,j⟩
 .obtain rfl:t=[]:=Vh q;clear hv q;go_enter Tryz.func107,Tryz.ntmps107;go_wp2;go_ret;exact⟨_,rfl,Uj _ _ _ _,Ve _ _⟩
 .obtain⟨i,z,A,m,o⟩:=Ue (P:=Tryz.prog) (e:=4) info_bool
  obtain⟨W1,f⟩:∃W1,W1=w.alloc (.cells #[] 4):=⟨_,rfl⟩;have h:W1.ownsRow w.heap.size 4 1 (.slice (some ⟨w.heap.size,0,none⟩) 0 0) 0 []:=by rw[f];exact⟨rfl,.inr ⟨w.heap.size,0,#[],rfl,Va _,Vg w _,Va _,by simp[maxLen],rfl,rfl⟩⟩
  have d:Below w.heap.size w W1:=by rw[f];exact(Ve _ _).alloc (Va _) _
  have l:Qb B W1 v t:=hv.below d
  obtain⟨M,w',s,x,p,_,_⟩:=Zfc (P:=Tryz.prog) W1 w.heap.size 139 139 139 4 i _ 1 1 _ Tryz.underlying139 Tryz.underlying139 (.inl rfl) z A m o rfl (by decide) _ 0 [] h
   v t.length (bov t) (own_lenOf l) (by simp[bov]) (Zfr l) (bov_oneCell t) (by simp[maxLen];omega) (by omega) d.size
  have C:Hid (Qb w.heap.size w' M t/\Below w.heap.size w w'):=Hd ⟨by
   unfold Qb;rw[List.nil_append,Nat.zero_add] at x
   exact x,d.grown p d.size λk N=>by
    simp only[Value.ownBlock,Option.some.injEq] at N
    omega⟩
  obtain⟨O,Q,y,_,_⟩:=C.out.1.form;clear h l x p hv d L j I H q J m A o z;subst r y;rw[f] at s;clear f;go_enter Tryz.func107,Tryz.ntmps107;go_wp2_with (at_builtin;refine wpList_append_run rfl (.tmp 5) (.tmp 6) 139 139 rfl _ _ _ rfl rfl s ?_;clear s);go_ret;exact⟨_,rfl,C.out⟩
def idxB (t:List Bool) (b:Bool):Int:=match t.findIdx? (·==b) with | some k=>(k:Int) | none=>-1
theorem idxB_at {k:Nat} (h:k<t.length) (h1:t[k]=b) (h2:∀j (hj:j<k),t[j]'(by omega)≠b):idxB t b=(k:Int):=by have:t.findIdx? (·==b)=some k:=List.findIdx?_eq_some_iff_getElem.2 ⟨h,by simpa using h1,λj hj=>by simpa using h2 j hj⟩;rw[idxB,this]
theorem idxB_none (h:∀j (hj:j<t.length),t[j]≠b):idxB t b=-1:=by
 have:t.findIdx? (·==b)=none:=List.findIdx?_eq_none_iff.2 λx a=>by obtain⟨j,hj,rfl⟩:=List.getElem_of_mem a;simpa using h j hj
 rw[idxB,this]
theorem indexO_any (w:World) (B:Nat) (v:Value) (t:List Bool) (b:Bool) (hv:Qb B w v t) (ht:t.length<=1000000):
  Calls Tryz.prog 145 #[v,.bool b] w λe q=>e=.returned (.int .i64 (idxB t b))/\w=q:=by
 obtain⟨a,c,rfl,m,r⟩:=hv.form;have HV:=Hd hv
 obtain⟨n,o⟩:∃n,n=t.length:=⟨_,rfl⟩;have Hn:=Hd o
 rw[<-o] at ht HV m ⊢;clear hv o;go_enter Tryz.func145,Tryz.ntmps145;go_wp2;go_loop [8] (λx=>∃k:Nat,k<=n/\x=.int .i64 (k:Int)/\∀j (g:j<k) (h:j<t.length),t[j]≠b) (λx=>n - (intOf x).toNat)
 case atStart=>exact⟨0,Vl _,rfl,λj g=>by omega⟩
 case round =>
  obtain⟨k,z,rfl,d⟩:=hrel;by_cases p:k<n
  .have f:k<t.length:=by rw[<-Hn.out];exact p
   have A:decide ((k:Int)<(n:Int))=true:=Vd (by omega);obtain⟨C,D,hv,_,_,i⟩:=HV.out.cell (λe=>by rw[e] at f;simp at f);simp only[Value.slice.injEq] at hv;have hav:=hv.1;clear hv;subst hav;have hc:=i k f;by_cases l:t[k]=b
   .have HE:=Hd (idxB_at f l λj g=>d j g (by omega));rw[l] at hc;clear i d l;go_wp2;go_ret;rw[HE.out];exact⟨rfl,rfl⟩
   .have s:Hid (∀j (g:j<k+1) (h:j<t.length),t[j]≠b):=Hd λj g h=>by
     by_cases e:j=k
     .subst e;exact l
     .exact d j (by omega) h
    have u:(b==t[k])=false:=by simpa using λe=>l e.symm
    clear i d l;generalize t[k]=x at *;go_wp2;go_round
    case rel=>exact⟨k+1,by omega,by go_num,s.out⟩
    case measure=>simp[intOf];omega
  .obtain rfl:k=n:=by omega
   have HE:=Hd (idxB_none λj g=>d j (by rw[Hn.out];exact g) g);have y:decide ((k:Int)<(k:Int))=false:=by simp
   clear d;go_wp2;go_ret;rw[HE.out];exact⟨rfl,rfl⟩
section
attribute [local irreducible] wpStill
theorem Zhm (w:World) (u v:Value) (l m:List UInt8) (hu:IsB w u l) (hv:IsB w v m) (hl:l.length<=1000000):
  Calls Tryz.prog 115 #[u,v] w λe w'=>e=.returned (.bool (l==m))/\Below w.heap.size w w':=by
 obtain⟨O,P,rfl,_,q⟩:=hu.form;obtain⟨Q,R,rfl,_,r⟩:=hv.form;unfold maxLen at q r;by_cases c:l.length=m.length
 case neg =>
  have E:((l.length:Int) != (m.length:Int))=true:=by rw[bne_iff_ne];omega
  have g:Hid ((l==m)=false):=Hd (by rw[beq_eq_false_iff_ne];intro e;exact c (by rw[e]));clear c hu hv;go_enter Tryz.func115,Tryz.ntmps115;go_wp2;go_ret;rw[g.out];exact⟨rfl,Ve _ _⟩
 have F:=Hd hu;have HV:=Hd hv;have Hlm:=Hd c;rw[<-c] at HV ⊢;have E:((l.length:Int) != (l.length:Int))=false:=by simp
 obtain⟨n,s⟩:∃n,n=l.length:=⟨_,rfl⟩;have Hn:=Hd s
 rw[<-s] at F HV hl E ⊢;clear hu hv c s;go_enter Tryz.func115,Tryz.ntmps115;go_wp2;go_loopw [13] (λx wr=>∃k:Nat,k<=n/\x=.int .i64 (k:Int)/\Below w.heap.size w wr/\∀j (y:j<k) (h:j<l.length) (i:j<m.length),l[j]=m[j]) (λx _=>n - (intOf x).toNat)
 case atStart=>exact⟨0,Vl _,rfl,Ve _ _,λj y=>by omega⟩
 case round =>
  obtain⟨k,S,rfl,d,a⟩:=hrel;by_cases z:k<n
  .have o:k<l.length:=by rw[<-Hn.out];exact z
   have A:k<m.length:=by rw[<-Hlm.out];exact o
   have H:decide ((k:Int)<(n:Int))=true:=Vd (by omega);obtain⟨T,U,rfl,B⟩:=isB_at F.out k o;obtain⟨V,W,rfl,C⟩:=isB_at HV.out k A;have X:wr.drew.cell? _=_:=Zi d _ _ B;have I:wr.drew.cell? _=_:=Zi d _ _ C;have p:Below w.heap.size w wr.drew:=d.drew;by_cases f:l[k]=m[k]
   .have J:Hid (∀j (y:j<k+1) (h:j<l.length) (i:j<m.length),l[j]=m[j]):=Hd λj y h i=>by
     by_cases e:j=k
     .subst e;exact f
     .exact a j (by omega) h i
    rw[<-f] at I;clear a f B C d;go_upto_region 6 with fail;refine wp_region_still_tail 8 (by kernel_rfl) (by kernel_rfl) ?_;simp only[List.take_succ_cons,List.take_zero,List.drop_succ_cons,List.drop_zero];change wpStill _ _ wr.drew (λD=>wpList _ _ _ _ D wr.drew) _ _;generalize wr.drew=L at *;iterate 8 still_step
    refine wpStill_nil ?_;go_wp2_with fail;go_roundw
    case rel=>exact⟨k+1,by omega,by go_num,p,J.out⟩
    case measure=>simp[intOf];omega
   .have g:Hid ((l==m)=false):=Hd (by
     rw[beq_eq_false_iff_ne];intro e;subst e
     exact f rfl)
    have M:(((l[k].toNat:Nat):Int) != ((m[k].toNat:Nat):Int))=true:=by rw[bne_iff_ne];intro e;exact f (UInt8.toNat_inj.1 (by omega))
    clear a f B C d;go_upto_region 6 with fail;refine wp_region_still_tail 8 (by kernel_rfl) (by kernel_rfl) ?_;simp only[List.take_succ_cons,List.take_zero,List.drop_succ_cons,List.drop_zero];change wpStill _ _ wr.drew (λD=>wpList _ _ _ _ D wr.drew) _ _;generalize wr.drew=L at *;iterate 8 still_step
    refine wpStill_nil ?_;go_wp2_with fail;go_ret;rw[g.out];exact⟨rfl,p⟩
  .obtain rfl:k=n:=by omega
   have g:Hid ((l==m)=true):=Hd (by
    rw[beq_iff_eq]
    exact Uo Hlm.out λj G i=>a j (by rw[Hn.out];exact G) G i)
   have N:decide ((k:Int)<(k:Int))=false:=by simp
   clear a;go_wp2;go_ret;rw[g.out];exact⟨rfl,d⟩
end
end
section
open Go.RowKit
theorem Zbz:(Tryz.prog.info? 141).map (·.size)=some 2:=by kernel_rfl
abbrev Qy (v:Value) (r:Int):Obj:=.cells #[v,.int .i64 r] 141 (0,0)
theorem Yf {W:World} {g:Nat} {v:Value} {r:Int} (h:W.heap[g]?=some (Qy v r)):W.cell? ⟨g,0,none⟩=some v/\W.cell? ⟨g,1,none⟩=some (.int .i64 r):=by
 refine⟨?_,?_⟩<;>· rw[Vc _ _ _ _ _ _ h];rfl
theorem pclone_any (w:World) (B:Nat) (v:Value) (t:List Bool) (r:Int) (hv:Qb B w v t) (ht:t.length<=1000000) :
  Calls Tryz.prog 68 #[.agg #[v,.int .i64 r]] w λe w'=>∃u,e=.returned (.agg #[u,.int .i64 r])/\Qb w.heap.size w' u t/\Below w.heap.size w w':=by
 obtain⟨W1,d⟩:∃W1,W1=w.alloc (.cells #[v,.int .i64 r] 141):=⟨_,rfl⟩;have l:W1.heap[w.heap.size]?=some (Qy v r):=by rw[d];exact Vg w _
 have m:Below w.heap.size w W1:=by rw[d];exact(Ve _ _).alloc (Va _) _
 obtain⟨W2,g⟩:∃W2,W2=W1.alloc (.cells #[.slice none 0 0,.int .i64 0] 141):=⟨_,rfl⟩;have b:W2.heap[W1.heap.size]?=some (Qy (.slice none 0 0) 0):=by rw[g];exact Vg W1 _
 have f:Below W1.heap.size W1 W2:=by rw[g];exact(Ve _ _).alloc (Va _) _
 have D:=(f.block _ (Za l)).trans l;have hb2:=m.trans (f.mono m.size);have s:W1.heap.size=w.heap.size+1:=by rw[d];simp
 rw[s] at b;have x:Qb B W2.drew v t:=(hv.below hb2).below (Ve _ _).drew
 obtain⟨a,c,rfl,_,_⟩:=hv.form;have HCL:=Hd (cloneO_any W2.drew B _ t x ht)
 clear m f l hv x;have HW1:=Hd d
 have y:=Hd g;clear d g;go_enter Tryz.func68,Tryz.ntmps68;go_upto_region 1 with fail;rw[<-HW1.out,<-y.out];clear HW1 y s;have E:(λW:World=>W.heap[w.heap.size]?=some (Qy (.slice a t.length c) r)) W2.drew:=D;replace b:W2.drew.heap[w.heap.size+1]?=_:=b;replace hb2:=hb2.drew;refine rgA (S:=(λW:World=>W.heap[w.heap.size]?=some (Qy (.slice a t.length c) r))) E (λhH=>?_);refine tdI [0,1,3,4] ?_
 iterate 4
  refine tdS (v:=?_) ?_ hH ?_;rotate_left
  .intro w n;obtain⟨M,N⟩:=Yf n;go_simp;try with_reducible rfl
  try simp only[Act.put,zA,zB,zC]
 refine tdE ?_;refine rdA 2 rfl (λK z=>?_);go_simp;refine HCL.out.mono ?_;rintro e A ⟨u,rfl,C,o⟩;obtain⟨p,q,rfl,_,_⟩:=C.form;have hHn:=(o.block _ (Za hH)).trans hH
 have j:=(o.block _ (Za b)).trans b;have hb23:=hb2.trans (o.mono hb2.size);clear hH;go_wp2_with fail;refine z.out _ _ hHn (λhH=>?_);clear hHn;clear z K;try simp only[Act.put,zA,zB,zC]
 refine tkB 5 rfl (v:=?_) ?_ hH ?_;rotate_left
 .intro w n;obtain⟨M,N⟩:=Yf n;go_simp;try with_reducible rfl
 try simp only[Act.put,zA,zB,zC]
 refine rdA 6 rfl (λK z=>?_);go_simp;obtain⟨F,G⟩:=Yf j;have L:A.frozen? ⟨w.heap.size+1,0,none⟩=false:=Zf j 0
 have O:A.frozen? ⟨w.heap.size+1,1,none⟩=false:=Zf j 1;have ht4:=(Zc A (w.heap.size+1) 0 (.slice p t.length q)).trans (Zc (A.setCell ⟨w.heap.size+1,0,none⟩ (.slice p t.length q)) (w.heap.size+1) 1 (.int .i64 r));have hq4:=Ze (Ze j (i:=0) (.slice p t.length q)) (i:=1) (.int .i64 r);go_wp2_with fail
 .rename_i h;exact absurd h (by rw[L];decide)
 rename_i H;clear H;generalize (A.setCell ⟨w.heap.size+1,0,none⟩ (.slice p t.length q)).setCell ⟨w.heap.size+1,1,none⟩ (.int .i64 r)=I at *;have hHn:=(ht4.block _ (Za hH) (by omega)).trans hH
 clear hH L O F G;refine z.out _ _ hHn (λhH=>?_);clear hHn;clear z K;try simp only[Act.put,zA,zB,zC]
 refine dnA ?_;clear hH;replace hq4:I.heap[w.heap.size+1]?=some (Qy (.slice p t.length q) r):=hq4;have hv:=Uh (P:=Tryz.prog) I (w.heap.size+1) 141 141 _ (0,0) _ hq4 Tryz.underlying141 rfl (by rw[Zbz];rfl)
 have J:Qb w.heap.size I (.slice p t.length q) t:=World.ownsRow.mono (C.keep λk Q R=>ht4.block k R (by have:=Za b;omega)) hb2.size;go_wp2;refine Vn (v:=.agg #[.slice p t.length q,.int .i64 r]) (Zhu Tryz.results68 rfl hv) rfl ⟨_,rfl,J,?_⟩;exact hb23.trans (ht4.below (B:=w.heap.size) hb23.size λk Q=>by omega)
end
section
open Go.RowKit
variable {t:List Bool}{g c B:Nat}{v:Value}{kv:List (Int × Value)}{k:Int}{b:List UInt8}{x:Int × Value}
def BoR (w:World) (g c:Nat) (t:List Bool):Prop:=∃cur:Array Value,w.heap[g]?=some (.cells cur 4 (0,0))/\t.length<=c/\c<=maxLen/\cur.size=c/\cur.toList.take t.length=bov t
theorem BoR.lt {w:World} (h:BoR w g c t):g<w.heap.size:=by obtain⟨a,d,_⟩:=h;exact Za d
theorem BoR.mine {w:World} (h:BoR w g c t) (B:Nat) (hB:B<=g):Qb B w (.slice (some ⟨g,0,none⟩) t.length c) t:=by obtain⟨a,d,e,i,j,l⟩:=h;exact⟨by simp[Xu],.inr ⟨g,c,a,rfl,hB,d,e,i,by simp[j],by simpa using l⟩⟩
theorem Qb.boR {w:World} (h:Qb B w v t) (h0:0<t.length):∃g c,v=.slice (some ⟨g,0,none⟩) t.length c/\B<=g/\BoR w g c t:=by
 rcases h.2 with ⟨rfl,o⟩ | ⟨g,d,e,rfl,m,n,i,j,l,a⟩
 .omega
 .exact⟨g,d,rfl,m,e,n,i,j,by simpa using l,by simpa using a⟩
theorem BoR.keep {w w':World} (h:BoR w g c t) (hw:w'.heap[g]?=w.heap[g]?):BoR w' g c t:=by obtain⟨a,d,e⟩:=h;exact⟨a,hw.trans d,e⟩
theorem BoR.cell {w:World} (h:BoR w g c t) (i:Nat) (a:i<t.length):w.cell? ⟨g,i,none⟩=some (.bool t[i]):=by
 obtain⟨d,j,m,n,o,l⟩:=h;rw[Vc _ _ _ _ _ _ j];have e:(bov t)[i]?=some (.bool t[i]):=bov_get t i a
 rw[<-l,List.getElem?_take,if_pos (by omega)] at e;simpa using e
theorem BoR.frozen {w:World} (h:BoR w g c t) (i:Nat):w.frozen? ⟨g,i,none⟩=false:=by obtain⟨a,d,_⟩:=h;exact Zf d i
theorem BoR.set {w:World} (h:BoR w g c t) (i:Nat) (b:Bool):BoR (w.setCell ⟨g,i,none⟩ (.bool b)) g c (t.set i b):=by
 obtain⟨d,l,m,n,o,q⟩:=h;refine⟨_,Ze l (i:=i) (.bool b),by simpa using m,n,by simpa using o,?_⟩;rw[Array.toList_setIfInBounds,List.length_set];rw[show bov (t.set i b)=(bov t).set i (.bool b) by simp[bov,List.map_set],<-q]
 apply List.ext_getElem?;intro j;by_cases e:j<t.length
 .rw[List.getElem?_take_of_lt e,List.getElem?_set,List.getElem?_set,List.getElem?_take_of_lt e]
  simp only[List.length_take];by_cases a:i=j
  .subst a
   have r:i<d.toList.length:=by simp;omega
   rw[if_pos rfl,if_pos rfl,if_pos r,if_pos (by omega)]
  .rw[if_neg a,if_neg a]
 .rw[List.getElem?_take_eq_none (by omega),List.getElem?_eq_none (by simp;omega)]
structure Pf where
 q:Nat
 gn:Nat
 cn:Nat
 gw:Nat
 cw:Nat
 M:Nat
 kv:List (Int × Value)
def PT (f:Pf) (k:Nat):Prop:=k=f.q\/k=f.gn\/k=f.gw\/k=f.M\/∃x∈f.kv,x.2.ownBlock=some k
def Pgs (w:World):List (Int × Value)->List (Int × List UInt8)->Prop
 | [],[]=>True
 | x::kv,y::o=>x.1=y.1/\y.2.length=896/\Mine 5 0 w x.2 y.2/\Pgs w kv o
 | _,_=>False
theorem own_keep1 {e:TypeId} {s n:Nat} {w w':World} {u:Value} {xs:List Value} (h:w.ownsRow B e s u n xs) (hw:∀k,u.ownBlock=some k->w'.heap[k]?=w.heap[k]?):w'.ownsRow B e s u n xs:=by
 obtain⟨l,a⟩:=h;refine⟨l,?_⟩;rcases a with a | ⟨g,d,i,j,m,o,r⟩
 .exact .inl a
 .exact .inr ⟨g,d,i,j,m,(hw g (by rw[j];rfl)).trans o,r⟩
theorem Pgs.keep {w w':World}:∀{kv:List (Int × Value)} {o:List (Int × List UInt8)},Pgs w kv o->(∀x∈kv,∀k,x.2.ownBlock=some k->w'.heap[k]?=w.heap[k]?)->Pgs w' kv o
 | [],[],_,_=>trivial
 | [],_::_,h,_=>h.elim
 | _::_,[],h,_=>h.elim
 | x::kv,y::o,h,a=>⟨h.1,h.2.1,own_keep1 h.2.2.1 (a x (by simp)),Pgs.keep h.2.2.2 λx d=>a x (by simp[d])⟩
theorem Pgs.keys {w:World}:∀{kv:List (Int × Value)} {o:List (Int × List UInt8)},Pgs w kv o->kv.map (·.1)=o.map (·.1)
 | [],[],_=>rfl
 | [],_::_,h=>h.elim
 | _::_,[],h=>h.elim
 | x::kv,y::o,h=>by simp[h.1,Pgs.keys h.2.2.2]
theorem Pgs.look {w:World} (k:Int):∀{kv:List (Int × Value)} {o:List (Int × List UInt8)},Pgs w kv o->(Zal kv k=none/\Yl o k=none)\/∃v b,Zal kv k=some v/\Yl o k=some b/\b.length=896/\Mine 5 0 w v b/\(k,v)∈kv
 | [],[],_=>.inl ⟨rfl,rfl⟩
 | [],_::_,h=>h.elim
 | _::_,[],h=>h.elim
 | x::kv,y::o,h=>by
  obtain⟨j,l,m,n⟩:=h;rw[kLook_cons];by_cases a:x.1=k
  .refine .inr ⟨x.2,y.2,by rw[if_pos a],?_,l,m,by rw[<-a];simp⟩
   have d:(y.1==k)=true:=by rw[<-j];simpa using a
   simp[Yl,List.find?_cons,d]
  .have d:(y.1==k)=false:=by rw[<-j];simpa using a
   have e:Yl (y::o) k=Yl o k:=by simp[Yl,List.find?_cons,d]
   rw[if_neg a,e];rcases Pgs.look k n with i | ⟨v,b,i,q,r,s,u⟩
   .exact .inl i
   .exact .inr ⟨v,b,i,q,r,s,by simp[u]⟩
theorem Pgs.del {w:World} (k:Int):∀{kv:List (Int × Value)} {o:List (Int × List UInt8)},Pgs w kv o->Pgs w (vDel kv k) (oDel o k)
 | [],[],_=>trivial
 | [],_::_,h=>h.elim
 | _::_,[],h=>h.elim
 | x::kv,y::o,h=>by
  obtain⟨d,j,l,m⟩:=h;have ih:=Pgs.del k m
  by_cases a:x.1=k
  .have e:(y.1 != k)=false:=by rw[<-d];simpa using a
   have i:(x.1 != k)=false:=by simpa using a
   simpa [vDel,oDel,List.filter_cons,i,e] using ih
  .have e:(y.1 != k)=true:=by rw[<-d];simpa using a
   have i:(x.1 != k)=true:=by simpa using a
   simp only[vDel,oDel,List.filter_cons,i,e,if_true];exact⟨d,j,l,ih⟩
theorem Pgs.snoc {w:World} (hb:b.length=896) (hv:Mine 5 0 w v b):∀{kv:List (Int × Value)} {o:List (Int × List UInt8)},Pgs w kv o->Pgs w (kv++[(k,v)]) (o++[(k,b)])
 | [],[],_=>⟨rfl,hb,hv,trivial⟩
 | [],_::_,h=>h.elim
 | _::_,[],h=>h.elim
 | x::kv,y::o,h=>⟨h.1,h.2.1,h.2.2.1,Pgs.snoc hb hv h.2.2.2⟩
theorem Pgs.over {w:World} {k:Int} (hb:b.length=896) (hv:Mine 5 0 w v b):∀{kv:List (Int × Value)} {o:List (Int × List UInt8)},Pgs w kv o ->
  Pgs w (kv.map λx=>if x.1=k then (k,v) else x) (o.map λx=>if x.1=k then (k,b) else x)
 | [],[],_=>trivial
 | [],_::_,h=>h.elim
 | _::_,[],h=>h.elim
 | x::kv,y::o,h=>by
  obtain⟨d,e,i,j⟩:=h;have ih:=Pgs.over (k:=k) hb hv j
  simp only[List.map_cons];by_cases a:x.1=k
  .rw[if_pos a,if_pos (by rw[<-d];exact a)];exact⟨rfl,hb,hv,ih⟩
  .rw[if_neg a,if_neg (by rw[<-d];exact a)];exact⟨d,e,i,ih⟩
theorem Pgs.put {w:World} (hb:b.length=896) (hv:Mine 5 0 w v b) {o:List (Int × List UInt8)} (h:Pgs w kv o):Pgs w (vPut kv k v) (oPut o k b):=by
 rcases h.look k with ⟨a,d⟩ | ⟨e,i,a,d,_⟩
 .simp only[vPut,oPut,a,d,Option.isSome_none,Bool.false_eq_true,if_false];exact h.snoc hb hv
 .simp only[vPut,oPut,a,d,Option.isSome_some,if_true];exact h.over hb hv
theorem mem_vPut (h:x∈vPut kv k v):x∈kv\/x.2=v:=by
 unfold vPut at h;split at h
 .obtain⟨y,a,rfl⟩:=List.mem_map.1 h
  split
  .exact .inr rfl
  .exact .inl a
 .rcases List.mem_append.1 h with h | h
  .exact .inl h
  .rw[List.mem_singleton.1 h];exact .inr rfl
theorem mem_vDel (h:x∈vDel kv k):x∈kv:=(List.mem_filter.1 h).1
abbrev pgRow (p:Nat) (f:Pf) (P:Pg):Obj:=.cells #[jptr p,.slice (some ⟨f.gn,0,none⟩) P.now.length f.cn,.int .i64 P.root,.slice (some ⟨f.gw,0,none⟩) P.was.length f.cw,.int .i64 P.wroot,.map (some f.M),.bool P.change,.int .i64 P.off] 145 (0,0)
structure Pok (P:Pg):Prop where
 n0:0<P.now.length
 n1:P.now.length<=1023
 was:P.was.length=P.now.length
 r0:-1<=P.root
 r1:P.root<(P.now.length:Int)
 s0:-1<=P.wroot
 s1:P.wroot<(P.now.length:Int)
 keys:∀x∈P.own,0<=x.1/\x.1<(P.now.length:Int)
 jn:P.now.length=P.J.pages
structure Ys (w:World) (F:Ft) (p:Nat) (f:Pf) (P:Pg):Prop where
 jat:JAt w F p P.J
 nib:Nib w
 head:w.heap[f.q]?=some (pgRow p f P)
 now:BoR w f.gn f.cn P.now
 was:BoR w f.gw f.cw P.was
 tab:OTab w f.M f.kv
 pgs:Pgs w f.kv P.own
 ok:Pok P
 apart:∀k,PT f k->¬JT F p k/\k≠0/\k<w.heap.size
 sep:f.gn≠f.gw
theorem Pgs.uint8 {w:World}:∀{kv:List (Int × Value)} {o:List (Int × List UInt8)},Pgs w kv o->∀x∈kv,∀k,x.2.ownBlock=some k->∃c,w.heap[k]?=some (.cells c 5 (0,0))
 | [],_,_,x,a,_,_=>by cases a
 | _::_,[],h,_,_,_,_=>h.elim
 | y::kv,z::o,h,x,a,k,d=>by
  rcases List.mem_cons.1 a with rfl | a
  .exact(Zcv h.2.2.1 d.symm).2
  .exact Pgs.uint8 h.2.2.2 x a k d
section
variable {w w' : World} {F : Ft} {p : Nat} {f : Pf} {P : Pg}
theorem nib_lt (h:Nib w):0<w.heap.size:=World.block_lt_of_cell? w _ (h 0 (by omega))
theorem Ys.keep (h:Ys w F p f P) (hw:∀k,JT F p k\/PT f k\/k=0->w'.heap[k]?=w.heap[k]?) (hs:w.heap.size<=w'.heap.size):Ys w' F p f P :=
  ⟨h.jat.keep λk a=>hw k (.inl a),λi d=>(World.cell?_of_block (hw _ (.inr (.inr rfl)))).trans (h.nib i d),(hw _ (.inr (.inl (.inl rfl)))).trans h.head,h.now.keep (hw _ (.inr (.inl (.inr (.inl rfl))))),h.was.keep (hw _ (.inr (.inl (.inr (.inr (.inl rfl)))))),h.tab.keep (hw _ (.inr (.inl (.inr (.inr (.inr (.inl rfl))))))),
   h.pgs.keep λx e k a=>hw k (.inr (.inl (.inr (.inr (.inr (.inr ⟨x,e,a⟩)))))),h.ok,λk a=>⟨(h.apart k a).1,(h.apart k a).2.1,Vm (h.apart k a).2.2 hs⟩,h.sep⟩
theorem Ys.lt (h:Ys w F p f P) {k:Nat} (hk:JT F p k\/PT f k):k<w.heap.size:=hk.elim h.jat.lt λhk=>(h.apart k hk).2.2
theorem Ys.lt3 (h:Ys w F p f P) {k:Nat} (hk:JT F p k\/PT f k\/k=0):k<w.heap.size:=by
 rcases hk with hk | hk | hk
 .exact h.lt (.inl hk)
 .exact h.lt (.inr hk)
 .rw[hk];exact nib_lt h.nib
theorem Ys.turned {T:Nat->Prop} (h:Ys w F p f P) (ht:Zb T w w') (d:∀k,JT F p k\/PT f k\/k=0->¬T k):Ys w' F p f P:=h.keep (λk a=>ht.block k (h.lt3 a) (d k a)) ht.size
theorem Ys.below (h:Ys w F p f P) (hb:Below w.heap.size w w'):Ys w' F p f P:=h.keep (λk a=>hb.block k (h.lt3 a)) hb.size
theorem Ys.nib_ne (h:Ys w F p f P):f.q≠0/\f.gn≠0/\f.gw≠0/\f.M≠0 :=
 ⟨(h.apart _ (.inl rfl)).2.1,(h.apart _ (.inr (.inl rfl))).2.1,(h.apart _ (.inr (.inr (.inl rfl)))).2.1,(h.apart _ (.inr (.inr (.inr (.inl rfl))))).2.1⟩
theorem Ys.cells (h:Ys w F p f P):w.cell? ⟨f.q,0,none⟩=some (jptr p)/\w.cell? ⟨f.q,1,none⟩=some (.slice (some ⟨f.gn,0,none⟩) P.now.length f.cn)/\w.cell? ⟨f.q,2,none⟩=some (.int .i64 P.root) /\
  w.cell? ⟨f.q,3,none⟩=some (.slice (some ⟨f.gw,0,none⟩) P.was.length f.cw)/\w.cell? ⟨f.q,4,none⟩=some (.int .i64 P.wroot)/\w.cell? ⟨f.q,5,none⟩=some (.map (some f.M))/\w.cell? ⟨f.q,6,none⟩=some (.bool P.change)/\w.cell? ⟨f.q,7,none⟩=some (.int .i64 P.off):=by
 refine⟨?_,?_,?_,?_,?_,?_,?_,?_⟩<;>· rw[Vc _ _ _ _ _ _ h.head];rfl
theorem Ys.frozen (h:Ys w F p f P) (i:Nat):w.frozen? ⟨f.q,i,none⟩=false:=Zf h.head i
theorem Ys.qn (h:Ys w F p f P):f.q≠f.gn/\f.q≠f.gw/\f.q≠f.M/\(∀x∈f.kv,x.2.ownBlock≠some f.q)/\f.gn≠f.M/\f.gw≠f.M/\(∀x∈f.kv,x.2.ownBlock≠some f.gn)/\(∀x∈f.kv,x.2.ownBlock≠some f.gw)/\(∀x∈f.kv,x.2.ownBlock≠some f.M):=by
 obtain⟨n,j,_⟩:=h.now;obtain⟨o,l,_⟩:=h.was;obtain⟨r,s,m,_⟩:=h.tab;have hq:=h.head
 have i:=λ(x:Int × Value) (i:x∈f.kv) (k:Nat)=>h.pgs.uint8 x i k;refine⟨λe=>?_,λe=>?_,λe=>?_,λx a e=>?_,λe=>?_,λe=>?_,λx a e=>?_,λx a e=>?_,λx a e=>?_⟩
 .rw[e,j] at hq;simp at hq
 .rw[e,l] at hq;simp at hq
 .rw[e,m] at hq;simp at hq
 .obtain⟨c,d⟩:=i x a _ e;rw[d] at hq;simp at hq
 .rw[e,m] at j;simp at j
 .rw[e,m] at l;simp at l
 .obtain⟨c,d⟩:=i x a _ e;rw[d] at j;simp at j
 .obtain⟨c,d⟩:=i x a _ e;rw[d] at l;simp at l
 .obtain⟨c,d⟩:=i x a _ e;rw[d] at m;simp at m
end
theorem Ys.n22 {w:World} {F:Ft} {p:Nat} {f:Pf} {P:Pg} (h:Ys w F p f P):22<=P.J.D.n:=by have a:=h.ok.jn;have h2:=h.ok.n0;rw[Jn.pages,Dk.blocks] at a;omega
theorem Ys.put_j {w w':World} {F:Ft} {p:Nat} {f:Pf} {P:Pg} {e:Jn} (h:Ys w F p f P) (hj:JAt w' F p e) (ht:Zb (JT F p) w w') (hn:e.D.n=P.J.D.n):Ys w' F p f { P with J:=e }:=by
 have d:∀k,PT f k->¬JT F p k:=λk a=>(h.apart k a).1;have o:=h.ok
 refine⟨hj,h.nib.turned h.jat ht,(ht.block _ (Za h.head) (d _ (.inl rfl))).trans h.head,h.now.keep (ht.block _ h.now.lt (d _ (.inr (.inl rfl)))),h.was.keep (ht.block _ h.was.lt (d _ (.inr (.inr (.inl rfl))))),h.tab.keep (ht.block _ h.tab.lt (d _ (.inr (.inr (.inr (.inl rfl)))))),
  h.pgs.keep λx i k a=>ht.block _ (h.apart k (.inr (.inr (.inr (.inr ⟨x,i,a⟩))))).2.2 (d _ (.inr (.inr (.inr (.inr ⟨x,i,a⟩))))),⟨o.n0,o.n1,o.was,o.r0,o.r1,o.s0,o.s1,o.keys,?_⟩,λk a=>⟨(h.apart k a).1,(h.apart k a).2.1,Vm (h.apart k a).2.2 ht.size⟩,h.sep⟩
 have:=o.jn;simp only[Jn.pages,Dk.blocks,hn] at this ⊢;exact this
abbrev Qs (q:Nat):Value:=.pointer (some ⟨q,0,none⟩)
def PJ (F:Ft) (p:Nat) (f:Pf) (k:Nat):Prop:=JT F p k\/PT f k
def Zco (w:World) (F:Ft) (p:Nat) (f:Pf) (w':World) (P':Pg):Prop:=∃f',Ys w' F p f' P'/\f'.q=f.q/\(∀k,PT f' k->PT f k\/w.heap.size<=k)/\Zb (PJ F p f) w w'
theorem Zco.same {w:World} {F:Ft} {p:Nat} {f:Pf} {P:Pg} (h:Ys w F p f P):Zco w F p f w P:=⟨f,h,rfl,λ_ a=>.inl a,Zb.refl _ _⟩
theorem Zco.then {w w1 w2:World} {F:Ft} {p:Nat} {f f1:Pf} {P2:Pg} (hq:f1.q=f.q) (hk:∀k,PT f1 k->PT f k\/w.heap.size<=k) (ht:Zb (PJ F p f) w w1) (h2:Zco w1 F p f1 w2 P2):Zco w F p f w2 P2:=by
 obtain⟨l,a,b,c,d⟩:=h2;refine⟨l,a,b.trans hq,λk j=>?_,ht.then d λi m e=>?_⟩
 .rcases c k j with h | h
  .exact hk k h
  .exact .inr (Vk ht.size h)
 .rcases e with e | e
  .exact .inl e
  .rcases hk i e with h | h
   .exact .inr h
   .omega
theorem Zhd (w:World) (F:Ft) (p:Nat) (f:Pf) (i:Nat) (v:Value):Zb (PJ F p f) w (w.setCell ⟨f.q,i,none⟩ v):=(Zc w f.q i v).mono λk _ e=>.inr (.inl e)
end
section
open Go.RowKit
section
variable {w : World} {F : Ft} {p : Nat} {f : Pf} {P : Pg}
theorem fails_any (h:Ys w F p f P) (page:Int) (C:-9223372036854775808<=page) (b2:page<=9223372036854775807) :
  Calls Tryz.prog 67 #[Qs f.q,.int .i64 page] w λe r=>e=.returned (.int .i64 (P.fails page))/\r=w:=by
 obtain⟨D,s,E,G,H,I,J,t⟩:=h.cells;by_cases c:P.off=0
 case neg =>
  have e:P.fails page=P.off:=by rw[Pg.fails,if_pos c]
  have L:(P.off != 0)=true:=by simpa using c
  rw[e];clear e c h;go_enter Tryz.func67,Tryz.ntmps67;go_wp2;go_ret;exact⟨rfl,rfl⟩
 have u:=Hd h.now;obtain⟨n,g⟩:∃n,n=P.now.length:=⟨_,rfl⟩;have HN:=Hd g;rw[c] at t;have l:P.fails page=if (n:Int)<=page\/page < -1\/(0<=page/\P.now.getD page.toNat false=false) then 81 else 0:=by rw[Pg.fails,if_neg (by simp[c]),g]
 rw[l];rw[<-g] at s;clear l g c h;by_cases d:(n:Int)<=page
 .rw[if_pos (.inl d)];have v:decide (page>=(n:Int))=true:=Vd d;have y:decide ((n:Int)<=page)=true:=Vd d;go_enter Tryz.func67,Tryz.ntmps67;go_wp2;go_ret;exact⟨rfl,rfl⟩
 have v:decide (page>=(n:Int))=false:=Vb d;have y:decide ((n:Int)<=page)=false:=Vb d;by_cases i:page < -1
 .rw[if_pos (.inr (.inl i))];have z:decide (page < -1)=true:=Vd i;go_enter Tryz.func67,Tryz.ntmps67;go_wp2;go_ret;exact⟨rfl,rfl⟩
 have z:decide (page < -1)=false:=Vb i;by_cases j:0<=page
 case neg =>
  rw[if_neg (by omega)];have A:decide (0<=page)=false:=Vb j
  go_enter Tryz.func67,Tryz.ntmps67;go_wp2;go_ret;exact⟨rfl,rfl⟩
 have A:decide (0<=page)=true:=Vd j;obtain⟨B,a⟩:page<(n:Int)/\page.toNat<n:=by omega
 have k:=u.out.cell page.toNat (by rw[<-HN.out];exact a);obtain⟨m,b⟩:∃x,x=P.now.getD page.toNat false:=⟨_,rfl⟩;have o:P.now[page.toNat]'(by rw[<-HN.out];exact a)=m:=by rw[b,List.getD_eq_getElem?_getD,List.getElem?_eq_getElem (by rw[<-HN.out];exact a)];rfl
 rw[o] at k;rw[<-b];clear o b
 cases m with
 | true =>
  rw[if_neg (by simp;omega)];go_enter Tryz.func67,Tryz.ntmps67;go_wp2;go_ret;exact⟨rfl,rfl⟩
 | false =>
  rw[if_pos (by simp[j])];go_enter Tryz.func67,Tryz.ntmps67;go_wp2;go_ret;exact⟨rfl,rfl⟩
theorem must_any (h:Ys w F p f P) (page:Int) (j:-9223372036854775808<=page) (b2:page<=9223372036854775807) :
  Calls Tryz.prog 141 #[Qs f.q,.int .i64 page] w λe k=>e=.returned (.int .i64 (P.must page))/\k=w:=by
 have d:=Hd (fails_any h page j b2);by_cases b:P.fails page=0
 .by_cases c:page=-1
  .have e:P.must page=81:=by rw[Pg.must,if_neg (λa=>a.elim (λa=>a b) (λa=>a c))]
   have g:(page != -1)=false:=by simpa using c
   rw[e];rw[b] at d;clear h b c e;go_enter Tryz.func141,Tryz.ntmps141;go_wp2_with (go_at_call 67;refine d.out.mono ?_;rintro e i ⟨rfl,rfl⟩);go_ret;exact⟨rfl,rfl⟩
  .have e:P.must page=0:=by rw[Pg.must,if_pos (.inr c),b]
   have g:(page != -1)=true:=by simpa using c
   rw[e];rw[b] at d;clear h b c e;go_enter Tryz.func141,Tryz.ntmps141;go_wp2_with (go_at_call 67;refine d.out.mono ?_;rintro e i ⟨rfl,rfl⟩);go_ret;exact⟨rfl,rfl⟩
 .have e:P.must page=P.fails page:=by rw[Pg.must,if_pos (.inl b)]
  have g:(P.fails page != 0)=true:=by simpa using b
  rw[e];clear h b e;generalize P.fails page=x at *;go_enter Tryz.func141,Tryz.ntmps141;go_wp2_with (go_at_call 67;refine d.out.mono ?_;rintro e i ⟨rfl,rfl⟩);go_ret;exact⟨rfl,rfl⟩
theorem pages_any (h:Ys w F p f P):Calls Tryz.prog 96 #[Qs f.q] w λe a=>e=.returned (.int .i64 (P.now.length:Int))/\a=w:=by obtain⟨b,c,d,g,i,j,k,l⟩:=h.cells;go_enter Tryz.func96,Tryz.ntmps96;go_wp2;go_ret;exact⟨rfl,rfl⟩
theorem root_any (h:Ys w F p f P):Calls Tryz.prog 87 #[Qs f.q] w λe a=>e=.returned (.int .i64 P.root)/\a=w:=by obtain⟨b,c,d,g,i,j,k,l⟩:=h.cells;go_enter Tryz.func87,Tryz.ntmps87;go_wp2;go_ret;exact⟨rfl,rfl⟩
theorem Ys.put_off (h:Ys w F p f P) (e:Int):Ys (w.setCell ⟨f.q,7,none⟩ (.int .i64 e)) F p f { P with off:=e }:=by
 have b:=Zc w f.q 7 (.int .i64 e);obtain⟨d,g,i,j,_⟩:=h.qn
 exact⟨h.jat.turned b λk a e=>by rw[e] at a;exact(h.apart _ (.inl rfl)).1 a,h.nib.of_turned b (Ne.symm h.nib_ne.1),Ze h.head _,h.now.keep (b.block _ h.now.lt (Ne.symm d)),h.was.keep (b.block _ h.was.lt (Ne.symm g)),h.tab.keep (b.block _ h.tab.lt (Ne.symm i)),
  h.pgs.keep λx c k a=>b.block _ (h.apart k (.inr (.inr (.inr (.inr ⟨x,c,a⟩))))).2.2 (λe=>j x c (by rw[a,e])),⟨h.ok.n0,h.ok.n1,h.ok.was,h.ok.r0,h.ok.r1,h.ok.s0,h.ok.s1,h.ok.keys,h.ok.jn⟩,λk a=>⟨(h.apart k a).1,(h.apart k a).2.1,Vm (h.apart k a).2.2 b.size⟩,h.sep⟩
theorem Ys.put_root (h:Ys w F p f P) (e:Int) (h1:-1<=e) (h2:e<(P.now.length:Int)):Ys (w.setCell ⟨f.q,2,none⟩ (.int .i64 e)) F p f { P with root:=e }:=by
 have b:=Zc w f.q 2 (.int .i64 e);obtain⟨d,g,i,j,_⟩:=h.qn
 exact⟨h.jat.turned b λk a e=>by rw[e] at a;exact(h.apart _ (.inl rfl)).1 a,h.nib.of_turned b (Ne.symm h.nib_ne.1),Ze h.head _,h.now.keep (b.block _ h.now.lt (Ne.symm d)),h.was.keep (b.block _ h.was.lt (Ne.symm g)),h.tab.keep (b.block _ h.tab.lt (Ne.symm i)),
  h.pgs.keep λx c k a=>b.block _ (h.apart k (.inr (.inr (.inr (.inr ⟨x,c,a⟩))))).2.2 (λe=>j x c (by rw[a,e])),⟨h.ok.n0,h.ok.n1,h.ok.was,h1,h2,h.ok.s0,h.ok.s1,h.ok.keys,h.ok.jn⟩,λk a=>⟨(h.apart k a).1,(h.apart k a).2.1,Vm (h.apart k a).2.2 b.size⟩,h.sep⟩
theorem Ys.put_change (h:Ys w F p f P) (e:Bool):Ys (w.setCell ⟨f.q,6,none⟩ (.bool e)) F p f { P with change:=e }:=by
 have b:=Zc w f.q 6 (.bool e);obtain⟨d,g,i,j,_⟩:=h.qn
 exact⟨h.jat.turned b λk a e=>by rw[e] at a;exact(h.apart _ (.inl rfl)).1 a,h.nib.of_turned b (Ne.symm h.nib_ne.1),Ze h.head _,h.now.keep (b.block _ h.now.lt (Ne.symm d)),h.was.keep (b.block _ h.was.lt (Ne.symm g)),h.tab.keep (b.block _ h.tab.lt (Ne.symm i)),
  h.pgs.keep λx c k a=>b.block _ (h.apart k (.inr (.inr (.inr (.inr ⟨x,c,a⟩))))).2.2 (λe=>j x c (by rw[a,e])),⟨h.ok.n0,h.ok.n1,h.ok.was,h.ok.r0,h.ok.r1,h.ok.s0,h.ok.s1,h.ok.keys,h.ok.jn⟩,λk a=>⟨(h.apart k a).1,(h.apart k a).2.1,Vm (h.apart k a).2.2 b.size⟩,h.sep⟩
theorem heard_any (h:Ys w F p f P) (x:Int):Calls Tryz.prog 73 #[Qs f.q,.int .i64 x] w λe w'=>e=.returned (.int .i64 x)/\Ys w' F p f { P with off:=Zae P.off x }/\Zb (PJ F p f) w w':=by
 obtain⟨d,g,i,j,k,l,m,n⟩:=h.cells;have f7:=h.frozen 7
 have c:=Hd (And.intro (h.put_off x) (Zhd w F p f 7 (.int .i64 x)));have HH:=Hd h;clear h;by_cases a:x=43
 .have e:Zae P.off x=x:=by rw[Zae,if_pos (.inl a)]
  rw[e];subst a;clear e;go_enter Tryz.func73,Tryz.ntmps73;go_wp2;go_ret;exact⟨rfl,c.out⟩
 have o:(x==43)=false:=by simpa using a
 by_cases b:x=44
 .have e:Zae P.off x=x:=by rw[Zae,if_pos (.inr b)]
  rw[e];subst b;clear e;go_enter Tryz.func73,Tryz.ntmps73;go_wp2;go_ret;exact⟨rfl,c.out⟩
 have r:(x==44)=false:=by simpa using b
 have e:Zae P.off x=P.off:=by rw[Zae,if_neg (by simp[a,b])]
 rw[e];clear e a b;go_enter Tryz.func73,Tryz.ntmps73;go_wp2;go_ret;exact⟨rfl,HH.out,Zb.refl _ _⟩
theorem Pg.fails_bounds {P:Pg} {page:Int} (h:P.fails page=0):-1<=page/\page<(P.now.length:Int):=by
 unfold Pg.fails at h;split at h
 .omega
 .split at h
  .omega
  .omega
theorem setroot_any (h:Ys w F p f P) (page:Int) (i:-9223372036854775808<=page) (b2:page<=9223372036854775807) :
  Calls Tryz.prog 102 #[Qs f.q,.int .i64 page] w λe j=>e=.returned (.int .i64 (P.setRoot page).1)/\Zco w F p f j (P.setRoot page).2:=by
 have b:=Hd (fails_any h page i b2);by_cases a:P.fails page=0
 case neg =>
  have e:P.setRoot page=(P.fails page,P):=by rw[Pg.setRoot,if_pos a]
  have o:(P.fails page != 0)=true:=by simpa using a
  have k:=Hd (Zco.same h);rw[e];clear h a e;generalize P.fails page=x at *;go_enter Tryz.func102,Tryz.ntmps102;go_wp2_with (go_at_call 67;refine b.out.mono ?_;rintro e l ⟨rfl,rfl⟩);go_ret;exact⟨rfl,k.out⟩
 have e:P.setRoot page=(0,{ P with root:=page,change:=true }):=by rw[Pg.setRoot,if_neg (by simp[a])]
 rw[e];obtain⟨c,d⟩:=Pg.fails_bounds a;have h1:=h.put_root page c d
 have g:=h1.put_change true;have t1:=Zhd w F p f 2 (.int .i64 page);have t2:=Zhd (w.setCell ⟨f.q,2,none⟩ (.int .i64 page)) F p f 6 (.bool true);have m:Hid (Zco w F p f _ { P with root:=page,change:=true }):=Hd ⟨f,g,rfl,λ_ n=>.inl n,t1.trans t2⟩;rw[a] at b;obtain⟨r,s,t,u,v,y,z,A⟩:=h.cells;obtain⟨B,C,D,E,G,H,I,J⟩:=h1.cells;have f2:=h.frozen 2;have f6:=h1.frozen 6;clear h h1 g t1 t2 e a c d;go_enter Tryz.func102,Tryz.ntmps102;go_wp2_with (go_at_call 67;refine b.out.mono ?_;rintro e l ⟨rfl,rfl⟩);go_ret;exact⟨rfl,m.out⟩
end
end
section
open Go.RowKit
theorem run_make896 (w:World):(Instr.makeSlice 77 (.int .i64 896) (.int .i64 896)).run Tryz.prog w=.ok (.slice (some ⟨w.heap.size,0,none⟩) 896 896) (w.alloc (.cells (bv Zdc).toArray 5)):=by
 rw[show (896:Int)=((896:Nat):Int) from rfl,run_make_row' (P:=Tryz.prog) 77 5 (.int .u8 0) 1 Tryz.underlying77 Zbg rfl .i64 .i64 896 (by omega) (by simp) w]
 congr 3;simp only[madeCells,bv,Zdc,List.map_replicate,List.size_toArray,List.toArray_replicate];apply Array.ext
 .simp
 .intro i a b;simp[Nat.mod_one]
theorem idxB_free (t:List Bool):idxB t false=match freeAt t with | some k=>(k:Int) | none=>-1:=by
 have e:(λb:Bool=>b==false)=λb=>!b:=by funext b;cases b<;>rfl
 simp only[idxB,freeAt,e];try rfl
theorem freeAt_some {t:List Bool} {k:Nat} (h:freeAt t=some k):k<t.length/\t.getD k true=false:=by unfold freeAt at h;obtain⟨a,b,_⟩:=List.findIdx?_eq_some_iff_getElem.1 h;refine⟨a,?_⟩;rw[List.getD_eq_getElem?_getD,List.getElem?_eq_getElem a];simpa using b
section
variable {w : World} {F : Ft} {p : Nat} {f : Pf} {P : Pg}
theorem Ys.put_bit (h:Ys w F p f P) (k:Nat) (b:Bool):Ys (w.setCell ⟨f.gn,k,none⟩ (.bool b)) F p f { P with now:=P.now.set k b }:=by
 have d:=Zc w f.gn k (.bool b);obtain⟨i,m,n,q,j,r,l,s,t⟩:=h.qn;have c:(P.now.set k b).length=P.now.length:=by simp
 refine⟨h.jat.turned d λk a e=>by rw[e] at a;exact(h.apart _ (.inr (.inl rfl))).1 a,h.nib.of_turned d (Ne.symm h.nib_ne.2.1),?_,h.now.set k b,h.was.keep (d.block _ h.was.lt (Ne.symm h.sep)),h.tab.keep (d.block _ h.tab.lt (Ne.symm j)),
  h.pgs.keep λx g k a=>d.block _ (h.apart k (.inr (.inr (.inr (.inr ⟨x,g,a⟩))))).2.2 (λe=>l x g (by rw[a,e])),?_,λk a=>⟨(h.apart k a).1,(h.apart k a).2.1,Vm (h.apart k a).2.2 d.size⟩,h.sep⟩
 .rw[d.block _ (Za h.head) i,h.head];simp only[pgRow,c]
 .have o:=h.ok;exact⟨by rw[c];exact o.n0,by rw[c];exact o.n1,by rw[c];exact o.was,o.r0,by rw[c];exact o.r1,o.s0,by rw[c];exact o.s1,λx g=>by rw[c];exact o.keys x g,by rw[c];exact o.jn⟩
theorem turned_gn (w:World) (F:Ft) (p:Nat) (f:Pf) (i:Nat) (v:Value):Zb (PJ F p f) w (w.setCell ⟨f.gn,i,none⟩ v):=(Zc w f.gn i v).mono λk _ e=>.inr (.inr (.inl e))
theorem oPut_keys {o:List (Int × List UInt8)} {k:Int} {b:List UInt8} {n:Int} (h:∀x∈o,0<=x.1/\x.1<n) (h1:0<=k) (h2:k<n):∀x∈oPut o k b,0<=x.1/\x.1<n:=by
 intro x a;unfold oPut at a;split at a
 .obtain⟨y,c,rfl⟩:=List.mem_map.1 a
  split
  .exact⟨h1,h2⟩
  .exact h y c
 .rcases List.mem_append.1 a with a | a
  .exact h x a
  .rw[List.mem_singleton.1 a];exact⟨h1,h2⟩
theorem Ys.put_own (h:Ys w F p f P) {w1 w':World} (hb:Below w.heap.size w w1) (k:Int) (h1:0<=k) (h2:k<(P.now.length:Int)) (b:List UInt8) (hl:b.length=896) (v:Value) (hv:Mine 5 w.heap.size w1 v b) (ht:Zb (·=f.M) w1 w') (htab:OTab w' f.M (vPut f.kv k v)) :
  Ys w' F p { f with kv:=vPut f.kv k v } { P with own:=oPut P.own k b }/\(∀j,PT { f with kv:=vPut f.kv k v } j->PT f j\/w.heap.size<=j)/\Zb (PJ F p f) w w':=by
 have g:=h.below hb;obtain⟨z,A,q,B,r,s,C,D,t⟩:=g.qn
 have n:∀j,PT { f with kv:=vPut f.kv k v } j->PT f j\/v.ownBlock=some j:=by
  rintro j (e | e | e | e | ⟨x,l,e⟩)
  .exact .inl (.inl e)
  .exact .inl (.inr (.inl e))
  .exact .inl (.inr (.inr (.inl e)))
  .exact .inl (.inr (.inr (.inr (.inl e))))
  .rcases mem_vPut l with l | l
   .exact .inl (.inr (.inr (.inr (.inr ⟨x,l,e⟩))))
   .rw[l] at e;exact .inr e
 have i:∀j,v.ownBlock=some j->w.heap.size<=j/\j<w1.heap.size/\j≠f.M:=λj d=>by
  obtain⟨a,c,u⟩:=Zcv hv d.symm;refine⟨a,Za u,λe=>?_⟩;have:=(h.apart _ (.inr (.inr (.inr (.inl rfl))))).2.2
  omega
 have y:¬JT F p f.M:=(h.apart _ (.inr (.inr (.inr (.inl rfl))))).1;have m:Mine 5 0 w1 v b:=World.ownsRow.mono hv (Vl _);refine⟨⟨g.jat.turned ht λj d e=>y (by rw[<-e];exact d),g.nib.of_turned ht (Ne.symm g.nib_ne.2.2.2),(ht.block _ (Za g.head) q).trans g.head,g.now.keep (ht.block _ g.now.lt r),g.was.keep (ht.block _ g.was.lt s),htab,?_,?_,λj d=>?_,h.sep⟩,λj d=>?_,?_⟩
 .have hp:=g.pgs.put (k:=k) hl m
  refine hp.keep λx l j d=>?_;rcases mem_vPut l with l | l
  .exact ht.block _ (g.apart j (.inr (.inr (.inr (.inr ⟨x,l,d⟩))))).2.2 (λe=>t x l (by rw[d,e]))
  .rw[l] at d;exact ht.block _ (i j d).2.1 (i j d).2.2
 .have o:=h.ok;exact⟨o.n0,o.n1,o.was,o.r0,o.r1,o.s0,o.s1,oPut_keys o.keys h1 h2,o.jn⟩
 .rcases n j d with d | d
  .exact⟨(g.apart j d).1,(g.apart j d).2.1,Vm (g.apart j d).2.2 ht.size⟩
  .refine⟨λe=>?_,λe=>?_,Vm (i j d).2.1 ht.size⟩
   .have:=h.jat.lt e;have:=(i j d).1;omega
   .have h3:=(i j d).1;have h4:=nib_lt h.nib;omega
 .rcases n j d with d | d
  .exact .inl d
  .exact .inr (i j d).1
 .exact(Zb.of_below hb).trans (ht.mono λj _ e=>.inr (.inr (.inr (.inr (.inl e)))))
theorem alloc_any (h:Ys w F p f P) :
  Calls Tryz.prog 130 #[Qs f.q] w λe E=>e=.returned (.tuple #[.int .i64 P.alloc.1.1,.int .i64 P.alloc.1.2])/\Zco w F p f E P.alloc.2:=by
 have m:=Hd (fails_any h (-1) (by omega) (by omega));by_cases i:P.fails (-1)=0
 case neg =>
  have e:P.alloc=((0,P.fails (-1)),P):=by rw[Pg.alloc,if_pos i]
  have d1:(P.fails (-1) != 0)=true:=by simpa using i
  have HS:=Hd (Zco.same h);rw[e];clear h i e;generalize P.fails (-1)=x at *;go_enter Tryz.func130,Tryz.ntmps130;go_wp2_with (go_at_call 67;refine m.out.mono ?_;rintro e l ⟨rfl,rfl⟩);go_ret2;exact⟨rfl,HS.out⟩
 rw[i] at m;have HI:=Hd (indexO_any w 0 _ P.now false (h.now.mine 0 (Vl _)) (by have:=h.ok.n1;omega))
 obtain⟨G,H,I,J,L,N,O,Q⟩:=h.cells
 cases a:freeAt P.now with
 | none =>
  have e:P.alloc=((0,80),P):=by rw[Pg.alloc,if_neg (by simp[i]),a]
  rw[idxB_free,a] at HI;dsimp only at HI;have HS:=Hd (Zco.same h)
  rw[e];clear h i e a;go_enter Tryz.func130,Tryz.ntmps130;go_wp2_with (first | (go_at_call 67;refine m.out.mono ?_;rintro e l ⟨rfl,rfl⟩) | (go_at_call 145;refine HI.out.mono ?_;rintro e l ⟨rfl,rfl⟩));go_ret2;exact⟨rfl,HS.out⟩
 | some k =>
  have e:P.alloc=(((k:Int),0),{ P with now:=P.now.set k true,own:=oPut P.own k Zdc,change:=true }):=by rw[Pg.alloc,if_neg (by simp[i]),a]
  obtain⟨j,_⟩:=freeAt_some a;rw[idxB_free,a] at HI;dsimp only at HI;rw[e];obtain⟨R,r,S⟩:¬((k:Int)<0)/\(k:Int)<(P.now.length:Int)/\(0:Int)<=(k:Int):=by omega
  obtain⟨ck,s⟩:∃u,w.cell? ⟨f.gn,k,none⟩=some u:=⟨_,h.now.cell k j⟩;have hfz:=h.now.frozen k
  have z:=Hd (h.put_bit k true);have HT1:=Hd (turned_gn w F p f k (.bool true));have HN:=Hd j;have hmk:=run_make896;clear h i e a j;go_enter Tryz.func130,Tryz.ntmps130;go_upto_region 8 with (first | (go_at_call 67;refine m.out.mono ?_;rintro e l ⟨rfl,b⟩;rw[b];clear b l) | (go_at_call 145;refine HI.out.mono ?_;rintro e l ⟨rfl,b⟩;rw[<-b];clear b l));have h1:=z.out;have t1:=HT1.out;have t:(P.now.set k true).length=P.now.length:=by simp
  generalize w.setCell ⟨f.gn,k,none⟩ (.bool true)=c at *;have g:Below c.heap.size c (c.alloc (.cells (bv Zdc).toArray 5)).drew:=((Ve _ _).alloc (Va _) _).drew
  obtain⟨U,A,d,n⟩:=(h1.tab.keep (g.block _ h1.tab.lt)).run_put (P:=Tryz.prog) (T:=143) Tryz.underlying143 Tryz.underlying3 (k:Int) (.slice (some ⟨c.heap.size,0,none⟩) 896 896);have B:Mine 5 c.heap.size ((c.alloc (.cells (bv Zdc).toArray 5)).drew) (.slice (some ⟨c.heap.size,0,none⟩) 896 896) Zdc:=by have:=Mine.lit (e:=5) (w:=c) Zdc (Va _) (by simp[maxLen,Zdb]);rw[Zdb] at this;exact this
  obtain⟨o,v,y⟩:=h1.put_own g (k:Int) (by omega) (by rw[t];exact r) Zdc Zdb _ B n d;have h4:=o.put_change true
  have C:=Zhd U F p { f with kv:=vPut f.kv k (.slice (some ⟨c.heap.size,0,none⟩) 896 896) } 6 (.bool true);obtain⟨V,W,X,Y,Z,D,g6,g7⟩:=h1.cells;obtain⟨m0,m1,m2,m3,m4,m5,m6,m7⟩:=o.cells;have f6:=o.frozen 6;dsimp only at m6 f6 D v y;clear m0 m1 m2 m3 m4 m5 m7 V W X Y Z g6 g7;have g5b:=Zi g _ _ D;have a0:(c.alloc (.cells (bv Zdc).toArray 5)).cell? ⟨f.q,5,none⟩=some (.map (some f.M)):=g5b
  have HX:Hid (Zco w F p f _ { P with now:=P.now.set k true,own:=oPut P.own k Zdc,change:=true }):=Hd
   (Zco.then (f1:=f) rfl (λ_ j=>.inl j) t1 (Zco.then (f1:={ f with kv:=vPut f.kv k (.slice (some ⟨c.heap.size,0,none⟩) 896 896) }) rfl v y ⟨_,h4,rfl,λ_ j=>.inl j,C⟩))
  clear h1 t1 g d n B o v y h4 C z HT1 HN G H I J L N O Q m HI;go_region;go_wp2_with fail;go_ret2;exact⟨rfl,HX.out⟩
end
end
section
open Go.RowKit
section
variable {w : World} {F : Ft} {p : Nat} {f : Pf} {P : Pg}
theorem Pg.must_bounds {P:Pg} {page:Int} (h:P.must page=0):0<=page/\page<(P.now.length:Int)/\P.now.getD page.toNat false=true/\P.fails page=0:=by
 unfold Pg.must at h;split at h
 .rename_i b
  have a:=h;unfold Pg.fails at h;have hb:=Pg.fails_bounds a;have i:page≠-1:=b.elim (λe=>absurd a e) id;refine⟨by omega,by omega,?_,a⟩;split at h
  .rename_i c;exact absurd h c
  .split at h
   .omega
   .rename_i d
    cases g:P.now.getD page.toNat false with
    | true=>rfl
    | false=>exact absurd (.inr (.inr ⟨by omega,g⟩)) d
 .omega
theorem oDel_keys {o:List (Int × List UInt8)} {k:Int} {n:Int} (h:∀x∈o,0<=x.1/\x.1<n):∀x∈oDel o k,0<=x.1/\x.1<n:=λx a=>h x (List.mem_filter.1 a).1
theorem Ys.del_own (h:Ys w F p f P) {w':World} (k:Int) (ht:Zb (·=f.M) w w') (htab:OTab w' f.M (vDel f.kv k)) :
  Ys w' F p { f with kv:=vDel f.kv k } { P with own:=oDel P.own k }/\(∀j,PT { f with kv:=vDel f.kv k } j->PT f j\/w.heap.size<=j)/\Zb (PJ F p f) w w':=by
 obtain⟨n,q,d,r,g,i,s,t,l⟩:=h.qn
 have c:∀j,PT { f with kv:=vDel f.kv k } j->PT f j:=by
  rintro j (e | e | e | e | ⟨x,b,e⟩)
  .exact .inl e
  .exact .inr (.inl e)
  .exact .inr (.inr (.inl e))
  .exact .inr (.inr (.inr (.inl e)))
  .exact .inr (.inr (.inr (.inr ⟨x,mem_vDel b,e⟩)))
 have m:¬JT F p f.M:=(h.apart _ (.inr (.inr (.inr (.inl rfl))))).1;refine⟨⟨h.jat.turned ht λj a e=>m (by rw[<-e];exact a),h.nib.of_turned ht (Ne.symm h.nib_ne.2.2.2),(ht.block _ (Za h.head) d).trans h.head,h.now.keep (ht.block _ h.now.lt g),h.was.keep (ht.block _ h.was.lt i),htab,?_,?_,λj a=>?_,h.sep⟩,λj a=>.inl (c j a),ht.mono λj _ e=>.inr (.inr (.inr (.inr (.inl e))))⟩
 .exact(h.pgs.del k).keep λx b j a=>ht.block _ (h.apart j (.inr (.inr (.inr (.inr ⟨x,mem_vDel b,a⟩))))).2.2 (λe=>l x (mem_vDel b) (by rw[a,e]))
 .have o:=h.ok;exact⟨o.n0,o.n1,o.was,o.r0,o.r1,o.s0,o.s1,oDel_keys o.keys,o.jn⟩
 .have:=h.apart j (c j a);exact⟨this.1,this.2.1,Vm this.2.2 ht.size⟩
theorem free_any (h:Ys w F p f P) (page:Int) (y:-9223372036854775808<=page) (b2:page<=9223372036854775807) :
  Calls Tryz.prog 134 #[Qs f.q,.int .i64 page] w λe z=>e=.returned (.int .i64 (P.free page).1)/\Zco w F p f z (P.free page).2:=by
 have i:=Hd (must_any h page y b2);by_cases b:P.must page=0
 case neg =>
  have e:P.free page=(P.must page,P):=by rw[Pg.free,if_pos b]
  have r:(P.must page != 0)=true:=by simpa using b
  have l:=Hd (Zco.same h);rw[e];clear h b e;generalize P.must page=x at *;go_enter Tryz.func134,Tryz.ntmps134;go_wp2_with (go_at_call 141;refine i.out.mono ?_;rintro e m ⟨rfl,rfl⟩);go_ret;exact⟨rfl,l.out⟩
 rw[b] at i;obtain⟨X,Y,Z,c3,c4,c5,c6,c7⟩:=h.cells;by_cases c:page=P.root
 .have e:P.free page=(2,P):=by rw[Pg.free,if_neg (by simp[b]),if_pos c]
  have r:(page==P.root)=true:=by simpa using c
  have l:=Hd (Zco.same h);rw[e];clear h b e c;generalize P.root=R at *;go_enter Tryz.func134,Tryz.ntmps134;go_wp2_with (go_at_call 141;refine i.out.mono ?_;rintro e m ⟨rfl,rfl⟩);go_ret;exact⟨rfl,l.out⟩
 have e:P.free page=(0,{ P with now:=P.now.set page.toNat false,own:=oDel P.own page,change:=true }):=by rw[Pg.free,if_neg (by simp[b]),if_neg c]
 have r:(page==P.root)=false:=by simpa using c
 rw[e];obtain⟨k0,k1,_,_⟩:=Pg.must_bounds b;obtain⟨ck,n⟩:∃u,w.cell? ⟨f.gn,page.toNat,none⟩=some u:=⟨_,h.now.cell page.toNat (by omega)⟩;have hfz:=h.now.frozen page.toNat
 have j:=h.put_bit page.toNat false;have t1:=turned_gn w F p f page.toNat (.bool false);obtain⟨A,B,C,D,E,G,H,I⟩:=j.cells;obtain⟨m,s,a,d⟩:=j.tab.run_del (P:=Tryz.prog) (T:=143) Tryz.underlying143 Tryz.underlying3 page 0;obtain⟨k,t,v⟩:=j.del_own page d a;have h3:=k.put_change true;have t3:=Zhd m F p { f with kv:=vDel f.kv page } 6 (.bool true);obtain⟨J,L,M,N,O,Q,S,U⟩:=k.cells;have f6:=k.frozen 6;dsimp only at S f6 G
 have V:Hid (Zco w F p f _ { P with now:=P.now.set page.toNat false,own:=oDel P.own page,change:=true }):=Hd
  (Zco.then (f1:=f) rfl (λ_ o=>.inl o) t1 (Zco.then (f1:={ f with kv:=vDel f.kv page }) rfl t v ⟨_,h3,rfl,λ_ o=>.inl o,t3⟩))
 clear h b e c j t1 k t v h3 t3 a d J L M N O Q U A B C D E H I;generalize P.root=R at *;go_enter Tryz.func134,Tryz.ntmps134;go_wp2_with (go_at_call 141;refine i.out.mono ?_;rintro e W ⟨rfl,g⟩;rw[g];clear g W);go_ret;exact⟨rfl,V.out⟩
theorem pwrite_any (h:Ys w F p f P) (page:Int) (A:-9223372036854775808<=page) (b2:page<=9223372036854775807) (v:Value) (b:List UInt8) (hv:IsB w v b) :
  Calls Tryz.prog 131 #[Qs f.q,.int .i64 page,v] w λe B=>e=.returned (.int .i64 (P.write page b).1)/\Zco w F p f B (P.write page b).2:=by
 have l:=Hd (must_any h page A b2);by_cases g:P.must page=0
 case neg =>
  have e:P.write page b=(P.must page,P):=by rw[Pg.write,if_pos g]
  have C:(P.must page != 0)=true:=by simpa using g
  have n:=Hd (Zco.same h);rw[e];clear h g e;generalize P.must page=x at *;go_enter Tryz.func131,Tryz.ntmps131;go_wp2_with (go_at_call 141;refine l.out.mono ?_;rintro e o ⟨rfl,rfl⟩);go_ret;exact⟨rfl,n.out⟩
 rw[g] at l;obtain⟨a,c,rfl,D,E⟩:=hv.form;by_cases i:b.length=896
 case neg =>
  have e:P.write page b=(2,P):=by rw[Pg.write,if_neg (by simp[g]),if_pos i]
  have C:((b.length:Int) != 896)=true:=by rw[bne_iff_ne];omega
  have n:=Hd (Zco.same h);rw[e];clear h g e i hv;go_enter Tryz.func131,Tryz.ntmps131;go_wp2_with (go_at_call 141;refine l.out.mono ?_;rintro e o ⟨rfl,rfl⟩);go_ret;exact⟨rfl,n.out⟩
 have e:P.write page b=(0,{ P with own:=oPut P.own page b,change:=true }):=by rw[Pg.write,if_neg (by simp[g]),if_neg (by simp[i])]
 rw[e];obtain⟨G,H,_,_⟩:=Pg.must_bounds g;obtain⟨I,J,L,M,N,c5,O,Q⟩:=h.cells;have HC:=Hd (clone_any _ b w.drew hv (by omega))
 have R:=Hd hv;have HR:=Hd i;rw[i] at HC R ⊢;clear I J L M N O Q e g hv i;have HH:=Hd h;clear h;go_enter Tryz.func131,Tryz.ntmps131;go_upto_region 6 with (go_at_call 141;refine l.out.mono ?_;rintro e S ⟨rfl,j⟩;rw[j];clear j S);go_region_with (first | (go_at_call 106;refine HC.out.mono ?_;rintro e o ⟨u,rfl,r,hb2⟩;have hb2:=(Ve w.heap.size w).drew.trans hb2;obtain⟨s,t,d,k⟩:=((HH.out.below hb2).tab).run_put (P:=Tryz.prog) (T:=143) Tryz.underlying143 Tryz.underlying3 page u;obtain⟨m,y,z⟩:=HH.out.put_own hb2 page G H b HR.out _ r k d;have h4:=m.put_change true;have t4:=Zhd s F p { f with kv:=vPut f.kv page u } 6 (.bool true);obtain⟨U,V,W,X,Y,Z,m6,m7⟩:=m.cells;have f6:=m.frozen 6;dsimp only at m6 f6;have g5:=(HH.out.below hb2).cells.2.2.2.2.2.1;have HX:Hid (Zco w F p f (s.setCell ⟨f.q,6,none⟩ (.bool true)) { P with own:=oPut P.own page b,change:=true }):=Hd (Zco.then (f1:={ f with kv:=vPut f.kv page u }) rfl y z ⟨_,h4,rfl,λ_ hk=>.inl hk,t4⟩);clear U V W X Y Z m7 m y z h4 t4 d k hb2 r))
 all_goals
  go_wp2_with fail
  go_ret
  exact⟨rfl,HX.out⟩
end
end
end Go.Proofs.YtfaobkmojlhbnaaGreatDoor
