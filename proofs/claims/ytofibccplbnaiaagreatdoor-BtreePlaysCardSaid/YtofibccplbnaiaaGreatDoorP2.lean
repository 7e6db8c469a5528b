/- Contracts of the functions that the statements of this seat reach, part 2: each says what the call answers and what it leaves of the memory. -/
import Derived.Test.YtofibccplbnaiaaGreatDoorChecked
import Derived.WalkKit
import Derived.Deep.RegionHeld3
import Derived.Test.YtofibccplbnaiaaGreatDoorP1
import Derived.Great.BuildSlice
import Derived.Deep.Cut
import Derived.Deep.DeepCutAuto
import Derived.MapKept
import Derived.WideLaws
set_option linter.unusedVariables false
set_option linter.unusedSimpArgs false
set_option maxRecDepth 100000
set_option maxHeartbeats 64000000
namespace Go.Proofs.YtofibccplbnaiaaGreatDoor
section
section
variable {P : Program} {ops : Array Oper} {Q : Exit → Act → World → Prop} {md : Region.Mode} {S : World → Prop}
theorem op_at {i:Nat} {oi:Oper} {rest:List Oper} (h:ops.toList.drop i=oi::rest):ops[i]?=some oi:=by have h2:=congrArg (fun l:List Oper=>l[0]?) h;simp only[List.getElem?_drop,Nat.add_zero,List.getElem?_cons_zero,Array.getElem?_toList] at h2;exact h2
theorem take_at {i:Nat} {oi:Oper} {lr:List Oper} {v:Value} {fuel:Nat} {listed:Array Bool} {a:Act} {w:World} (hi:ops.toList.drop i=oi::lr)
  (hs:Region.noSelect ops=true) (hf:Region.free md ops listed i=true) (hr:(Region.ready md ops listed).contains i=true)
  (hQ:∀c a w,Q (.panic c) (a.put oi.dst v) w→Q (.panic c) a w) (hy:YieldsIf P ops S oi v a) (hS:S w)
  (h:wpAnyH P md ops Q S fuel (listed.setIfInBounds i true) (a.put oi.dst v) w):wpAnyH P md ops Q S (fuel+1) listed a w :=
 wpAnyH_take (op_at hi) hs hf hr hQ hy hS h
theorem Zco {fuel:Nat} {listed:Array Bool} {a:Act} {w:World} {i:Nat} {o:Oper} {lr:List Oper} {rs:List Nat} (ho:ops.toList.drop i=o::lr)
  (h:∀K':Act→World→Prop,Shut (∀a w,S w→(S w→wpAnyH P md ops Q S fuel (listed.setIfInBounds i true) a w)→K' a w)→if Region.wanted o (yielded ops a.tmps)=true then Oper.wp P o a w K' Q else K' (a.put o.dst undef) w)
  (hs:AllReadyH P md ops Q S fuel listed a w rs):AllReadyH P md ops Q S fuel listed a w (i::rs):=AllReadyH.cons (op_at ho) h hs
end
section
variable {P : Program} {ops : Array Oper} {Q : Exit → Act → World → Prop} {md : Region.Mode} {S : World → Prop}
theorem tkA (i : Nat) {oi : Oper} {lr : List Oper} {v : Value} {fuel : Nat} {listed : Array Bool} {a : Act} {w : World} (hi : ops.toList.drop i = oi :: lr) (hy : YieldsIf P ops S oi v a) (hS : S w)
    (h : wpAnyH P md ops Q S fuel (listed.setIfInBounds i true) (a.put oi.dst v) w) (hs : Region.noSelect ops = true := by kernel_rfl) (hf : Region.free md ops listed i = true := by kernel_rfl) (hr : (Region.ready md ops listed).contains i = true := by kernel_rfl)
    (hQ : ∀ c a w, Q (.panic c) (a.put oi.dst v) w → Q (.panic c) a w := by exact fun _ _ _ h => h) : wpAnyH P md ops Q S (fuel + 1) listed a w := take_at hi hs hf hr hQ hy hS h
theorem tkB (i : Nat) {oi : Oper} {lr : List Oper} {v : Value} {fuel : Nat} {listed : Array Bool} {a : Act} {w : World} (hi : ops.toList.drop i = oi :: lr) (hy : ∀ w, S w → (execOp a.eval oi).run P w = .ok (.value v) w) (hS : S w)
    (h : wpAnyH P md ops Q S fuel (listed.setIfInBounds i true) (a.put oi.dst v) w) (hw : Region.wanted oi (yielded ops a.tmps) = true := by rfl) (hs : Region.noSelect ops = true := by kernel_rfl) (hf : Region.free md ops listed i = true := by kernel_rfl) (hr : (Region.ready md ops listed).contains i = true := by kernel_rfl)
    (hQ : ∀ c a w, Q (.panic c) (a.put oi.dst v) w → Q (.panic c) a w := by exact fun _ _ _ h => h) : wpAnyH P md ops Q S (fuel + 1) listed a w := take_at hi hs hf hr hQ (.inl ⟨hw, hy⟩) hS h
theorem rdA (i : Nat) {o : Oper} {lr : List Oper} {fuel : Nat} {listed : Array Bool} {a : Act} {w : World} (ho : ops.toList.drop i = o :: lr)
    (h : ∀ K' : Act → World → Prop, Shut (∀ a w, S w → (S w → wpAnyH P md ops Q S fuel (listed.setIfInBounds i true) a w) → K' a w) → if Region.wanted o (yielded ops a.tmps) = true then Oper.wp P o a w K' Q else K' (a.put o.dst undef) w)
    (hr : Region.ready md ops listed = [i] := by kernel_rfl) : wpAnyH P md ops Q S (fuel + 1) listed a w := wpAnyH_ready hr (by simp) (Zco ho h AllReadyH.nil)
theorem dnA {listed : Array Bool} {a : Act} {w : World} {fuel : Nat} (h : Q .normal a w) (hr : Region.ready md ops listed = [] := by kernel_rfl) : wpAnyH P md ops (NoPanic Q) S fuel listed a w := wpAnyH_done hr (NoPanic.normal h) fuel
theorem rgA {id : Nat} {a : Act} {w : World} (hS : S w.drew) (h : S w.drew → wpAnyH P .any ops (NoPanic Q) S ops.size (Array.replicate ops.size false) a w.drew) (hm : P.follows .mixedOrders = true := by kernel_rfl) : (Code.region id ops true).wp P Q a w := wp_region_noPanic (wp_region_held_drew hm hS h)
end
end
section
open Go.RowKit
theorem Dk.write_n (D:Dk) (k:Int) (l:List UInt8):(D.write k l).2.n=D.n:=by
 unfold Dk.write;repeat' split
 all_goals rfl
theorem Dk.flush_n (D:Dk):D.flush.2.n=D.n:=by
 unfold Dk.flush;repeat' split
 all_goals rfl
theorem Jn.lay_n (J:Jn) (k:Nat) (L:List UInt8):(J.lay k L).D.n=J.D.n:=by
 unfold Jn.lay;split
 ·exact Dk.write_n _ _ _
 ·rfl
theorem Jn.flush_n (J:Jn):J.flush.D.n=J.D.n:=by
 unfold Jn.flush;split
 ·exact Dk.flush_n _
 ·rfl
def Jn.spStep (J:Jn) (f:List UInt8):Jn:=J.lay (J.D.home (Zp f)) (mkF (Zm f) (3*16777216+Zp f) (Xy f))
def Jn.spreads (J:Jn) (Ls:List (List UInt8)):Jn:=Ls.foldl Jn.spStep J
def Jn.spread (J:Jn) (Ls:List (List UInt8)):Jn:=(J.spreads Ls).flush
theorem Jn.spreads_n (J:Jn) (Ls:List (List UInt8)):(J.spreads Ls).D.n=J.D.n:=by
 unfold Jn.spreads
 induction Ls generalizing J with
 | nil=>rfl
 | cons f r ih=>rw[List.foldl_cons,ih,Jn.spStep,Jn.lay_n]
theorem Jn.spreads_snoc (J:Jn) (Ls:List (List UInt8)) (k:Nat) (hk:k<Ls.length):J.spreads (Ls.take (k+1))=(J.spreads (Ls.take k)).spStep Ls[k]:=by rw[List.take_succ_eq_append_getElem hk,Jn.spreads,List.foldl_append];rfl
theorem spread_any (w:World) (F:Ft) (p:Nat) (J:Jn) (h:JAt w F p J) (hn:Nib w) (hn2:2≤J.D.n) (B:Nat) (v:Value) (Ls:List (List UInt8)) (hm:Zaw B w v Ls) (hap:∀k,JT F p k→k<B) :
  Calls Tryz.prog 74 #[jptr p,v] w fun e w'=>e=.returned (.tuple #[])∧JAt w' F p (J.spread Ls)∧Zb (JT F p) w w':=by
 have Hhap:=Hd hap;have hlen:=hm.range;have Hm:=Hd hm
 obtain⟨a,cap,hv,hcap,hmx⟩:∃a cap,v=.slice a Ls.length cap∧Ls.length≤cap∧cap≤maxLen:=by
  rcases hlen with ⟨rfl,rfl⟩ | ⟨g,cap,rfl,h1,h2,_⟩
  ·exact⟨none,0,rfl,Nat.le_refl _,by simp[maxLen]⟩
  ·exact⟨_,cap,rfl,h1,h2⟩
 unfold maxLen at hmx;clear hlen hm hap;rw[hv];have Hv:=Hd hv
 clear hv;go_enter Tryz.func74,Tryz.ntmps74;go_wp2_with fail;go_loopw [8] (fun i wr=>∃k:Nat,k≤Ls.length∧i=.int .i64 (k:Int)∧JAt wr F p (J.spreads (Ls.take k))∧Nib wr∧Zb (JT F p) w wr) (fun i _=>Ls.length - (intOf i).toNat)
 case atStart=>exact⟨0,Nat.zero_le _,rfl,h,hn,Zb.refl _ _⟩
 case round =>
  obtain⟨k,hk,rfl,hj,hnb,ht⟩:=hrel;clear h hn;by_cases hlt:k<Ls.length
  ·have hd:decide ((k:Int)<(Ls.length:Int))=true:=by simpa using hlt
   have hm:=Hm.out.turned ht Hhap.out
   obtain⟨g0,rfl,hrg⟩:∃g0,a=some ⟨g0,0,none⟩∧wr.rangeAt g0 (k*128) (bv Ls[k]):=by
    rcases hm.range with ⟨_,h2⟩ | ⟨g,c,h1,_,_,_,h3⟩
    ·rw[h2] at hlt;simp at hlt
    ·have h4:=Hv.out;rw[h1] at h4;simp only[Value.slice.injEq] at h4;exact⟨g,h4.1.symm,h3 k hlt⟩
   have hl:=hm.lens Ls[k] (List.getElem_mem hlt);have hsn:=Jn.spreads_snoc J Ls k hlt;have hnn:(J.spreads (Ls.take k)).D.n=J.D.n:=Jn.spreads_n _ _;have Hsn:=Hd hsn;rw[←hnn] at hn2;clear hsn hm hnn;generalize J.spreads (Ls.take k)=Jk at *;generalize Ls[k]=L at *;have hlb:(bv L).length=128:=by rw[Zl,hl]
   have hlz:(bv Yz).length=128:=by rw[Zl,Yu]
   go_upto_region 3 with (first | (refine Zz rfl rfl ?_) | (refine wpList_load_mid rfl 128 (.tmp 10) rfl g0 (k*128) rfl (bv L) _ hrg Tryz.underlying128 rfl (by rw[Zk,hlb]) ?_) | (refine Yn 128 (.tmp 5) (.tmp 11) rfl _ (bv L).toArray rfl rfl rfl (by rw[Zk,List.size_toArray,hlb]) (by rw[List.size_toArray,List.size_toArray,hlb,hlz]) (all_oneCell_toArray (Yk L)) ?_));obtain⟨W3,hW3⟩:∃W3,W3=wr.alloc (.cells (bv L).toArray 128):=⟨_,rfl⟩;have hr3:Zh W3 wr.heap.size 128 L:=by rw[hW3];exact Zh.alloc wr 128 L
   have hb3:Below wr.heap.size wr W3:=by rw[hW3];exact(Below.refl _ _).alloc (Nat.le_refl _) _
   have hj3:=(hj.below hb3).drew;have hn3:Nib W3.drew:=hnb.below hb3.drew;have ht3:=(ht.trans (Zb.of_below (T:=JT F p) hb3)).drew;rw[←hW3];have hH0:Zh W3.drew wr.heap.size 128 L:=hr3;have hgn:∀k,JT F p k→k<wr.heap.size:=fun k hk=>hj.lt hk;have hpl:=Zfl L;have hwl:=fwrite_lt L hl;clear hW3 hr3 hb3 hj hnb ht hrg;generalize wr.heap.size=g at *;refine rgA (S:=(fun W=>Zh W g 128 L)) hH0 (fun hH=>?_);refine tkB 0 rfl (v:=?_) ?_ hH ?_;rotate_left
   ·intro w hSw;skip;go_simp;try with_reducible rfl
   try simp only[Act.put,zA,zB,zC]
   refine tkB 1 rfl (v:=?_) ?_ hH ?_;rotate_left
   ·intro w hSw;skip;go_simp;try with_reducible rfl
   try simp only[Act.put,zA,zB,zC]
   refine tkA 2 rfl (v:=.agg (bv L).toArray) (yieldsIf_load_mid rfl 128 (.tmp 5) rfl g 0 rfl (bv L) _ (fun W hW=>Zh.range hW) Tryz.underlying128 rfl (by rw[Zk,Zl,hl])) hH ?_;try simp only[Act.put,zA,zB,zC]
   refine tkA 5 rfl (v:=.agg (bv L).toArray) (yieldsIf_load_mid rfl 128 (.tmp 5) rfl g 0 rfl (bv L) _ (fun W hW=>Zh.range hW) Tryz.underlying128 rfl (by rw[Zk,Zl,hl])) hH ?_;try simp only[Act.put,zA,zB,zC]
   refine tkA 7 rfl (v:=.agg (bv L).toArray) (yieldsIf_load_mid rfl 128 (.tmp 5) rfl g 0 rfl (bv L) _ (fun W hW=>Zh.range hW) Tryz.underlying128 rfl (by rw[Zk,Zl,hl])) hH ?_;try simp only[Act.put,zA,zB,zC]
   refine tkA 9 rfl (v:=.agg (bv L).toArray) (yieldsIf_load_mid rfl 128 (.tmp 5) rfl g 0 rfl (bv L) _ (fun W hW=>Zh.range hW) Tryz.underlying128 rfl (by rw[Zk,Zl,hl])) hH ?_;try simp only[Act.put,zA,zB,zC]
   refine rdA 3 rfl (fun K hK=>?_);go_simp;refine(Qg _ L hl).mono ?_;rintro e W4 ⟨rfl,hb⟩;have hHn:=Zh.below hH hb
   replace hj3:=hj3.below hb;replace hn3:=hn3.below hb;replace ht3:=ht3.trans (Zb.of_below (T:=JT F p) hb);clear hb hH;go_wp2_with fail;refine hK.out _ _ hHn (fun hH=>?_);clear hHn;clear hK K;try simp only[Act.put,zA,zB,zC]
   refine rdA 4 rfl (fun K hK=>?_);go_simp;refine(home_any _ F p Jk hj3 hn2 (Zp L) (by omega)).mono ?_;rintro e w' ⟨rfl,rfl⟩;go_wp2_with fail;refine hK.out _ _ hH (fun hH=>?_);clear hK K;try simp only[Act.put,zA,zB,zC]
   refine rdA 6 rfl (fun K hK=>?_);go_simp;refine(Xi _ L hl).mono ?_;rintro e W5 ⟨rfl,hb⟩;have hHn:=Zh.below hH hb
   replace hj3:=hj3.below hb;replace hn3:=hn3.below hb;replace ht3:=ht3.trans (Zb.of_below (T:=JT F p) hb);clear hb hH;go_wp2_with fail;refine hK.out _ _ hHn (fun hH=>?_);clear hHn;clear hK K;try simp only[Act.put,zA,zB,zC]
   refine rdA 8 rfl (fun K hK=>?_);go_simp;refine(Qg _ L hl).mono ?_;rintro e W6 ⟨rfl,hb⟩;have hHn:=Zh.below hH hb
   replace hj3:=hj3.below hb;replace hn3:=hn3.below hb;replace ht3:=ht3.trans (Zb.of_below (T:=JT F p) hb);clear hb hH;go_wp2_with fail;refine hK.out _ _ hHn (fun hH=>?_);clear hHn;clear hK K;try simp only[Act.put,zA,zB,zC]
   refine rdA 10 rfl (fun K hK=>?_);go_simp;refine(fbytes_any W6 L hl).mono ?_;rintro e W7 ⟨rfl,hw7⟩;have hb:Below W6.heap.size W6 W7:=by rw[hw7];exact(Below.refl _ _).alloc (Nat.le_refl _) _
   have hi7:IsB W7 (.slice (some ⟨W6.heap.size,16,none⟩) 112 112) (Xy L):=by have:=(Zh.alloc W6 128 L).isB 16 112 112 (by omega) (by omega) (by simp[maxLen]);rw[←hw7,List.take_of_length_le (by simp[hl])] at this;exact this
   clear hw7;have hHn:=Zh.below hH hb
   replace hj3:=hj3.below hb;replace hn3:=hn3.below hb;replace ht3:=ht3.trans (Zb.of_below (T:=JT F p) hb);clear hb hH;go_wp2_with fail;refine hK.out _ _ hHn (fun hH=>?_);clear hHn;clear hK K;try simp only[Act.put,zA,zB,zC]
   refine rdA 11 rfl (fun K hK=>?_);go_simp;refine(Zei W7 (Zm L) 3 (Zp L) _ (Xy L) hwl (by omega) hpl hi7 hn3).mono ?_;rintro e W8 ⟨rfl,hb⟩;have hHn:=Zh.below hH hb
   replace hj3:=hj3.below hb;replace hn3:=hn3.below hb;replace ht3:=ht3.trans (Zb.of_below (T:=JT F p) hb);clear hi7;clear hb hH;go_wp2_with fail;refine hK.out _ _ hHn (fun hH=>?_);clear hHn;clear hK K;try simp only[Act.put,zA,zB,zC]
   refine rdA 12 rfl (fun K hK=>?_);go_simp;have hle:=hj3.disk.ok.nm
   have hhm:Jk.D.home (Zp L)≤33554432:=by unfold Dk.home Dk.blocks;omega
   refine(lay_any W8 F p Jk hj3 (Jk.D.home (Zp L)) hhm _ (Xd _ _ _)).mono ?_;rintro e W9 ⟨rfl,hj9,ht9⟩;have hn9:=hn3.turned hj3 ht9
   have ht10:=ht3.trans ht9;have hHn:Zh W9 g 128 L:=Zh.turned hH ht9 (fun e=>Nat.lt_irrefl _ (hgn _ e));clear hH hj3 hn3 ht3 ht9 hle hhm;go_wp2_with fail;refine hK.out _ _ hHn (fun hH=>?_);clear hHn;clear hK K;try simp only[Act.put,zA,zB,zC]
   refine dnA ?_;go_wp2_with fail;go_roundw
   case rel=>exact⟨k+1,by omega,by go_num,by rw[Hsn.out];exact hj9,hn9,ht10⟩
   case measure=>simp[intOf];omega
  ·obtain rfl:k=Ls.length:=by omega
   have hd:decide ((Ls.length:Int)<(Ls.length:Int))=false:=by simp
   rw[List.take_length] at hj;go_wp2_with fail;refine(Zej wr F p _ hj).mono ?_;rintro e w1 ⟨rfl,hj1,ht1⟩;go_wp2_with fail;go_end0;exact⟨rfl,hj1,ht.trans ht1⟩
end
section
open Go.RowKit
def Dk.markOk (D:Dk) (i:Nat):Bool:=(Zao (sec D.now i)&&decide (Zas (sec D.now i)=1))&&decide (Zm (sec D.now i) % 2=i)&&decide (Zp (sec D.now i)≤D.blocks)
def Dk.noteOk (D:Dk) (i:Nat):Bool:=(Zao (sec D.now (2+i))&&decide (Zas (sec D.now (2+i))=2))&&decide (Zp (sec D.now (2+i))<D.blocks)
def Dk.mark (D:Dk):List UInt8:=if Zm (sec D.now 0)<Zm (sec D.now 1) then sec D.now 1 else sec D.now 0
def Dk.lastTo (D:Dk) (m:List UInt8):Nat→Nat
 | 0=>Zm m
 | k+1=>max (D.lastTo m k) (Zm (sec D.now (2+k)))
def Dk.againTo (D:Dk) (m:List UInt8):Nat→List (List UInt8)
 | 0=>[]
 | k+1=>if k<Zp m∧Zm (sec D.now (2+k))=Zm m then D.againTo m k++[sec D.now (2+k)] else D.againTo m k
def toI64 (n:Nat):Int:=if n<9223372036854775808 then n else (n:Int) - 18446744073709551616
def mseq (m:List UInt8):Int:=toI64 (leR ((Xy m).take 8))
def Dk.found (D:Dk):Jn:=⟨D,D.lastTo D.mark D.blocks,mseq D.mark,0⟩
def Dk.openJ (D:Dk):Int × Jn :=
 if D.n<32 then (60,⟨D,0,0,0⟩) else if D.off then (43,⟨D,0,0,0⟩)
 else if D.markOk 0=false∧D.markOk 1=false then (60,⟨D,0,0,0⟩)
 else if D.markOk 0=false∨D.markOk 1=false then (62,⟨D,0,0,0⟩)
 else if ∃i,i<D.blocks∧D.noteOk i=false then (62,⟨D,0,0,0⟩)
 else if (D.againTo D.mark D.blocks).length=Zp D.mark∧0<(D.againTo D.mark D.blocks).length
  then ((D.found.spread (D.againTo D.mark D.blocks)).off,D.found.spread (D.againTo D.mark D.blocks)) else (0,D.found)
end
section
open Go.RowKit
def Dk.take (D:Dk) (k kind:Nat):List UInt8 × Bool × Int :=
 if D.off then (Yz,false,43) else (sec D.now k,(Zao (sec D.now k)&&decide (Zas (sec D.now k)=kind)),0)
theorem run_arrayAt_frame (W:World) (a:Option Addr) (cap:Nat):(Instr.arrayAt 128 (.slice a 128 cap)).run Tryz.prog W=.ok (.pointer a) W:=by unfold Instr.arrayAt;simp only[Sem.run_bind,run_underlying Tryz.underlying128,Result.andThen];rfl
def RowN (w:World) (g:Nat) (T:TypeId) (n:Nat):Prop:=∃R,Zh w g T R∧R.length=n
theorem Zh.rowN {w:World} {g:Nat} {T:TypeId} {L:List UInt8} (h:Zh w g T L) {n:Nat} (hl:L.length=n):RowN w g T n:=⟨L,h,hl⟩
theorem RowN.below {w w':World} {g:Nat} {T:TypeId} {n:Nat} (h:RowN w g T n) (hb:Below w.heap.size w w'):RowN w' g T n:=by obtain⟨R,h1,h2⟩:=h;exact⟨R,h1.below hb,h2⟩
theorem RowN.run_store {w:World} {g:Nat} {T:TypeId} {n:Nat} (h:RowN w g T n) {l:List UInt8} (hl:l.length=n):(storeCells ⟨g,0,none⟩ (bv l)).run Tryz.prog w=.ok () (w.setCells g 0 (bv l)):=by obtain⟨R,h1,h2⟩:=h;exact h1.run_store (by omega)
theorem RowN.store {w:World} {g:Nat} {T:TypeId} {n:Nat} (h:RowN w g T n) {l:List UInt8} (hl:l.length=n):Zh (w.setCells g 0 (bv l)) g T l:=by obtain⟨R,h1,h2⟩:=h;exact h1.store (by omega)
def TkHeld (T:TypeId) (g r:Nat) (L:List UInt8) (B:Nat) (w0 W:World):Prop:=Zh W g T L∧RowN W r T 128∧Below B w0 W
theorem tk_keep {T:TypeId} {g r:Nat} {L:List UInt8} {w0 W W':World} (h:TkHeld T g r L w0.heap.size w0 W) (hb:Below W.heap.size W W'):TkHeld T g r L w0.heap.size w0 W' :=
 ⟨h.1.below hb,h.2.1.below hb,h.2.2.trans (hb.mono h.2.2.size)⟩
theorem tk_store {T:TypeId} {g r:Nat} {L:List UInt8} {w0 W:World} (h:TkHeld T g r L w0.heap.size w0 W) (hl:L.length=128) (hne:r≠g) (hr:w0.heap.size≤r) :
  TkHeld T g r L w0.heap.size w0 (W.setCells r 0 (bv L))∧(storeCells ⟨r,0,none⟩ (bv L)).run Tryz.prog W=.ok () (W.setCells r 0 (bv L))∧Zh (W.setCells r 0 (bv L)) r T L:=by
 have hT:=Zu W r 0 (bv L);have hs:=h.2.1.store hl;exact⟨⟨h.1.turned hT (fun e=>hne e.symm),hs.rowN hl,h.2.2.trans (hT.below h.2.2.size (fun k hk=>by omega))⟩,h.2.1.run_store hl,hs⟩
theorem cell_frame {w:World} {B o:Nat} {L:List UInt8} (h:IsB w (.slice (some ⟨B,o,none⟩) 128 128) L) (hl:L.length=128):w.rangeAt B o (bv L):=fun j v hj=>by
 have hjl:j<L.length:=by have:=(List.getElem?_eq_some_iff.1 hj).1;simpa [bv] using this
 rw[Zef L j hjl] at hj;rw[isB_cell h j hjl];exact hj
theorem take_any (w:World) (F:Ft) (p:Nat) (J:Jn) (h:JAt w F p J) (hn:Nib w) (k kind:Nat) (hk:k<J.D.n) (hkd:kind≤3) :
  Calls Tryz.prog 69 #[jptr p,.int .i64 (k:Int),.int .i64 (kind:Int)] w fun e w' =>
   e=.returned (.tuple #[.agg (bv (J.D.take k kind).1).toArray,.bool (J.D.take k kind).2.1,.int .i64 (J.D.take k kind).2.2])∧Below w.heap.size w w':=by
 have hnm:=h.disk.ok.nm;obtain⟨W1,hW1⟩:∃W1,W1=w.alloc (.cells (bv Yz).toArray 128):=⟨_,rfl⟩;have hr1:Zh W1 w.heap.size 128 Yz:=by rw[hW1];exact Zh.alloc w 128 Yz
 have hB1:Below w.heap.size w W1:=by rw[hW1];exact(Below.refl _ _).alloc (Nat.le_refl _) _
 have h1:=h.below hB1;have hz1:W1.heap.size=w.heap.size+1:=by rw[hW1];simp
 obtain⟨c0,c1,c2,c3⟩:=h1.cells;have HR:=Hd (read_any W1 F J.D h1.disk k (by omega) (by omega))
 cases ho:J.D.off with
 | true =>
  have e1:J.D.take k kind=(Yz,false,43):=by simp[Dk.take,ho]
  have e2:J.D.read k=([],43):=by simp[Dk.read,ho]
  rw[e1];rw[e2] at HR;clear e1 e2 h1 h ho c1 c2 c3;go_enter Tryz.func69,Tryz.ntmps69;go_upto_region 1 with (refine Zz rfl rfl ?_);rw[←hW1];clear hW1;go_wp2_with fail;refine HR.out.mono ?_;rintro e W2 ⟨v,rfl,hg⟩;have hb2:=hg.below
  have hr2:=hr1.below hb2;have hB2:=hB1.trans (hb2.mono hB1.size);have hbf:=fun W=>zero_frame W;have hst:=hr2.run_store (l:=Yz) rfl;have hr3:=hr2.store (l:=Yz) rfl;have hB3:=hB2.trans ((Zu W2 w.heap.size 0 (bv Yz)).below (B:=w.heap.size) hB2.size (fun k hk=>by omega));have hv:=hr3.run_load Yu;have hlb:(bv Yz).length=128:=by rw[Zl,Yu]
  generalize W2.setCells w.heap.size 0 (bv Yz)=W3 at *;clear hr1 hr2 hr3 hB1 hB2 hb2 hg HR c0;go_wp2_with fail;exact bodyPost_ret (Zde Tryz.results69 rfl hv) rfl ⟨rfl,hB3⟩
 | false =>
  have e1:J.D.take k kind=(sec J.D.now k,(Zao (sec J.D.now k)&&decide (Zas (sec J.D.now k)=kind)),0):=by simp[Dk.take,ho]
  have e2:J.D.read k=(sec J.D.now k,0):=by simp[Dk.read,ho,hk]
  rw[e1];rw[e2] at HR;have hl:=Qh h.disk.ok.now hk
  generalize sec J.D.now k=L at *;clear e1 e2 h1 h ho c1 c2 c3;go_enter Tryz.func69,Tryz.ntmps69;go_upto_region 1 with (refine Zz rfl rfl ?_);rw[←hW1];clear hW1;go_wp2_with fail;refine HR.out.mono ?_;rintro e W2 ⟨v,rfl,hg⟩;have hb2:=hg.below
  have hr2:=hr1.below hb2;have hB2:=hB1.trans (hb2.mono hB1.size);have hi2:=hg.isB
  have hv:v=.slice (some ⟨W1.heap.size,0,none⟩) 128 128:=by
   rcases hg with ⟨rfl,_⟩ | ⟨_,rfl,_⟩
   ·simp at hl
   ·rfl
  subst hv;have hrg:=cell_frame hi2 hl
  have hlb:(bv L).length=128:=by rw[Zl,hl]
  have hlz:(bv Yz).length=128:=by rw[Zl,Yu]
  have hat:=fun W=>run_arrayAt_frame W (some ⟨W1.heap.size,0,none⟩) 128;clear hr1 hB1 hb2 hg HR c0 hi2 hz1;go_upto_region 5 with (first | (refine Zz rfl rfl ?_) | (refine wpList_load_mid rfl 128 (.tmp 26) rfl W1.heap.size 0 rfl (bv L) _ hrg Tryz.underlying128 rfl (by rw[Zk,hlb]) ?_) | (refine Yn 128 (.tmp 11) (.tmp 27) rfl _ (bv L).toArray rfl rfl rfl (by rw[Zk,List.size_toArray,hlb]) (by rw[List.size_toArray,List.size_toArray,hlb,hlz]) (all_oneCell_toArray (Yk L)) ?_));obtain⟨W3,hW3⟩:∃W3,W3=W2.alloc (.cells (bv L).toArray 128):=⟨_,rfl⟩;have hr3:Zh W3 W2.heap.size 128 L:=by rw[hW3];exact Zh.alloc W2 128 L
  have hb3:Below W2.heap.size W2 W3:=by rw[hW3];exact(Below.refl _ _).alloc (Nat.le_refl _) _
  have hB3:=hB2.trans (hb3.mono hB2.size);have hR3:=hr2.below hb3;have hne:w.heap.size≠W2.heap.size:=by have:=hr2.lt;omega
  rw[←hW3];have hH0:TkHeld 128 W2.heap.size w.heap.size L w.heap.size w W3.drew:=⟨hr3,hR3.rowN Yu,hB3.drew⟩
  clear hW3 hr3 hb3 hB3 hR3 hr2 hB2 hrg hat;generalize W2.heap.size=g at *
  cases hf:Zao L with
  | false =>
   refine rgA (S:=(TkHeld 128 g w.heap.size L w.heap.size w)) hH0 (fun hH=>?_);refine tkA 0 rfl (v:=.agg (bv L).toArray) (yieldsIf_load_mid rfl 128 (.tmp 11) rfl g 0 rfl (bv L) _ (fun W hW=>hW.1.range) Tryz.underlying128 rfl (by rw[Zk,Zl,hl])) hH ?_;try simp only[Act.put,zA,zB,zC]
   refine tkA 1 rfl (v:=.agg (bv L).toArray) (yieldsIf_load_mid rfl 128 (.tmp 11) rfl g 0 rfl (bv L) _ (fun W hW=>hW.1.range) Tryz.underlying128 rfl (by rw[Zk,Zl,hl])) hH ?_;try simp only[Act.put,zA,zB,zC]
   refine rdA 2 rfl (fun K hK=>?_);go_simp;refine(fright_any _ L hl (hn.below hH.2.2)).mono ?_;rintro e W4 ⟨rfl,hb4⟩;rw[hf];have hH4:=tk_keep hH hb4
   clear hb4 hH;go_wp2_with fail;refine hK.out _ _ hH4 (fun hH=>?_);clear hH4;clear hK K;try simp only[Act.put,zA,zB,zC]
   refine tkB 3 rfl (v:=?_) ?_ hH ?_;rotate_left
   ·intro w hSw;skip;go_simp;try with_reducible rfl
   try simp only[Act.put,zA,zB,zC]
   refine tkA 4 rfl (v:=undef) (Or.inr ⟨by rfl,rfl⟩) hH ?_;try simp only[Act.put,zA,zB,zC]
   refine tkA 5 rfl (v:=undef) (Or.inr ⟨by rfl,rfl⟩) hH ?_;try simp only[Act.put,zA,zB,zC]
   refine tkA 6 rfl (v:=undef) (Or.inr ⟨by rfl,rfl⟩) hH ?_;try simp only[Act.put,zA,zB,zC]
   refine tkA 7 rfl (v:=undef) (Or.inr ⟨by rfl,rfl⟩) hH ?_;try simp only[Act.put,zA,zB,zC]
   refine tkB 8 rfl (v:=?_) ?_ hH ?_;rotate_left
   ·intro w hSw;skip;go_simp;try with_reducible rfl
   try simp only[Act.put,zA,zB,zC]
   refine rdA 9 rfl (fun K hK=>?_);have hS9:=tk_store hH hl hne (Nat.le_refl _)
   generalize W4.setCells w.heap.size 0 (bv L)=W9 at hS9;have hv:=hS9.2.2.run_load hl
   have hst:=hS9.2.1;have hH9:=hS9.1;clear hS9 hH;go_simp;refine hK.out _ _ hH9 (fun hH=>?_);clear hst;clear hK K;try simp only[Act.put,zA,zB,zC]
   refine tkB 10 rfl (v:=?_) ?_ hH ?_;rotate_left
   ·intro w hSw;skip;go_simp;try with_reducible rfl
   try simp only[Act.put,zA,zB,zC]
   refine tkB 11 rfl (v:=?_) ?_ hH ?_;rotate_left
   ·intro w hSw;skip;go_simp;try with_reducible rfl
   try simp only[Act.put,zA,zB,zC]
   refine dnA ?_;go_wp2_with fail;exact bodyPost_ret (Zde Tryz.results69 rfl hv) rfl ⟨by rw[hf];first | rfl | (rw[Bool.true_and];rfl) | (rw[Bool.true_and,←hd];rfl),hH.2.2⟩
  | true =>
   have hd:(((Zas L:Nat):Int)==(kind:Int))=decide (Zas L=kind):=int_beq _ _;refine rgA (S:=(TkHeld 128 g w.heap.size L w.heap.size w)) hH0 (fun hH=>?_);refine tkA 0 rfl (v:=.agg (bv L).toArray) (yieldsIf_load_mid rfl 128 (.tmp 11) rfl g 0 rfl (bv L) _ (fun W hW=>hW.1.range) Tryz.underlying128 rfl (by rw[Zk,Zl,hl])) hH ?_;try simp only[Act.put,zA,zB,zC]
   refine tkA 1 rfl (v:=.agg (bv L).toArray) (yieldsIf_load_mid rfl 128 (.tmp 11) rfl g 0 rfl (bv L) _ (fun W hW=>hW.1.range) Tryz.underlying128 rfl (by rw[Zk,Zl,hl])) hH ?_;try simp only[Act.put,zA,zB,zC]
   refine rdA 2 rfl (fun K hK=>?_);go_simp;refine(fright_any _ L hl (hn.below hH.2.2)).mono ?_;rintro e W4 ⟨rfl,hb4⟩;rw[hf];have hH4:=tk_keep hH hb4
   clear hb4 hH;go_wp2_with fail;refine hK.out _ _ hH4 (fun hH=>?_);clear hH4;clear hK K;try simp only[Act.put,zA,zB,zC]
   refine tkB 3 rfl (v:=?_) ?_ hH ?_;rotate_left
   ·intro w hSw;skip;go_simp;try with_reducible rfl
   try simp only[Act.put,zA,zB,zC]
   refine tkA 4 rfl (v:=.agg (bv L).toArray) (yieldsIf_load_mid rfl 128 (.tmp 11) rfl g 0 rfl (bv L) _ (fun W hW=>hW.1.range) Tryz.underlying128 rfl (by rw[Zk,Zl,hl])) hH ?_;try simp only[Act.put,zA,zB,zC]
   refine tkB 6 rfl (v:=?_) ?_ hH ?_;rotate_left
   ·intro w hSw;skip;go_simp;try with_reducible rfl
   try simp only[Act.put,zA,zB,zC]
   refine rdA 5 rfl (fun K hK=>?_);go_simp;refine(fkind_any _ L hl).mono ?_;rintro e W5 ⟨rfl,hb5⟩;have hH5:=tk_keep hH hb5
   clear hb5 hH;go_wp2_with fail;refine hK.out _ _ hH5 (fun hH=>?_);clear hH5;clear hK K;try simp only[Act.put,zA,zB,zC]
   refine tkB 7 rfl (v:=?_) ?_ hH ?_;rotate_left
   ·intro w hSw;skip;go_simp;try with_reducible rfl
   try simp only[Act.put,zA,zB,zC]
   refine tkB 8 rfl (v:=?_) ?_ hH ?_;rotate_left
   ·intro w hSw;skip;go_simp;try with_reducible rfl
   try simp only[Act.put,zA,zB,zC]
   refine rdA 9 rfl (fun K hK=>?_);have hS9:=tk_store hH hl hne (Nat.le_refl _)
   generalize W5.setCells w.heap.size 0 (bv L)=W9 at hS9;have hv:=hS9.2.2.run_load hl
   have hst:=hS9.2.1;have hH9:=hS9.1;clear hS9 hH;go_simp;refine hK.out _ _ hH9 (fun hH=>?_);clear hst;clear hK K;try simp only[Act.put,zA,zB,zC]
   refine tkB 10 rfl (v:=?_) ?_ hH ?_;rotate_left
   ·intro w hSw;skip;go_simp;try with_reducible rfl
   try simp only[Act.put,zA,zB,zC]
   refine tkB 11 rfl (v:=?_) ?_ hH ?_;rotate_left
   ·intro w hSw;skip;go_simp;try with_reducible rfl
   try simp only[Act.put,zA,zB,zC]
   refine dnA ?_;go_wp2_with fail;exact bodyPost_ret (Zde Tryz.results69 rfl hv) rfl ⟨by rw[hf];first | rfl | (rw[Bool.true_and];rfl) | (rw[Bool.true_and,←hd];rfl),hH.2.2⟩
end
section
open Go.RowKit
section
variable {o : Oper} {y : Nat → Option Bool} {a : Act} {w w' : World} {K : Act → World → Prop} {Q : Exit → Act → World → Prop} {X : Prop}
theorem arm_value {v:Value} (hw:Region.wanted o y=true) (he:(execOp a.eval o).run Tryz.prog w=.ok (.value v) w') (h:K (a.put o.dst v) w'):if Region.wanted o y=true then Oper.wp Tryz.prog o a w K Q else X:=by rw[if_pos hw];unfold Oper.wp;rw[he];exact h
theorem run_build_one (w:World) (L:List UInt8) (hl:L.length=128):(Instr.buildSlice 137 1 #[(0,.agg (bv L).toArray)]).run Tryz.prog w=.ok (.slice (some ⟨w.heap.size,0,none⟩) 1 1) (w.alloc (.cells (bv L).toArray 128)):=by
 obtain⟨i,hi,hz,hs,hb⟩:=info_parts (P:=Tryz.prog) (e:=128) info_frame3;have hlb:(bv L).length=128:=by rw[Zl,hl]
 refine run_buildSlice w _ _ 1 _ _ i _ Tryz.underlying137 hi hz (by rw[hs];decide) (by rw[hs];decide) ?_;rw[hs];generalize hB:((Array.range (1*128)).map fun k=>(Value.agg (bv Yz).toArray).cells[k % (Value.agg (bv Yz).toArray).cells.size]!)=base;have hbs:base.size=128:=by rw[←hB];simp
 have hf:=fill_at (fun _ _=>undef) (bv L) base 0 0 (by rw[hlb,hbs];omega);simp only[Nat.zero_add,List.take_zero,List.nil_append] at hf;rw[List.drop_of_length_le (by rw[Array.length_toList,hbs,hlb];omega),List.append_nil] at hf;simp only[Instr.fill,Value.cells,Nat.zero_mul,List.size_toArray,hlb,hbs];simp only[Nat.zero_add];simp;apply Array.ext';rw[List.toList_toArray];exact hf
theorem arm_build_one (hw:Region.wanted o y=true) (x:Operand) (ho:o.op=.buildSlice 137 1 #[(0,x)]) (L:List UInt8) (hl:L.length=128) (hx:a.eval x=.agg (bv L).toArray)
  (h:K (a.put o.dst (.slice (some ⟨w.heap.size,0,none⟩) 1 1)) (w.alloc (.cells (bv L).toArray 128))):if Region.wanted o y=true then Oper.wp Tryz.prog o a w K Q else X:=by
 refine arm_value hw ?_ h;unfold execOp;simp only[ho,List.map_toArray,List.map_cons,List.map_nil,hx,Sem.run_bind,run_build_one w L hl,Result.andThen_ok];rfl
theorem Zcc (hw:Region.wanted o y=true) (s x:Operand) (t t':TypeId) (ho:o.op=.call { callee:=.builtin .append,args:=#[s,x],argTypes:=#[t,t'] }) (u v r:Value)
  (hs:a.eval s=u) (hx:a.eval x=v) (hr:(Builtin.append_ #[t,t'] o.type #[u,v]).run Tryz.prog w=.ok r w') (h:K (a.put o.dst r) w'):if Region.wanted o y=true then Oper.wp Tryz.prog o a w K Q else X:=by
 refine arm_value hw ?_ h;unfold execOp;simp only[ho,resolve,invoke,builtin,Sem.run_bind,Sem.run_pure,Result.andThen_ok,List.map_toArray,List.map_cons,List.map_nil,hs,hx,hr]
end
theorem Zdg {P:Program} {ops:Array Oper} {rest:List Oper} {op:Oper} {a:Act} {w:World} {Q:Exit→Act→World→Prop} (hw:Region.wanted op (yielded ops a.tmps)=true) (ty:TypeId) (x:Operand) (ho:op.op=.load ty x)
  (b o:Nat) (hx:a.eval x=.pointer (some ⟨b,o,none⟩)) (cs:List Value) (d:TypeDesc) (hc:w.rangeAt b o cs)
  (hu:P.underlying ty=some d) (hd:d.isRow=true) (hi:(P.info? ty).map (·.size)=some cs.length)
  (h:wpList P ops Q rest (a.put op.dst (.agg cs.toArray)) w):wpList P ops Q (op::rest) a w :=
 wpList_step fun K hK=>by rw[if_pos hw];exact wp_load_mid ty x ho b o hx cs d hc hu hd hi (hK _ _ h)
end
section
open Go.RowKit
theorem wpList_append_run {ops:Array Oper} {w w':World} {Q:Exit→Act→World→Prop} {a:Act} {o:Oper} {rest:List Oper} (hg:o.guard=none) (s x:Operand) (t t':TypeId) (ho:o.op=.call { callee:=.builtin .append,args:=#[s,x],argTypes:=#[t,t'] }) (u v r:Value)
  (hs:a.eval s=u) (hx:a.eval x=v) (hr:(Builtin.append_ #[t,t'] o.type #[u,v]).run Tryz.prog w=.ok r w') (h:wpList Tryz.prog ops Q rest (a.put o.dst r) w'):wpList Tryz.prog ops Q (o::rest) a w:=by
 refine wpList_plain hg fun K hK=>?_;unfold Oper.wp execOp;simp only[ho,resolve,invoke,builtin,Sem.run_bind,Sem.run_pure,Result.andThen_ok,List.map_toArray,List.map_cons,List.map_nil,hs,hx,hr];exact hK _ _ h
end
section
open Go.RowKit
def Jn.fmtTo (J:Jn):Nat→Jn
 | 0=>J
 | i+1=>((J.fmtTo i).lay (2+i) (mkF 0 (2*16777216+0) [])).lay (J.D.home i) (mkF 0 (3*16777216+i) [])
def Jn.fmtMarks (J:Jn):Nat→Jn
 | 0=>J
 | i+1=>(J.fmtMarks i).lay i (Xk i 0 0)
def Jn.format (J:Jn):Jn:=(((J.fmtTo J.D.blocks).flush).fmtMarks 2).flush
def Dk.format (D:Dk):Int × Dk:=if D.n<32 then (60,D) else ((Jn.format ⟨D,0,0,0⟩).off,(Jn.format ⟨D,0,0,0⟩).D)
theorem Jn.fmtTo_n (J:Jn) (i:Nat):(J.fmtTo i).D.n=J.D.n:=by
 induction i with
 | zero=>rfl
 | succ i ih=>rw[Jn.fmtTo,Jn.lay_n,Jn.lay_n,ih]
theorem Dk.home_n {D D':Dk} (h:D.n=D'.n) (i:Nat):D.home i=D'.home i:=by unfold Dk.home Dk.blocks;rw[h]
theorem format_any (w:World) (F:Ft) (D:Dk) (h:Xv w F D) (hn:Nib w) :
  Calls Tryz.prog 33 #[F.ptr] w fun e w'=>e=.returned (.int .i64 D.format.1)∧Xv w' F D.format.2∧Zb F.has w w':=by
 have hnm:=h.ok.nm;have HS:=Hd (Zex w F D h);by_cases h32:D.n<32
 ·have e1:D.format=(60,D):=by rw[Dk.format,if_pos h32]
  rw[e1];have HD:=Hd h
  have hd:decide ((D.n:Int)<32)=true:=by simp;omega
  clear e1 h;go_enter Tryz.func33,Tryz.ntmps33;go_wp2_with fail;refine HS.out.mono ?_;rintro e w1 ⟨rfl,rfl⟩;go_wp2_with fail;go_ret;exact⟨rfl,HD.out,Zb.refl _ _⟩
 ·have e1:D.format=((Jn.format ⟨D,0,0,0⟩).off,(Jn.format ⟨D,0,0,0⟩).D):=by rw[Dk.format,if_neg h32]
  rw[e1];have hd:decide ((D.n:Int)<32)=false:=by simp;omega
  have hj0:JAt (w.alloc (.cells #[F.ptr,.int .u64 0,.int .i64 0,.int .i64 0] 125)) F w.heap.size ⟨D,0,0,0⟩ :=
   ⟨fun hk=>Nat.lt_irrefl _ (h.lt hk),heap_alloc_new w _,h.below ((Below.refl _ _).alloc (Nat.le_refl _) _)⟩
  have hn0:Nib (w.alloc (.cells #[F.ptr,.int .u64 0,.int .i64 0,.int .i64 0] 125)):=hn.below ((Below.refl _ _).alloc (Nat.le_refl _) _);have ht0:Zb (JT F w.heap.size) w (w.alloc (.cells #[F.ptr,.int .u64 0,.int .i64 0,.int .i64 0] 125)):=Zb.of_below ((Below.refl _ _).alloc (Nat.le_refl _) _)
  have HT:Hid (∀w',Zb (JT F w.heap.size) w w'→Zb F.has w w'):=Hd (fun w' ht=>ht.mono fun k hk hT=>by
   rcases hT with hT | hT
   ·exact hT
   ·omega)
  have Hf:Hid (Jn.format ⟨D,0,0,0⟩=((((⟨D,0,0,0⟩:Jn).fmtTo D.blocks).flush).fmtMarks 2).flush):=Hd rfl;obtain⟨J0,hJ0⟩:∃J0:Jn,J0=⟨D,0,0,0⟩:=⟨_,rfl⟩;have hJD:J0.D.n=D.n:=by rw[hJ0]
  have hJB:J0.D.blocks=D.blocks:=by rw[hJ0]
  rw[←hJ0] at hj0;rw[←hJ0] at Hf;have h32b:32≤D.n:=by omega
  clear h hn e1 h32;go_enter Tryz.func33,Tryz.ntmps33;rw[←hJ0];clear hJ0;go_wp2_with fail;refine HS.out.mono ?_;rintro e w1 ⟨rfl,rfl⟩;go_wp2_with fail;generalize w.alloc (.cells #[F.ptr,.int .u64 0,.int .i64 0,.int .i64 0] 125)=W0 at *;generalize w.heap.size=p at *;have HJD:=Hd hJD
  have HJB:=Hd hJB;have hb8:J0.D.blocks≤8191:=by unfold Dk.blocks;omega
  refine(Zbi W0 F p J0 hj0 (by omega)).mono ?_;rintro e w1 ⟨rfl,rfl⟩;have hn2:2≤J0.D.n:=by omega
  clear hJD hJB hd;go_wp2_with fail;have Hn2:=Hd hn2
  generalize hbl:J0.D.blocks=b at *;have Hbl:=Hd hbl
  clear hbl hn2;go_loopw [18] (fun i wr=>∃k:Nat,k≤b∧i=.int .i64 (k:Int)∧JAt wr F p (J0.fmtTo k)∧Nib wr∧Zb (JT F p) w wr) (fun i _=>b - (intOf i).toNat)
  case atStart=>exact⟨0,Nat.zero_le _,rfl,hj0,hn0,ht0⟩
  case round =>
   obtain⟨k,hk,rfl,hj,hnb,ht⟩:=hrel;clear hj0 hn0 ht0;by_cases hlt:k<b
   ·have hd:decide ((k:Int)<(b:Int))=true:=by simpa using hlt
    have hHn:2≤(J0.fmtTo k).D.n:=by rw[Jn.fmtTo_n];exact Hn2.out
    have Hst:Hid (J0.fmtTo (k+1)=((J0.fmtTo k).lay (2+k) (mkF 0 (2*16777216+0) [])).lay ((J0.fmtTo k).D.home k) (mkF 0 (3*16777216+k) [])):=by
     show J0.fmtTo (k+1)=_
     rw[Jn.fmtTo,Dk.home_n (Jn.fmtTo_n J0 k)]
    generalize J0.fmtTo k=Jk at *;go_wp2_with fail;refine(Zei wr 0 2 0 (.slice none 0 0) [] (by omega) (by omega) (by omega) (IsB.nil _) hnb).mono ?_;rintro e w3 ⟨rfl,hb3⟩;have hj3:=hj.below hb3
    have hn3:=hnb.below hb3;have ht3:=ht.trans (Zb.of_below (T:=JT F p) hb3);clear hj hnb ht hb3;go_wp2_with fail;have hl4:=lay_any w3 F p Jk hj3 (2+k) (by omega) (mkF 0 (2*16777216+0) []) (Xd _ _ _);rw[show ((2+k:Nat):Int)=2+(k:Int) by omega] at hl4
    refine hl4.mono ?_;rintro e w4 ⟨rfl,hj4,ht4⟩;have hn4:=hn3.turned hj3 ht4
    have ht4':=ht3.trans ht4;have hhm:Jk.D.home k=(Jk.lay (2+k) (mkF 0 (2*16777216+0) [])).D.home k:=Dk.home_n (Jn.lay_n _ _ _).symm k;have hHn4:2≤(Jk.lay (2+k) (mkF 0 (2*16777216+0) [])).D.n:=by rw[Jn.lay_n];exact hHn
    have Hhm:=Hd hhm;clear hl4 hj3 hn3 ht3 ht4 hhm;generalize Jk.lay (2+k) (mkF 0 (2*16777216+0) [])=J4 at *;go_wp2_with fail;refine(home_any w4 F p J4 hj4 hHn4 k (by omega)).mono ?_;rintro e w5 ⟨rfl,rfl⟩;go_wp2_with fail;refine(Zei w4 0 3 k (.slice none 0 0) [] (by omega) (by omega) (by omega) (IsB.nil _) hn4).mono ?_;rintro e w6 ⟨rfl,hb6⟩;have hj6:=hj4.below hb6;have hn6:=hn4.below hb6;have ht6:=ht4'.trans (Zb.of_below (T:=JT F p) hb6);have hnm6:=hj6.disk.ok.nm;have hhb:J4.D.home k≤33554432:=by unfold Dk.home Dk.blocks;omega
    clear hj4 hn4 ht4' hb6;go_wp2_with fail;refine(lay_any w6 F p J4 hj6 (J4.D.home k) hhb (mkF 0 (3*16777216+k) []) (Xd _ _ _)).mono ?_;rintro e w7 ⟨rfl,hj7,ht7⟩;have hn7:=hn6.turned hj6 ht7
    have ht7':=ht6.trans ht7;clear hj6 hn6 ht6 ht7 hnm6 hhb;go_wp2_with fail;go_roundw
    case rel=>exact⟨k+1,by omega,by go_num,by rw[Hst.out,Hhm.out];exact hj7,hn7,ht7'⟩
    case measure=>simp[intOf];omega
   ·obtain rfl:k=b:=by omega
    have hd:decide ((k:Int)<(k:Int))=false:=by simp
    have Hf2:Hid (J0.format=(((J0.fmtTo k).flush).fmtMarks 2).flush):=by have:=Hf.out;rw[←HJB.out] at this;exact this
    generalize J0.fmtTo k=Jk at *;go_wp2_with fail;refine(Zej wr F p Jk hj).mono ?_;rintro e w8 ⟨rfl,hj8,ht8⟩;have hn8:=hnb.turned hj ht8
    have ht8':=ht.trans ht8;clear hj hnb ht ht8;generalize Jk.flush=J8 at *;go_wp2_with fail;go_loopw [36] (fun i wr=>∃m:Nat,m≤2∧i=.int .i64 (m:Int)∧JAt wr F p (J8.fmtMarks m)∧Nib wr∧Zb (JT F p) w wr) (fun i _=>2 - (intOf i).toNat)
    case atStart=>exact⟨0,Nat.zero_le _,rfl,hj8,hn8,ht8'⟩
    case round =>
     obtain⟨m,hm,rfl,hj,hnb,ht⟩:=hrel;clear hj8 hn8 ht8';by_cases hlt2:m<2
     ·have hd2:decide ((m:Int)<2)=true:=by simp;omega
      have Hst:Hid (J8.fmtMarks (m+1)=(J8.fmtMarks m).lay m (Xk m 0 0)):=Hd rfl;generalize J8.fmtMarks m=Jm at *;have hmm:IntKind.u64.wrap (m:Int)=(m:Int):=by rw[Zct,Nat.mod_eq_of_lt (by omega)]
      go_wp2_with fail;refine(marked_any wr m 0 0 (by omega) (by omega) hnb).mono ?_;rintro e w9 ⟨rfl,hb9⟩;have hj9:=hj.below hb9
      have hn9:=hnb.below hb9;have ht9:=ht.trans (Zb.of_below (T:=JT F p) hb9);clear hj hnb ht hb9;go_wp2_with fail;refine(lay_any w9 F p Jm hj9 m (by omega) (Xk m 0 0) (Xd _ _ _)).mono ?_;rintro e w10 ⟨rfl,hj10,ht10⟩;have hn10:=hn9.turned hj9 ht10;have ht10':=ht9.trans ht10;clear hj9 hn9 ht9 ht10 hmm;go_wp2_with fail;go_roundw
      case rel=>exact⟨m+1,by omega,by go_num,by rw[Hst.out];exact hj10,hn10,ht10'⟩
      case measure=>simp[intOf];omega
     ·obtain rfl:m=2:=by omega
      generalize J8.fmtMarks 2=Jm at *;go_wp2_with fail;refine(Zej wr F p Jm hj).mono ?_;rintro e w11 ⟨rfl,hj11,ht11⟩;have ht11':=ht.trans ht11
      have HF:=Hd (And.intro hj11.disk (HT.out _ ht11'));obtain⟨c0,c1,c2,c3⟩:=hj11.cells;have Hf3:=Hd Hf2.out;clear hj hnb ht ht11 ht11' hj11;generalize Jm.flush=Jf at *;go_wp2_with fail;go_ret;rw[Hf3.out];exact⟨rfl,HF.out⟩
end
section
open Go.RowKit
def Xp (F:Ft) (D:Dk) (w:World) (e:Ending) (w':World):Prop :=
 (if D.openJ.1=0 then ∃p,e=.returned (.tuple #[jptr p,.int .i64 0])∧JAt w' F p D.openJ.2∧w.heap.size≤p else e=.returned (.tuple #[.pointer none,.int .i64 D.openJ.1])∧Xv w' F D.openJ.2.D)∧Zb F.has w w'
theorem Xp.bad {F:Ft} {D:Dk} {w w':World} {c:Int} (he:D.openJ=(c,⟨D,0,0,0⟩)) (hc:c≠0) (hd:Xv w F D) (hb:Below w.heap.size w w'):Xp F D w (.returned (.tuple #[.pointer none,.int .i64 c])) w':=by unfold Xp;rw[he,if_neg hc];exact⟨⟨rfl,hd.below hb⟩,Zb.of_below hb⟩
theorem Xp.ok {F:Ft} {D:Dk} {w w':World} {p:Nat} {J:Jn} (he:D.openJ=(0,J)) (hj:JAt w' F p J) (hp:w.heap.size≤p) (ht:Zb F.has w w'):Xp F D w (.returned (.tuple #[jptr p,.int .i64 0])) w':=by unfold Xp;rw[he,if_pos rfl];exact⟨⟨p,rfl,hj,hp⟩,ht⟩
theorem Xp.away {F:Ft} {D:Dk} {w w':World} {J:Jn} {o c:Int} (he:D.openJ=(c,J)) (ho:c=o) (hc:¬o=0) (hd:Xv w' F J.D) (ht:Zb F.has w w'):Xp F D w (.returned (.tuple #[.pointer none,.int .i64 o])) w':=by subst ho;unfold Xp;rw[he,if_neg hc];exact⟨⟨rfl,hd⟩,ht⟩
def Zaf (D:Dk) (k i:Nat):List UInt8:=if i<k∧D.markOk i=true then sec D.now i else Yz
def Xs (D:Dk) (k:Nat):Nat:=(if 0<k∧D.markOk 0=true then 1 else 0)+(if 1<k∧D.markOk 1=true then 1 else 0)
theorem Zev {D:Dk} (h:D.Ok) (h2:2≤D.n) (k i:Nat) (hi:i<2):(Zaf D k i).length=128:=by
 unfold Zaf;split
 ·exact Qh h.now (by omega)
 ·exact Yu
theorem mkAt_step {D:Dk} (h:D.Ok) (h2:2≤D.n) (k:Nat) (hk:k<2) (ho:D.markOk k=true) :
  Zai (Zaf D k 0++Zaf D k 1) (k*128) (sec D.now k)=Zaf D (k+1) 0++Zaf D (k+1) 1∧Xs D (k+1)=Xs D k+1:=by
 have hl:(sec D.now k).length=128:=Qh h.now (by omega);have l0:=Zev h h2 k 0 (by omega);have l1:=Zev h h2 k 1 (by omega);rcases(show k=0∨k=1 by omega) with rfl | rfl
 ·have e0:Zaf D 1 0=sec D.now 0:=by simp[Zaf,ho]
  have e1:Zaf D 1 1=Zaf D 0 1:=by simp[Zaf]
  constructor
  ·rw[e0,e1,Nat.zero_mul];have:=layB_mid (a:=[]) (m:=Zaf D 0 0) (r:=Zaf D 0 1) (v:=sec D.now 0) (o:=0) rfl (by omega);simpa using this
  ·simp[Xs,ho]
 ·have e0:Zaf D 2 0=Zaf D 1 0:=by simp[Zaf]
  have e1:Zaf D 2 1=sec D.now 1:=by simp[Zaf,ho]
  constructor
  ·rw[e0,e1,Nat.one_mul];have:=layB_mid (a:=Zaf D 1 0) (m:=Zaf D 1 1) (r:=[]) (v:=sec D.now 1) (o:=128) l0 (by omega);simpa using this
  ·simp[Xs,ho]
theorem mkAt_skip {D:Dk} (k:Nat) (hk:k<2) (ho:D.markOk k=false):Zaf D (k+1) 0++Zaf D (k+1) 1=Zaf D k 0++Zaf D k 1∧Xs D (k+1)=Xs D k:=by
 rcases(show k=0∨k=1 by omega) with rfl | rfl<;>simp[Zaf,Xs,ho]
theorem zero_marks (w:World):(zeroValue 132).run Tryz.prog w=.ok (.agg (bv (Yz++Yz)).toArray) w:=by kernel_rfl
section
variable {ops : Array Oper} {w : World} {Q : Exit → Act → World → Prop} {a : Act} {o : Oper} {rest : List Oper}
theorem Zeq (hg:o.guard=none) (ho:o.op=.alloc 132)
  (h:wpList Tryz.prog ops Q rest (a.put o.dst (.pointer (some ⟨w.heap.size,0,none⟩))) (w.alloc (.cells (bv (Yz++Yz)).toArray 132))):wpList Tryz.prog ops Q (o::rest) a w:=by
 refine wpList_val _ _ hg ?_ h;unfold execOp;simp only[ho,Instr.alloc,Sem.run_bind,zero_marks,Result.andThen_ok];rfl
end
section
variable {ops : Array Oper} {w : World} {Q : Exit → Act → World → Prop} {a : Act} {o : Oper} {rest : List Oper}
theorem Zfu (hg:o.guard=none) (x:Operand) (ho:o.op=.buildSlice 137 1 #[(0,x)]) (L:List UInt8) (hl:L.length=128) (hx:a.eval x=.agg (bv L).toArray)
  (h:wpList Tryz.prog ops Q rest (a.put o.dst (.slice (some ⟨w.heap.size,0,none⟩) 1 1)) (w.alloc (.cells (bv L).toArray 128))):wpList Tryz.prog ops Q (o::rest) a w:=by
 refine wpList_val _ _ hg ?_ h;unfold execOp;simp only[ho,List.map_toArray,List.map_cons,List.map_nil,hx,Sem.run_bind,run_build_one w L hl,Result.andThen_ok];rfl
end
theorem Zh.run_store_at {w:World} {g:Nat} {T:TypeId} {L:List UInt8} (h:Zh w g T L) (o:Nat) {l:List UInt8} (hl:o+l.length≤L.length):(storeCells ⟨g,o,none⟩ (bv l)).run Tryz.prog w=.ok () (w.setCells g o (bv l)):=by have hst:=run_storeCells_cells (P:=Tryz.prog) g o (bv l) 0 w (fun j hj=>(h.there o l.length hl j (by rw[Zl] at hj;omega)).1) (fun j hj=>(h.there o l.length hl j (by rw[Zl] at hj;omega)).2) (Yk l);simpa using hst
theorem Zh.range_at {w:World} {g:Nat} {T:TypeId} {L:List UInt8} (h:Zh w g T L) (o n:Nat) (hn:o+n≤L.length):w.rangeAt g o (bv ((L.drop o).take n)):=fun j v hj=>by
 have hl:j<((L.drop o).take n).length:=by have:=(List.getElem?_eq_some_iff.1 hj).1;simpa [bv] using this
 have hl2:=hl;simp only[List.length_take,List.length_drop] at hl2;rw[Zef _ j hl] at hj;rw[h.cell (o+j) (by omega)];rw[←hj];simp
theorem open_bad (w:World) (F:Ft) (D:Dk) (h:Xv w F D) (hn:Nib w) (hbad:D.n<32∨D.off=true) :
  Calls Tryz.prog 34 #[F.ptr] w (Xp F D w):=by
 have hnm:=h.ok.nm;have HS:=Hd (Zex w F D h);have HD:=Hd h;by_cases h32:D.n<32
 ·have he:D.openJ=(60,⟨D,0,0,0⟩):=by rw[Dk.openJ,if_pos h32]
  have HE:=Hd he;have hd:decide ((D.n:Int)<32)=true:=by simp;omega
  clear h he hbad;go_enter Tryz.func34,Tryz.ntmps34;go_wp2_with fail;refine HS.out.mono ?_;rintro e w1 ⟨rfl,rfl⟩;go_wp2_with fail;go_ret2;exact Xp.bad HE.out (by decide) HD.out (Below.refl _ _)
 ·have ho:D.off=true:=hbad.resolve_left h32
  have he:D.openJ=(43,⟨D,0,0,0⟩):=by rw[Dk.openJ,if_neg h32,if_pos ho]
  have HE:=Hd he;have hd:decide ((D.n:Int)<32)=false:=by simp;omega
  obtain⟨W0,hW0⟩:∃W0,W0=(w.alloc (.cells #[F.ptr,.int .u64 0,.int .i64 0,.int .i64 0] 125)).alloc (.cells (bv (Yz++Yz)).toArray 132):=⟨_,rfl⟩;have hb0:Below w.heap.size w W0:=by rw[hW0];exact((Below.refl _ _).alloc (Nat.le_refl _) _).alloc (by simp) _
  have hj0:JAt W0 F w.heap.size ⟨D,0,0,0⟩:=by refine⟨fun hk=>Nat.lt_irrefl _ (h.lt hk),?_,h.below hb0⟩;rw[hW0,Below.heap_alloc _ _ _ (by simp)];exact heap_alloc_new w _
  have ht:(⟨D,0,0,0⟩:Jn).D.take 0 1=(Yz,false,43):=by rw[Dk.take,if_pos ho]
  have HT:=take_any W0 F w.heap.size _ hj0 (hn.below hb0) 0 1 (by show 0<D.n;omega) (by omega)
  rw[ht] at HT;have HT:=Hd HT
  have hlz:(bv Yz).length=128:=by rw[Zl,Yu]
  clear h he hbad ho ht hj0 h32;go_enter Tryz.func34,Tryz.ntmps34;go_wp2_with fail;refine HS.out.mono ?_;rintro e w1 ⟨rfl,rfl⟩;go_upto_region 7 with (refine Zeq rfl rfl ?_);rw[←hW0];clear hW0;go_wp2_with fail;go_loopw [27] (fun i wr=>i=.int .i64 0∧wr=W0) (fun i _=>0)
  case atStart=>exact⟨rfl,rfl⟩
  case round =>
   obtain⟨rfl,rfl⟩:=hrel;go_wp2_with fail;refine HT.out.mono ?_;rintro e w2 ⟨rfl,hb2⟩;have hb3:=(hb0.trans (hb2.mono hb0.size)).alloc (Nat.le_trans hb0.size hb2.size) (.cells (bv Yz).toArray 128)
   clear hb2;go_wp2_with (first | (refine Zz rfl rfl ?_) | (refine Yn 128 (.tmp 8) (.tmp 34) rfl _ (bv Yz).toArray rfl rfl rfl (by rw[Zk,List.size_toArray,hlz]) (by rw[List.size_toArray,hlz]) (all_oneCell_toArray (Yk Yz)) ?_));go_ret2;exact Xp.bad HE.out (by decide) HD.out hb3
structure OpAt (w W:World) (F:Ft) (p B:Nat) (J:Jn):Prop where
 jat:JAt W F p J
 nib:Nib W
 below:Below w.heap.size w W
 pB:p<B
 wp:w.heap.size≤p
 base:B≤W.heap.size
 nw:0<w.heap.size
 fw:∀k,F.has k→k<w.heap.size
theorem OpAt.step {w W W':World} {F:Ft} {p B:Nat} {J:Jn} (h:OpAt w W F p B J) (hb:Below W.heap.size W W'):OpAt w W' F p B J :=
 ⟨h.jat.below hb,h.nib.below hb,h.below.trans (hb.mono h.below.size),h.pB,h.wp,Nat.le_trans h.base hb.size,h.nw,h.fw⟩
theorem OpAt.own {w W W':World} {F:Ft} {p B:Nat} {J:Jn} (h:OpAt w W F p B J) {T:Nat→Prop} (hg:∀g,T g→w.heap.size≤g∧g≠p) (ht:Zb T W W'):OpAt w W' F p B J:=by
 refine⟨h.jat.turned ht (fun k hk e=>?_),h.nib.of_turned ht (fun e=>?_),h.below.trans (ht.below h.below.size (fun k hk=>(hg k hk).1)),h.pB,h.wp,Nat.le_trans h.base ht.size,h.nw,h.fw⟩
 ·have h1:=hg k e
  rcases hk with hk | hk
  ·have:=h.fw k hk;omega
  ·exact h1.2 hk
 ·have h1:=hg _ e;have:=h.nw;omega
theorem OpAt.put_last {w W:World} {F:Ft} {p B:Nat} {J:Jn} (h:OpAt w W F p B J) (n:Nat):OpAt w (W.setCell ⟨p,1,none⟩ (.int .u64 (n:Int))) F p B { J with last:=n }:=by have ht:=Zd W p 1 (.int .u64 (n:Int));exact⟨h.jat.put_last n,h.nib.of_turned ht (fun e=>by have:=h.nw;have:=h.wp;omega),h.below.trans (ht.below h.below.size (fun k hk=>by have:=h.wp;omega)),h.pB,h.wp,Nat.le_trans h.base ht.size,h.nw,h.fw⟩
theorem OpAt.put_seq {w W:World} {F:Ft} {p B:Nat} {J:Jn} (h:OpAt w W F p B J) (n:Int):OpAt w (W.setCell ⟨p,2,none⟩ (.int .i64 n)) F p B { J with seq:=n }:=by have ht:=Zd W p 2 (.int .i64 n);exact⟨h.jat.put_seq n,h.nib.of_turned ht (fun e=>by have:=h.nw;have:=h.wp;omega),h.below.trans (ht.below h.below.size (fun k hk=>by have:=h.wp;omega)),h.pB,h.wp,Nat.le_trans h.base ht.size,h.nw,h.fw⟩
theorem OpAt.rebase {w W:World} {F:Ft} {p B B':Nat} {J:Jn} (h:OpAt w W F p B J) (h1:p<B') (h2:B'≤W.heap.size):OpAt w W F p B' J:=⟨h.jat,h.nib,h.below,h1,h.wp,h2,h.nw,h.fw⟩
theorem wrap_toI64 {n:Nat} (h:n<18446744073709551616):IntKind.i64.wrap (n:Int)=toI64 n:=by
 rw[IntKind.wrap_i64,toI64]
 split<;>omega
theorem blocks_n0 (D:Dk):(⟨D,0,0,0⟩:Jn).D.blocks=D.blocks:=rfl
theorem mod2_walk (n k:Nat) (hk:k<2):(((n:Int).tmod 2)==(k:Int))=decide (n % 2=k):=by rw[Int.tmod_eq_emod_of_nonneg (by omega),Bool.eq_iff_iff];simp;omega
theorem mod2_walk2 (n k:Nat) (hk:k<2):(((n:Int) % 2)==(k:Int))=decide (n % 2=k):=by rw[Bool.eq_iff_iff];simp;omega
theorem open_rest (w:World) (F:Ft) (D:Dk) (h:Xv w F D) (hn:Nib w) (h32:¬D.n<32) (ho:D.off=false) :
  Calls Tryz.prog 34 #[F.ptr] w (Xp F D w):=by
 have hnm:=h.ok.nm;have HS:=Hd (Zex w F D h);have HD:=Hd h;have hd:decide ((D.n:Int)<32)=false:=by simp;omega
 obtain⟨W0,hW0⟩:∃W0,W0=(w.alloc (.cells #[F.ptr,.int .u64 0,.int .i64 0,.int .i64 0] 125)).alloc (.cells (bv (Yz++Yz)).toArray 132):=⟨_,rfl⟩;have hb0:Below w.heap.size w W0:=by rw[hW0];exact((Below.refl _ _).alloc (Nat.le_refl _) _).alloc (by simp) _
 have hj0:JAt W0 F w.heap.size ⟨D,0,0,0⟩:=by refine⟨fun hk=>Nat.lt_irrefl _ (h.lt hk),?_,h.below hb0⟩;rw[hW0,Below.heap_alloc _ _ _ (by simp)];exact heap_alloc_new w _
 have hr0:Zh W0 (w.heap.size+1) 132 (Yz++Yz):=by
  rw[hW0];have:=Zh.alloc (w.alloc (.cells #[F.ptr,.int .u64 0,.int .i64 0,.int .i64 0] 125)) 132 (Yz++Yz)
  simpa using this
 have hop0:OpAt w W0 F w.heap.size (w.heap.size+2) ⟨D,0,0,0⟩ :=
  ⟨hj0,hn.below hb0,hb0,by omega,Nat.le_refl _,by rw[hW0];simp,World.block_lt_of_cell? w _ (hn 0 (by omega)),fun k hk=>h.lt hk⟩
 have hlz:(bv Yz).length=128:=by rw[Zl,Yu]
 have hDok:=h.ok;have Hoff:=Hd ho;have hb8:D.blocks≤8191:=by unfold Dk.blocks;omega
 have h32b:32≤D.n:=by omega
 clear h hj0 hb0 ho h32;go_enter Tryz.func34,Tryz.ntmps34;go_wp2_with fail;refine HS.out.mono ?_;rintro e w1 ⟨rfl,rfl⟩;go_upto_region 7 with (refine Zeq rfl rfl ?_);rw[←hW0];clear hW0;generalize hpp:w.heap.size=p at *;have Hpp:=Hd hpp
 clear hpp;go_wp2_with fail;go_loopw [6,27] (fun r i wr=>∃k:Nat,k≤2∧i=.int .i64 (k:Int)∧r=.int .i64 ((Xs D k:Nat):Int)∧OpAt w wr F p (p+2) ⟨D,0,0,0⟩∧Zh wr (p+1) 132 (Zaf D k 0++Zaf D k 1)) (fun _ i _=>2 - (intOf i).toNat)
 case atStart=>exact⟨0,by omega,rfl,rfl,hop0,by simpa [Zaf] using hr0⟩
 case round =>
  obtain⟨k,hk,rfl,rfl,hop,hrw⟩:=hrel;clear hop0 hr0;by_cases hlt:k<2
  ·have hl:(sec D.now k).length=128:=Qh hDok.now (by omega)
   have ht:=take_any wr F p _ hop.jat hop.nib k 1 (by show k<D.n;omega) (by omega)
   rw[show (⟨D,0,0,0⟩:Jn).D.take k 1=(sec D.now k,(Zao (sec D.now k)&&decide (Zas (sec D.now k)=1)),0) by rw[Dk.take,if_neg (by simp[Hoff.out])]] at ht
   have HT:=Hd ht;have Hmk:Hid (D.markOk k=((Zao (sec D.now k)&&decide (Zas (sec D.now k)=1))&&decide (Zm (sec D.now k) % 2=k)&&decide (Zp (sec D.now k)≤D.blocks))):=Hd rfl;have Hst:Hid (D.markOk k=true→Zai (Zaf D k 0++Zaf D k 1) (k*128) (sec D.now k)=Zaf D (k+1) 0++Zaf D (k+1) 1∧Xs D (k+1)=Xs D k+1):=Hd (mkAt_step hDok (by omega) k hlt);have Hsk:Hid (D.markOk k=false→Zaf D (k+1) 0++Zaf D (k+1) 1=Zaf D k 0++Zaf D k 1∧Xs D (k+1)=Xs D k):=Hd (mkAt_skip k hlt);have hml:(Zaf D k 0++Zaf D k 1).length=256:=by rw[List.length_append,Zev hDok (by omega) k 0 (by omega),Zev hDok (by omega) k 1 (by omega)]
   have hcnt:Xs D k≤2:=by unfold Xs;split<;>split<;>omega
   have hd2:decide ((k:Int)<2)=true:=by simp;omega
   clear ht;generalize sec D.now k=L at *;generalize Zaf D k 0++Zaf D k 1=M at *;generalize Xs D k=c at *;have hlb:(bv L).length=128:=by rw[Zl,hl]
   generalize hok:(Zao L&&decide (Zas L=1))=ok1 at *;clear hok;go_wp2_with fail;refine HT.out.mono ?_;rintro e w2 ⟨rfl,hb2⟩;have hop2:=hop.step hb2
   have hrw2:=hrw.below hb2;clear hop hrw hb2 HT;go_upto_region 14 with (first | (refine Zz rfl rfl ?_) | (refine Yn 128 (.tmp 8) (.tmp 34) rfl _ (bv L).toArray rfl rfl rfl (by rw[Zk,List.size_toArray,hlb]) (by rw[List.size_toArray,List.size_toArray,hlz,hlb]) (all_oneCell_toArray (Yk L)) ?_));have hb3:Below w2.heap.size w2 (w2.alloc (.cells (bv L).toArray 128)):=(Below.refl _ _).alloc (Nat.le_refl _) _;have hop3:=hop2.step hb3;have hrw3:=hrw2.below hb3;have hr3:=Zh.alloc w2 128 L;clear hop2 hrw2 hb3;generalize w2.alloc (.cells (bv L).toArray 128)=w3 at *;generalize w2.heap.size=g8 at *
   cases ok1 with
   | false =>
    obtain⟨e1,e2⟩:=Hsk.out (by rw[Hmk.out];rfl);have E1:=Hd e1
    have E2:=Hd e2;clear e1 e2;go_wp2_with fail;go_roundw
    case rel=>exact⟨k+1,by omega,by go_num,by rw[E2.out],hop3,by rw[E1.out];exact hrw3⟩
    case measure=>simp[intOf];omega
   | true =>
    have hrg:=hr3.range;have hkw:IntKind.u64.wrap (k:Int)=(k:Int):=by rw[Zct,Nat.mod_eq_of_lt (by omega)]
    go_wp2_with (refine Zdg (by rfl) 128 (.tmp 8) rfl g8 0 rfl (bv L) _ hrg Tryz.underlying128 rfl (by rw[Zk,hlb]) ?_);refine(Xi w3 L hl).mono ?_;rintro e w4 ⟨rfl,hb4⟩;have hop4:=hop3.step hb4
    have hrw4:=hrw3.below hb4;have hr4:=hr3.below hb4;have hrg4:=hr4.range;clear hop3 hrw3 hr3 hrg hb4;have hm2:=mod2_walk (Zm L) k hlt;have hm3:=mod2_walk2 (Zm L) k hlt;have hbl0:=blocks_n0 D;by_cases hw2:Zm L % 2=k
    case neg =>
     rw[decide_eq_false hw2] at hm2 hm3;obtain⟨e1,e2⟩:=Hsk.out (by rw[Hmk.out,decide_eq_false hw2];rfl);have E1:=Hd e1
     have E2:=Hd e2;clear e1 e2 hw2;go_wp2_with fail;go_roundw
     case rel=>exact⟨k+1,by omega,by go_num,by rw[E2.out],hop4,by rw[E1.out];exact hrw4⟩
     case measure=>simp[intOf];omega
    rw[decide_eq_true hw2] at hm2 hm3;have Hw2:=Hd hw2
    clear hw2;go_wp2_with (refine Zdg (by rfl) 128 (.tmp 8) rfl g8 0 rfl (bv L) _ hrg4 Tryz.underlying128 rfl (by rw[Zk,hlb]) ?_);refine(Qg w4 L hl).mono ?_;rintro e w5 ⟨rfl,hb5⟩;have hop5:=hop4.step hb5
    have hrw5:=hrw4.below hb5;have hr5:=hr4.below hb5;have hrg5:=hr5.range;clear hop4 hrw4 hr4 hrg4 hb5;have hpl:=Zfl L;go_wp2_with fail;refine(Zbi w5 F p _ hop5.jat (by show 2≤D.n;omega)).mono ?_
    rintro e w6 ⟨rfl,rfl⟩;by_cases hp2:Zp L≤D.blocks
    case neg =>
     have hd5:decide (((Zp L:Nat):Int)≤(D.blocks:Int))=false:=by simp;omega
     have hd6:decide (Zp L≤D.blocks)=false:=decide_eq_false hp2;obtain⟨e1,e2⟩:=Hsk.out (by rw[Hmk.out,decide_eq_false hp2,Bool.and_false]);have E1:=Hd e1;have E2:=Hd e2;clear e1 e2 hp2;go_wp2_with fail;go_roundw
     case rel=>exact⟨k+1,by omega,by go_num,by rw[E2.out],hop5,by rw[E1.out];exact hrw5⟩
     case measure=>simp[intOf];omega
    have hd5:decide (((Zp L:Nat):Int)≤(D.blocks:Int))=true:=by simp;omega
    have hd6:decide (Zp L≤D.blocks)=true:=decide_eq_true hp2;obtain⟨e1,e2⟩:=Hst.out (by rw[Hmk.out,decide_eq_true Hw2.out,decide_eq_true hp2];rfl);have E1:=Hd e1;have E2:=Hd e2;have hst:=hrw5.run_store_at (k*128) (l:=L) (by rw[hml,hl];omega);have hrw7:=hrw5.lay (k*128) L (by rw[hml,hl];omega);have hop7:=hop5.own (T:=(·=p+1)) (fun g hg=>by have:=Hpp.out;omega) (Zu w5 (p+1) (k*128) (bv L));rw[e1] at hrw7;clear e1 e2 hp2 hop5 hrw5 hr5;generalize w5.setCells (p+1) (k*128) (bv L)=w7 at *;rw[←Hpp.out] at hst;go_wp2_with (refine wpList_load_mid rfl 128 (.tmp 8) rfl g8 0 rfl (bv L) _ hrg5 Tryz.underlying128 rfl (by rw[Zk,hlb]) ?_);go_roundw
    case rel=>exact⟨k+1,by omega,by go_num,by rw[E2.out];first | rfl | go_num,hop7,hrw7⟩
    case measure=>simp[intOf];omega
  ·obtain rfl:k=2:=by omega
   clear hlt hk;by_cases hm0:D.markOk 0=true
   case neg =>
    by_cases hm1:D.markOk 1=true
    case neg =>
     have hc:((Xs D 2:Nat):Int)=0:=by simp[Xs,hm0,hm1]
     have he:D.openJ=(60,⟨D,0,0,0⟩):=by rw[Dk.openJ,if_neg (by omega),if_neg (by simp[Hoff.out]),if_pos ⟨by simpa using hm0,by simpa using hm1⟩]
     have HE:=Hd he;rw[hc];clear he hc hm0 hm1 hrw;go_wp2_with fail;go_ret2;exact Xp.bad HE.out (by decide) HD.out hop.below
    have hc:((Xs D 2:Nat):Int)=1:=by simp[Xs,hm0,hm1]
    have he:D.openJ=(62,⟨D,0,0,0⟩):=by rw[Dk.openJ,if_neg (by omega),if_neg (by simp[Hoff.out]),if_neg (by simp[hm1]),if_pos (.inl (by simpa using hm0))]
    have HE:=Hd he;rw[hc];clear he hc hm0 hm1 hrw;go_wp2_with fail;go_ret2;exact Xp.bad HE.out (by decide) HD.out hop.below
   by_cases hm1:D.markOk 1=true
   case neg =>
    have hc:((Xs D 2:Nat):Int)=1:=by simp[Xs,hm0,hm1]
    have he:D.openJ=(62,⟨D,0,0,0⟩):=by rw[Dk.openJ,if_neg (by omega),if_neg (by simp[Hoff.out]),if_neg (by simp[hm0]),if_pos (.inr (by simpa using hm1))]
    have HE:=Hd he;rw[hc];clear he hc hm0 hm1 hrw;go_wp2_with fail;go_ret2;exact Xp.bad HE.out (by decide) HD.out hop.below
   have hc:((Xs D 2:Nat):Int)=2:=by simp[Xs,hm0,hm1]
   have e0:Zaf D 2 0=sec D.now 0:=by simp[Zaf,hm0]
   have e1:Zaf D 2 1=sec D.now 1:=by simp[Zaf,hm1]
   rw[hc];rw[e0,e1] at hrw;have Hm0:=Hd hm0
   have Hm1:=Hd hm1;have hl0:(sec D.now 0).length=128:=Qh hDok.now (by omega);have hl1:(sec D.now 1).length=128:=Qh hDok.now (by omega);have Hmk:Hid (D.mark=if Zm (sec D.now 0)<Zm (sec D.now 1) then sec D.now 1 else sec D.now 0):=Hd rfl
   rw[Hpp.out];clear hc e0 e1 hm0 hm1;generalize sec D.now 0=L0 at *;generalize sec D.now 1=L1 at *;have hb0:(bv L0).length=128:=by rw[Zl,hl0]
   have hb1:(bv L1).length=128:=by rw[Zl,hl1]
   have hM:(L0++L1).length=256:=by rw[List.length_append,hl0,hl1]
   have HR0:Hid (∀W,Zh W (p+1) 132 (L0++L1)→W.rangeAt (p+1) 0 (bv L0)):=Hd (fun W h=>by
    have:=h.range_at 0 128 (by omega)
    rwa[List.drop_zero,List.take_left' hl0] at this)
   have HR1:Hid (∀W,Zh W (p+1) 132 (L0++L1)→W.rangeAt (p+1) 128 (bv L1)):=Hd (fun W h=>by
    have:=h.range_at 128 128 (by omega)
    rwa[List.drop_left' hl0,List.take_of_length_le (by omega)] at this)
   have hrg:=HR0.out _ hrw;go_upto_region 24 with (first | (refine Zz rfl rfl ?_) | (refine wpList_load_mid rfl 128 (.tmp 67) rfl (p+1) 0 rfl (bv L0) _ hrg Tryz.underlying128 rfl (by rw[Zk,hb0]) ?_) | (refine Yn 128 (.tmp 11) (.tmp 68) rfl _ (bv L0).toArray rfl rfl rfl (by rw[Zk,List.size_toArray,hb0]) (by rw[List.size_toArray,List.size_toArray,hb0,hlz]) (all_oneCell_toArray (Yk L0)) ?_));have hb3:Below wr.heap.size wr (wr.alloc (.cells (bv L0).toArray 128)):=(Below.refl _ _).alloc (Nat.le_refl _) _;have hj3:=(hop.step hb3).step (Below.refl _ _).drew;have hr3:=Zh.alloc wr 128 L0;have hS0:(fun W=>Zh W (p+1) 132 (L0++L1)∧Zh W wr.heap.size 128 L0) (wr.alloc (.cells (bv L0).toArray 128)).drew:=⟨hrw.below hb3.drew,hr3⟩;have hgp:p+2≤wr.heap.size:=hop.base;have hgb:wr.heap.size<(wr.alloc (.cells (bv L0).toArray 128)).drew.heap.size:=hr3.lt;clear hop hrw hrg hb3 hr3;generalize wr.alloc (.cells (bv L0).toArray 128)=w3 at *;generalize wr.heap.size=g at *;refine rgA (S:=(fun W=>Zh W (p+1) 132 (L0++L1)∧Zh W g 128 L0)) hS0 (fun hH=>?_);refine tkB 0 rfl (v:=?_) ?_ hH ?_;rotate_left
   ·intro w hSw;skip;go_simp;try with_reducible rfl
   try simp only[Act.put,zA,zB,zC]
   refine tkA 1 rfl (v:=.agg (bv L1).toArray) (yieldsIf_load_mid rfl 128 (.tmp 69) rfl (p+1) 128 rfl (bv L1) _ (fun W hW=>HR1.out W hW.1) Tryz.underlying128 rfl (by rw[Zk,hb1])) hH ?_;try simp only[Act.put,zA,zB,zC]
   refine tkA 3 rfl (v:=.agg (bv L0).toArray) (yieldsIf_load_mid rfl 128 (.tmp 11) rfl g 0 rfl (bv L0) _ (fun W hW=>Zh.range hW.2) Tryz.underlying128 rfl (by rw[Zk,hb0])) hH ?_;try simp only[Act.put,zA,zB,zC]
   refine rdA 2 rfl (fun K hK=>?_);go_simp;refine(Xi _ L1 hl1).mono ?_;rintro e W5 ⟨rfl,hb⟩;have hHn:=show (fun W=>Zh W (p+1) 132 (L0++L1)∧Zh W g 128 L0) _ from ⟨Zh.below hH.1 hb,Zh.below hH.2 hb⟩
   replace hj3:=hj3.step hb;replace hgb:=Nat.lt_of_lt_of_le hgb hb.size;clear hb hH;go_wp2_with fail;refine hK.out _ _ hHn (fun hH=>?_);clear hHn;clear hK K;try simp only[Act.put,zA,zB,zC]
   refine rdA 4 rfl (fun K hK=>?_);go_simp;refine(Xi _ L0 hl0).mono ?_;rintro e W6 ⟨rfl,hb⟩;have hHn:=show (fun W=>Zh W (p+1) 132 (L0++L1)∧Zh W g 128 L0) _ from ⟨Zh.below hH.1 hb,Zh.below hH.2 hb⟩
   replace hj3:=hj3.step hb;replace hgb:=Nat.lt_of_lt_of_le hgb hb.size;clear hb hH;go_wp2_with fail;refine hK.out _ _ hHn (fun hH=>?_);clear hHn;clear hK K;try simp only[Act.put,zA,zB,zC]
   refine tkB 5 rfl (v:=?_) ?_ hH ?_;rotate_left
   ·intro w hSw;skip;go_simp;try with_reducible rfl
   try simp only[Act.put,zA,zB,zC]
   refine dnA ?_;clear hS0;have hd7:=hlz
   have hH0:=hH.1;have hH1:=hH.2;clear hH;go_upto_if 74 with fail;go_cut [] (fun wx=>OpAt w wx F p (p+2) ⟨D,0,0,0⟩∧Zh wx g 128 D.mark)
   case first =>
    by_cases hgt:Zm L0<Zm L1
    ·have hd8:decide (Zm L0<Zm L1)=true:=decide_eq_true hgt
     have hmk:D.mark=L1:=by rw[Hmk.out,if_pos hgt]
     have HMK:=Hd hmk;have hrg:=HR1.out _ hH0;have hst:=hH1.run_store_at 0 (l:=L1) (by omega);have hH2:=hH1.lay 0 L1 (by omega);rw[layB_all (by omega)] at hH2;have hj4:=hj3.own (T:=(·=g)) (fun k hk=>by have:=Hpp.out;omega) (Zu W6 g 0 (bv L1));rw[hd8];clear hj3 hH0 hH1 hgt hmk hd8 hd7;generalize W6.setCells g 0 (bv L1)=w4 at *;go_wp2_with (refine wpList_load_mid rfl 128 (.tmp 75) rfl (p+1) 128 rfl (bv L1) _ hrg Tryz.underlying128 rfl (by rw[Zk,hb1]) ?_);go_meet;exact⟨hj4,by rw[HMK.out];exact hH2⟩
    ·have hd8:decide (Zm L0<Zm L1)=false:=decide_eq_false hgt
     have hmk:D.mark=L0:=by rw[Hmk.out,if_neg hgt]
     rw[hd8];clear hgt hd8 hd7;go_wp2_with fail;go_meet;exact⟨hj3,by rw[hmk];exact hH1⟩
   case rest =>
    obtain⟨hop,hrm⟩:=hcut
    have hlm:D.mark.length=128:=by rw[Hmk.out];split<;>assumption
    clear hj3 hH0 hH1 Hmk HR0 HR1 hM hb0 hb1 hl0 hl1 hd7 hgb;generalize hmm:D.mark=m at *;have HMm:=Hd hmm
    clear hmm;have hbm:(bv m).length=128:=by rw[Zl,hlm]
    have hrg:=hrm.range;go_wp2_with (refine wpList_load_mid rfl 128 (.tmp 11) rfl g 0 rfl (bv m) _ hrg Tryz.underlying128 rfl (by rw[Zk,hbm]) ?_);refine(Xi wc m hlm).mono ?_;rintro e w5 ⟨rfl,hb5⟩;have hop5:=hop.step hb5;have hrm5:=hrm.below hb5;have q1:=hop5.jat.cells.2.1;have f1:=Zf hop5.jat.head 1;have hop6:=hop5.put_last (Zm m);have hrm6:=hrm5.turned (Zd w5 p 1 (.int .u64 ((Zm m:Nat):Int))) (by omega);clear hop hrm hb5 hrg hop5 hrm5;go_upto_region 27 with fail;clear q1 f1;generalize w5.setCell ⟨p,1,none⟩ (.int .u64 ((Zm m:Nat):Int))=w6 at *;have hrg:=hrm6.range;go_wp2_with (refine wpList_load_mid rfl 128 (.tmp 11) rfl g 0 rfl (bv m) _ hrg Tryz.underlying128 rfl (by rw[Zk,hbm]) ?_);refine(fbytes_any w6 m hlm).mono ?_;rintro e w7 ⟨rfl,hw7⟩;have hb7:Below w6.heap.size w6 w7:=by rw[hw7];exact(Below.refl _ _).alloc (Nat.le_refl _) _
    have hi7:IsB w7 (.slice (some ⟨w6.heap.size,16,none⟩) 8 112) ((Xy m).take 8):=by have:=(Zh.alloc w6 128 m).isB 16 8 112 (by omega) (by omega) (by simp[maxLen]);rw[←hw7] at this;exact this
    have hop7:=hop6.step hb7;have hrm7:=hrm6.below hb7
    have hcv:IntKind.i64.wrap ((leR ((Xy m).take 8):Nat):Int)=mseq m:=wrap_toI64 (by
     have:=leR_lt ((Xy m).take 8);rw[show ((Xy m).take 8).length=8 by simp[Xy,hlm]] at this
     omega)
    have HT:=Hd (told_any w7 _ _ hi7 (by simp;omega));clear hop6 hrm6 hb7 hw7 hrg hi7;go_wp2_with fail;refine HT.out.mono ?_;rintro e w8 ⟨rfl,rfl⟩;have q2:=hop7.jat.cells.2.2.1;have f2:=Zf hop7.jat.head 2;have hop8:=hop7.put_seq (mseq m);have hrm8:=hrm7.turned (Zd w7 p 2 (.int .i64 (mseq m))) (by omega);clear hop7 hrm7 HT;generalize leR ((Xy m).take 8)=tn at *;generalize hsq:mseq m=sq at *;have Hsq:=Hd hsq;clear hsq;go_upto_region 28 with fail;clear q2 f2 hcv;generalize w7.setCell ⟨p,2,none⟩ (.int .i64 sq)=w9 at *;have hgl:g<w9.heap.size:=hrm8.lt;have hop9:=hop8.rebase (B':=g+1) (by omega) hgl;have hmF:=Zaw.nil (g+1) w9;have HB:=Zbi w9 F p _ hop9.jat (by show 2≤D.n;omega)
    dsimp only at HB;go_wp2_with fail;refine HB.mono ?_;rintro e w10 ⟨rfl,rfl⟩;clear HB hop8;go_wp2_with fail;go_loopw [12,92] (fun x i wr=>∃k:Nat,k≤D.blocks∧(∀j,j<k→D.noteOk j=true)∧i=.int .i64 (k:Int)∧OpAt w wr F p (g+1) ⟨D,D.lastTo m k,sq,0⟩∧Zh wr g 128 m∧Zaw (g+1) wr x (D.againTo m k)) (fun _ i _=>D.blocks - (intOf i).toNat)
    case atStart=>exact⟨0,Nat.zero_le _,fun j hj=>by omega,rfl,hop9,hrm8,hmF⟩
    case round =>
     obtain⟨k,hk,hall,rfl,hop,hrm,hmr⟩:=hrel;have Hall:=Hd hall
     clear hop9 hrm8 hmF hgl hall;by_cases hlt:k<D.blocks
     ·have hd9:decide ((k:Int)<(D.blocks:Int))=true:=by simpa using hlt
      have hkn:2+k<D.n:=by unfold Dk.blocks at hlt;omega
      have hl:(sec D.now (2+k)).length=128:=Qh hDok.now hkn;have ht:=take_any wr F p _ hop.jat hop.nib (2+k) 2 hkn (by omega);rw[show (⟨D,D.lastTo m k,sq,0⟩:Jn).D.take (2+k) 2=(sec D.now (2+k),(Zao (sec D.now (2+k))&&decide (Zas (sec D.now (2+k))=2)),0) by rw[Dk.take,if_neg (by simp[Hoff.out])],show ((2+k:Nat):Int)=2+(k:Int) by omega] at ht
      have HT:=Hd ht;have Hno:Hid (D.noteOk k=((Zao (sec D.now (2+k))&&decide (Zas (sec D.now (2+k))=2))&&decide (Zp (sec D.now (2+k))<D.blocks))):=Hd rfl;have Hla:Hid (D.lastTo m (k+1)=max (D.lastTo m k) (Zm (sec D.now (2+k)))):=Hd rfl;have Hag:Hid (D.againTo m (k+1)=if k<Zp m∧Zm (sec D.now (2+k))=Zm m then D.againTo m k++[sec D.now (2+k)] else D.againTo m k):=Hd rfl
      have Hbad:Hid (D.noteOk k=false→D.openJ=(62,⟨D,0,0,0⟩)):=Hd (fun h=>by rw[Dk.openJ,if_neg (by omega),if_neg (by simp[Hoff.out]),if_neg (by simp[Hm0.out]),if_neg (by simp[Hm0.out,Hm1.out]),if_pos ⟨k,hlt,h⟩])
      have Hal:Hid ((D.againTo m k).length≤8191):=Hd (by
       have:∀j,(D.againTo m j).length≤j:=fun j=>by
        induction j with
        | zero=>exact Nat.le_refl _
        | succ j ih =>
         rw[Dk.againTo];split
         ·rw[List.length_append,List.length_singleton];omega
         ·omega
       have:=this k
       omega)
      clear ht hkn;generalize sec D.now (2+k)=L at *;generalize D.lastTo m k=la at *;generalize D.againTo m k=ag at *;have hlb:(bv L).length=128:=by rw[Zl,hl]
      generalize hok:(Zao L&&decide (Zas L=2))=ok1 at *;clear hok;go_wp2_with fail;refine HT.out.mono ?_;rintro e w2 ⟨rfl,hb2⟩;have hop2:=hop.step hb2
      have hrm2:=hrm.below hb2;have hmr2:=hmr.below hb2;clear hop hrm hmr hb2 HT;go_upto_region 33 with (first | (refine Zz rfl rfl ?_) | (refine Yn 128 (.tmp 14) (.tmp 100) rfl _ (bv L).toArray rfl rfl rfl (by rw[Zk,List.size_toArray,hlb]) (by rw[List.size_toArray,List.size_toArray,hlz,hlb]) (all_oneCell_toArray (Yk L)) ?_));have hb3:Below w2.heap.size w2 (w2.alloc (.cells (bv L).toArray 128)):=(Below.refl _ _).alloc (Nat.le_refl _) _;have hop3:=hop2.step hb3;have hrm3:=hrm2.below hb3;have hmr3:=hmr2.below hb3;have hr3:=Zh.alloc w2 128 L;have hg8:g+1≤w2.heap.size:=hop2.base;clear hop2 hrm2 hmr2 hb3;generalize w2.alloc (.cells (bv L).toArray 128)=w3 at *;generalize w2.heap.size=g8 at *
      cases ok1 with
      | false =>
       have he:=Hbad.out (by rw[Hno.out];rfl);have HE:=Hd he;clear he;go_wp2_with fail;go_ret2;exact Xp.bad HE.out (by decide) HD.out hop3.below
      | true =>
       have hrg:=hr3.range;go_wp2_with (refine Zdg (by rfl) 128 (.tmp 14) rfl g8 0 rfl (bv L) _ hrg Tryz.underlying128 rfl (by rw[Zk,hlb]) ?_);refine(Qg w3 L hl).mono ?_;rintro e w4 ⟨rfl,hb4⟩;have hop4:=hop3.step hb4;have hrm4:=hrm3.below hb4;have hmr4:=hmr3.below hb4;have hr4:=hr3.below hb4;clear hop3 hrm3 hmr3 hr3 hrg hb4;have HB:=Zbi w4 F p _ hop4.jat (by show 2≤D.n;omega)
       dsimp only at HB;have hpl:=Zfl L
       go_wp2_with fail;refine HB.mono ?_;rintro e w5 ⟨rfl,rfl⟩;clear HB;by_cases hp2:Zp L<D.blocks
       case neg =>
        have he:=Hbad.out (by rw[Hno.out,decide_eq_false hp2];rfl);have HE:=Hd he;have hd5:decide ((D.blocks:Int)≤((Zp L:Nat):Int))=true:=by simp;omega
        have hd6:decide (D.blocks≤Zp L)=true:=decide_eq_true (by omega);clear he hp2;go_wp2_with fail;go_ret2;exact Xp.bad HE.out (by decide) HD.out hop4.below
       have hd5:decide ((D.blocks:Int)≤((Zp L:Nat):Int))=false:=by simp;omega
       have hd6:decide (D.blocks≤Zp L)=false:=decide_eq_false (by omega);have hnk:D.noteOk k=true:=by rw[Hno.out,decide_eq_true hp2];rfl
       have Hnk:=Hd hnk;clear hnk hp2;go_upto_region 37 with fail;have hj3:=hop4.step (Below.refl _ _).drew;have hm3:=hmr4.drew;have ho3:Zh w4.drew g 128 m:=hrm4.below (Below.refl _ w4).drew;have hS0:(fun W=>Zh W g8 128 L) w4.drew:=hr4.below (Below.refl _ w4).drew;clear hop4 hrm4 hmr4 hr4;refine rgA (S:=(fun W=>Zh W g8 128 L)) hS0 (fun hH=>?_);refine tkB 0 rfl (v:=?_) ?_ hH ?_;rotate_left
       ·intro w hSw;skip;go_simp;try with_reducible rfl
       try simp only[Act.put,zA,zB,zC]
       refine tkB 1 rfl (v:=?_) ?_ hH ?_;rotate_left
       ·intro w hSw;skip;go_simp;try with_reducible rfl
       try simp only[Act.put,zA,zB,zC]
       refine tkB 2 rfl (v:=?_) ?_ hH ?_;rotate_left
       ·intro w hSw;skip;go_simp;try with_reducible rfl
       try simp only[Act.put,zA,zB,zC]
       refine tkB 3 rfl (v:=?_) ?_ hH ?_;rotate_left
       ·intro w hSw;skip;go_simp;try with_reducible rfl
       try simp only[Act.put,zA,zB,zC]
       refine tkA 5 rfl (v:=.agg (bv L).toArray) (yieldsIf_load_mid rfl 128 (.tmp 14) rfl g8 0 rfl (bv L) _ (fun W hW=>Zh.range hW) Tryz.underlying128 rfl (by rw[Zk,hlb])) hH ?_;try simp only[Act.put,zA,zB,zC]
       refine wpAnyH_ready (rs:=[4,6]) (by kernel_rfl) (by simp) ?_;refine Zco rfl (fun K hK=>?_) ?_
       ·have q1:=hj3.jat.cells.2.1
        dsimp only at q1;go_simp;refine hK.out _ _ hH (fun _=>?_);clear q1;clear hK K;try simp only[Act.put,zA,zB,zC]
        refine rdA 6 rfl (fun K hK=>?_);go_simp;refine(Xi _ L hl).mono ?_;rintro e W5 ⟨rfl,hb⟩;have hHn:=Zh.below hH hb
        replace hj3:=hj3.step hb;replace hm3:=hm3.below hb;replace ho3:=ho3.below hb;clear hb hH;go_wp2_with fail;refine hK.out _ _ hHn (fun hH=>?_);clear hHn;clear hK K;try simp only[Act.put,zA,zB,zC]
        refine rdA 7 rfl (fun K hK=>?_);go_simp;refine hK.out _ _ hH (fun _=>?_);clear hK K;try simp only[Act.put,zA,zB,zC]
        refine tkB 8 rfl (v:=?_) ?_ hH ?_;rotate_left
        ·intro w hSw;skip;go_simp;try with_reducible rfl
        try simp only[Act.put,zA,zB,zC]
        refine tkB 9 rfl (v:=?_) ?_ hH ?_;rotate_left
        ·intro w hSw;skip;go_simp;try with_reducible rfl
        try simp only[Act.put,zA,zB,zC]
        refine rdA 10 rfl (fun K hK=>?_);have q1:=hj3.jat.cells.2.1
        have f1:=Zf hj3.jat.head 1;go_simp
        have hmx:(if la<Zm L then ((Zm L:Nat):Int) else (la:Int))=((max la (Zm L):Nat):Int):=by split<;>omega
        rw[hmx];have hHn:Zh (W5.setCell ⟨p,1,none⟩ (.int .u64 ((max la (Zm L):Nat):Int))) g8 128 L:=Zh.turned hH (Zd W5 p 1 _) (by omega)
        have hop6:=hj3.put_last (max la (Zm L));have hm6:=hm3.turned (Zd W5 p 1 (.int .u64 ((max la (Zm L):Nat):Int))) (fun k hk=>by omega);have ho6:=ho3.turned (Zd W5 p 1 (.int .u64 ((max la (Zm L):Nat):Int))) (by omega);clear hj3 hm3 ho3 q1 f1 hmx hH;generalize W5.setCell ⟨p,1,none⟩ (.int .u64 ((max la (Zm L):Nat):Int))=W6 at *;refine hK.out _ _ hHn (fun hH=>?_);clear hHn;clear hK K;try simp only[Act.put,zA,zB,zC]
        refine dnA ?_;have hr6:=hH
        clear hH;by_cases hkm:k<Zp m
        ·have hd10:decide ((k:Int)<((Zp m:Nat):Int))=true:=by simpa using hkm
         have hd11:decide (k<Zp m)=true:=decide_eq_true hkm;have Hkm:=Hd hkm;by_cases hww:Zm L=Zm m
         ·have hq1:(((Zm L:Nat):Int)==((Zm m:Nat):Int))=true:=by rw[beq_iff_eq];omega
          have hq2:(Zm L==Zm m)=true:=by simpa using hww
          have hq3:decide (Zm L=Zm m)=true:=decide_eq_true hww;have Hww:=Hd hww;clear hww hkm;go_upto_region 38 with fail;replace hop6:=hop6.step (Below.refl _ _).drew;replace hm6:=hm6.drew;have hS1:(fun W=>Zh W g8 128 L∧Zh W g 128 m) W6.drew:=⟨hr6.below (Below.refl _ W6).drew,ho6.below (Below.refl _ W6).drew⟩;clear hr6 ho6;refine rgA (S:=(fun W=>Zh W g8 128 L∧Zh W g 128 m)) hS1 (fun hH=>?_);refine tkB 0 rfl (v:=?_) ?_ hH ?_;rotate_left
          ·intro w hSw;skip;go_simp;try with_reducible rfl
          try simp only[Act.put,zA,zB,zC]
          refine tkA 1 rfl (v:=.agg (bv m).toArray) (yieldsIf_load_mid rfl 128 (.tmp 11) rfl g 0 rfl (bv m) _ (fun W hW=>Zh.range hW.2) Tryz.underlying128 rfl (by rw[Zk,hbm])) hH ?_;try simp only[Act.put,zA,zB,zC]
          refine rdA 2 rfl (fun K hK=>?_);go_simp;refine(Qg _ m hlm).mono ?_;rintro e W7 ⟨rfl,hb⟩;have hHn:=show (fun W=>Zh W g8 128 L∧Zh W g 128 m) _ from ⟨Zh.below hH.1 hb,Zh.below hH.2 hb⟩
          replace hop6:=hop6.step hb;replace hm6:=hm6.below hb;clear hb hH;go_wp2_with fail;refine hK.out _ _ hHn (fun hH=>?_);clear hHn;clear hK K;try simp only[Act.put,zA,zB,zC]
          refine tkB 3 rfl (v:=?_) ?_ hH ?_;rotate_left
          ·intro w hSw;skip;go_simp;try with_reducible rfl
          try simp only[Act.put,zA,zB,zC]
          refine tkB 4 rfl (v:=?_) ?_ hH ?_;rotate_left
          ·intro w hSw;skip;go_simp;try with_reducible rfl
          try simp only[Act.put,zA,zB,zC]
          refine tkA 5 rfl (v:=.agg (bv L).toArray) (yieldsIf_load_mid rfl 128 (.tmp 14) rfl g8 0 rfl (bv L) _ (fun W hW=>Zh.range hW.1) Tryz.underlying128 rfl (by rw[Zk,hlb])) hH ?_;try simp only[Act.put,zA,zB,zC]
          refine tkA 7 rfl (v:=.agg (bv m).toArray) (yieldsIf_load_mid rfl 128 (.tmp 11) rfl g 0 rfl (bv m) _ (fun W hW=>Zh.range hW.2) Tryz.underlying128 rfl (by rw[Zk,hbm])) hH ?_;try simp only[Act.put,zA,zB,zC]
          refine rdA 6 rfl (fun K hK=>?_);go_simp;refine(Xi _ L hl).mono ?_;rintro e W8 ⟨rfl,hb⟩;have hHn:=show (fun W=>Zh W g8 128 L∧Zh W g 128 m) _ from ⟨Zh.below hH.1 hb,Zh.below hH.2 hb⟩
          replace hop6:=hop6.step hb;replace hm6:=hm6.below hb;clear hb hH;go_wp2_with fail;refine hK.out _ _ hHn (fun hH=>?_);clear hHn;clear hK K;try simp only[Act.put,zA,zB,zC]
          refine rdA 8 rfl (fun K hK=>?_);go_simp;refine(Xi _ m hlm).mono ?_;rintro e W9 ⟨rfl,hb⟩;have hHn:=show (fun W=>Zh W g8 128 L∧Zh W g 128 m) _ from ⟨Zh.below hH.1 hb,Zh.below hH.2 hb⟩
          replace hop6:=hop6.step hb;replace hm6:=hm6.below hb;clear hb hH;go_wp2_with fail;refine hK.out _ _ hHn (fun hH=>?_);clear hHn;clear hK K;try simp only[Act.put,zA,zB,zC]
          refine tkB 9 rfl (v:=?_) ?_ hH ?_;rotate_left
          ·intro w hSw;skip;go_simp;try with_reducible rfl
          try simp only[Act.put,zA,zB,zC]
          refine tkB 10 rfl (v:=?_) ?_ hH ?_;rotate_left
          ·intro w hSw;skip;go_simp;try with_reducible rfl
          try simp only[Act.put,zA,zB,zC]
          refine dnA ?_;have hr6:=hH.1
          have ho6:=hH.2;clear hH;have hrg:=hr6.range;have hb9:Below W9.heap.size W9 (W9.alloc (.cells (bv L).toArray 128)):=(Below.refl _ _).alloc (Nat.le_refl _) _;have hop9:=hop6.step hb9;have hm9:=hm6.below hb9;have ho9:=ho6.below hb9;have hr9:=Zh.alloc W9 128 L;obtain⟨v11,W11,hr11,hm11,ht11⟩:=hm9.snoc hop9.base (by have:=Hal.out;omega) L hl W9.heap.size hr9;have hop11:=hop9.own (T:=fun j=>g+1≤j) (fun j hj=>by have:=Hpp.out;omega) ht11;have ho11:=ho9.turned ht11 (by omega);clear hop6 hm6 ho6 hb9 hop9 hm9 ho9 hr9 ht11;go_wp2_with (first | (refine wpList_load_mid rfl 128 (.tmp 14) rfl g8 0 rfl (bv L) _ hrg Tryz.underlying128 rfl (by rw[Zk,hlb]) ?_) | (refine Zfu rfl (.tmp 139) rfl L hl rfl ?_) | (refine wpList_append_run rfl (.tmp 138) (.tmp 140) 137 137 rfl _ _ _ rfl rfl hr11 ?_));have hop6:=hop11;have ho6:=ho11;have hm6:=hm11;go_roundw
          case rel=>exact⟨k+1,by omega,fun j hj=>by
                   by_cases e:j=k
                   ·rw[e];exact Hnk.out
                   ·exact Hall.out j (by omega),by go_num,by rw[Hla.out];exact hop6,ho6,by rw[Hag.out,if_pos ⟨Hkm.out,Hww.out⟩];exact hm6⟩
          case measure=>simp[intOf];omega
         ·have hq1:(((Zm L:Nat):Int)==((Zm m:Nat):Int))=false:=by rw[beq_eq_false_iff_ne];omega
          have hq2:(Zm L==Zm m)=false:=by simpa using hww
          have hq3:decide (Zm L=Zm m)=false:=decide_eq_false hww;have Hww:=Hd hww;clear hww hkm;go_upto_region 38 with fail;replace hop6:=hop6.step (Below.refl _ _).drew;replace hm6:=hm6.drew;have hS1:(fun W=>Zh W g8 128 L∧Zh W g 128 m) W6.drew:=⟨hr6.below (Below.refl _ W6).drew,ho6.below (Below.refl _ W6).drew⟩;clear hr6 ho6;refine rgA (S:=(fun W=>Zh W g8 128 L∧Zh W g 128 m)) hS1 (fun hH=>?_);refine tkB 0 rfl (v:=?_) ?_ hH ?_;rotate_left
          ·intro w hSw;skip;go_simp;try with_reducible rfl
          try simp only[Act.put,zA,zB,zC]
          refine tkA 1 rfl (v:=.agg (bv m).toArray) (yieldsIf_load_mid rfl 128 (.tmp 11) rfl g 0 rfl (bv m) _ (fun W hW=>Zh.range hW.2) Tryz.underlying128 rfl (by rw[Zk,hbm])) hH ?_;try simp only[Act.put,zA,zB,zC]
          refine rdA 2 rfl (fun K hK=>?_);go_simp;refine(Qg _ m hlm).mono ?_;rintro e W7 ⟨rfl,hb⟩;have hHn:=show (fun W=>Zh W g8 128 L∧Zh W g 128 m) _ from ⟨Zh.below hH.1 hb,Zh.below hH.2 hb⟩
          replace hop6:=hop6.step hb;replace hm6:=hm6.below hb;clear hb hH;go_wp2_with fail;refine hK.out _ _ hHn (fun hH=>?_);clear hHn;clear hK K;try simp only[Act.put,zA,zB,zC]
          refine tkB 3 rfl (v:=?_) ?_ hH ?_;rotate_left
          ·intro w hSw;skip;go_simp;try with_reducible rfl
          try simp only[Act.put,zA,zB,zC]
          refine tkB 4 rfl (v:=?_) ?_ hH ?_;rotate_left
          ·intro w hSw;skip;go_simp;try with_reducible rfl
          try simp only[Act.put,zA,zB,zC]
          refine tkA 5 rfl (v:=.agg (bv L).toArray) (yieldsIf_load_mid rfl 128 (.tmp 14) rfl g8 0 rfl (bv L) _ (fun W hW=>Zh.range hW.1) Tryz.underlying128 rfl (by rw[Zk,hlb])) hH ?_;try simp only[Act.put,zA,zB,zC]
          refine tkA 7 rfl (v:=.agg (bv m).toArray) (yieldsIf_load_mid rfl 128 (.tmp 11) rfl g 0 rfl (bv m) _ (fun W hW=>Zh.range hW.2) Tryz.underlying128 rfl (by rw[Zk,hbm])) hH ?_;try simp only[Act.put,zA,zB,zC]
          refine rdA 6 rfl (fun K hK=>?_);go_simp;refine(Xi _ L hl).mono ?_;rintro e W8 ⟨rfl,hb⟩;have hHn:=show (fun W=>Zh W g8 128 L∧Zh W g 128 m) _ from ⟨Zh.below hH.1 hb,Zh.below hH.2 hb⟩
          replace hop6:=hop6.step hb;replace hm6:=hm6.below hb;clear hb hH;go_wp2_with fail;refine hK.out _ _ hHn (fun hH=>?_);clear hHn;clear hK K;try simp only[Act.put,zA,zB,zC]
          refine rdA 8 rfl (fun K hK=>?_);go_simp;refine(Xi _ m hlm).mono ?_;rintro e W9 ⟨rfl,hb⟩;have hHn:=show (fun W=>Zh W g8 128 L∧Zh W g 128 m) _ from ⟨Zh.below hH.1 hb,Zh.below hH.2 hb⟩
          replace hop6:=hop6.step hb;replace hm6:=hm6.below hb;clear hb hH;go_wp2_with fail;refine hK.out _ _ hHn (fun hH=>?_);clear hHn;clear hK K;try simp only[Act.put,zA,zB,zC]
          refine tkB 9 rfl (v:=?_) ?_ hH ?_;rotate_left
          ·intro w hSw;skip;go_simp;try with_reducible rfl
          try simp only[Act.put,zA,zB,zC]
          refine tkB 10 rfl (v:=?_) ?_ hH ?_;rotate_left
          ·intro w hSw;skip;go_simp;try with_reducible rfl
          try simp only[Act.put,zA,zB,zC]
          refine dnA ?_;have ho6:=hH.2
          clear hH;go_wp2_with fail;go_roundw
          case rel=>exact⟨k+1,by omega,fun j hj=>by
                   by_cases e:j=k
                   ·rw[e];exact Hnk.out
                   ·exact Hall.out j (by omega),by go_num,by rw[Hla.out];exact hop6,ho6,by rw[Hag.out,if_neg (fun h=>Hww.out h.2)];exact hm6⟩
          case measure=>simp[intOf];omega
        ·have hd10:decide ((k:Int)<((Zp m:Nat):Int))=false:=by simpa using hkm
         have hd11:decide (k<Zp m)=false:=decide_eq_false hkm;have Hkm:=Hd hkm;clear hkm;go_upto_region 38 with fail;replace hop6:=hop6.step (Below.refl _ _).drew;replace hm6:=hm6.drew;have hS1:(fun W=>Zh W g8 128 L∧Zh W g 128 m) W6.drew:=⟨hr6.below (Below.refl _ W6).drew,ho6.below (Below.refl _ W6).drew⟩;clear hr6 ho6;refine rgA (S:=(fun W=>Zh W g8 128 L∧Zh W g 128 m)) hS1 (fun hH=>?_);refine tkB 0 rfl (v:=?_) ?_ hH ?_;rotate_left
         ·intro w hSw;skip;go_simp;try with_reducible rfl
         try simp only[Act.put,zA,zB,zC]
         refine tkA 1 rfl (v:=.agg (bv m).toArray) (yieldsIf_load_mid rfl 128 (.tmp 11) rfl g 0 rfl (bv m) _ (fun W hW=>Zh.range hW.2) Tryz.underlying128 rfl (by rw[Zk,hbm])) hH ?_;try simp only[Act.put,zA,zB,zC]
         refine rdA 2 rfl (fun K hK=>?_);go_simp;refine(Qg _ m hlm).mono ?_;rintro e W7 ⟨rfl,hb⟩;have hHn:=show (fun W=>Zh W g8 128 L∧Zh W g 128 m) _ from ⟨Zh.below hH.1 hb,Zh.below hH.2 hb⟩
         replace hop6:=hop6.step hb;replace hm6:=hm6.below hb;clear hb hH;go_wp2_with fail;refine hK.out _ _ hHn (fun hH=>?_);clear hHn;clear hK K;try simp only[Act.put,zA,zB,zC]
         refine tkB 3 rfl (v:=?_) ?_ hH ?_;rotate_left
         ·intro w hSw;skip;go_simp;try with_reducible rfl
         try simp only[Act.put,zA,zB,zC]
         refine tkB 4 rfl (v:=?_) ?_ hH ?_;rotate_left
         ·intro w hSw;skip;go_simp;try with_reducible rfl
         try simp only[Act.put,zA,zB,zC]
         refine tkA 5 rfl (v:=undef) (Or.inr ⟨by rfl,rfl⟩) hH ?_;try simp only[Act.put,zA,zB,zC]
         refine tkA 7 rfl (v:=undef) (Or.inr ⟨by rfl,rfl⟩) hH ?_;try simp only[Act.put,zA,zB,zC]
         refine rdA 6 rfl (fun K hK=>?_);go_simp;refine hK.out _ _ hH (fun _=>?_);clear hK K;try simp only[Act.put,zA,zB,zC]
         refine rdA 8 rfl (fun K hK=>?_);go_simp;refine hK.out _ _ hH (fun _=>?_);clear hK K;try simp only[Act.put,zA,zB,zC]
         refine tkA 9 rfl (v:=undef) (Or.inr ⟨by rfl,rfl⟩) hH ?_;try simp only[Act.put,zA,zB,zC]
         refine tkB 10 rfl (v:=?_) ?_ hH ?_;rotate_left
         ·intro w hSw;skip;go_simp;try with_reducible rfl
         try simp only[Act.put,zA,zB,zC]
         refine dnA ?_;have ho6:=hH.2
         clear hH;go_wp2_with fail;go_roundw
         case rel=>exact⟨k+1,by omega,fun j hj=>by
                  by_cases e:j=k
                  ·rw[e];exact Hnk.out
                  ·exact Hall.out j (by omega),by go_num,by rw[Hla.out];exact hop6,ho6,by rw[Hag.out,if_neg (fun h=>Hkm.out h.1)];exact hm6⟩
         case measure=>simp[intOf];omega
       refine Zco rfl (fun K hK=>?_) ?_
       ·go_simp
        refine(Xi _ L hl).mono ?_;rintro e W5 ⟨rfl,hb⟩;have hHn:=Zh.below hH hb
        replace hj3:=hj3.step hb;replace hm3:=hm3.below hb;replace ho3:=ho3.below hb;clear hb hH;go_wp2_with fail;refine hK.out _ _ hHn (fun hH=>?_);clear hHn;clear hK K;try simp only[Act.put,zA,zB,zC]
        refine rdA 4 rfl (fun K hK=>?_);have q1:=hj3.jat.cells.2.1
        dsimp only at q1;go_simp;refine hK.out _ _ hH (fun _=>?_);clear q1;clear hK K;try simp only[Act.put,zA,zB,zC]
        refine rdA 7 rfl (fun K hK=>?_);go_simp;refine hK.out _ _ hH (fun _=>?_);clear hK K;try simp only[Act.put,zA,zB,zC]
        refine tkB 8 rfl (v:=?_) ?_ hH ?_;rotate_left
        ·intro w hSw;skip;go_simp;try with_reducible rfl
        try simp only[Act.put,zA,zB,zC]
        refine tkB 9 rfl (v:=?_) ?_ hH ?_;rotate_left
        ·intro w hSw;skip;go_simp;try with_reducible rfl
        try simp only[Act.put,zA,zB,zC]
        refine rdA 10 rfl (fun K hK=>?_);have q1:=hj3.jat.cells.2.1
        have f1:=Zf hj3.jat.head 1;go_simp
        have hmx:(if la<Zm L then ((Zm L:Nat):Int) else (la:Int))=((max la (Zm L):Nat):Int):=by split<;>omega
        rw[hmx];have hHn:Zh (W5.setCell ⟨p,1,none⟩ (.int .u64 ((max la (Zm L):Nat):Int))) g8 128 L:=Zh.turned hH (Zd W5 p 1 _) (by omega)
        have hop6:=hj3.put_last (max la (Zm L));have hm6:=hm3.turned (Zd W5 p 1 (.int .u64 ((max la (Zm L):Nat):Int))) (fun k hk=>by omega);have ho6:=ho3.turned (Zd W5 p 1 (.int .u64 ((max la (Zm L):Nat):Int))) (by omega);clear hj3 hm3 ho3 q1 f1 hmx hH;generalize W5.setCell ⟨p,1,none⟩ (.int .u64 ((max la (Zm L):Nat):Int))=W6 at *;refine hK.out _ _ hHn (fun hH=>?_);clear hHn;clear hK K;try simp only[Act.put,zA,zB,zC]
        refine dnA ?_;have hr6:=hH
        clear hH;by_cases hkm:k<Zp m
        ·have hd10:decide ((k:Int)<((Zp m:Nat):Int))=true:=by simpa using hkm
         have hd11:decide (k<Zp m)=true:=decide_eq_true hkm;have Hkm:=Hd hkm;by_cases hww:Zm L=Zm m
         ·have hq1:(((Zm L:Nat):Int)==((Zm m:Nat):Int))=true:=by rw[beq_iff_eq];omega
          have hq2:(Zm L==Zm m)=true:=by simpa using hww
          have hq3:decide (Zm L=Zm m)=true:=decide_eq_true hww;have Hww:=Hd hww;clear hww hkm;go_upto_region 38 with fail;replace hop6:=hop6.step (Below.refl _ _).drew;replace hm6:=hm6.drew;have hS1:(fun W=>Zh W g8 128 L∧Zh W g 128 m) W6.drew:=⟨hr6.below (Below.refl _ W6).drew,ho6.below (Below.refl _ W6).drew⟩;clear hr6 ho6;refine rgA (S:=(fun W=>Zh W g8 128 L∧Zh W g 128 m)) hS1 (fun hH=>?_);refine tkB 0 rfl (v:=?_) ?_ hH ?_;rotate_left
          ·intro w hSw;skip;go_simp;try with_reducible rfl
          try simp only[Act.put,zA,zB,zC]
          refine tkA 1 rfl (v:=.agg (bv m).toArray) (yieldsIf_load_mid rfl 128 (.tmp 11) rfl g 0 rfl (bv m) _ (fun W hW=>Zh.range hW.2) Tryz.underlying128 rfl (by rw[Zk,hbm])) hH ?_;try simp only[Act.put,zA,zB,zC]
          refine rdA 2 rfl (fun K hK=>?_);go_simp;refine(Qg _ m hlm).mono ?_;rintro e W7 ⟨rfl,hb⟩;have hHn:=show (fun W=>Zh W g8 128 L∧Zh W g 128 m) _ from ⟨Zh.below hH.1 hb,Zh.below hH.2 hb⟩
          replace hop6:=hop6.step hb;replace hm6:=hm6.below hb;clear hb hH;go_wp2_with fail;refine hK.out _ _ hHn (fun hH=>?_);clear hHn;clear hK K;try simp only[Act.put,zA,zB,zC]
          refine tkB 3 rfl (v:=?_) ?_ hH ?_;rotate_left
          ·intro w hSw;skip;go_simp;try with_reducible rfl
          try simp only[Act.put,zA,zB,zC]
          refine tkB 4 rfl (v:=?_) ?_ hH ?_;rotate_left
          ·intro w hSw;skip;go_simp;try with_reducible rfl
          try simp only[Act.put,zA,zB,zC]
          refine tkA 5 rfl (v:=.agg (bv L).toArray) (yieldsIf_load_mid rfl 128 (.tmp 14) rfl g8 0 rfl (bv L) _ (fun W hW=>Zh.range hW.1) Tryz.underlying128 rfl (by rw[Zk,hlb])) hH ?_;try simp only[Act.put,zA,zB,zC]
          refine tkA 7 rfl (v:=.agg (bv m).toArray) (yieldsIf_load_mid rfl 128 (.tmp 11) rfl g 0 rfl (bv m) _ (fun W hW=>Zh.range hW.2) Tryz.underlying128 rfl (by rw[Zk,hbm])) hH ?_;try simp only[Act.put,zA,zB,zC]
          refine rdA 6 rfl (fun K hK=>?_);go_simp;refine(Xi _ L hl).mono ?_;rintro e W8 ⟨rfl,hb⟩;have hHn:=show (fun W=>Zh W g8 128 L∧Zh W g 128 m) _ from ⟨Zh.below hH.1 hb,Zh.below hH.2 hb⟩
          replace hop6:=hop6.step hb;replace hm6:=hm6.below hb;clear hb hH;go_wp2_with fail;refine hK.out _ _ hHn (fun hH=>?_);clear hHn;clear hK K;try simp only[Act.put,zA,zB,zC]
          refine rdA 8 rfl (fun K hK=>?_);go_simp;refine(Xi _ m hlm).mono ?_;rintro e W9 ⟨rfl,hb⟩;have hHn:=show (fun W=>Zh W g8 128 L∧Zh W g 128 m) _ from ⟨Zh.below hH.1 hb,Zh.below hH.2 hb⟩
          replace hop6:=hop6.step hb;replace hm6:=hm6.below hb;clear hb hH;go_wp2_with fail;refine hK.out _ _ hHn (fun hH=>?_);clear hHn;clear hK K;try simp only[Act.put,zA,zB,zC]
          refine tkB 9 rfl (v:=?_) ?_ hH ?_;rotate_left
          ·intro w hSw;skip;go_simp;try with_reducible rfl
          try simp only[Act.put,zA,zB,zC]
          refine tkB 10 rfl (v:=?_) ?_ hH ?_;rotate_left
          ·intro w hSw;skip;go_simp;try with_reducible rfl
          try simp only[Act.put,zA,zB,zC]
          refine dnA ?_;have hr6:=hH.1
          have ho6:=hH.2;clear hH;have hrg:=hr6.range;have hb9:Below W9.heap.size W9 (W9.alloc (.cells (bv L).toArray 128)):=(Below.refl _ _).alloc (Nat.le_refl _) _;have hop9:=hop6.step hb9;have hm9:=hm6.below hb9;have ho9:=ho6.below hb9;have hr9:=Zh.alloc W9 128 L;obtain⟨v11,W11,hr11,hm11,ht11⟩:=hm9.snoc hop9.base (by have:=Hal.out;omega) L hl W9.heap.size hr9;have hop11:=hop9.own (T:=fun j=>g+1≤j) (fun j hj=>by have:=Hpp.out;omega) ht11;have ho11:=ho9.turned ht11 (by omega);clear hop6 hm6 ho6 hb9 hop9 hm9 ho9 hr9 ht11;go_wp2_with (first | (refine wpList_load_mid rfl 128 (.tmp 14) rfl g8 0 rfl (bv L) _ hrg Tryz.underlying128 rfl (by rw[Zk,hlb]) ?_) | (refine Zfu rfl (.tmp 139) rfl L hl rfl ?_) | (refine wpList_append_run rfl (.tmp 138) (.tmp 140) 137 137 rfl _ _ _ rfl rfl hr11 ?_));have hop6:=hop11;have ho6:=ho11;have hm6:=hm11;go_roundw
          case rel=>exact⟨k+1,by omega,fun j hj=>by
                   by_cases e:j=k
                   ·rw[e];exact Hnk.out
                   ·exact Hall.out j (by omega),by go_num,by rw[Hla.out];exact hop6,ho6,by rw[Hag.out,if_pos ⟨Hkm.out,Hww.out⟩];exact hm6⟩
          case measure=>simp[intOf];omega
         ·have hq1:(((Zm L:Nat):Int)==((Zm m:Nat):Int))=false:=by rw[beq_eq_false_iff_ne];omega
          have hq2:(Zm L==Zm m)=false:=by simpa using hww
          have hq3:decide (Zm L=Zm m)=false:=decide_eq_false hww;have Hww:=Hd hww;clear hww hkm;go_upto_region 38 with fail;replace hop6:=hop6.step (Below.refl _ _).drew;replace hm6:=hm6.drew;have hS1:(fun W=>Zh W g8 128 L∧Zh W g 128 m) W6.drew:=⟨hr6.below (Below.refl _ W6).drew,ho6.below (Below.refl _ W6).drew⟩;clear hr6 ho6;refine rgA (S:=(fun W=>Zh W g8 128 L∧Zh W g 128 m)) hS1 (fun hH=>?_);refine tkB 0 rfl (v:=?_) ?_ hH ?_;rotate_left
          ·intro w hSw;skip;go_simp;try with_reducible rfl
          try simp only[Act.put,zA,zB,zC]
          refine tkA 1 rfl (v:=.agg (bv m).toArray) (yieldsIf_load_mid rfl 128 (.tmp 11) rfl g 0 rfl (bv m) _ (fun W hW=>Zh.range hW.2) Tryz.underlying128 rfl (by rw[Zk,hbm])) hH ?_;try simp only[Act.put,zA,zB,zC]
          refine rdA 2 rfl (fun K hK=>?_);go_simp;refine(Qg _ m hlm).mono ?_;rintro e W7 ⟨rfl,hb⟩;have hHn:=show (fun W=>Zh W g8 128 L∧Zh W g 128 m) _ from ⟨Zh.below hH.1 hb,Zh.below hH.2 hb⟩
          replace hop6:=hop6.step hb;replace hm6:=hm6.below hb;clear hb hH;go_wp2_with fail;refine hK.out _ _ hHn (fun hH=>?_);clear hHn;clear hK K;try simp only[Act.put,zA,zB,zC]
          refine tkB 3 rfl (v:=?_) ?_ hH ?_;rotate_left
          ·intro w hSw;skip;go_simp;try with_reducible rfl
          try simp only[Act.put,zA,zB,zC]
          refine tkB 4 rfl (v:=?_) ?_ hH ?_;rotate_left
          ·intro w hSw;skip;go_simp;try with_reducible rfl
          try simp only[Act.put,zA,zB,zC]
          refine tkA 5 rfl (v:=.agg (bv L).toArray) (yieldsIf_load_mid rfl 128 (.tmp 14) rfl g8 0 rfl (bv L) _ (fun W hW=>Zh.range hW.1) Tryz.underlying128 rfl (by rw[Zk,hlb])) hH ?_;try simp only[Act.put,zA,zB,zC]
          refine tkA 7 rfl (v:=.agg (bv m).toArray) (yieldsIf_load_mid rfl 128 (.tmp 11) rfl g 0 rfl (bv m) _ (fun W hW=>Zh.range hW.2) Tryz.underlying128 rfl (by rw[Zk,hbm])) hH ?_;try simp only[Act.put,zA,zB,zC]
          refine rdA 6 rfl (fun K hK=>?_);go_simp;refine(Xi _ L hl).mono ?_;rintro e W8 ⟨rfl,hb⟩;have hHn:=show (fun W=>Zh W g8 128 L∧Zh W g 128 m) _ from ⟨Zh.below hH.1 hb,Zh.below hH.2 hb⟩
          replace hop6:=hop6.step hb;replace hm6:=hm6.below hb;clear hb hH;go_wp2_with fail;refine hK.out _ _ hHn (fun hH=>?_);clear hHn;clear hK K;try simp only[Act.put,zA,zB,zC]
          refine rdA 8 rfl (fun K hK=>?_);go_simp;refine(Xi _ m hlm).mono ?_;rintro e W9 ⟨rfl,hb⟩;have hHn:=show (fun W=>Zh W g8 128 L∧Zh W g 128 m) _ from ⟨Zh.below hH.1 hb,Zh.below hH.2 hb⟩
          replace hop6:=hop6.step hb;replace hm6:=hm6.below hb;clear hb hH;go_wp2_with fail;refine hK.out _ _ hHn (fun hH=>?_);clear hHn;clear hK K;try simp only[Act.put,zA,zB,zC]
          refine tkB 9 rfl (v:=?_) ?_ hH ?_;rotate_left
          ·intro w hSw;skip;go_simp;try with_reducible rfl
          try simp only[Act.put,zA,zB,zC]
          refine tkB 10 rfl (v:=?_) ?_ hH ?_;rotate_left
          ·intro w hSw;skip;go_simp;try with_reducible rfl
          try simp only[Act.put,zA,zB,zC]
          refine dnA ?_;have ho6:=hH.2
          clear hH;go_wp2_with fail;go_roundw
          case rel=>exact⟨k+1,by omega,fun j hj=>by
                   by_cases e:j=k
                   ·rw[e];exact Hnk.out
                   ·exact Hall.out j (by omega),by go_num,by rw[Hla.out];exact hop6,ho6,by rw[Hag.out,if_neg (fun h=>Hww.out h.2)];exact hm6⟩
          case measure=>simp[intOf];omega
        ·have hd10:decide ((k:Int)<((Zp m:Nat):Int))=false:=by simpa using hkm
         have hd11:decide (k<Zp m)=false:=decide_eq_false hkm;have Hkm:=Hd hkm;clear hkm;go_upto_region 38 with fail;replace hop6:=hop6.step (Below.refl _ _).drew;replace hm6:=hm6.drew;have hS1:(fun W=>Zh W g8 128 L∧Zh W g 128 m) W6.drew:=⟨hr6.below (Below.refl _ W6).drew,ho6.below (Below.refl _ W6).drew⟩;clear hr6 ho6;refine rgA (S:=(fun W=>Zh W g8 128 L∧Zh W g 128 m)) hS1 (fun hH=>?_);refine tkB 0 rfl (v:=?_) ?_ hH ?_;rotate_left
         ·intro w hSw;skip;go_simp;try with_reducible rfl
         try simp only[Act.put,zA,zB,zC]
         refine tkA 1 rfl (v:=.agg (bv m).toArray) (yieldsIf_load_mid rfl 128 (.tmp 11) rfl g 0 rfl (bv m) _ (fun W hW=>Zh.range hW.2) Tryz.underlying128 rfl (by rw[Zk,hbm])) hH ?_;try simp only[Act.put,zA,zB,zC]
         refine rdA 2 rfl (fun K hK=>?_);go_simp;refine(Qg _ m hlm).mono ?_;rintro e W7 ⟨rfl,hb⟩;have hHn:=show (fun W=>Zh W g8 128 L∧Zh W g 128 m) _ from ⟨Zh.below hH.1 hb,Zh.below hH.2 hb⟩
         replace hop6:=hop6.step hb;replace hm6:=hm6.below hb;clear hb hH;go_wp2_with fail;refine hK.out _ _ hHn (fun hH=>?_);clear hHn;clear hK K;try simp only[Act.put,zA,zB,zC]
         refine tkB 3 rfl (v:=?_) ?_ hH ?_;rotate_left
         ·intro w hSw;skip;go_simp;try with_reducible rfl
         try simp only[Act.put,zA,zB,zC]
         refine tkB 4 rfl (v:=?_) ?_ hH ?_;rotate_left
         ·intro w hSw;skip;go_simp;try with_reducible rfl
         try simp only[Act.put,zA,zB,zC]
         refine tkA 5 rfl (v:=undef) (Or.inr ⟨by rfl,rfl⟩) hH ?_;try simp only[Act.put,zA,zB,zC]
         refine tkA 7 rfl (v:=undef) (Or.inr ⟨by rfl,rfl⟩) hH ?_;try simp only[Act.put,zA,zB,zC]
         refine rdA 6 rfl (fun K hK=>?_);go_simp;refine hK.out _ _ hH (fun _=>?_);clear hK K;try simp only[Act.put,zA,zB,zC]
         refine rdA 8 rfl (fun K hK=>?_);go_simp;refine hK.out _ _ hH (fun _=>?_);clear hK K;try simp only[Act.put,zA,zB,zC]
         refine tkA 9 rfl (v:=undef) (Or.inr ⟨by rfl,rfl⟩) hH ?_;try simp only[Act.put,zA,zB,zC]
         refine tkB 10 rfl (v:=?_) ?_ hH ?_;rotate_left
         ·intro w hSw;skip;go_simp;try with_reducible rfl
         try simp only[Act.put,zA,zB,zC]
         refine dnA ?_;have ho6:=hH.2
         clear hH;go_wp2_with fail;go_roundw
         case rel=>exact⟨k+1,by omega,fun j hj=>by
                  by_cases e:j=k
                  ·rw[e];exact Hnk.out
                  ·exact Hall.out j (by omega),by go_num,by rw[Hla.out];exact hop6,ho6,by rw[Hag.out,if_neg (fun h=>Hkm.out h.1)];exact hm6⟩
         case measure=>simp[intOf];omega
       exact AllReadyH.nil
     ·have hkb:k=D.blocks:=by omega
      have hd9:decide ((k:Int)<(D.blocks:Int))=false:=by simp;omega
      have he:D.openJ=if (D.againTo m k).length=Zp m∧0<(D.againTo m k).length then (((⟨D,D.lastTo m k,sq,0⟩:Jn).spread (D.againTo m k)).off,(⟨D,D.lastTo m k,sq,0⟩:Jn).spread (D.againTo m k)) else (0,⟨D,D.lastTo m k,sq,0⟩):=by rw[Dk.openJ,if_neg (by omega),if_neg (by simp[Hoff.out]),if_neg (by simp[Hm0.out]),if_neg (by simp[Hm0.out,Hm1.out]),if_neg (by rintro⟨i,hi,e⟩;rw[Hall.out i (by omega)] at e;cases e),Dk.found,HMm.out,Hsq.out,←hkb]
      have HE:=Hd he
      have hal:(D.againTo m k).length≤k:=by
       have:∀j,(D.againTo m j).length≤j:=fun j=>by
        induction j with
        | zero=>exact Nat.le_refl _
        | succ j ih =>
         rw[Dk.againTo];split
         ·rw[List.length_append,List.length_singleton];omega
         ·omega
       exact this k
      clear he Hall Hsq HMm;generalize D.againTo m k=ag at *;generalize D.lastTo m k=la at *;have hpl:=Zfl m
      obtain⟨xa,xc,hx,hxc,hxm⟩:∃a cap,u12=.slice a ag.length cap∧ag.length≤cap∧cap≤maxLen:=by
       rcases hmr.range with ⟨h1,h2⟩ | ⟨g,cap,h1,h2,h3,_⟩
       ·exact⟨none,0,by rw[h1,h2];rfl,by rw[h2];exact Nat.le_refl _,by simp[maxLen]⟩
       ·exact⟨_,cap,h1,h2,h3⟩
      subst hx;have hrg:=hrm.range
      go_wp2_with (refine wpList_load_mid rfl 128 (.tmp 11) rfl g 0 rfl (bv m) _ hrg Tryz.underlying128 rfl (by rw[Zk,hbm]) ?_);refine(Qg wr m hlm).mono ?_;rintro e w2 ⟨rfl,hb2⟩;have hop2:=hop.step hb2
      have hmr2:=hmr.below hb2;clear hop hmr hrm hrg hb2;by_cases h1:ag.length=Zp m
      case neg =>
       have hq1:(((ag.length:Nat):Int)==((Zp m:Nat):Int))=false:=by rw[beq_eq_false_iff_ne];omega
       have hq2:(ag.length==Zp m)=false:=by simpa using h1
       have hq3:decide (ag.length=Zp m)=false:=decide_eq_false h1;have he2:D.openJ=(0,⟨D,la,sq,0⟩):=by rw[HE.out,if_neg (fun h=>h1 h.1)]
       have HE2:=Hd he2;clear he2 h1;go_wp2_with fail;go_ret2;exact Xp.ok HE2.out hop2.jat hop2.wp (Zb.of_below hop2.below)
      have hq1:(((ag.length:Nat):Int)==((Zp m:Nat):Int))=true:=by rw[beq_iff_eq];omega
      have hq2:(ag.length==Zp m)=true:=by simpa using h1
      have hq3:decide (ag.length=Zp m)=true:=decide_eq_true h1;by_cases h2:0<ag.length
      case neg =>
       have hq4:decide ((0:Int)<((ag.length:Nat):Int))=false:=decide_eq_false (by omega);have hq5:decide (0<ag.length)=false:=decide_eq_false h2;have he2:D.openJ=(0,⟨D,la,sq,0⟩):=by rw[HE.out,if_neg (fun h=>h2 h.2)]
       have HE2:=Hd he2;clear he2 h1 h2;go_wp2_with fail;go_ret2;exact Xp.ok HE2.out hop2.jat hop2.wp (Zb.of_below hop2.below)
      have hq4:decide ((0:Int)<((ag.length:Nat):Int))=true:=decide_eq_true (by omega);have hq5:decide (0<ag.length)=true:=decide_eq_true h2;have he2:D.openJ=(((⟨D,la,sq,0⟩:Jn).spread ag).off,(⟨D,la,sq,0⟩:Jn).spread ag):=by rw[HE.out,if_pos ⟨h1,h2⟩]
      have HE2:=Hd he2;clear he2 h1 h2;go_wp2_with fail
      refine(spread_any w2 F p ⟨D,la,sq,0⟩ hop2.jat hop2.nib (by show 2≤D.n;omega) (g+1) _ ag hmr2 (fun j hj=>by
       rcases hj with hj | hj
       ·have:=hop2.fw j hj;have:=Hpp.out;omega
       ·omega)).mono ?_
      rintro e w3 ⟨rfl,hj3,ht3⟩
      have ht4:Zb F.has w w3:=((Zb.of_below (T:=JT F p) hop2.below).trans ht3).mono fun j hj hT=>by
       rcases hT with hT | hT
       ·exact hT
       ·have:=hop2.wp;omega
      have hwp:=hop2.wp;have HW:=Hd hwp;clear hop2 hmr2 ht3 hwp;generalize (⟨D,la,sq,0⟩:Jn).spread ag=J1 at *;have q3:=hj3.cells.2.2.2;by_cases h0:J1.off=0
      ·have hd0:(J1.off==0)=true:=by simpa using h0
       have hd1:(J1.off != 0)=false:=by simp[h0]
       have he3:D.openJ=(0,J1):=by rw[HE2.out,h0]
       have HE3:=Hd he3;clear he3;rw[h0] at q3;clear h0;go_wp2_with fail;go_ret2;exact Xp.ok HE3.out hj3 HW.out ht4
      ·have hd0:(J1.off==0)=false:=by simpa using h0
       have hd1:(J1.off != 0)=true:=by simpa using h0
       have H0:=Hd h0;generalize hoj:J1.off=oj at *;clear h0;have Hoj:=Hd hoj;clear hoj;go_wp2_with fail;go_region;go_wp2_with fail;go_ret2;exact Xp.away HE2.out rfl H0.out hj3.drew.disk ht4.drew
theorem open_any (w:World) (F:Ft) (D:Dk) (h:Xv w F D) (hn:Nib w):Calls Tryz.prog 34 #[F.ptr] w (Xp F D w):=by
 by_cases hbad:D.n<32∨D.off=true
 ·exact open_bad w F D h hn hbad
 ·exact open_rest w F D h hn (fun e=>hbad (.inl e)) (by
   cases e:D.off with
   | false=>rfl
   | true=>exact absurd (.inr e) hbad)
end
section
open Go.RowKit
def KMap (w:World) (M:Nat) (kv:List (Int × Value)):Prop :=
 ∃(es:List MapEntry) (clock:Nat),w.heap[M]?=some (.map es.toArray clock)∧es.map (fun e=>(e.key,e.val))=kv.map fun x=>(Value.int .i64 x.1,x.2)
def kAt:List (Int × Value)→Int→Nat→Option (Nat × Value)
 | [],_,_=>none
 | x::r,n,k=>if x.1=n then some (k,x.2) else kAt r n (k+1)
def Zal (kv:List (Int × Value)) (n:Int):Option Value:=(kAt kv n 0).map (·.2)
theorem kAt_shift (kv:List (Int × Value)) (n:Int):∀k,kAt kv n k=(kAt kv n 0).map fun x=>(x.1+k,x.2):=by
 induction kv with
 | nil=>intro k;rfl
 | cons x r ih =>
  intro k;simp only[kAt];split
  ·simp
  ·rw[ih (k+1),ih (0+1),Option.map_map];congr 1;funext y;simp only[Function.comp,Prod.mk.injEq,and_true];omega
theorem kLook_cons (x:Int × Value) (r:List (Int × Value)) (n:Int):Zal (x::r) n=if x.1=n then some x.2 else Zal r n:=by
 simp only[Zal,kAt];split
 ·rfl
 ·rw[kAt_shift r n (0+1),Option.map_map];rfl
theorem kLook_const (ns:List Int) (v:Value) (n:Int):Zal (ns.map fun x=>(x,v)) n=if n∈ns then some v else none:=by
 induction ns with
 | nil=>rfl
 | cons x r ih =>
  rw[List.map_cons,kLook_cons,ih];by_cases h:x=n
  ·subst h;simp
  ·have h2:n≠x:=fun e=>h e.symm;simp[h,h2]
theorem kAt_none {kv:List (Int × Value)} {n:Int} (h:Zal kv n=none):kAt kv n 0=none:=by simpa [Zal] using h
theorem Zcw:∀(es:List MapEntry) (kv:List (Int × Value)) (n:Int) (k:Nat),es.map (fun e=>(e.key,e.val))=kv.map (fun x=>(Value.int .i64 x.1,x.2)) →
  Instr.findNow (.int .i64) (.int .i64 n) es k=some (kAt kv n k)
 | [],[],n,k,_=>rfl
 | [],_::_,n,k,h=>by simp at h
 | _::_,[],n,k,h=>by simp at h
 | e::es,x::kv,n,k,h=>by
  simp only[List.map_cons,List.cons.injEq,Prod.mk.injEq] at h;obtain⟨⟨h1,h2⟩,h3⟩:=h;have ih:=Zcw es kv n (k+1) h3
  simp only[Instr.findNow,h1,Instr.sameNow,if_true,kAt];by_cases hx:x.1=n
  ·subst hx;simp[h2]
  ·have hb:(n==x.1)=false:=beq_eq_false_iff_ne.2 (fun e=>hx e.symm);rw[hb,if_neg hx];exact ih
theorem KMap.made (w:World):KMap (w.alloc (.map #[] 0)) w.heap.size []:=⟨[],0,heap_alloc_new w _,rfl⟩
theorem KMap.lt {w:World} {M:Nat} {kv:List (Int × Value)} (h:KMap w M kv):M<w.heap.size:=by obtain⟨es,cl,h1,h2⟩:=h;exact Za h1
section
variable {P : Program} {T K E : TypeId}
theorem KMap.run_look {w:World} {M:Nat} {kv:List (Int × Value)} (h:KMap w M kv) (hT:P.underlying T=some (.map K E)) (hK:P.underlying K=some (.int .i64)) (z:Value) (hz:∀w,(zeroValue E).run P w=.ok z w) (n:Int) :
  (Instr.lookup T (.map (some M)) (.int .i64 n) false).run P w=.ok ((Zal kv n).getD z) w:=by
 obtain⟨es,cl,hm,he⟩:=h;have hf:=Zcw es kv n 0 he
 cases hk:kAt kv n 0 with
 | none =>
  rw[hk] at hf;simp[Instr.lookup,run_underlying hT,Go.MapKept.run_getObj_map hm,Go.MapKept.run_checkKey (P:=P) (k:=.int .i64 n) hK (by simp[Go.MapKept.IsKey]),Go.MapKept.run_findKey (P:=P) hK hf,Result.andThen,hz,Zal,hk]
 | some x =>
  rw[hk] at hf;simp[Instr.lookup,run_underlying hT,Go.MapKept.run_getObj_map hm,Go.MapKept.run_checkKey (P:=P) (k:=.int .i64 n) hK (by simp[Go.MapKept.IsKey]),Go.MapKept.run_findKey (P:=P) hK hf,Result.andThen,Zal,hk]
theorem KMap.run_look_ok {w:World} {M:Nat} {kv:List (Int × Value)} (h:KMap w M kv) (hT:P.underlying T=some (.map K E)) (hK:P.underlying K=some (.int .i64)) (z:Value) (hz:∀w,(zeroValue E).run P w=.ok z w) (n:Int) :
  (Instr.lookup T (.map (some M)) (.int .i64 n) true).run P w=.ok (.tuple #[(Zal kv n).getD z,.bool (Zal kv n).isSome]) w:=by
 obtain⟨es,cl,hm,he⟩:=h;have hf:=Zcw es kv n 0 he
 cases hk:kAt kv n 0 with
 | none =>
  rw[hk] at hf;simp[Instr.lookup,run_underlying hT,Go.MapKept.run_getObj_map hm,Go.MapKept.run_checkKey (P:=P) (k:=.int .i64 n) hK (by simp[Go.MapKept.IsKey]),Go.MapKept.run_findKey (P:=P) hK hf,Result.andThen,hz,Zal,hk]
 | some x =>
  rw[hk] at hf;simp[Instr.lookup,run_underlying hT,Go.MapKept.run_getObj_map hm,Go.MapKept.run_checkKey (P:=P) (k:=.int .i64 n) hK (by simp[Go.MapKept.IsKey]),Go.MapKept.run_findKey (P:=P) hK hf,Result.andThen,Zal,hk]
theorem KMap.run_new {w:World} {M:Nat} {kv:List (Int × Value)} (h:KMap w M kv) (hT:P.underlying T=some (.map K E)) (hK:P.underlying K=some (.int .i64)) (n:Int) (v:Value) (hn:Zal kv n=none) :
  ∃w',(Instr.mapUpdate T (.map (some M)) (.int .i64 n) v).run P w=.ok () w'∧KMap w' M (kv++[(n,v)])∧Zb (·=M) w w':=by
 obtain⟨es,cl,hm,he⟩:=h;have hf:=Zcw es kv n 0 he
 rw[kAt_none hn] at hf;refine⟨{ w with heap:=w.heap.setIfInBounds M (.map (es.toArray.push ⟨.int .i64 n,v,cl⟩) (cl+1)) },?_,?_,?_⟩
 ·simp[Instr.mapUpdate,run_underlying hT,Go.MapKept.run_getObj_map hm,Go.MapKept.run_checkKey (P:=P) (k:=.int .i64 n) hK (by simp[Go.MapKept.IsKey]),Go.MapKept.run_findKey (P:=P) hK hf,Go.MapKept.run_setObj_map _ hm,Result.andThen]
 ·refine⟨es++[⟨.int .i64 n,v,cl⟩],cl+1,?_,by simp[he]⟩
  show (w.heap.setIfInBounds M _)[M]?=_
  rw[Array.getElem?_setIfInBounds_self_of_lt (Za hm)];simp
 ·refine⟨rfl,rfl,rfl,by simp,fun k hk hne=>?_⟩
  show (w.heap.setIfInBounds M _)[k]?=_
  rw[Array.getElem?_setIfInBounds_ne (fun e=>hne e.symm)]
end
end
section
open Go.RowKit
def IsI (w:World) (v:Value) (zs:List Int):Prop :=
 ∃a cap,v=.slice a zs.length cap∧zs.length≤cap∧cap≤maxLen∧(a=none→cap=0) ∧
  ∀x,a=some x→(0<zs.length→x.spot=none)∧∀i,(h:i<zs.length)→w.cell? ⟨x.block,x.off+i,none⟩=some (.int .i64 zs[i])
theorem IsI.nil (w:World):IsI w (.slice none 0 0) []:=⟨none,0,rfl,Nat.le_refl _,by simp[maxLen],fun _=>rfl,fun x h=>by cases h⟩
theorem IsI.of_cells {w w':World} {v:Value} {l:List Int} (h:IsI w v l) (hw:∀a u,w.cell? a=some u→w'.cell? a=some u):IsI w' v l:=by obtain⟨a,cap,hv,hl,hm,hn,hc⟩:=h;exact⟨a,cap,hv,hl,hm,hn,fun x hx=>⟨(hc x hx).1,fun i hi=>hw _ _ ((hc x hx).2 i hi)⟩⟩
theorem IsI.below {w w':World} {v:Value} {l:List Int} (h:IsI w v l) (hb:Below w.heap.size w w'):IsI w' v l:=h.of_cells (Zi hb)
end
section
open Go.RowKit
def Qm (nb:Nat) (met:List Int):List Int→List (List UInt8)→Bool
 | n::r,b::s=>(decide (0≤n)&&decide (n<(nb:Int))&&!decide (n∈met)&&decide (b.length=112))&&Qm nb (met++[n]) r s
 | _,_=>true
def Zac (nb:Nat) (zs:List Int) (ls:List (List UInt8)):Bool:=decide (zs.length=ls.length)&&Qm nb [] zs ls
theorem rightGo_step {nb:Nat} {met zs:List Int} {ls:List (List UInt8)} {k:Nat} (h1:k<zs.length) (h2:k<ls.length) :
  Qm nb met (zs.drop k) (ls.drop k)=((decide (0≤zs[k])&&decide (zs[k]<(nb:Int))&&!decide (zs[k]∈met)&&decide (ls[k].length=112))&&Qm nb (met++[zs[k]]) (zs.drop (k+1)) (ls.drop (k+1))):=by
 rw[List.drop_eq_getElem_cons h1,List.drop_eq_getElem_cons h2,Qm]
theorem isI_at {w:World} {a:Option Addr} {n cap:Nat} {zs:List Int} (h:IsI w (.slice a n cap) zs) (i:Nat) (hi:i<zs.length):∃b o,a=some ⟨b,o,none⟩∧w.cell? ⟨b,o+i,none⟩=some (.int .i64 zs[i]):=by
 obtain⟨a',cap',hv,hl,hm,hn,hc⟩:=h;simp only[Value.slice.injEq] at hv;obtain⟨rfl,rfl,rfl⟩:=hv
 cases a with
 | none=>have:=hn rfl;omega
 | some x =>
  obtain⟨b,o,s⟩:=x;obtain⟨hs,hc⟩:=hc _ rfl;obtain rfl:s=none:=hs (by omega);exact⟨b,o,rfl,hc i hi⟩
theorem isBs_at {w:World} {a:Option Addr} {n cap:Nat} {ls:List (List UInt8)} (h:IsBs w (.slice a n cap) ls) (i:Nat) (hi:i<ls.length):∃b o u,a=some ⟨b,o,none⟩∧w.cell? ⟨b,o+i,none⟩=some u∧IsB w u ls[i]:=by
 obtain⟨a',cap',hv,hl,hm,hn,hc⟩:=h;simp only[Value.slice.injEq] at hv;obtain⟨rfl,rfl,rfl⟩:=hv
 cases a with
 | none=>have:=hn rfl;omega
 | some x =>
  obtain⟨b,o,s⟩:=x;obtain⟨hs,hc⟩:=hc _ rfl;obtain rfl:s=none:=hs (by omega);obtain⟨u,h1,h2⟩:=hc i hi;exact⟨b,o,u,rfl,h1,h2⟩
theorem IsI.form {w:World} {v:Value} {zs:List Int} (h:IsI w v zs):∃a cap,v=.slice a zs.length cap∧zs.length≤cap∧cap≤maxLen:=by obtain⟨a,cap,hv,hl,hm,_⟩:=h;exact⟨a,cap,hv,hl,hm⟩
theorem IsBs.form {w:World} {v:Value} {ls:List (List UInt8)} (h:IsBs w v ls):∃a cap,v=.slice a ls.length cap∧ls.length≤cap∧cap≤maxLen:=by obtain⟨a,cap,hv,hl,hm,_⟩:=h;exact⟨a,cap,hv,hl,hm⟩
theorem IsB.form {w:World} {v:Value} {l:List UInt8} (h:IsB w v l):∃a cap,v=.slice a l.length cap∧l.length≤cap∧cap≤maxLen:=by obtain⟨a,cap,hv,hl,hm,_⟩:=h;exact⟨a,cap,hv,hl,hm⟩
theorem zero_int (w:World):(zeroValue 3).run Tryz.prog w=.ok (.int .i64 0) w:=by kernel_rfl
theorem right_any (w:World) (F:Ft) (p:Nat) (J:Jn) (h:JAt w F p J) (hn2:2≤J.D.n) (u:Value) (zs:List Int) (hu:IsI w u zs) (v:Value) (ls:List (List UInt8)) (hv:IsBs w v ls)
  (hzs:∀n∈zs,-9223372036854775808≤n∧n≤9223372036854775807) :
  Calls Tryz.prog 94 #[jptr p,u,v] w fun e w'=>e=.returned (.bool (Zac J.D.blocks zs ls))∧Below w.heap.size w w':=by
 have hnm:=h.disk.ok.nm;obtain⟨au,cu,rfl,hcu,hmu⟩:=hu.form;obtain⟨av,cv,rfl,hcv,hmv⟩:=hv.form;unfold maxLen at hmu hmv;have hb8:J.D.blocks≤8191:=by unfold Dk.blocks;omega
 have Hzs:=Hd hzs;clear hzs;have hmm:=fun w=>run_makeMap (P:=Tryz.prog) 176 w;by_cases hlen:zs.length=ls.length
 case neg =>
  have e1:Zac J.D.blocks zs ls=false:=by rw[Zac,decide_eq_false hlen,Bool.false_and]
  rw[e1];have hd:((zs.length:Int) != (ls.length:Int))=true:=by simp;omega
  clear e1 h hu hv;go_enter Tryz.func94,Tryz.ntmps94;go_wp2_with fail;go_ret;exact⟨rfl,Below.refl _ _⟩
 generalize hbb:J.D.blocks=b at *;have Hbb:=Hd hbb
 clear hbb;have e1:Zac b zs ls=Qm b [] zs ls:=by rw[Zac,decide_eq_true hlen,Bool.true_and]
 rw[e1];have hd:((zs.length:Int) != (ls.length:Int))=false:=by simp;omega
 have Hlen:=Hd hlen;have Hu:=Hd hu;have Hv:=Hd hv;have HJ:=Hd h;have hb1:Below w.heap.size w (w.alloc (.map #[] 0)):=(Below.refl _ _).alloc (Nat.le_refl _) _;have hk1:KMap (w.alloc (.map #[] 0)) w.heap.size (([]:List Int).map fun x=>(x,.int .i64 1)):=KMap.made w;clear e1 h hu hv hlen;go_enter Tryz.func94,Tryz.ntmps94;go_wp2_with fail;generalize w.alloc (.map #[] 0)=w1 at *;go_loopw [18] (fun i wr=>∃k:Nat,k≤zs.length∧i=.int .i64 (k:Int)∧KMap wr w.heap.size ((zs.take k).map fun x=>(x,.int .i64 1))∧Below w.heap.size w wr∧Hid (Qm b [] zs ls=Qm b (zs.take k) (zs.drop k) (ls.drop k))) (fun i _=>zs.length - (intOf i).toNat)
 case atStart=>exact⟨0,Nat.zero_le _,rfl,hk1,hb1,Hd rfl⟩
 case round =>
  obtain⟨k,hk,rfl,hkm,hbr,Hr⟩:=hrel;clear hk1 hb1;by_cases hlt:k<zs.length
  ·have hlt2:k<ls.length:=by have:=Hlen.out;omega
   have hd1:decide ((k:Int)<(zs.length:Int))=true:=by simpa using hlt
   have hd1b:decide ((k:Int)<(ls.length:Int))=true:=by simpa using hlt2
   obtain⟨ub,uo,rfl,hcu1⟩:=isI_at (Hu.out.below hbr) k hlt;obtain⟨vb,vo,x,rfl,hcv1,hx⟩:=isBs_at (Hv.out.below hbr) k hlt2;have hlen8:ls[k].length≤9223372036854775807:=by obtain⟨a,c,_,h1,h2⟩:=hx.form;unfold maxLen at h2;omega
   have hrs:=rightGo_step (nb:=b) (met:=zs.take k) hlt hlt2;have hzb:=Hzs.out zs[k] (List.getElem_mem hlt);have hts:zs.take (k+1)=zs.take k++[zs[k]]:=List.take_succ_eq_append_getElem hlt;have Hts:=Hd hts;have Hrs:=Hd (Hr.out.trans hrs);have hj:=HJ.out.below hbr;have hB:=Zbi wr F p J hj hn2;rw[Hbb.out] at hB;have HB:=Hd hB;clear hB;have hlook:=hkm.run_look Tryz.underlying176 Tryz.underlying3 (.int .i64 0) zero_int zs[k];have Hnone:Hid (zs[k]∉zs.take k→Zal ((zs.take k).map fun x=>(x,Value.int .i64 1)) zs[k]=none):=Hd (fun hni=>by rw[kLook_const,if_neg hni]);rw[kLook_const] at hlook;obtain⟨ax,cx,rfl,_,_⟩:=hx.form;obtain⟨hz1,hz2⟩:=hzb;clear hrs hts hj hx;generalize zs[k]=z at *;generalize ls[k].length=xl at *;have hp:∀(c:Bool),c=false→(decide (0≤z)&&decide (z<(b:Int))&&!decide (z∈zs.take k)&&decide (xl=112))=c→Qm b [] zs ls=false:=fun c hc h2=>by rw[Hrs.out,h2,hc,Bool.false_and]
   have Hp:=Hd hp;clear hp;by_cases c1:0≤z
   case neg =>
    have d1:decide (z<0)=true:=by simp;omega
    have Hf:=Hd (Hp.out false rfl (by simp[c1]));go_wp2_with fail;go_ret;exact⟨by rw[Hf.out];rfl,hbr⟩
   have d1:decide (z<0)=false:=by simp;omega
   by_cases c2:z<(b:Int)
   case neg =>
    have d2:decide ((b:Int)≤z)=true:=by simp;omega
    have Hf:=Hd (Hp.out false rfl (by simp[c2]));clear Hp;go_wp2_with fail;refine HB.out.mono ?_;rintro e w2 ⟨rfl,rfl⟩;go_wp2_with fail;go_ret;exact⟨by rw[Hf.out];rfl,hbr⟩
   have d2:decide ((b:Int)≤z)=false:=by simp;omega
   by_cases c3:z∈zs.take k
   case pos =>
    have Hf:=Hd (Hp.out false rfl (by simp[c3]));rw[if_pos c3] at hlook;clear Hp c3;go_wp2_with fail;refine HB.out.mono ?_;rintro e w2 ⟨rfl,rfl⟩;go_wp2_with fail;go_ret;exact⟨by rw[Hf.out];rfl,hbr⟩
   rw[if_neg c3] at hlook;by_cases c4:xl=112
   case neg =>
    have Hf:=Hd (Hp.out false rfl (by simp[c4]));have d4:((xl:Int) != 112)=true:=by simp;omega
    clear Hp c3 c4;go_wp2_with fail;refine HB.out.mono ?_;rintro e w2 ⟨rfl,rfl⟩;go_wp2_with fail;go_ret;exact⟨by rw[Hf.out];rfl,hbr⟩
   obtain⟨w3,hnew,hkm3,ht3⟩:=hkm.run_new Tryz.underlying176 Tryz.underlying3 z (.int .i64 1) (Hnone.out c3);have hb3:Below w.heap.size w w3:=hbr.trans (ht3.below hbr.size (fun j hj=>by omega))
   have Hr3:Hid (Qm b [] zs ls=Qm b (zs.take (k+1)) (zs.drop (k+1)) (ls.drop (k+1))):=by
    show Qm b [] zs ls=_
    rw[Hrs.out,Hts.out,decide_eq_true c1,decide_eq_true c2,decide_eq_false c3,decide_eq_true c4];rfl
   have hkm4:KMap w3 w.heap.size ((zs.take (k+1)).map fun x=>(x,.int .i64 1)):=by rw[Hts.out,List.map_append];exact hkm3
   have d4:((xl:Int) != 112)=false:=by simp;omega
   clear hkm hkm3 ht3 Hp c3 c4;go_wp2_with fail;refine HB.out.mono ?_;rintro e w2 ⟨rfl,rfl⟩;go_wp2_with fail;go_roundw
   case rel=>exact⟨k+1,by omega,by go_num,hkm4,hb3,Hr3⟩
   case measure=>simp[intOf];omega
  ·obtain rfl:k=zs.length:=by omega
   have hd1:decide ((zs.length:Int)<(zs.length:Int))=false:=by simp
   have Hr2:Hid (Qm b [] zs ls=true):=by
    show _=true
    rw[Hr.out,List.drop_length];rfl
   go_wp2_with fail;go_ret;exact⟨by rw[Hr2.out];rfl,hbr⟩
end
end Go.Proofs.YtofibccplbnaiaaGreatDoor
