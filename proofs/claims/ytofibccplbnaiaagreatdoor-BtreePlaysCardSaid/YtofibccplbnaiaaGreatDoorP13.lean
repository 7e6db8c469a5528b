/- Contracts of the functions that the statements of this seat reach, part 13: each says what the call answers and what it leaves of the memory. -/
import Derived.Test.YtofibccplbnaiaaGreatDoorP12
import Derived.Shelf.Abstract
import Derived.Test.YtofibccplbnaiaaGreatDoorP8
set_option linter.unusedVariables false
set_option linter.unusedSimpArgs false
set_option maxRecDepth 100000
set_option maxHeartbeats 64000000
namespace Go.Proofs.YtofibccplbnaiaaGreatDoor
section
open Go.RowKit Go.Shelf Go.Lib
def Rp.put (R:Rp) (key val:List UInt8):Int × Rp :=
 if Xr key val≠0 then (Xr key val,R)
 else if R.root<0 then (if (R.layL ⟨true,[⟨key,val,0⟩]⟩).1.2≠0 then ((R.layL ⟨true,[⟨key,val,0⟩]⟩).1.2,(R.layL ⟨true,[⟨key,val,0⟩]⟩).2) else (R.layL ⟨true,[⟨key,val,0⟩]⟩).2.setRoot (Zn (R.layL ⟨true,[⟨key,val,0⟩]⟩).1.1 0))
 else R.growN (putC key val) key
def Rp.del (R:Rp) (key:List UInt8):(Bool × Int) × Rp :=
 if (R.get key).2≠0∨(R.get key).1.2=false then ((false,(R.get key).2),R) else ((decide ((R.growN delC key).1=0),(R.growN delC key).1),(R.growN delC key).2)
theorem putEnters (args:Array Value) (w:World):(callFunc 42 args).run Tryz.prog w=.ok (.enter 42 args) w:=enters_of Tryz.func42 (by kernel_rfl) rfl args w
theorem delEnters (args:Array Value) (w:World):(callFunc 44 args).run Tryz.prog w=.ok (.enter 44 args) w:=enters_of Tryz.func44 (by kernel_rfl) rfl args w
section
variable {n : Nat} {J : Jn} {seq : Int} {B : List (List UInt8)} {F : Ft} {p : Nat} {tb : Nat}
theorem LP.root_le {w:World} {f:Pf} {R:Rp} (h:LP n J seq B w F p f R):-1≤R.root∧R.root≤1023:=by have h1:=h.n1;obtain⟨P,_,h2,h3⟩:=h;have a:=h2.ok.r0;have b:=h2.ok.r1;have c:=h3.nlen;rw[←h3.root];omega
theorem tdel_any {w:World} {f:Pf} {R:Rp} (hT:Tr n J seq B w F p f R tb) (key:List UInt8) (hk:key.length≤9223372036854775807) :
  Calls Tryz.prog 13 #[trp tb,.string ⟨key.toArray⟩] w fun e w'=>e=.returned (.tuple #[.bool (R.del key).1.1,.int .i64 (R.del key).1.2])∧Qc n J seq B w F p f w' (R.del key).2 tb:=by
 obtain⟨X,hX⟩:∃X,X=R.del key:=⟨_,rfl⟩;rw[←hX];have hrb:=hT.lp.root_le
 have HGT:=Hd (tget_any hT key hk (by omega));obtain⟨G,hG⟩:∃G,G=R.get key:=⟨_,rfl⟩;rw[←hG] at HGT;have HX:Hid (X=if G.2≠0∨G.1.2=false then ((false,G.2),R) else ((decide ((R.growN delC key).1=0),(R.growN delC key).1),(R.growN delC key).2)):=Hd (by rw[hX,Rp.del,←hG])
 have HT:=Hd hT;clear hX hG hT;go_enter Tryz.func13,Tryz.ntmps13;go_wp2_with fail;refine HGT.out.mono ?_;rintro e w1 ⟨rfl,hT1,ht1⟩;have HT1:=Hd hT1;have HTT1:=Hd ht1;by_cases h1:G.2≠0∨G.1.2=false
 ·have HXE:Hid (X=((false,G.2),R)):=Hd (by rw[HX.out,if_pos h1])
  have HEE:Hid (Qc n J seq B w F p f w1 R tb):=Hd ⟨f,hT1,rfl,fun _ h=>.inl h,ht1⟩;by_cases h2:G.2=0
  ·have h3:G.1.2=false:=h1.resolve_left (fun h=>h h2)
   have hz:(G.2 != 0)=false:=by rw[h2];rfl
   have HXE0:Hid (X=((false,0),R)):=Hd (by rw[HXE.out,h2]);clear h1 hT1 ht1;go_wp2_with fail;rw[HXE0.out];go_ret2;exact⟨rfl,HEE.out⟩
  ·have hz:(G.2 != 0)=true:=by rw[bne_iff_ne];exact h2
   clear h1 hT1 ht1;go_wp2_with fail;rw[HXE.out];go_ret2;exact⟨rfl,HEE.out⟩
 ·have h2:G.2=0:=by
   rcases Int.decEq G.2 0 with h | h
   ·exact absurd (.inl h) h1
   ·exact h
  have h3:G.1.2=true:=by
   cases h:G.1.2 with
   | true=>rfl
   | false=>exact absurd (.inr h) h1
  have hz:(G.2 != 0)=false:=by rw[h2];rfl
  have HXE:Hid (X=((decide ((R.growN delC key).1=0),(R.growN delC key).1),(R.growN delC key).2)):=Hd (by rw[HX.out,if_neg h1]);obtain⟨Y,hY⟩:∃Y,Y=R.growN delC key:=⟨_,rfl⟩;have HGR:=Hd (tgrow_any (key:=key) del_chr delEnters hT1 trivial (fun _ h=>h.elim) (by omega));rw[←hY] at HGR HXE;clear h1 hT1 ht1 hY;go_wp2_with fail;refine HGR.out.mono ?_;rintro e w2 ⟨rfl,hto⟩;have HEE:=Hd (Qc.then (f1:=f) rfl (fun _ h=>.inl h) HTT1.out hto);have he:(Y.1==0)=decide (Y.1=0):=by rfl
  clear hto;go_wp2_with fail;rw[HXE.out];go_ret2;exact⟨by simp[he],HEE.out⟩
theorem tput_any {w:World} {f:Pf} {R:Rp} (hT:Tr n J seq B w F p f R tb) (key val:List UInt8) (hk:key.length≤9223372036854775807) (hv:val.length≤9223372036854775807) :
  Calls Tryz.prog 11 #[trp tb,.string ⟨key.toArray⟩,.string ⟨val.toArray⟩] w fun e w'=>e=.returned (.int .i64 (R.put key val).1)∧Qc n J seq B w F p f w' (R.put key val).2 tb:=by
 obtain⟨X,hX⟩:∃X,X=R.put key val:=⟨_,rfl⟩;rw[←hX];have hrb:=hT.lp.root_le
 obtain⟨W1,hW1⟩:∃x,x=w.alloc (.cells #[.string ⟨key.toArray⟩] 9):=⟨_,rfl⟩;have hb1:Below w.heap.size w W1:=by rw[hW1];exact Zj w _
 have hk1:W1.heap[w.heap.size]?=some (Ql key):=by rw[hW1];exact heap_alloc_new w _
 have hs1:W1.heap.size=w.heap.size+1:=by rw[hW1];simp
 obtain⟨W2,hW2⟩:∃x,x=W1.alloc (.cells #[.string ⟨val.toArray⟩] 9):=⟨_,rfl⟩;have hb2:Below W1.heap.size W1 W2:=by rw[hW2];exact Zj W1 _
 have hk2:W2.heap[w.heap.size]?=some (Ql key):=(hb2.block _ (Za hk1)).trans hk1;have hv2:W2.heap[w.heap.size+1]?=some (Ql val):=by rw[hW2,←hs1];exact heap_alloc_new W1 _
 have hB2:Below w.heap.size w W2:=hb1.trans (hb2.mono hb1.size);have hT2:=hT.step hB2;have HFL:=Hd (tfails_any W2 tb key val hk hv);have HT2:=Hd hT2;have HB2:=Hd hB2;have HCS:=Hd (And.intro hk2 hv2);have HW1:=Hd hW1;have HW2:=Hd hW2;have kc:=Yp hk2;have vc:=Yp hv2;have c0:W2.cell? ⟨tb,0,none⟩=some (Xb f.q):=by rw[cell_of_row _ _ _ _ _ _ hT2.head];rfl
 have HPJ:Hid (∀k,w.heap.size≤k→¬PJ F p f k):=Hd fun k h e=>by have:=hT.lp.lt e;omega
 have HKC:Hid (W2.cell? ⟨w.heap.size,0,none⟩=some (.string ⟨key.toArray⟩)∧W2.cell? ⟨w.heap.size+1,0,none⟩=some (.string ⟨val.toArray⟩)∧W2.cell? ⟨tb,0,none⟩=some (Xb f.q)):=Hd ⟨kc,vc,c0⟩;have HS1:=Hd hs1;by_cases hf:Xr key val=0
 ·have hz:(Xr key val != 0)=false:=by rw[hf];rfl
  obtain⟨hk80,hv200⟩:key.length≤80∧val.length≤200:=by
   unfold Xr at hf;split at hf
   ·cases hf
   ·split at hf
    ·cases hf
    ·omega
  have HRT:=Hd (lp_root hT2.lp);by_cases hroot:R.root<0
  ·have hd:decide (R.root<0)=true:=decide_eq_true hroot
   obtain⟨W3,hW3⟩:∃W3,W3=W2.alloc (.cells #[.string ⟨key.toArray⟩,.string ⟨val.toArray⟩,.int .i64 0] 82):=⟨_,rfl⟩;have hb3:Below W2.heap.size W2 W3:=by rw[hW3];exact Zj W2 _
   have hm3:Zq W2.heap.size W3 (.slice (some ⟨W2.heap.size,0,none⟩) 1 1) [⟨key,val,0⟩]:=by rw[hW3];exact Zq.lit ⟨key,val,0⟩ (Nat.le_refl _)
   have hT3:=hT2.step hb3;obtain⟨Y,hY⟩:∃Y,Y=R.layL ⟨true,[⟨key,val,0⟩]⟩:=⟨_,rfl⟩;have hfew:∀e∈([⟨key,val,0⟩]:List En),e.few:=fun e he=>by rw[List.mem_singleton.1 he];exact⟨hk80,hv200,Int.le_refl _,by show (0:Int)<65536;decide⟩
   have hly:=Zcr true hT3 hm3.isE (by simp) hfew (fun k hk e=>by
    have:=(hm3.isE_blk hk).1;have:=hT2.lp.lt e
    omega)
   rw[←hY] at hly;have HLY:=Hd hly
   have HX:Hid (X=if Y.1.2≠0 then (Y.1.2,Y.2) else Y.2.setRoot (Zn Y.1.1 0)):=Hd (by rw[hX,Rp.put,if_neg (fun h=>h hf),if_pos hroot,←hY])
   have HNE:Hid (Y.1.2=0→Y.1.1≠[]):=Hd fun h=>by rw[hY] at h ⊢;exact layN_ne _ _ _ (Nat.lt_succ_self _) (by simp) hfew h
   have HKF:Hid (∀e∈Y.1.1,e.few):=Hd (by rw[hY];exact(Zfm _ R _ hT.lp.good.few hfew).1);have HW3:=Hd hW3;have HB3:=Hd hb3;rw[hf] at HFL;clear hX hT hT2 hb1 hk1 hs1 hb2 hk2 hv2 hB2 hf hroot hb3 hm3 hT3 hY hfew hly hW3;rw[hW2,hW1] at kc vc c0;clear hW1 hW2;go_enter Tryz.func11,Tryz.ntmps11;go_wp2_with fail;rw[←HW1.out,←HW2.out];refine HFL.out.mono ?_;rintro e w3 ⟨rfl,e1⟩;obtain rfl:W2=w3:=e1.symm;clear kc vc c0 e1;obtain⟨kc,vc,c0⟩:=HKC.out;go_wp2_with fail;refine HRT.out.mono ?_;rintro e w3 ⟨rfl,e1⟩;obtain rfl:W2=w3:=e1.symm;clear e1;go_wp2_with fail;rw[←HW3.out];refine HLY.out.mono ?_;rintro e w4 ⟨v4,rfl,hm4,ht4⟩;obtain⟨f4,hT4,hq4,hk4,ht4',hs4⟩:=ht4;have HT4:=Hd hT4;have HC4:Hid (f4.q=f.q∧(∀k,PT f4 k→PT f k∨w.heap.size≤k)∧Zb (PJ F p f) w w4):=Hd ⟨hq4,fun k h=>(hk4 k h).imp id fun e=>by have:=HB2.out.size;have:=HB3.out.size;omega,(Zb.of_below (HB2.out.trans (HB3.out.mono HB2.out.size))).trans (ht4'.mono fun _ _ h=>h)⟩;have HM4:=Hd hm4;by_cases hy:Y.1.2=0
   ·have hz2:(Y.1.2 != 0)=false:=by rw[hy];rfl
    have hne:=HNE.out hy;have HXS:Hid (X=Y.2.setRoot (Zn Y.1.1 0)):=Hd (by rw[HX.out,if_neg (fun h=>h hy)]);have hln:=List.length_pos_iff.2 hne
    obtain⟨b,o,c4,hab,x2⟩:∃b o c4,v4=.slice (some ⟨b,o,none⟩) Y.1.1.length c4∧w4.drew.cell? ⟨b,o+2,none⟩=some (.int .i64 (Zn Y.1.1 0)):=by
     rcases hm4.form with ⟨_,e⟩ | ⟨g4,c4,rfl,_⟩
     ·exact absurd e hne
     ·obtain⟨b,o,e,_,_,x2⟩:=hm4.isE.at 0 hln
      simp only[Option.some.injEq,Addr.mk.injEq,and_true] at e;obtain⟨rfl,rfl⟩:=e;refine⟨g4,0,c4,rfl,?_⟩;rw[Nat.zero_mul,Nat.add_zero] at x2;rw[show Zn Y.1.1 0=Y.1.1[0].kid by rw[Zn,List.getElem?_eq_getElem hln];rfl]
      exact x2
    have hkf:=Zec HKF.out 0;obtain⟨KD,hKD⟩:∃KD,KD=Zn Y.1.1 0:=⟨_,rfl⟩;rw[←hKD] at HXS x2 hkf;generalize hN4:Y.1.1.length=N4 at *;have q0:(0:Int)<(N4:Int):=by omega
    have HSR:=Hd (Zda (hT4.step (Below.refl _ _).drew).lp KD (by omega) (by omega));rw[hq4] at HSR
    have t0:w4.drew.cell? ⟨tb,0,none⟩=some (Xb f.q):=by
     rw[←hq4];show w4.cell? _=_
     rw[cell_of_row _ _ _ _ _ _ hT4.head];rfl
    subst hab;clear hm4 hT4 hq4 hk4 ht4' hs4 hy hne hln hN4 hKD kc vc c0;go_upto_region 8 with fail;go_region_with (go_at_call 40;refine HSR.out.mono ?_;clear HSR;rintro e w6 ⟨rfl,hto6⟩;have HTO6:=Hd hto6;clear hto6)
    all_goals
     obtain⟨f6,hT6,hq6,hk6,ht6⟩:=(HT4.out.step (Below.refl _ _).drew).to HTO6.out
     have HEE:Hid (Qc n J seq B w F p f w6 X.2 tb):=Hd (by
      rw[HXS.out]
      exact⟨f6,hT6,hq6.trans HC4.out.1,fun k h=>(hk6 k h).elim (HC4.out.2.1 k) fun e=>.inr (by have:=HC4.out.2.2.size;have h9:w4.drew.heap.size=w4.heap.size:=rfl;omega),HC4.out.2.2.then ht6.undrew fun i hi e=>by
       rcases e with e | e
       ·exact .inl e
       ·rcases HC4.out.2.1 i e with e | e
        ·exact .inr e
        ·omega⟩)
     rw[←HXS.out]
     clear hT6 hq6 hk6 ht6
     go_wp2_with fail
     go_ret
     exact⟨rfl,HEE.out⟩
   ·have hz2:(Y.1.2 != 0)=true:=by rw[bne_iff_ne];exact hy
    have HXE:Hid (X=(Y.1.2,Y.2)):=Hd (by rw[HX.out,if_pos hy]);have HEE:Hid (Qc n J seq B w F p f w4 Y.2 tb):=Hd ⟨f4,HT4.out,HC4.out.1,HC4.out.2.1,HC4.out.2.2⟩;obtain⟨a4,c4,hv4,_,_⟩:=hm4.isE.form;subst hv4;clear hm4 hT4 hq4 hk4 ht4' hs4 hy;go_wp2_with fail;rw[HXE.out];go_ret;exact⟨rfl,HEE.out⟩
  ·have hd:decide (R.root<0)=false:=decide_eq_false hroot
   have hgr:=tgrow_any (key:=key) (put_chr key val hk80 hv200 (w.heap.size+1) w.heap.size) putEnters hT2 (And.intro hk2 hv2) (fun k hk=>HPJ.out k (by rcases hk with e | e<;>omega)) (by omega)
   have HX:Hid (X=R.growN (putC key val) key):=Hd (by rw[hX,Rp.put,if_neg (fun h=>h hf),if_neg hroot]);have HGR:=Hd hgr;rw[←HX.out] at HGR;rw[hf] at HFL;clear hX hT hT2 hb1 hk1 hs1 hb2 hk2 hv2 hB2 hf hroot hgr;rw[hW2,hW1] at kc vc c0;clear hW1 hW2;go_enter Tryz.func11,Tryz.ntmps11;go_wp2_with fail;rw[←HW1.out,←HW2.out];refine HFL.out.mono ?_;rintro e w3 ⟨rfl,e1⟩;obtain rfl:W2=w3:=e1.symm;clear kc vc c0 e1;obtain⟨kc,vc,c0⟩:=HKC.out;go_wp2_with fail;refine HRT.out.mono ?_;rintro e w3 ⟨rfl,e1⟩;obtain rfl:W2=w3:=e1.symm;clear e1;go_wp2_with fail;refine HGR.out.mono ?_;rintro e w4 ⟨rfl,hto⟩;have HEE:=Hd (Qc.then (f1:=f) rfl (fun _ h=>.inl h) (Zb.of_below HB2.out) hto);clear hto;go_wp2_with fail;go_ret;exact⟨rfl,HEE.out⟩
 ·have hz:(Xr key val != 0)=true:=by rw[bne_iff_ne];exact hf
  have HXE:Hid (X=(Xr key val,R)):=Hd (by rw[hX,Rp.put,if_pos hf]);have HEE:Hid (Qc n J seq B w F p f W2 R tb):=Hd (Qc.below hT hB2);clear hX hT hT2 hb1 hk1 hs1 hb2 hk2 hv2 hB2 hf;rw[hW2,hW1] at kc vc c0;clear hW1 hW2;go_enter Tryz.func11,Tryz.ntmps11;go_wp2_with fail;rw[←HW1.out,←HW2.out];refine HFL.out.mono ?_;rintro e w3 ⟨rfl,e1⟩;obtain rfl:W2=w3:=e1.symm;clear kc vc c0 e1;obtain⟨kc,vc,c0⟩:=HKC.out;go_wp2_with fail;rw[HXE.out];go_ret;exact⟨rfl,HEE.out⟩
end
end
section
structure TreH (R:Rp) (h:Nat) (l:List KV) (P:List Int):Prop where
 sub:Sub R h R.root l P
 nd:P.Nodup
 all:∀p,R.taken p=true→p∈P
 two:1≤h→Two R R.root
def Tre (R:Rp) (l:List KV):Prop:=(R.root=-1∧l=[]∧∀p,R.taken p=false)∨∃h P,TreH R h l P
theorem Sub.load {R:Rp} {h:Nat} {page:Int} {l:List KV} {P:List Int} (hs:Sub R h page l P):∃n,R.load page=(some n,0):=by
 cases h with
 | zero=>obtain⟨n,h1,_⟩:=hs;exact⟨n,h1⟩
 | succ h=>obtain⟨n,T,h1,_⟩:=hs;exact⟨n,h1⟩
theorem Zff {R:Rp} {p:Int} (h:R.taken p=true):R.setRoot p=(0,{ R with root:=p,change:=true }):=by unfold Rp.setRoot;rw[if_neg (by rw[h];simp)]
theorem Sub.pages {R R':Rp} (e:R'.pages=R.pages) {h:Nat} {page:Int} {l:List KV} {P:List Int} (hs:Sub R h page l P):Sub R' h page l P:=Sub.same h hs fun p _=>Zdd e p
theorem Zbu {R:Rp} {p:Int} (h:R.taken p=true):0≤p:=(Zbt h).1
structure Stay (R R':Rp):Prop where
 len:R'.pages.length=R.pages.length
 was:R'.was=R.was
 wroot:R'.wroot=R.wroot
 good:R.good→R'.good
theorem Stay.refl (R:Rp):Stay R R:=⟨rfl,rfl,rfl,id⟩
theorem Stay.trans {R R1 R2:Rp} (a:Stay R R1) (b:Stay R1 R2):Stay R R2:=⟨b.len.trans a.len,b.was.trans a.was,b.wroot.trans a.wroot,fun g=>b.good (a.good g)⟩
theorem Fr.stay {R R':Rp} {X X':List Int} (h:Fr R R' X X'):Stay R R':=⟨h.len,h.was,h.wroot,h.good⟩
theorem Zfr (R:Rp) (x:Int):Stay R { R with root:=x,change:=true }:=⟨rfl,rfl,rfl,fun g=>g.of_pages rfl⟩
theorem stay_unroot (R:Rp) (page:Int):Stay R (R.unroot page):=by
 unfold Rp.unroot;split
 ·rw[Qr];exact Zfr R _
 ·exact Stay.refl R
theorem drop_tre {R:Rp} {h:Nat} {l:List KV} {P:List Int} (hg:R.good) (hs:Sub R h R.root l P) (hnd:P.Nodup) (hall:∀p,R.taken p=true→p∈P) (f:Nat):(R.dropN (f+2) R.root).1=0∧Tre (R.dropN (f+2) R.root).2 l∧Stay R (R.dropN (f+2) R.root).2:=by
 obtain⟨n,h1⟩:=hs.load;have ht:=Yd h1
 have h0:=Zbu ht;rw[Rp.dropN,if_neg (by omega),h1];dsimp only;by_cases hc:n.leaf=true∨1<n.l.length
 ·rw[if_pos hc]
  refine⟨rfl,.inr ⟨h,P,hs,hnd,hall,fun hh m hm=>?_⟩,Stay.refl R⟩;rw[h1] at hm;cases hm;rcases hc with e | e
  ·cases h with
   | zero=>omega
   | succ h =>
    obtain⟨m,T,g1,g2,_⟩:=hs;rw[h1] at g1;cases g1;rw[e] at g2;cases g2
  ·exact e
 ·rw[if_neg hc]
  have fn:=Sub.srt hg h1
  cases h with
  | zero =>
   obtain⟨m,g1,g2,_⟩:=hs;rw[h1] at g1;cases g1;exact absurd (.inl g2) hc
  | succ h =>
   obtain⟨m,T,g1,g2,g3,g4,g5,g6,g7⟩:=hs;rw[h1] at g1;cases g1;have hl1:n.l.length=1:=by have:=fn.len.1;have:¬1<n.l.length:=fun e=>hc (.inr e);omega
   obtain⟨t,rfl⟩:∃t,T=[t]:=by rw[g3,List.length_map] at hl1;exact List.length_eq_one_iff.1 hl1
   have hk:Zn n.l 0=t.e.kid:=by rw[Zn,g3];rfl
   have st:=g6.kid t (by simp);obtain⟨m,e1⟩:=st.load;have ht2:=Yd e1;have hP:P=R.root::t.P:=by rw[g5];simp
   rw[hP] at hnd hall;have hne:R.root≠t.e.kid:=fun e=>(List.nodup_cons.1 hnd).1 (by rw[e];exact Sub.page h st)
   rw[hk,Zff ht2];dsimp only;obtain⟨R1,hR1⟩:∃R1,R1=({ R with root:=t.e.kid,change:=true }:Rp):=⟨_,rfl⟩;have hp1:R1.pages=R.pages:=by rw[hR1]
   have hr1:R1.root=t.e.kid:=by rw[hR1]
   have hs1:Stay R R1:=by rw[hR1];exact Zfr R _
   rw[←hR1];obtain⟨f1,f2⟩:=fr_free (R:=R1) (p:=R.root) (by rw[Yq hp1];exact ht) (by rw[hr1];exact fun e=>hne e.symm);rw[if_neg (by simp),if_neg (by rw[f1];simp)];obtain⟨R2,hR2⟩:∃R2,R2=(R1.free R.root).2:=⟨_,rfl⟩;rw[←hR2] at f2 ⊢
   have hY:∀p∈t.P,R1.taken p=true∧p∉[R.root]:=fun p hp=>⟨by rw[Yq hp1];exact Sub.taken h st p hp,by
    rw[List.mem_singleton];rintro rfl
    exact(List.nodup_cons.1 hnd).1 hp⟩
   have hread:∀p∈t.P,R2.read p=R.read p:=fun p hp=>by rw[(f2.keep p (hY p hp).1 (hY p hp).2).2.2,Zdd hp1]
   have st2:Sub R2 h t.e.kid t.l t.P:=Sub.same h st hread;have e2:R2.load t.e.kid=(some m,0):=by rw[Rp.load_read (hread _ (Sub.page h st))];exact e1
   have hroot2:R2.root=t.e.kid:=by rw[f2.root,hr1]
   have hg2:R2.good:=f2.good (hg.of_pages hp1);have hl:l=t.l:=by rw[g4];simp
   have hbig:Big R2 t.e.kid:=(g7 t (by simp)).same (hread _ (Sub.page h st))
   have htwo:1≤h→Two R2 t.e.kid:=fun hh=>by
    cases h with
    | zero=>omega
    | succ h=>exact hbig.two hg2 st2
   have hstop:m.leaf=true∨1<m.l.length:=by
    cases h with
    | zero =>
     obtain⟨m',q1,q2,_⟩:=st2;rw[e2] at q1;cases q1;exact .inl q2
    | succ h=>exact .inr (htwo (by omega) m (by rw[e2]))
   have h02:=Zbu ht2;rw[Rp.dropN,if_neg (by omega),e2];dsimp only;rw[if_pos hstop];refine⟨rfl,.inr ⟨h,t.P,by rw[hroot2,hl];exact st2,(List.nodup_cons.1 hnd).2,fun p hp=>?_,by rw[hroot2];exact htwo⟩,hs1.trans f2.stay⟩;obtain⟨a,b⟩:=f2.back p hp (by simp);rw[Yq hp1] at a;rcases List.mem_cons.1 (hall p a) with e | e
   ·exact absurd (by rw[e];simp) b
   ·exact e
theorem grow_tre {c:Chg} {key:List UInt8} {cl:List KV→List KV} (hc:ChgL c key cl) (hk:key.length≤80) {R:Rp} {h:Nat} {l:List KV} {P:List Int} (hg:R.good) (hT:TreH R h l P) (hh:h<41) (hfree:h+3≤Ye R.pages):(R.growN c key).1=0∧Tre (R.growN c key).2 (cl l)∧Stay R (R.growN c key).2:=by
 obtain⟨n,h1⟩:=hT.sub.load;have ht:=Yd h1
 obtain⟨M,m1,m2,m3⟩:=anew_sub hc h 41 hg hT.sub hT.nd (.inl rfl) ht hh (by omega) hT.two;obtain⟨r1,hr1⟩:∃r,r=R.anewN c key 41 R.root:=⟨_,rfl⟩;unfold Rp.growN;rw[←hr1] at m1 m2 ⊢;obtain⟨q1,R1⟩:=r1;dsimp only at m1 m2 ⊢;subst m1;dsimp only;rw[if_neg (by simp)];have hu:=stay_unroot R R.root
 have hst1:=hu.trans m2.fr.stay;have hg1:R1.good:=hst1.good hg
 have hall1:∀p,R1.taken p=true→p∈M.flatMap (·.P):=fun p hp=>by
  by_cases hm:p∈M.flatMap (·.P)
  ·exact hm
  ·obtain⟨a,b⟩:=m2.fr.back p hp hm;rw[Yq (Xu R R.root)] at a;exact absurd (hT.all p a) b
 have hcnt:=m2.fr.count;rw[Xu] at hcnt
 have one:∀(R2:Rp) (h2:Nat) (m:Kid),R2.good→Stay R R2→Sub R2 h2 m.e.kid m.l m.P→m.P.Nodup→(∀p,R2.taken p=true→p∈m.P)→m.l=cl l →
   (R2.setRoot m.e.kid).1=0∧((R2.setRoot m.e.kid).2.dropN 1024 m.e.kid).1=0∧Tre ((R2.setRoot m.e.kid).2.dropN 1024 m.e.kid).2 (cl l)∧Stay R ((R2.setRoot m.e.kid).2.dropN 1024 m.e.kid).2:=fun R2 h2 m g2 s2 sub2 nd2 all2 hl2=>by
  obtain⟨m',e1⟩:=sub2.load
  rw[Zff (Yd e1)]
  dsimp only
  obtain⟨R3,hR3⟩:∃R3,R3=({ R2 with root:=m.e.kid,change:=true }:Rp):=⟨_,rfl⟩
  have hp3:R3.pages=R2.pages:=by rw[hR3]
  have hr3:R3.root=m.e.kid:=by rw[hR3]
  have hs3:Stay R2 R3:=by rw[hR3];exact Zfr R2 _
  rw[←hR3]
  have:=drop_tre (R:=R3) (g2.of_pages hp3) (h:=h2) (l:=m.l) (P:=m.P) (by rw[hr3];exact sub2.pages hp3) nd2 (fun p hp=>all2 p (by rw[Yq hp3] at hp;exact hp)) 1022
  rw[hr3] at this
  rw[hl2] at this
  exact⟨rfl,this.1,this.2.1,s2.trans (hs3.trans this.2.2)⟩
 by_cases hM:M.length≤1
 ·have ht4:R1.topN 4 (M.map (·.e))=((M.map (·.e),0),R1):=by rw[Rp.topN,if_pos (by rw[List.length_map];exact hM)]
  rw[ht4];dsimp only;rw[if_neg (by simp)]
  match M,hM,m2,hall1 with
  | [],_,m2,hall1 =>
   have hl:cl l=[]:=by rw[←m2.fl];rfl
   show (if (R1.setRoot (-1)).1≠0 then R1.setRoot (-1) else (R1.setRoot (-1)).2.dropN 1024 (-1)).1=0∧Tre (if (R1.setRoot (-1)).1≠0 then R1.setRoot (-1) else (R1.setRoot (-1)).2.dropN 1024 (-1)).2 (cl l)∧Stay R (if (R1.setRoot (-1)).1≠0 then R1.setRoot (-1) else (R1.setRoot (-1)).2.dropN 1024 (-1)).2
   rw[Qr,if_neg (by simp),Rp.dropN,if_pos (by decide)];refine⟨rfl,.inl ⟨rfl,hl,fun p=>?_⟩,hst1.trans (Zfr R1 _)⟩;rcases hp:R1.taken p with _ | _
   ·exact hp
   ·exact absurd (hall1 p hp) (by simp)
  | [m],_,m2,hall1 =>
   have hPm:[m].flatMap (·.P)=m.P:=by simp
   have hlm:m.l=cl l:=by rw[←m2.fl];simp
   rw[hPm] at hall1;obtain⟨o1,o2,o3,o4⟩:=one R1 h m hg1 hst1 (m2.row.kid m (by simp)) (by have:=m2.fr.nd';rw[hPm] at this;exact this) hall1 hlm
   show (if (R1.setRoot m.e.kid).1≠0 then R1.setRoot m.e.kid else (R1.setRoot m.e.kid).2.dropN 1024 m.e.kid).1=0∧Tre (if (R1.setRoot m.e.kid).1≠0 then R1.setRoot m.e.kid else (R1.setRoot m.e.kid).2.dropN 1024 m.e.kid).2 (cl l)∧Stay R (if (R1.setRoot m.e.kid).1≠0 then R1.setRoot m.e.kid else (R1.setRoot m.e.kid).2.dropN 1024 m.e.kid).2
   rw[if_neg (by rw[o1];simp)];exact⟨o2,o3,o4⟩
  | _::_::_,hM,_,_=>simp at hM
 ·have h2:=m2.two
  have hM2:M.length=2:=by omega
  have hfew:∀e∈(Nd.mk false (M.map (·.e))).l,e.few:=fun e he=>by obtain⟨m,hm,rfl⟩:=List.mem_map.1 he;exact m2.few m hm
  have hsum:(Nd.mk false (M.map (·.e))).sum≤166:=by have:=Zdf (M.map (·.e)) 0 hfew;rw[List.length_map,hM2] at this;exact this
  obtain⟨M2,t1,t2,t3,t4,t5⟩:=laid_inner (R:=R1) hg1 m2.few m2.val m2.row (m2.big (by omega)) m2.fr.nd' (by omega) (by omega);have hlen:M2.length≤1:=by have:=(Zcz ((Nd.mk false (M.map (·.e))).l.length+1) R1 _ hfew).1 (by omega);have h3:(R1.layN ((Nd.mk false (M.map (·.e))).l.length+1) ⟨false,M.map (·.e)⟩).1=(M2.map (·.e),0):=t1;rw[h3] at this;simpa using this
  have hne:M2≠[]:=t5 (by intro e;rw[e] at hM2;simp at hM2)
  obtain⟨m,rfl⟩:∃m,M2=[m]:=List.length_eq_one_iff.1 (by
   have:=List.length_pos_iff.2 hne
   omega)
  obtain⟨R2,hR2⟩:∃R2,R2=(R1.layL ⟨false,M.map (·.e)⟩).2:=⟨_,rfl⟩;have ht4:R1.topN 4 (M.map (·.e))=(([m].map (·.e),0),R2):=by rw[Rp.topN,if_neg (by rw[List.length_map];omega),if_neg (by rw[t1];simp),t1,←hR2,Rp.topN,if_pos (by simp)]
  rw[ht4];dsimp only;rw[if_neg (by simp)];rw[←hR2] at t2;have hPm:[m].flatMap (·.P)=m.P:=by simp
  have hlm:m.l=cl l:=by have:=t2.fl;rw[m2.fl] at this;rw[←this];simp
  have hst2:=hst1.trans t2.fr.stay
  obtain⟨o1,o2,o3,o4⟩:=one R2 (h+1) m (hst2.good hg) hst2 (t2.row.kid m (by simp)) (by have:=t2.fr.nd';rw[hPm] at this;exact this) (fun p hp=>by
   by_cases hm:p∈[m].flatMap (·.P)
   ·rw[hPm] at hm;exact hm
   ·obtain⟨a,b⟩:=t2.fr.back p hp hm
    exact absurd (hall1 p a) b) hlm
  show (if (R2.setRoot m.e.kid).1≠0 then R2.setRoot m.e.kid else (R2.setRoot m.e.kid).2.dropN 1024 m.e.kid).1=0∧Tre (if (R2.setRoot m.e.kid).1≠0 then R2.setRoot m.e.kid else (R2.setRoot m.e.kid).2.dropN 1024 m.e.kid).2 (cl l)∧Stay R (if (R2.setRoot m.e.kid).1≠0 then R2.setRoot m.e.kid else (R2.setRoot m.e.kid).2.dropN 1024 m.e.kid).2
  rw[if_neg (by rw[o1];simp)];exact⟨o2,o3,o4⟩
theorem headL_lt {l:List KV} {key:List UInt8}:∀x∈Xa l key,x.1<key:=fun x hx=>by have:=Zfg hx;simpa using this
theorem restL_sub {l:List KV} {key:List UInt8}:∀x∈Zaz l key,x∈l:=fun x hx=>by
 unfold Zaz at hx
 cases hd:l.dropWhile (fun x=>decide (x.1<key)) with
 | nil=>rw[hd] at hx;cases hx
 | cons y r =>
  rw[hd] at hx;have hs:∀z∈y::r,z∈l:=fun z hz=>(List.dropWhile_sublist _).mem (by rw[hd];exact hz)
  dsimp only at hx;split at hx
  ·exact hs x (List.mem_cons_of_mem _ hx)
  ·exact hs x hx
theorem restL_gt {l:List KV} {key:List UInt8} (hr:Rise l):(∀x∈Zaz l key,key<x.1)∧Rise (Zaz l key):=by
 have hd2:Rise (l.dropWhile fun x=>decide (x.1<key)):=hr.sublist (List.dropWhile_sublist _);unfold Zaz
 cases hd:l.dropWhile (fun x=>decide (x.1<key)) with
 | nil=>exact⟨by simp,List.Pairwise.nil⟩
 | cons y r =>
  rw[hd] at hd2;have hy:¬y.1<key:=by have:=Zeg hd;simpa using this
  obtain⟨p1,p2⟩:=List.pairwise_cons.1 hd2;dsimp only;split
  ·rename_i e;exact⟨fun x hx=>by rw[←e];exact p1 x hx,p2⟩
  ·rename_i e
   have hlt:key<y.1:=by exact Classical.byContradiction fun h=>e (List.le_antisymm (List.not_lt.1 h) (List.not_lt.1 hy))
   refine⟨fun x hx=>?_,hd2⟩;rcases List.mem_cons.1 hx with rfl | hx
   ·exact hlt
   ·exact List.lt_trans hlt (p1 x hx)
theorem putL_rise {l:List KV} {key val:List UInt8} (hr:Rise l):Rise (putL l key val):=by
 obtain⟨a,b⟩:=restL_gt (key:=key) hr;refine List.pairwise_append.2 ⟨hr.sublist (List.takeWhile_sublist _),List.pairwise_cons.2 ⟨a,b⟩,fun x hx y hy=>?_⟩;rcases List.mem_cons.1 hy with rfl | hy
 ·exact headL_lt x hx
 ·exact List.lt_trans (headL_lt x hx) (a y hy)
theorem delL_rise {l:List KV} {key:List UInt8} (hr:Rise l):Rise (delL l key):=by obtain⟨a,b⟩:=restL_gt (key:=key) hr;exact List.pairwise_append.2 ⟨hr.sublist (List.takeWhile_sublist _),b,fun x hx y hy=>List.lt_trans (headL_lt x hx) (a y hy)⟩
theorem put_chgL {key val:List UInt8} (hk:key.length≤80) (hv:val.length≤200):ChgL (putC key val) key (fun l=>putL l key val):=by
 refine⟨putC_ok key val hk hv,fun n hl=>leaf_put hl key val,fun l i is h e he=>?_,fun A L C hA hC=>putL_mid hA hC,fun L x hx=>?_,fun L hr=>putL_rise hr⟩
 ·unfold putC at he
  cases is with
  | true =>
   simp only[if_true] at he;obtain⟨j,hj,rfl⟩:=List.mem_iff_getElem.1 he;have hj':j<l.length:=by simpa using hj
   rw[List.getElem_modify];split
   ·exact h l[j] (List.getElem_mem hj')
   ·exact h l[j] (List.getElem_mem hj')
  | false =>
   simp only[Bool.false_eq_true,if_false] at he;rcases List.mem_append.1 he with he | he
   ·exact h e (List.mem_of_mem_take he)
   ·rcases List.mem_cons.1 he with rfl | he
    ·rfl
    ·exact h e (List.mem_of_mem_drop he)
 ·rcases List.mem_append.1 hx with hx | hx
  ·exact .inr ((List.takeWhile_sublist _).mem hx)
  ·rcases List.mem_cons.1 hx with rfl | hx
   ·exact .inl rfl
   ·exact .inr (restL_sub x hx)
theorem del_chgL {key:List UInt8}:ChgL delC key (fun l=>delL l key):=by
 refine⟨delC_ok,fun n hl=>leaf_del hl key,fun l i is h e he=>?_,fun A L C hA hC=>delL_mid hA hC,fun L x hx=>?_,fun L hr=>delL_rise hr⟩
 ·unfold delC at he
  cases is with
  | true =>
   simp only[if_true] at he;rcases List.mem_append.1 he with he | he
   ·exact h e (List.mem_of_mem_take he)
   ·exact h e (List.mem_of_mem_drop he)
  | false=>exact h e he
 ·rcases List.mem_append.1 hx with hx | hx
  ·exact .inr ((List.takeWhile_sublist _).mem hx)
  ·exact .inr (restL_sub x hx)
end
section
def Zch (from_ to_:List UInt8) (l:List KV):List KV:=l.filter fun x=>!decide (x.1<from_)&&(decide (to_=[])||decide (x.1<to_))
section
variable {from_ to_ : List UInt8}
theorem Zdn (A C:List KV):Zch from_ to_ (A++C)=Zch from_ to_ A++Zch from_ to_ C:=List.filter_append ..
theorem rngL_low {l:List KV} (h:∀x∈l,x.1<from_):Zch from_ to_ l=[]:=by unfold Zch;rw[List.filter_eq_nil_iff];intro x hx;simp[h x hx]
theorem rngL_high {l:List KV} (ht:to_≠[]) (h:∀x∈l,¬x.1<to_):Zch from_ to_ l=[]:=by
 unfold Zch;rw[List.filter_eq_nil_iff];intro x hx;have:=h x hx
 simp[ht,this]
structure Walked (from_ to_:List UInt8) (l:List KV) (k:Nat) (left:Int) (r:(List KV × Bool) × Int):Prop where
 eq:r.1.1=Zch from_ to_ l
 stop:r.1.2=false→∃x∈l,to_≠[]∧¬x.1<to_
 left:left - k≤r.2
theorem leaf_walk (rec:Int→Int→(List KV × Bool) × Int) (left:Int):∀l:List En,Rise (l.map Qk)→(∀x∈l.map Qk,¬x.1<from_)→Walked from_ to_ (l.map Qk) 0 left (rowN true to_ rec l left)
 | [],_,_=>⟨rfl,by simp[rowN],by simp[rowN]⟩
 | e::r,hr,hf=>by
  rw[List.map_cons] at hr hf;obtain⟨h1,h2⟩:=List.pairwise_cons.1 hr;have ih:=leaf_walk rec left r h2 fun x hx=>hf x (List.mem_cons_of_mem _ hx)
  rw[rowN,if_pos rfl];have hek:(Qk e).1=e.key:=rfl
  by_cases hc:to_≠[]∧¬e.key<to_
  ·rw[if_pos hc]
   refine⟨?_,fun _=>⟨Qk e,by simp,hc⟩,by simp⟩;rw[List.map_cons];refine(rngL_high hc.1 fun x hx=>?_).symm;rcases List.mem_cons.1 hx with rfl | hx
   ·exact hc.2
   ·exact fun hlt=>hc.2 (List.lt_trans (h1 x hx) hlt)
  ·rw[if_neg hc]
   refine⟨?_,fun h=>?_,ih.left⟩
   ·show (e.key,e.val)::(rowN true to_ rec r left).1.1=_
    rw[ih.eq,List.map_cons];unfold Zch;rw[List.filter_cons,if_pos]
    ·rfl
    ·have h3:=hf (Qk e) (List.mem_cons_self ..)
     rw[hek] at h3 ⊢;by_cases ht:to_=[]
     ·simp[h3,ht]
     ·have:e.key<to_:=Classical.byContradiction fun h=>hc ⟨ht,h⟩;simp[h3,this]
   ·obtain⟨x,hx,hx2⟩:=ih.stop h;exact⟨x,List.mem_cons_of_mem _ hx,hx2⟩
theorem inner_walk {R:Rp} {h:Nat} (rec:Int→Int→(List KV × Bool) × Int):∀(T:List Kid) (left:Int),Xe (Sub R h) T→(∀t∈T,∀left:Int,(t.P.length:Int)≤left→Walked from_ to_ t.l t.P.length left (rec t.e.kid left))→((T.flatMap (·.P)).length:Int)≤left →
  Walked from_ to_ (T.flatMap (·.l)) (T.flatMap (·.P)).length left (rowN false to_ rec (T.map (·.e)) left)
 | [],left,_,_,_=>⟨rfl,by simp[rowN],by simp[rowN]⟩
 | t::r,left,hr,hrec,hle=>by
  have hr':Xe (Sub R h) ([t]++r):=hr;rw[List.flatMap_cons,List.length_append] at hle;have h1:=hrec t (List.mem_cons_self ..) left (by omega);have ih:=fun left=>inner_walk rec r left hr'.right (fun u hu=>hrec u (List.mem_cons_of_mem _ hu));rw[List.map_cons,rowN,if_neg (by simp),List.flatMap_cons,List.flatMap_cons];by_cases hc:(rec t.e.kid left).1.2=false
  ·rw[if_pos hc]
   obtain⟨x,hx,hx2,hx3⟩:=h1.stop hc;refine⟨?_,fun _=>⟨x,List.mem_append_left _ hx,hx2,hx3⟩,?_⟩
   ·rw[h1.eq,Zdn,rngL_high hx2 (l:=r.flatMap (·.l)),List.append_nil]
    intro y hy hlt;obtain⟨c,hc,hy⟩:=List.mem_flatMap.1 hy;have h5:=hr'.mid t (List.mem_singleton_self t) c hc x hx
    have h6:=hr'.right.low c hc y hy;exact hx3 (List.lt_trans (Xz h5 h6) hlt)
   ·have:=h1.left;rw[List.length_append];omega
  ·rw[if_neg hc]
   have h2:=ih (rec t.e.kid left).2 (by have:=h1.left;omega);refine⟨?_,fun h=>?_,?_⟩
   ·rw[Zdn,←h1.eq,←h2.eq]
   ·obtain⟨x,hx,hx2⟩:=h2.stop h;exact⟨x,List.mem_append_right _ hx,hx2⟩
   ·have:=h1.left;have:=h2.left;rw[List.length_append];dsimp only;omega
theorem leaf_rest {n:Nd} (hl:n.leaf=true) (hr:Rise (n.l.map Qk)) (key:List UInt8):∃U,n.l=U++n.l.drop (n.behind key).1∧(∀x∈U.map Qk,x.1<key)∧∀x∈(n.l.drop (n.behind key).1).map Qk,¬x.1<key:=by
 obtain⟨U,V,h1,h2,h3,h4⟩:=leaf_parts hl key;have hV:n.l.drop (n.behind key).1=V:=by rw[←h2];rw[h1];exact List.drop_left' rfl
 have hg:=restL_gt (key:=key) hr;refine⟨U,by rw[hV];exact h1,fun x hx=>headL_lt x (by rw[h3];exact hx),fun x hx=>?_⟩;rw[hV] at hx;rcases h4 with ⟨_,h5⟩ | ⟨_,e,r,h6,h7,h5⟩
 ·rw[←h5] at hx;exact fun h=>List.lt_irrefl _ (List.lt_trans h (hg.1 x hx))
 ·rw[h6,List.map_cons] at hx
  rcases List.mem_cons.1 hx with rfl | hx
  ·show ¬e.key<key
   rw[h7];exact List.lt_irrefl _
  ·rw[←h5] at hx;exact fun h=>List.lt_irrefl _ (List.lt_trans h (hg.1 x hx))
end
theorem Sub.rise {R:Rp} (hg:R.good):∀(h:Nat) {page:Int} {l:List KV} {P:List Int},Sub R h page l P→Rise l
 | 0,page,l,P,hs=>by obtain⟨n,h1,h2,h3,_⟩:=hs;rw[h3];exact rise_keys.2 (fit_rise (Sub.srt hg h1) h2)
 | h+1,page,l,P,hs=>by obtain⟨n,T,h1,h2,h3,h4,h5,h6,h7⟩:=hs;rw[h4];exact h6.rise fun t ht=>Sub.rise hg h (h6.kid t ht)
theorem sub_walk {R:Rp} (from_ to_:List UInt8) (hg:R.good):∀(h g:Nat) {page:Int} {l:List KV} {P:List Int} (left:Int),Sub R h page l P→h+2≤g→(P.length:Int)≤left→Walked from_ to_ l P.length left (R.walkN from_ to_ g page left)
 | h,0,page,l,P,left,_,hh,_=>by omega
 | 0,g+1,page,l,P,left,hs,hh,hle=>by
  have hr:=Sub.rise hg 0 hs;obtain⟨n,h1,h2,h3,h4⟩:=hs;subst h3;rw[h4] at hle ⊢;simp only[List.length_cons,List.length_nil] at hle ⊢;rw[Rp.walkN,h1];dsimp only;rw[if_neg (by omega),h2];obtain⟨U,u1,u2,u3⟩:=leaf_rest h2 hr from_;have hr2:Rise ((n.l.drop (n.behind from_).1).map Qk):=by rw[u1,List.map_append] at hr;exact(List.pairwise_append.1 hr).2.1
  obtain⟨w1,w2,w3⟩:=leaf_walk (to_:=to_) (R.walkN from_ to_ g) (left - 1) _ hr2 u3;refine⟨?_,fun h=>?_,by omega⟩
  ·rw[w1]
   conv=>rhs;rw[u1,List.map_append,Zdn,rngL_low u2]
   rfl
  ·obtain⟨x,hx,hx2⟩:=w2 h;refine⟨x,?_,hx2⟩;rw[u1,List.map_append];exact List.mem_append_right _ hx
 | h+1,g+1,page,l,P,left,hs,hh,hle=>by
  obtain⟨n,T,h1,h2,h3,h4,h5,h6,h7⟩:=hs;have fn:=Sub.srt hg h1
  obtain⟨A,t,C,e1,e2,e3,e4,e5,e6⟩:=Zgq h6 h2 h3 fn.some from_;subst e1;have hlen:P.length=1+((A.flatMap (·.P)).length+((t::C).flatMap (·.P)).length):=by rw[h5,List.length_cons,List.flatMap_append,List.length_append];omega
  rw[Rp.walkN,h1];dsimp only;rw[if_neg (by omega),h2];have hd:n.l.drop (n.behind from_).1=(t::C).map (·.e):=by rw[h3,←e2,List.map_append,List.drop_left' (by simp)]
  rw[hd];have hrow:Xe (Sub R h) (t::C):=h6.right
  obtain⟨w1,w2,w3⟩:=inner_walk (to_:=to_) (from_:=from_) (R.walkN from_ to_ g) (t::C) (left - 1) hrow (fun u hu left hl=>sub_walk from_ to_ hg h g left (hrow.kid u hu) (by omega) hl) (by omega);refine⟨?_,fun hs=>?_,by omega⟩
  ·rw[w1,h4,List.flatMap_append,Zdn,rngL_low (l:=A.flatMap (·.l))]
   ·rfl
   ·intro x hx;obtain⟨a,ha,hx⟩:=List.mem_flatMap.1 hx;exact e3 a ha x hx
  ·obtain⟨x,hx,hx2⟩:=w2 hs;refine⟨x,?_,hx2⟩;rw[h4,List.flatMap_append];exact List.mem_append_right _ hx
theorem Zga {α:Type}:∀l:List (Option α),(l.countP fun x=>x.isSome)+(l.countP fun x=>x.isNone)=l.length
 | []=>rfl
 | none::r=>by have:=Zga r;simp;omega
 | some a::r=>by have:=Zga r;simp;omega
theorem range_getD {α:Type} (l:List α) (d:α):(List.range l.length).map (fun k=>l.getD k d)=l:=by
 apply List.ext_getElem
 ·simp
 ·intro i h1 h2;simp only[List.getElem_map,List.getElem_range,List.getD_eq_getElem?_getD];rw[List.getElem?_eq_getElem h2];rfl
theorem Zcg {R:Rp} {P:List Int} (hn:P.Nodup) (h:∀p,R.taken p=true↔p∈P):P.length+Ye R.pages=R.pages.length:=by
 have h1:P.Perm (((List.range R.pages.length).filter fun k=>(R.pages.getD k none).isSome).map Int.ofNat):=by
  refine(List.perm_ext_iff_of_nodup hn ?_).2 fun p=>?_
  ·unfold List.Nodup;rw[List.pairwise_map];exact(List.Pairwise.filter _ List.nodup_range).imp fun h e=>h (Int.ofNat.inj e)
  ·rw[←h p,List.mem_map]
   constructor
   ·intro ht;unfold Rp.taken at ht;simp only[Bool.and_eq_true,decide_eq_true_eq] at ht;obtain⟨a,b,c⟩:=ht;exact⟨p.toNat,List.mem_filter.2 ⟨List.mem_range.2 (by omega),c⟩,by show ((p.toNat:Nat):Int)=p;omega⟩
   ·rintro⟨k,hk,rfl⟩
    obtain⟨hk1,hk2⟩:=List.mem_filter.1 hk;have:=List.mem_range.1 hk1
    unfold Rp.taken;have e:(Int.ofNat k).toNat=k:=rfl
    rw[e,hk2];have h1:(0:Int)≤Int.ofNat k:=Int.natCast_nonneg k
    have h2:Int.ofNat k<(R.pages.length:Int):=by show (k:Int)<_;omega
    simp[this]
 have h2:(((List.range R.pages.length).filter fun k=>(R.pages.getD k none).isSome).map Int.ofNat).length=R.pages.countP fun x=>x.isSome:=by
  rw[List.length_map,←List.countP_eq_length_filter]
  conv=>rhs;rw[←range_getD R.pages none,List.countP_map]
  rfl
 have h3:=Zga R.pages;have h4:=h1.length_eq;unfold Ye;omega
theorem TreH.taken {R:Rp} {h:Nat} {l:List KV} {P:List Int} (hT:TreH R h l P) (p:Int):R.taken p=true↔p∈P:=⟨hT.all p,Sub.taken h hT.sub p⟩
theorem TreH.count {R:Rp} {h:Nat} {l:List KV} {P:List Int} (hT:TreH R h l P):P.length+Ye R.pages=R.pages.length:=Zcg hT.nd hT.taken
theorem soundRow_cons (leaf:Bool) (low high:List UInt8) (rec:Int→List UInt8→List UInt8→SoS→Int × SoS) (i:Nat) (x:En) (r:List En) (s:SoS):Xt leaf low high rec i (x::r) s =
  if (leaf=true∨0<i)∧(x.key<low∨(high≠[]∧¬x.key<high)) then (103,s)
  else if leaf then Xt leaf low high rec (i+1) r s
  else if (rec x.kid (if 0<i then x.key else low) (match r with | []=>high | y::_=>y.key) s).1≠0 then rec x.kid (if 0<i then x.key else low) (match r with | []=>high | y::_=>y.key) s
  else Xt leaf low high rec (i+1) r (rec x.kid (if 0<i then x.key else low) (match r with | []=>high | y::_=>y.key) s).2:=by cases r<;>rfl
theorem sound_leaf {low high:List UInt8} (rec:Int→List UInt8→List UInt8→SoS→Int × SoS) (s:SoS):∀(l:List En) (i:Nat),(∀x∈l.map Qk,¬x.1<low∧(high≠[]→x.1<high))→Xt true low high rec i l s=(0,s)
 | [],i,_=>rfl
 | e::r,i,h=>by
  have h1:=h (Qk e) (by simp);have h1':¬e.key<low∧(high≠[]→e.key<high):=h1;rw[soundRow_cons,if_neg,if_pos rfl]
  ·exact sound_leaf rec s r (i+1) fun x hx=>h x (by rw[List.map_cons];exact List.mem_cons_of_mem _ hx)
  ·rintro⟨_,h2 | ⟨h2,h3⟩⟩
   ·exact h1'.1 h2
   ·exact h3 (h1'.2 h2)
theorem sound_inner {R:Rp} {h:Nat} {low high:List UInt8} {rec:Int→List UInt8→List UInt8→SoS→Int × SoS} {N D:Int}:∀(T:List Kid) (i:Nat) (s:SoS),Xe (Sub R h) T →
  (∀t∈T,∀lo hi (s:SoS),(∀x∈t.l,¬x.1<lo∧(hi≠[]→x.1<hi))→(0≤s.bottom→s.bottom=D)→s.met+t.P.length≤N→rec t.e.kid lo hi s=(0,⟨s.met+t.P.length,D⟩)) →
  (∀t∈T,∀x∈t.l,¬x.1<low∧(high≠[]→x.1<high))→(0<i→∀t∈T,¬t.e.key<low)→(0≤s.bottom→s.bottom=D)→s.met+(T.flatMap (·.P)).length≤N →
  ∃b,Xt false low high rec i (T.map (·.e)) s=(0,⟨s.met+(T.flatMap (·.P)).length,b⟩)∧(T=[]∨b=D)
 | [],i,s,_,_,_,_,_,_=>⟨s.bottom,by simp[Xt],.inl rfl⟩
 | t::r,i,s,hr,hrec,hbd,hlow,hbot,hmet=>by
  have hr':Xe (Sub R h) ([t]++r):=hr;obtain⟨y,hy⟩:=List.exists_mem_of_ne_nil _ (hr.some t (List.mem_cons_self ..));have hyl:=hr.low t (List.mem_cons_self ..) y hy;have hyb:=hbd t (List.mem_cons_self ..) y hy;rw[List.flatMap_cons,List.length_append] at hmet ⊢;rw[List.map_cons,soundRow_cons,if_neg,if_neg (by simp)]
  ·obtain⟨lo,hlo⟩:∃lo,lo=if 0<i then t.e.key else low:=⟨_,rfl⟩
   obtain⟨hi,hhi⟩:∃hi,hi=(match r.map (·.e) with | []=>high | y::_=>y.key):=⟨_,rfl⟩
   rw[←hlo,←hhi]
   have h1:=hrec t (List.mem_cons_self ..) lo hi s (fun x hx=>⟨by
    rw[hlo];split
    ·exact hr.low t (List.mem_cons_self ..) x hx
    ·exact(hbd t (List.mem_cons_self ..) x hx).1,fun hne=>by
    rw[hhi] at hne ⊢
    cases r with
    | nil=>exact(hbd t (List.mem_cons_self ..) x hx).2 hne
    | cons c r=>exact hr'.mid t (List.mem_singleton_self t) c (List.mem_cons_self ..) x hx⟩) hbot (by omega)
   rw[h1];dsimp only;rw[if_neg (by simp)];obtain⟨b,b1,b2⟩:=sound_inner r (i+1) ⟨s.met+t.P.length,D⟩ hr'.right (fun u hu=>hrec u (List.mem_cons_of_mem _ hu)) (fun u hu=>hbd u (List.mem_cons_of_mem _ hu)) (fun _ u hu hlt=>hyb.1 (List.lt_trans (hr'.mid t (List.mem_singleton_self t) u hu y hy) hlt)) (fun _=>rfl) (by dsimp only;omega);rw[b1];rcases b2 with rfl | e
   ·refine⟨D,?_,.inr rfl⟩
    simp only[List.map_nil,Xt] at b1;have:=congrArg (fun x=>x.2.bottom) b1
    dsimp only at this;rw[←this];simp
   ·refine⟨b,?_,.inr e⟩;rw[Int.natCast_add,Int.add_assoc]
  ·rintro⟨h0,h2 | ⟨h2,h3⟩⟩
   ·rcases h0 with h0 | h0
    ·cases h0
    ·exact hlow h0 t (List.mem_cons_self ..) h2
   ·exact h3 (List.lt_of_le_of_lt (List.not_lt.1 hyl) (hyb.2 h2))
theorem sub_sound {R:Rp} (hg:R.good):∀(h g:Nat) {page:Int} {l:List KV} {P:List Int} {low high:List UInt8} {top:Bool} {s:SoS},Sub R h page l P→(top=false→Big R page)→(1≤h→Two R page)→h+1≤g→s.met+P.length≤R.pages.length →
  (0≤s.bottom→s.bottom=41 - ((g - h:Nat):Int))→(∀x∈l,¬x.1<low∧(high≠[]→x.1<high))→R.soundN (g+1) page low high top s=(0,⟨s.met+P.length,41 - ((g - h:Nat):Int)⟩)
 | 0,g,page,l,P,low,high,top,s,hs,hbig,htwo,hh,hmet,hbot,hbd=>by
  obtain⟨n,h1,h2,h3,h4⟩:=hs;rw[h4] at hmet ⊢;simp only[List.length_cons,List.length_nil] at hmet ⊢;rw[Rp.soundN,h1];dsimp only;rw[if_neg,if_neg,h2,if_pos rfl,sound_leaf]
  ·simp
  ·rw[←h3];exact hbd
  ·rintro⟨_,a,b⟩;have:=hbot a;simp only[Nat.sub_zero] at this;exact b this
  ·rintro(a | a | ⟨a,b⟩ | ⟨a,b⟩)
   ·omega
   ·omega
   ·have:=hbig a n (by rw[h1]);omega
   ·rw[h2] at a;cases a
 | h+1,g,page,l,P,low,high,top,s,hs,hbig,htwo,hh,hmet,hbot,hbd=>by
  obtain⟨n,T,h1,h2,h3,h4,h5,h6,h7⟩:=hs;have ht2:=htwo (by omega) n (by rw[h1])
  have hlen:P.length=1+(T.flatMap (·.P)).length:=by rw[h5,List.length_cons];omega
  rw[Rp.soundN,h1];dsimp only;rw[if_neg,if_neg,h2,if_neg (by simp)]
  ·obtain⟨g',rfl⟩:∃g',g=g'+1:=⟨g - 1,by omega⟩
   obtain⟨b,b1,b2⟩:=sound_inner (R:=R) (h:=h) (low:=low) (high:=high) (N:=R.pages.length) (D:=41 - ((g'+1 - (h+1):Nat):Int)) (rec:=fun kid lo hi s=>Rp.soundN R (g'+1) kid lo hi false s) T 0 ⟨s.met+1,s.bottom⟩ h6 (fun t ht lo hi s' hb hbo hm=>by
    have:=sub_sound hg h g' (top:=false) (low:=lo) (high:=hi) (s:=s') (h6.kid t ht) (fun _=>h7 t ht) (fun hh=>by
     cases h with
     | zero=>omega
     | succ h=>exact(h7 t ht).two hg (h6.kid t ht)) (by omega) hm (by rw[Nat.add_sub_add_right] at hbo;exact hbo) hb
    rw[Nat.add_sub_add_right]
    exact this) (fun t ht x hx=>hbd x (by rw[h4];exact List.mem_flatMap.2 ⟨t,ht,hx⟩)) (by omega) hbot (by dsimp only;omega)
   rw[h3,b1,hlen];rcases b2 with rfl | e
   ·rw[h3] at ht2;simp at ht2
   ·rw[e,Int.natCast_add,←Int.add_assoc];rfl
  ·rintro⟨a,_⟩;rw[h2] at a;cases a
  ·rintro(a | a | ⟨a,b⟩ | ⟨a,b⟩)
   ·omega
   ·omega
   ·have:=hbig a n (by rw[h1]);omega
   ·omega
theorem Tre.range {R:Rp} {l:List KV} (hg:R.good) (h:Tre R l) (hh:∀h P,TreH R h l P→h≤39) (from_ to_:List UInt8):R.rangeN from_ to_=Zch from_ to_ l:=by
 rcases h with ⟨h1,h2,_⟩ | ⟨h,P,hT⟩
 ·unfold Rp.rangeN;rw[h1,h2,if_neg (by decide)];rfl
 ·obtain⟨n,h1⟩:=hT.sub.load
  unfold Rp.rangeN;rw[if_pos (Zbu (Yd h1))];have:=hh h P hT
  have hc:=hT.count;exact(sub_walk from_ to_ hg h 42 _ hT.sub (by omega) (by omega)).eq
theorem Tre.sound {R:Rp} {l:List KV} (hg:R.good) (h:Tre R l) (hh:∀h P,TreH R h l P→h≤39):R.sound=0:=by
 rcases h with ⟨h1,h2,h3⟩ | ⟨h,P,hT⟩
 ·have:=Zcg (R:=R) (P:=[]) (by simp) fun p=>by rw[h3 p];simp
  unfold Rp.sound;rw[h1,if_neg (by decide),if_neg];simp only[List.length_nil] at this;omega
 ·obtain⟨n,h1⟩:=hT.sub.load;have:=hh h P hT;have hc:=hT.count;have hs:=sub_sound hg h 41 (low:=[]) (high:=[]) (top:=true) (s:=⟨0,-1⟩) hT.sub (by simp) hT.two (by omega) (by dsimp only;omega) (by simp) (fun x _=>⟨List.not_lt_nil _,by simp⟩);unfold Rp.sound;rw[if_pos (Zbu (Yd h1)),hs];dsimp only;rw[if_neg (by simp),if_neg];omega
end
section
def wgtB:List KV→Nat
 | []=>0
 | x::r=>2+x.1.length+x.2.length+wgtB r
theorem wgtB_append:∀A C:List KV,wgtB (A++C)=wgtB A+wgtB C
 | [],C=>by simp[wgtB]
 | x::r,C=>by rw[List.cons_append,wgtB,wgtB,wgtB_append r C];omega
theorem sum_wgt:∀(l:List En) (i:Nat),Zg true i l=wgtB (l.map Qk)
 | [],_=>rfl
 | e::r,i=>by rw[Zg,List.map_cons,wgtB,sum_wgt r (i+1)];rfl
theorem row_wgt {h:Nat}:∀T:List Kid,(∀t∈T,297*(4*t.P.length+1)≤5*wgtB t.l∧5*h+1≤t.P.length)→297*(4*(T.flatMap (·.P)).length+T.length)≤5*wgtB (T.flatMap (·.l))∧(5*h+1)*T.length≤(T.flatMap (·.P)).length
 | [],_=>by simp[wgtB]
 | t::r,hT=>by have h1:=hT t (List.mem_cons_self ..);have h2:=row_wgt r fun u hu=>hT u (List.mem_cons_of_mem _ hu);rw[List.flatMap_cons,List.flatMap_cons,wgtB_append,List.length_append,List.length_cons];refine⟨by omega,?_⟩;rw[Nat.mul_succ];omega
theorem kid_wgt {R:Rp} (hg:R.good):∀(h:Nat) {page:Int} {l:List KV} {P:List Int},Sub R h page l P→Big R page→297*(4*P.length+1)≤5*wgtB l∧5*h+1≤P.length
 | 0,page,l,P,hs,hb=>by
  obtain⟨n,h1,h2,h3,h4⟩:=hs;have:=hb n (by rw[h1])
  unfold Nd.sum at this;rw[h2,sum_wgt,←h3] at this;rw[h4];simp only[List.length_cons,List.length_nil];omega
 | h+1,page,l,P,hs,hb=>by
  obtain⟨n,T,h1,h2,h3,h4,h5,h6,h7⟩:=hs;have hc:=hb n (by rw[h1])
  unfold Nd.sum at hc;have fn:=Sub.srt hg h1
  have h5':5≤T.length:=by
   rw[h2] at hc
   cases hl:n.l with
   | nil=>exact absurd hl fn.some
   | cons e r =>
    rw[hl,Zg] at hc;have e1:e.size false 0=2:=rfl
    have:=Zdf r (0+1) fun x hx=>fn.few x (by rw[hl];exact List.mem_cons_of_mem _ hx);have e2:=congrArg List.length h3;rw[hl,List.length_map,List.length_cons] at e2;omega
  have hr:=row_wgt (h:=h) T fun t ht=>kid_wgt hg h (h6.kid t ht) (h7 t ht);have hm:(5*h+1)*5≤(5*h+1)*T.length:=Nat.mul_le_mul_left _ h5';rw[h5,h4,List.length_cons];omega
theorem TreH.small {R:Rp} (hg:R.good) {h:Nat} {l:List KV} {P:List Int} (hT:TreH R h l P):(h=0∧P.length=1)∨(1188*P.length≤5*wgtB l+594∧10*h≤P.length+7):=by
 cases h with
 | zero =>
  obtain⟨n,h1,h2,h3,h4⟩:=hT.sub;exact .inl ⟨rfl,by rw[h4];rfl⟩
 | succ h =>
  right;have ht2:=hT.two (by omega)
  obtain⟨n,T,h1,h2,h3,h4,h5,h6,h7⟩:=hT.sub;have h2':2≤T.length:=by have:=ht2 n (by rw[h1]);rw[h3,List.length_map] at this;exact this
  have hr:=row_wgt (h:=h) T fun t ht=>kid_wgt hg h (h6.kid t ht) (h7 t ht);have hm:(5*h+1)*2≤(5*h+1)*T.length:=Nat.mul_le_mul_left _ h2';rw[h5,h4,List.length_cons];omega
theorem TreH.low {R:Rp} (hg:R.good) {h:Nat} {l:List KV} {P:List Int} (hT:TreH R h l P) (hp:R.pages.length≤255):h≤26:=by have:=hT.small hg;have:=hT.count;omega
theorem getL_false {l:List KV} {key:List UInt8} (h:(Zab l key).2=false):delL l key=l∧Zab l key=([],false):=by
 unfold Zab at h ⊢;unfold delL Zaz Xa
 cases hd:l.dropWhile (fun x=>decide (x.1<key)) with
 | nil =>
  refine⟨?_,rfl⟩;dsimp only
  conv=>rhs;rw[←List.takeWhile_append_dropWhile (p:=fun x:KV=>decide (x.1<key)) (l:=l),hd]
 | cons y r =>
  rw[hd] at h;dsimp only at h ⊢;by_cases e:y.1=key
  ·rw[if_pos e] at h;cases h
  ·rw[if_neg e,if_neg e]
   refine⟨?_,rfl⟩
   conv=>rhs;rw[←List.takeWhile_append_dropWhile (p:=fun x:KV=>decide (x.1<key)) (l:=l),hd]
theorem Tre.get {R:Rp} {l:List KV} (hg:R.good) (h:Tre R l) (hh:∀h P,TreH R h l P→h≤39) {key:List UInt8} (hk:key.length≤80):R.get key=(Zab l key,0):=by
 unfold Rp.get;rw[if_neg (by omega)];rcases h with ⟨h1,h2,_⟩ | ⟨h,P,hT⟩
 ·rw[h1,h2,Rp.getN,if_pos (by decide)];rfl
 ·have:=hh h P hT;exact(sub_get key h 40 R.root l P hg hT.sub (by omega)).1
theorem Tre.put {R:Rp} {l:List KV} (hg:R.good) (h:Tre R l) (h2:2≤R.pages.length) (hh:∀h P,TreH R h l P→h≤39∧h+3≤Ye R.pages) {key val:List UInt8} (hk:key.length≤80) (hv:val.length≤200):(R.put key val).1=0∧Tre (R.put key val).2 (putL l key val)∧Stay R (R.put key val).2:=by
 have hf:Xr key val=0:=by rw[Xr,if_neg (by omega),if_neg (by omega)]
 unfold Rp.put;rw[if_neg (by rw[hf];simp)];rcases h with ⟨h1,hl,h3⟩ | ⟨h,P,hT⟩
 ·rw[if_pos (by rw[h1];decide),hl]
  have hc:=Zcg (R:=R) (P:=[]) (by simp) fun p=>by rw[h3 p];simp
  simp only[List.length_nil] at hc
  obtain⟨M,m1,m2,m3,m4,m5⟩:=laid_leaf (R:=R) (l:=[⟨key,val,0⟩]) hg (fun e he=>by
   rw[List.mem_singleton.1 he];exact⟨hk,hv,Int.le_refl _,by show (0:Int)<65536;decide⟩) (fun e he=>by rw[List.mem_singleton.1 he]) (by simp) (by
   unfold Nd.sum;simp only[Zg,En.size,if_true]
   omega) (by omega)
  have hne:=m5 (by simp)
  have hlen:M.length≤1:=by
   have:=(Zcz ((Nd.mk true [⟨key,val,0⟩]).l.length+1) R ⟨true,[⟨key,val,0⟩]⟩ (fun e he=>by
    rw[List.mem_singleton.1 he]
    exact⟨hk,hv,Int.le_refl _,by show (0:Int)<65536;decide⟩)).1 (by
    unfold Nd.sum;simp only[Zg,En.size,if_true]
    omega)
   have h3:(R.layN ((Nd.mk true [⟨key,val,0⟩]).l.length+1) ⟨true,[⟨key,val,0⟩]⟩).1=(M.map (·.e),0):=m1;rw[h3] at this;simpa using this
  obtain⟨m,rfl⟩:∃m,M=[m]:=List.length_eq_one_iff.1 (by
   have:=List.length_pos_iff.2 hne
   omega)
  obtain⟨R1,hR1⟩:∃r,r=(R.layL ⟨true,[⟨key,val,0⟩]⟩).2:=⟨_,rfl⟩;rw[←hR1] at m2 ⊢;rw[m1];dsimp only;rw[if_neg (by simp)];have hkid:Zn ([m].map (·.e)) 0=m.e.kid:=rfl
  have sm:=m2.row.kid m (by simp);obtain⟨n,e1⟩:=sm.load;rw[hkid,Zff (Yd e1)];dsimp only;refine⟨rfl,.inr ⟨0,m.P,?_,?_,fun p hp=>?_,by omega⟩,m2.fr.stay.trans (Zfr R1 _)⟩
  ·have:m.l=putL [] key val:=by
    have:=m2.fl;simp only[List.flatMap_cons,List.flatMap_nil,List.append_nil] at this;rw[this];rfl
   rw[←this];exact sm.pages rfl
  ·have:=m2.fr.nd';simpa using this
  ·by_cases hm:p∈m.P
   ·exact hm
   ·have hp':R1.taken p=true:=by rw[Yq (R':={ R1 with root:=m.e.kid,change:=true }) rfl] at hp;exact hp
    obtain⟨a,_⟩:=m2.fr.back p hp' (by simpa using hm);rw[h3 p] at a;cases a
 ·obtain⟨n,h1⟩:=hT.sub.load;have:=Zbu (Yd h1);have hx:=hh h P hT;rw[if_neg (by omega)];exact grow_tre (put_chgL hk hv) hk hg hT (by omega) hx.2
theorem Tre.del {R:Rp} {l:List KV} (hg:R.good) (h:Tre R l) (hh:∀h P,TreH R h l P→h≤39∧h+3≤Ye R.pages) {key:List UInt8} (hk:key.length≤80):(R.del key).1=((Zab l key).2,0)∧Tre (R.del key).2 (delL l key)∧Stay R (R.del key).2:=by
 unfold Rp.del;rw[h.get hg (fun a b c=>(hh a b c).1) hk];dsimp only
 cases hb:(Zab l key).2 with
 | false =>
  rw[if_pos (.inr rfl),(getL_false hb).1];exact⟨rfl,h,Stay.refl R⟩
 | true =>
  rw[if_neg (by simp)];rcases h with ⟨h1,hl,h3⟩ | ⟨h,P,hT⟩
  ·rw[hl] at hb;cases hb
  ·have hx:=hh h P hT;obtain⟨a,b,c⟩:=grow_tre (del_chgL (key:=key)) hk hg hT (by omega) hx.2;rw[a];exact⟨rfl,b,c⟩
end
section
theorem Tre.congr {R R':Rp} {l:List KV} (e:R'.pages=R.pages) (er:R'.root=R.root) (h:Tre R l):Tre R' l:=by
 rcases h with ⟨h1,h2,h3⟩ | ⟨h,P,hT⟩
 ·exact .inl ⟨er.trans h1,h2,fun p=>(Yq e p).trans (h3 p)⟩
 ·refine .inr ⟨h,P,by rw[er];exact Sub.pages e hT.sub,hT.nd,fun p hp=>hT.all p ((Yq e p).symm.trans hp),fun h1 n hn=>hT.two h1 n ?_⟩;rw[er,Rp.load_read (Zdd e _)] at hn;exact hn
theorem alloc_same {R:Rp} {k:Int} (h1:R.alloc.1=(k,0)):(R.alloc.2.write k Zbf).2=R.alloc.2:=by
 obtain⟨j,ha⟩:∃j:Nat,R.alloc=(((j:Int),0),R.lay j Zbf):=by
  unfold Rp.alloc at h1 ⊢
  cases hf:freeR R.pages with
  | none=>rw[hf] at h1;exact absurd (congrArg Prod.snd h1) (by dsimp only;decide)
  | some j=>exact⟨j,rfl⟩
 rw[ha] at h1 ⊢;obtain rfl:(j:Int)=k:=congrArg Prod.fst h1;dsimp only;unfold Rp.write;split
 ·rfl
 ·split
  ·rfl
  ·show (R.lay j Zbf).lay j Zbf=R.lay j Zbf
   unfold Rp.lay;simp only[List.set_set]
theorem Tre.spoilt {R:Rp} {l:List KV} (hg:R.good) (h:Tre R l) (hh:∀h P,TreH R h l P→h≤39) (hf:0<Ye R.pages):R.alloc.1.2=0∧R.alloc.2.sound=103:=by
 obtain⟨k,h1,_,h3,_⟩:=fr_put hg hf Zbf Zbo;rw[alloc_same h1] at h3;refine⟨by rw[h1],?_⟩;have c1:=h3.count
 have c2:=h3.len;have hroot:=h3.root;generalize R.alloc.2=R' at *;simp only[List.length_singleton,List.length_nil] at c1;rcases h with ⟨a1,a2,a3⟩ | ⟨h,P,hT⟩
 ·have:=Zcg (R:=R) (P:=[]) (by simp) fun p=>by rw[a3 p];simp
  simp only[List.length_nil] at this;unfold Rp.sound;rw[hroot,a1,if_neg (by decide),if_pos];omega
 ·have:=hh h P hT;have hc:=hT.count;obtain⟨n,h4⟩:=hT.sub.load;have hkeep:∀p∈P,R'.read p=R.read p:=fun p hp=>(h3.keep p (Sub.taken h hT.sub p hp) (by simp)).2.2;have hs:=sub_sound (h3.good hg) h 41 (low:=[]) (high:=[]) (top:=true) (s:=⟨0,-1⟩) (Sub.same h hT.sub hkeep) (by simp) (fun h1 n hn=>hT.two h1 n (by rw[←Rp.load_read (hkeep _ (Sub.page h hT.sub))];exact hn)) (by omega) (by dsimp only;omega) (by simp) (fun x _=>⟨List.not_lt_nil _,by simp⟩);unfold Rp.sound;rw[hroot,if_pos (Zbu (Yd h4)),hs];dsimp only;rw[if_neg (by simp),if_pos];omega
theorem Tre.leaves {R:Rp} {l:List KV} (hg:R.good) (h:Tre R l) (hm:R.pages.length=255) (hw:wgtB l≤45300):0<Ye R.pages:=by
 rcases h with ⟨_,_,a3⟩ | ⟨h,P,hT⟩
 ·have:=Zcg (R:=R) (P:=[]) (by simp) fun p=>by rw[a3 p];simp
  simp only[List.length_nil] at this;omega
 ·have h1:=hT.small hg;have h2:=hT.count;omega
end
end Go.Proofs.YtofibccplbnaiaaGreatDoor
