/- Contracts of the functions that the statements of this seat reach, part 17: each says what the call answers and what it leaves of the memory. -/
import Derived.Test.YtofibccplbnaiaaGreatDoorP16
import Derived.Test.YtofibccplbnaiaaGreatDoorP13
import Derived.Test.YtofibccplbnaiaaGreatDoorP2
import Derived.Deep.Cut
import Derived.Deep.DeepCutAuto
import Derived.Laws.Cover1
set_option linter.unusedVariables false
set_option linter.unusedSimpArgs false
set_option maxRecDepth 100000
set_option maxHeartbeats 64000000
namespace Go.Proofs.YtofibccplbnaiaaGreatDoor
section
open Go.RowKit Go.Shelf Go.Lib
abbrev swF (bt bm bb bw:Nat):Value:=.func (.func 46) #[] #[Xc bt,Xc bm,Xc bb,Xc bw]
abbrev swO (bt bm bb bw:Nat):Obj:=.cells #[swF bt bm bb bw] 91 (0,0)
section
variable {n : Nat} {J : Jn} {seq : Int} {B : List (List UInt8)} {F : Ft} {p : Nat} {f : Pf} {R : Rp} {tb bt bm bb bw : Nat} {W W' : World}
structure SoAt (n:Nat) (J:Jn) (seq:Int) (B:List (List UInt8)) (F:Ft) (p:Nat) (f:Pf) (R:Rp) (tb bt bm bb bw:Nat) (W:World) (s:SoS):Prop where
 tr:Tr n J seq B W F p f R tb
 hbt:W.heap[bt]?=some (trpO tb)
 hbm:W.heap[bm]?=some (izO s.met)
 hbb:W.heap[bb]?=some (izO s.bottom)
 hbw:W.heap[bw]?=some (swO bt bm bb bw)
structure SoLow (F:Ft) (p:Nat) (f:Pf) (tb bt bm bb bw:Nat):Prop where
 at_:¬PJ F p f bt
 am:¬PJ F p f bm
 ab:¬PJ F p f bb
 aw:¬PJ F p f bw
 tm:tb≠bm
 tb_:tb≠bb
 nm:0≠bm
 nb:0≠bb
 mb:bm≠bb
 mt:bm≠bt
 mw:bm≠bw
 bt_:bb≠bt
 bw_:bb≠bw
theorem SoAt.below {s:SoS} (h:SoAt n J seq B F p f R tb bt bm bb bw W s) (hb:Below W.heap.size W W'):SoAt n J seq B F p f R tb bt bm bb bw W' s :=
 ⟨h.tr.step hb,(hb.block _ (Za h.hbt)).trans h.hbt,(hb.block _ (Za h.hbm)).trans h.hbm,(hb.block _ (Za h.hbb)).trans h.hbb,(hb.block _ (Za h.hbw)).trans h.hbw⟩
theorem SoAt.read {s:SoS} (h:SoAt n J seq B F p f R tb bt bm bb bw W s) (hl:SoLow F p f tb bt bm bb bw) (ht:Zb (PJ F p f) W W') (hT:Tr n J seq B W' F p f R tb):SoAt n J seq B F p f R tb bt bm bb bw W' s :=
 ⟨hT,Yg ht hl.at_ h.hbt,Yg ht hl.am h.hbm,Yg ht hl.ab h.hbb,Yg ht hl.aw h.hbw⟩
theorem SoAt.met {s:SoS} (h:SoAt n J seq B F p f R tb bt bm bb bw W s) (hl:SoLow F p f tb bt bm bb bw) (x:Int):SoAt n J seq B F p f R tb bt bm bb bw (W.setCell ⟨bm,0,none⟩ (.int .i64 x)) ⟨x,s.bottom⟩:=by
 have ht:=Zd W bm 0 (.int .i64 x)
 exact⟨h.tr.turned ht (fun k hk e=>by
  rcases hk with hk | hk
  ·rw[e] at hk;exact hl.am hk
  ·exact hl.nm (hk.symm.trans e)) hl.tm,Yg ht (fun e=>hl.mt e.symm) h.hbt,Ze h.hbm _,Yg ht (fun e=>hl.mb e.symm) h.hbb,Yg ht (fun e=>hl.mw e.symm) h.hbw⟩
theorem SoAt.bot {s:SoS} (h:SoAt n J seq B F p f R tb bt bm bb bw W s) (hl:SoLow F p f tb bt bm bb bw) (x:Int):SoAt n J seq B F p f R tb bt bm bb bw (W.setCell ⟨bb,0,none⟩ (.int .i64 x)) ⟨s.met,x⟩:=by
 have ht:=Zd W bb 0 (.int .i64 x)
 exact⟨h.tr.turned ht (fun k hk e=>by
  rcases hk with hk | hk
  ·rw[e] at hk;exact hl.ab hk
  ·exact hl.nb (hk.symm.trans e)) hl.tb_,Yg ht (fun e=>hl.bt_ e.symm) h.hbt,Yg ht hl.mb h.hbm,Ze h.hbb _,Yg ht (fun e=>hl.bw_ e.symm) h.hbw⟩
def nextK (hi:List UInt8):List En→List UInt8
 | []=>hi
 | y::_=>y.key
theorem Zdi (leaf:Bool) (low high:List UInt8) (rec:Int→List UInt8→List UInt8→SoS→Int × SoS) (i:Nat) (x:En) (r:List En) (s:SoS):Xt leaf low high rec i (x::r) s =
  if (leaf=true∨0<i)∧(x.key<low∨(high≠[]∧¬x.key<high)) then (103,s)
  else if leaf then Xt leaf low high rec (i+1) r s
  else if (rec x.kid (if 0<i then x.key else low) (nextK high r) s).1≠0 then rec x.kid (if 0<i then x.key else low) (nextK high r) s
  else Xt leaf low high rec (i+1) r (rec x.kid (if 0<i then x.key else low) (nextK high r) s).2:=by cases r<;>rfl
def SwEnd (n:Nat) (J:Jn) (seq:Int) (B:List (List UInt8)) (F:Ft) (p:Nat) (f:Pf) (R:Rp) (tb bt bm bb bw:Nat) (W:World) (r:Int × SoS) (e:Ending) (W':World):Prop :=
 e=.returned (.int .i64 r.1)∧SoAt n J seq B F p f R tb bt bm bb bw W' r.2∧Zb (fun k=>PJ F p f k∨k=bm∨k=bb) W W'∧(r.1=0→0≤r.2.met∧r.2.met≤R.pages.length)∧-1≤r.2.bottom∧r.2.bottom≤41
theorem swalk_any (hlow:SoLow F p f tb bt bm bb bw):∀g:Nat,g≤41→∀(page:Int) (lo hi:List UInt8) (top:Bool) (s:SoS) (W:World),-9223372036854775808≤page→page≤9223372036854775807→0≤s.met→s.met≤R.pages.length→-1≤s.bottom→s.bottom≤41→SoAt n J seq B F p f R tb bt bm bb bw W s →
  Calls Tryz.prog 46 #[.int .i64 page,.int .i64 (41 - (g:Int)),.string ⟨lo.toArray⟩,.string ⟨hi.toArray⟩,.bool top,Xc bt,Xc bm,Xc bb,Xc bw] W (SwEnd n J seq B F p f R tb bt bm bb bw W (R.soundN (g+1) page lo hi top s)):=by
 intro g
 induction g using Nat.strongRecOn with
 | _ g ih =>
 intro hg page lo hi top s W p0 p1 m0 m1 b0 b1 hso;have hpg:=hso.tr.lp.good.few
 have HLD:=Hd (Zcm hso.tr page p0 p1);have ct:W.cell? ⟨bt,0,none⟩=some (trp tb):=by rw[cell_of_row _ _ _ _ _ _ hso.hbt];rfl
 have HSO:=Hd hso;have HLOW:=Hd hlow;have HIH:=Hd ih;have HM0:=Hd m0;have HM1:=Hd m1;have HB0:=Hd b0;have HB1:=Hd b1;have HPG:=Hd hpg;clear hso hlow ih m0 m1 b0 b1 hpg;go_enter Tryz.func46,Tryz.ntmps46;go_wp2_with fail;refine HLD.out.mono ?_;rintro e w2 ⟨leaf,va,vk,vc,rfl,hT2,ht2,hnd⟩;obtain⟨hb3,hbx,hs3⟩:=nd_box w2 leaf (.slice va vk vc);obtain⟨W3,hW3⟩:∃W3,W3=w2.alloc (.cells #[.bool leaf,.slice va vk vc] 84):=⟨_,rfl⟩;rw[←hW3] at hb3 hbx hs3;have hso2:=HSO.out.read HLOW.out ht2 hT2;have hso3:=hso2.below hb3;have ht3:Zb (fun k=>PJ F p f k∨k=bm∨k=bb) W W3:=(ht2.trans (Zb.of_below hb3)).mono fun k _ e=>.inl e;have HW3:=Hd hW3;have HSO3:=Hd hso3;have HT3:=Hd ht3;have HND:=Hd hnd;have HBX:=Hd hbx;have HS3:=Hd hs3;have HSZ:Hid (W.heap.size≤w2.heap.size):=Hd ht2.size
 cases hl:(R.load page).1 with
 | none =>
  have hne:=Rp.load_none hl;have hne2:((R.load page).2 != 0)=true:=by rw[bne_iff_ne];exact hne
  have HE:Hid (SwEnd n J seq B F p f R tb bt bm bb bw W (R.soundN (g+1) page lo hi top s) (.returned (.int .i64 (R.load page).2)) W3):=Hd (by
   have:R.load page=(none,(R.load page).2):=by rw[←hl]
   have hr:R.soundN (g+1) page lo hi top s=((R.load page).2,s):=by rw[Rp.soundN,this]
   rw[hr]
   exact⟨rfl,HSO3.out,HT3.out,fun e=>absurd e hne,HB0.out,HB1.out⟩)
  clear hl hne hnd hb3 hbx hs3 hW3 hso2 hso3 ht2 ht3 hT2 ct;go_wp2_with fail;rw[←HW3.out];go_ret;exact HE.out
 | some nd =>
  obtain⟨hleaf,hm⟩:=HND.out nd hl;obtain⟨hfit,he0⟩:=HSO.out.tr.lp.load_fit hl;have hne2:((R.load page).2 != 0)=false:=by rw[he0];rfl
  have hld:R.load page=(some nd,0):=by rw[←hl,←he0]
  obtain rfl:nd.leaf=leaf:=hleaf;obtain⟨g2,cap,hvs,hc1,hc2,hg2,hg2'⟩:=hm.form.resolve_left fun e=>hfit.some e.2;simp only[Value.slice.injEq] at hvs;obtain⟨rfl,rfl,rfl⟩:=hvs;obtain⟨hn1,hn2⟩:=hfit.len;have cm3:W3.cell? ⟨bm,0,none⟩=some (.int .i64 s.met):=by rw[cell_of_row _ _ _ _ _ _ hso3.hbm];rfl
  have fm3:=Zf hso3.hbm 0;obtain⟨W4,hW4⟩:∃W4,W4=W3.setCell ⟨bm,0,none⟩ (.int .i64 (s.met+1)):=⟨_,rfl⟩;have hso4:SoAt n J seq B F p f R tb bt bm bb bw W4 ⟨s.met+1,s.bottom⟩:=by rw[hW4];exact hso3.met HLOW.out _
  have htm:Zb (·=bm) W3 W4:=by rw[hW4];exact Zd W3 bm 0 _
  have ht4:Zb (fun k=>PJ F p f k∨k=bm∨k=bb) W W4:=ht3.trans (htm.mono fun k _ e=>.inr (.inl e));have hbmW:=Za HSO.out.hbm;have hbbW:=Za HSO.out.hbb;have hn4:=Yg htm (by have:=HSZ.out;omega) hbx
  have hE4:IsE W4 (.slice (some ⟨g2,0,none⟩) nd.l.length vc) nd.l:=by
   have h1:IsE W3 (.slice (some ⟨g2,0,none⟩) nd.l.length vc) nd.l:=by rw[hW3];exact hm.isE.below (Zj w2 _)
   refine h1.turned htm ?_;rintro k ⟨x,n',c',e,rfl⟩;simp only[Value.slice.injEq,Option.some.injEq] at e;obtain⟨rfl,_⟩:=e;show ¬g2=bm
   omega
  have hwr:IntKind.i64.wrap (s.met+1)=s.met+1:=IntWalk.i64_in _ (by have:=HM0.out;have:=HM1.out;have:=HPG.out;omega);have HSO4:=Hd hso4;have HT4:=Hd ht4;have HN4:=Hd hn4;have HE4:=Hd hE4;have HW4:=Hd hW4;have HFIT:=Hd hfit;have HLDD:=Hd hld;have HGG:Hid (W.heap.size≤g2∧g2<w2.heap.size):=Hd ⟨hg2,hg2'⟩;have HBMW:=Hd hbmW;have HBBW:=Hd hbbW;rw[hW3] at cm3 fm3;clear hl hm he0 hld hc1 hc2 hg2 hg2' hnd hb3 hbx hs3 hso2 hso3 ht2 ht3 hT2 ct hW3 hso4 htm ht4 hn4 hE4 hW4 hbmW hbbW;obtain⟨bad,hbad⟩:∃b:Bool,b=(decide ((R.pages.length:Int)<s.met+1)||(decide (40<41 - (g:Int))||((!top&&decide (nd.sum<297))||(!nd.leaf&&decide ((nd.l.length:Int)<2))))):=⟨_,rfl⟩;go_upto_region 5 with fail;rw[←HW3.out,←HW4.out];have hbd4:Below W4.heap.size W4 W4.drew:=(Below.refl _ _).drew;have HPGS:=Hd (lp_pages (HSO4.out.below hbd4).tr.lp);clear hbd4;have HSUM:=Hd (sum_any W4.drew nd.leaf (some ⟨g2,0,none⟩) nd.l.length vc HE4.out.drew rfl (by omega) fun e he=>En.few2 (hfit.few e he))
  have S4:Hid (W4.cell? ⟨bm,0,none⟩=some (.int .i64 (s.met+1))∧W4.cell? ⟨bt,0,none⟩=some (trp tb)∧W4.cell? ⟨tb,0,none⟩=some (Xb f.q)∧W4.cell? ⟨w2.heap.size,0,none⟩=some (.bool nd.leaf)∧W4.cell? ⟨w2.heap.size,1,none⟩=some (.slice (some ⟨g2,0,none⟩) nd.l.length vc)):=Hd ⟨(cell_of_row _ _ 0 _ _ _ HSO4.out.hbm).trans rfl,(cell_of_row _ _ 0 _ _ _ HSO4.out.hbt).trans rfl,(cell_of_row _ _ 0 _ _ _ HSO4.out.tr.head).trans rfl,(Zc HN4.out).1,(Zc HN4.out).2⟩;have HSM:Hid ((Nd.mk nd.leaf nd.l).sum=nd.sum):=Hd rfl;rw[HSM.out] at HSUM;clear hfit;go_cut [63] from 33 to 63 (fun b wx=>b=.bool bad∧Below W4.heap.size W4 wx)
  case first =>
   by_cases dA:(R.pages.length:Int)<s.met+1
   ·have dA':decide ((R.pages.length:Int)<s.met+1)=true:=decide_eq_true dA
    clear dA;refine rgA (S:=(fun W=>W.cell? ⟨bm,0,none⟩=some (.int .i64 (s.met+1))∧W.cell? ⟨bt,0,none⟩=some (trp tb)∧W.cell? ⟨tb,0,none⟩=some (Xb f.q)∧W.cell? ⟨w2.heap.size,0,none⟩=some (.bool nd.leaf)∧W.cell? ⟨w2.heap.size,1,none⟩=some (.slice (some ⟨g2,0,none⟩) nd.l.length vc))) S4.out (fun hH=>?_);refine tkB 0 rfl (v:=?_) ?_ hH ?_;rotate_left
    ·rintro w ⟨k0,k1,k2,k3,k4⟩;go_simp;try with_reducible rfl
    try simp only[Act.put,zA,zB,zC]
    refine tkB 1 rfl (v:=?_) ?_ hH ?_;rotate_left
    ·rintro w ⟨k0,k1,k2,k3,k4⟩;go_simp;try with_reducible rfl
    try simp only[Act.put,zA,zB,zC]
    refine tkB 2 rfl (v:=?_) ?_ hH ?_;rotate_left
    ·rintro w ⟨k0,k1,k2,k3,k4⟩;go_simp;try with_reducible rfl
    try simp only[Act.put,zA,zB,zC]
    refine tkB 3 rfl (v:=?_) ?_ hH ?_;rotate_left
    ·rintro w ⟨k0,k1,k2,k3,k4⟩;go_simp;try with_reducible rfl
    try simp only[Act.put,zA,zB,zC]
    refine tkB 4 rfl (v:=?_) ?_ hH ?_;rotate_left
    ·rintro w ⟨k0,k1,k2,k3,k4⟩;go_simp;try with_reducible rfl
    try simp only[Act.put,zA,zB,zC]
    refine rdA 5 rfl (fun K hK=>?_);go_simp;refine HPGS.out.mono ?_;rintro e w7 ⟨rfl,rfl⟩;go_wp2_with fail;refine hK.out _ _ hH (fun hH=>?_);clear hK K;try simp only[Act.put,zA,zB,zC]
    refine tkB 6 rfl (v:=?_) ?_ hH ?_;rotate_left
    ·rintro w ⟨k0,k1,k2,k3,k4⟩;go_simp;try with_reducible rfl
    try simp only[Act.put,zA,zB,zC]
    refine tkB 7 rfl (v:=?_) ?_ hH ?_;rotate_left
    ·rintro w ⟨k0,k1,k2,k3,k4⟩;go_simp;try with_reducible rfl
    try simp only[Act.put,zA,zB,zC]
    refine tkA 8 rfl (v:=undef) (Or.inr ⟨by rfl,rfl⟩) hH ?_;try simp only[Act.put,zA,zB,zC]
    refine tkA 9 rfl (v:=undef) (Or.inr ⟨by rfl,rfl⟩) hH ?_;try simp only[Act.put,zA,zB,zC]
    refine tkB 10 rfl (v:=?_) ?_ hH ?_;rotate_left
    ·rintro w ⟨k0,k1,k2,k3,k4⟩;go_simp;try with_reducible rfl
    try simp only[Act.put,zA,zB,zC]
    refine tkB 11 rfl (v:=?_) ?_ hH ?_;rotate_left
    ·rintro w ⟨k0,k1,k2,k3,k4⟩;go_simp;try with_reducible rfl
    try simp only[Act.put,zA,zB,zC]
    refine tkA 12 rfl (v:=undef) (Or.inr ⟨by rfl,rfl⟩) hH ?_;try simp only[Act.put,zA,zB,zC]
    refine tkA 13 rfl (v:=undef) (Or.inr ⟨by rfl,rfl⟩) hH ?_;try simp only[Act.put,zA,zB,zC]
    refine tkA 14 rfl (v:=undef) (Or.inr ⟨by rfl,rfl⟩) hH ?_;try simp only[Act.put,zA,zB,zC]
    refine tkA 15 rfl (v:=undef) (Or.inr ⟨by rfl,rfl⟩) hH ?_;try simp only[Act.put,zA,zB,zC]
    refine tkA 16 rfl (v:=undef) (Or.inr ⟨by rfl,rfl⟩) hH ?_;try simp only[Act.put,zA,zB,zC]
    refine tkA 17 rfl (v:=undef) (Or.inr ⟨by rfl,rfl⟩) hH ?_;try simp only[Act.put,zA,zB,zC]
    refine tkA 18 rfl (v:=undef) (Or.inr ⟨by rfl,rfl⟩) hH ?_;try simp only[Act.put,zA,zB,zC]
    refine tkB 19 rfl (v:=?_) ?_ hH ?_;rotate_left
    ·rintro w ⟨k0,k1,k2,k3,k4⟩;go_simp;try with_reducible rfl
    try simp only[Act.put,zA,zB,zC]
    refine tkB 20 rfl (v:=?_) ?_ hH ?_;rotate_left
    ·rintro w ⟨k0,k1,k2,k3,k4⟩;go_simp;try with_reducible rfl
    try simp only[Act.put,zA,zB,zC]
    refine tkA 21 rfl (v:=undef) (Or.inr ⟨by rfl,rfl⟩) hH ?_;try simp only[Act.put,zA,zB,zC]
    refine tkA 22 rfl (v:=undef) (Or.inr ⟨by rfl,rfl⟩) hH ?_;try simp only[Act.put,zA,zB,zC]
    refine tkA 23 rfl (v:=undef) (Or.inr ⟨by rfl,rfl⟩) hH ?_;try simp only[Act.put,zA,zB,zC]
    refine tkA 24 rfl (v:=undef) (Or.inr ⟨by rfl,rfl⟩) hH ?_;try simp only[Act.put,zA,zB,zC]
    refine tkA 25 rfl (v:=undef) (Or.inr ⟨by rfl,rfl⟩) hH ?_;try simp only[Act.put,zA,zB,zC]
    refine tkA 26 rfl (v:=undef) (Or.inr ⟨by rfl,rfl⟩) hH ?_;try simp only[Act.put,zA,zB,zC]
    refine tkA 27 rfl (v:=undef) (Or.inr ⟨by rfl,rfl⟩) hH ?_;try simp only[Act.put,zA,zB,zC]
    refine tkA 28 rfl (v:=undef) (Or.inr ⟨by rfl,rfl⟩) hH ?_;try simp only[Act.put,zA,zB,zC]
    refine tkA 29 rfl (v:=undef) (Or.inr ⟨by rfl,rfl⟩) hH ?_;try simp only[Act.put,zA,zB,zC]
    refine tkB 30 rfl (v:=?_) ?_ hH ?_;rotate_left
    ·rintro w ⟨k0,k1,k2,k3,k4⟩;go_simp;try with_reducible rfl
    try simp only[Act.put,zA,zB,zC]
    refine dnA ?_;clear hH;have hbd:bad=true:=by rw[hbad];simp[*]
    clear hbad;go_wp2_with fail;go_meet;exact⟨by rw[hbd],(Below.refl _ _).drew⟩
   ·have dA':decide ((R.pages.length:Int)<s.met+1)=false:=decide_eq_false dA
    clear dA;by_cases dB:40<41 - (g:Int)
    ·have dB':decide (40<41 - (g:Int))=true:=decide_eq_true dB
     clear dB;refine rgA (S:=(fun W=>W.cell? ⟨bm,0,none⟩=some (.int .i64 (s.met+1))∧W.cell? ⟨bt,0,none⟩=some (trp tb)∧W.cell? ⟨tb,0,none⟩=some (Xb f.q)∧W.cell? ⟨w2.heap.size,0,none⟩=some (.bool nd.leaf)∧W.cell? ⟨w2.heap.size,1,none⟩=some (.slice (some ⟨g2,0,none⟩) nd.l.length vc))) S4.out (fun hH=>?_);refine tkB 0 rfl (v:=?_) ?_ hH ?_;rotate_left
     ·rintro w ⟨k0,k1,k2,k3,k4⟩;go_simp;try with_reducible rfl
     try simp only[Act.put,zA,zB,zC]
     refine tkB 1 rfl (v:=?_) ?_ hH ?_;rotate_left
     ·rintro w ⟨k0,k1,k2,k3,k4⟩;go_simp;try with_reducible rfl
     try simp only[Act.put,zA,zB,zC]
     refine tkB 2 rfl (v:=?_) ?_ hH ?_;rotate_left
     ·rintro w ⟨k0,k1,k2,k3,k4⟩;go_simp;try with_reducible rfl
     try simp only[Act.put,zA,zB,zC]
     refine tkB 3 rfl (v:=?_) ?_ hH ?_;rotate_left
     ·rintro w ⟨k0,k1,k2,k3,k4⟩;go_simp;try with_reducible rfl
     try simp only[Act.put,zA,zB,zC]
     refine tkB 4 rfl (v:=?_) ?_ hH ?_;rotate_left
     ·rintro w ⟨k0,k1,k2,k3,k4⟩;go_simp;try with_reducible rfl
     try simp only[Act.put,zA,zB,zC]
     refine rdA 5 rfl (fun K hK=>?_);go_simp;refine HPGS.out.mono ?_;rintro e w7 ⟨rfl,rfl⟩;go_wp2_with fail;refine hK.out _ _ hH (fun hH=>?_);clear hK K;try simp only[Act.put,zA,zB,zC]
     refine tkB 6 rfl (v:=?_) ?_ hH ?_;rotate_left
     ·rintro w ⟨k0,k1,k2,k3,k4⟩;go_simp;try with_reducible rfl
     try simp only[Act.put,zA,zB,zC]
     refine tkB 7 rfl (v:=?_) ?_ hH ?_;rotate_left
     ·rintro w ⟨k0,k1,k2,k3,k4⟩;go_simp;try with_reducible rfl
     try simp only[Act.put,zA,zB,zC]
     refine tkB 8 rfl (v:=?_) ?_ hH ?_;rotate_left
     ·rintro w ⟨k0,k1,k2,k3,k4⟩;go_simp;try with_reducible rfl
     try simp only[Act.put,zA,zB,zC]
     refine tkB 9 rfl (v:=?_) ?_ hH ?_;rotate_left
     ·rintro w ⟨k0,k1,k2,k3,k4⟩;go_simp;try with_reducible rfl
     try simp only[Act.put,zA,zB,zC]
     refine tkB 10 rfl (v:=?_) ?_ hH ?_;rotate_left
     ·rintro w ⟨k0,k1,k2,k3,k4⟩;go_simp;try with_reducible rfl
     try simp only[Act.put,zA,zB,zC]
     refine tkB 11 rfl (v:=?_) ?_ hH ?_;rotate_left
     ·rintro w ⟨k0,k1,k2,k3,k4⟩;go_simp;try with_reducible rfl
     try simp only[Act.put,zA,zB,zC]
     refine tkA 12 rfl (v:=undef) (Or.inr ⟨by rfl,rfl⟩) hH ?_;try simp only[Act.put,zA,zB,zC]
     refine tkA 13 rfl (v:=undef) (Or.inr ⟨by rfl,rfl⟩) hH ?_;try simp only[Act.put,zA,zB,zC]
     refine tkA 14 rfl (v:=undef) (Or.inr ⟨by rfl,rfl⟩) hH ?_;try simp only[Act.put,zA,zB,zC]
     refine tkA 15 rfl (v:=undef) (Or.inr ⟨by rfl,rfl⟩) hH ?_;try simp only[Act.put,zA,zB,zC]
     refine tkA 16 rfl (v:=undef) (Or.inr ⟨by rfl,rfl⟩) hH ?_;try simp only[Act.put,zA,zB,zC]
     refine tkA 17 rfl (v:=undef) (Or.inr ⟨by rfl,rfl⟩) hH ?_;try simp only[Act.put,zA,zB,zC]
     refine tkA 18 rfl (v:=undef) (Or.inr ⟨by rfl,rfl⟩) hH ?_;try simp only[Act.put,zA,zB,zC]
     refine tkB 19 rfl (v:=?_) ?_ hH ?_;rotate_left
     ·rintro w ⟨k0,k1,k2,k3,k4⟩;go_simp;try with_reducible rfl
     try simp only[Act.put,zA,zB,zC]
     refine tkB 20 rfl (v:=?_) ?_ hH ?_;rotate_left
     ·rintro w ⟨k0,k1,k2,k3,k4⟩;go_simp;try with_reducible rfl
     try simp only[Act.put,zA,zB,zC]
     refine tkA 21 rfl (v:=undef) (Or.inr ⟨by rfl,rfl⟩) hH ?_;try simp only[Act.put,zA,zB,zC]
     refine tkA 22 rfl (v:=undef) (Or.inr ⟨by rfl,rfl⟩) hH ?_;try simp only[Act.put,zA,zB,zC]
     refine tkA 23 rfl (v:=undef) (Or.inr ⟨by rfl,rfl⟩) hH ?_;try simp only[Act.put,zA,zB,zC]
     refine tkA 24 rfl (v:=undef) (Or.inr ⟨by rfl,rfl⟩) hH ?_;try simp only[Act.put,zA,zB,zC]
     refine tkA 25 rfl (v:=undef) (Or.inr ⟨by rfl,rfl⟩) hH ?_;try simp only[Act.put,zA,zB,zC]
     refine tkA 26 rfl (v:=undef) (Or.inr ⟨by rfl,rfl⟩) hH ?_;try simp only[Act.put,zA,zB,zC]
     refine tkA 27 rfl (v:=undef) (Or.inr ⟨by rfl,rfl⟩) hH ?_;try simp only[Act.put,zA,zB,zC]
     refine tkA 28 rfl (v:=undef) (Or.inr ⟨by rfl,rfl⟩) hH ?_;try simp only[Act.put,zA,zB,zC]
     refine tkA 29 rfl (v:=undef) (Or.inr ⟨by rfl,rfl⟩) hH ?_;try simp only[Act.put,zA,zB,zC]
     refine tkB 30 rfl (v:=?_) ?_ hH ?_;rotate_left
     ·rintro w ⟨k0,k1,k2,k3,k4⟩;go_simp;try with_reducible rfl
     try simp only[Act.put,zA,zB,zC]
     refine dnA ?_;clear hH;have hbd:bad=true:=by rw[hbad];simp[*]
     clear hbad;go_wp2_with fail;go_meet;exact⟨by rw[hbd],(Below.refl _ _).drew⟩
    ·have dB':decide (40<41 - (g:Int))=false:=decide_eq_false dB
     clear dB
     cases top with
     | false =>
      by_cases dS:nd.sum<297
      ·have dS':decide ((nd.sum:Int)<297)=true:=decide_eq_true (by omega)
       refine rgA (S:=(fun W=>W.cell? ⟨bm,0,none⟩=some (.int .i64 (s.met+1))∧W.cell? ⟨bt,0,none⟩=some (trp tb)∧W.cell? ⟨tb,0,none⟩=some (Xb f.q)∧W.cell? ⟨w2.heap.size,0,none⟩=some (.bool nd.leaf)∧W.cell? ⟨w2.heap.size,1,none⟩=some (.slice (some ⟨g2,0,none⟩) nd.l.length vc))) S4.out (fun hH=>?_);refine tkB 0 rfl (v:=?_) ?_ hH ?_;rotate_left
       ·rintro w ⟨k0,k1,k2,k3,k4⟩;go_simp;try with_reducible rfl
       try simp only[Act.put,zA,zB,zC]
       refine tkB 1 rfl (v:=?_) ?_ hH ?_;rotate_left
       ·rintro w ⟨k0,k1,k2,k3,k4⟩;go_simp;try with_reducible rfl
       try simp only[Act.put,zA,zB,zC]
       refine tkB 2 rfl (v:=?_) ?_ hH ?_;rotate_left
       ·rintro w ⟨k0,k1,k2,k3,k4⟩;go_simp;try with_reducible rfl
       try simp only[Act.put,zA,zB,zC]
       refine tkB 3 rfl (v:=?_) ?_ hH ?_;rotate_left
       ·rintro w ⟨k0,k1,k2,k3,k4⟩;go_simp;try with_reducible rfl
       try simp only[Act.put,zA,zB,zC]
       refine tkB 4 rfl (v:=?_) ?_ hH ?_;rotate_left
       ·rintro w ⟨k0,k1,k2,k3,k4⟩;go_simp;try with_reducible rfl
       try simp only[Act.put,zA,zB,zC]
       refine rdA 5 rfl (fun K hK=>?_);go_simp;refine HPGS.out.mono ?_;rintro e w7 ⟨rfl,rfl⟩;go_wp2_with fail;refine hK.out _ _ hH (fun hH=>?_);clear hK K;try simp only[Act.put,zA,zB,zC]
       refine tkB 6 rfl (v:=?_) ?_ hH ?_;rotate_left
       ·rintro w ⟨k0,k1,k2,k3,k4⟩;go_simp;try with_reducible rfl
       try simp only[Act.put,zA,zB,zC]
       refine tkB 7 rfl (v:=?_) ?_ hH ?_;rotate_left
       ·rintro w ⟨k0,k1,k2,k3,k4⟩;go_simp;try with_reducible rfl
       try simp only[Act.put,zA,zB,zC]
       refine tkB 8 rfl (v:=?_) ?_ hH ?_;rotate_left
       ·rintro w ⟨k0,k1,k2,k3,k4⟩;go_simp;try with_reducible rfl
       try simp only[Act.put,zA,zB,zC]
       refine tkB 9 rfl (v:=?_) ?_ hH ?_;rotate_left
       ·rintro w ⟨k0,k1,k2,k3,k4⟩;go_simp;try with_reducible rfl
       try simp only[Act.put,zA,zB,zC]
       refine tkB 10 rfl (v:=?_) ?_ hH ?_;rotate_left
       ·rintro w ⟨k0,k1,k2,k3,k4⟩;go_simp;try with_reducible rfl
       try simp only[Act.put,zA,zB,zC]
       refine tkB 11 rfl (v:=?_) ?_ hH ?_;rotate_left
       ·rintro w ⟨k0,k1,k2,k3,k4⟩;go_simp;try with_reducible rfl
       try simp only[Act.put,zA,zB,zC]
       refine tkB 12 rfl (v:=?_) ?_ hH ?_;rotate_left
       ·rintro w ⟨k0,k1,k2,k3,k4⟩;go_simp;try with_reducible rfl
       try simp only[Act.put,zA,zB,zC]
       refine tkB 13 rfl (v:=?_) ?_ hH ?_;rotate_left
       ·rintro w ⟨k0,k1,k2,k3,k4⟩;go_simp;try with_reducible rfl
       try simp only[Act.put,zA,zB,zC]
       refine tkB 14 rfl (v:=?_) ?_ hH ?_;rotate_left
       ·rintro w ⟨k0,k1,k2,k3,k4⟩;go_simp;try with_reducible rfl
       try simp only[Act.put,zA,zB,zC]
       refine tkB 15 rfl (v:=?_) ?_ hH ?_;rotate_left
       ·rintro w ⟨k0,k1,k2,k3,k4⟩;go_simp;try with_reducible rfl
       try simp only[Act.put,zA,zB,zC]
       refine rdA 16 rfl (fun K hK=>?_);go_simp;refine HSUM.out.mono ?_;rintro e w8 ⟨rfl,hb8⟩;have hS8:w8.cell? ⟨bm,0,none⟩=some (.int .i64 (s.met+1))∧w8.cell? ⟨bt,0,none⟩=some (trp tb)∧w8.cell? ⟨tb,0,none⟩=some (Xb f.q)∧w8.cell? ⟨w2.heap.size,0,none⟩=some (.bool nd.leaf)∧w8.cell? ⟨w2.heap.size,1,none⟩=some (.slice (some ⟨g2,0,none⟩) nd.l.length vc):=⟨Zi hb8 _ _ S4.out.1,Zi hb8 _ _ S4.out.2.1,Zi hb8 _ _ S4.out.2.2.1,Zi hb8 _ _ S4.out.2.2.2.1,Zi hb8 _ _ S4.out.2.2.2.2⟩
       have HB8:=Hd hb8;clear hb8;go_wp2_with fail;refine hK.out _ _ hS8 (fun hH=>?_);clear hS8;clear hK K;try simp only[Act.put,zA,zB,zC]
       refine tkB 17 rfl (v:=?_) ?_ hH ?_;rotate_left
       ·rintro w ⟨k0,k1,k2,k3,k4⟩;go_simp;try with_reducible rfl
       try simp only[Act.put,zA,zB,zC]
       refine tkB 18 rfl (v:=?_) ?_ hH ?_;rotate_left
       ·rintro w ⟨k0,k1,k2,k3,k4⟩;go_simp;try with_reducible rfl
       try simp only[Act.put,zA,zB,zC]
       refine tkB 19 rfl (v:=?_) ?_ hH ?_;rotate_left
       ·rintro w ⟨k0,k1,k2,k3,k4⟩;go_simp;try with_reducible rfl
       try simp only[Act.put,zA,zB,zC]
       refine tkB 20 rfl (v:=?_) ?_ hH ?_;rotate_left
       ·rintro w ⟨k0,k1,k2,k3,k4⟩;go_simp;try with_reducible rfl
       try simp only[Act.put,zA,zB,zC]
       refine tkA 21 rfl (v:=undef) (Or.inr ⟨by rfl,rfl⟩) hH ?_;try simp only[Act.put,zA,zB,zC]
       refine tkA 22 rfl (v:=undef) (Or.inr ⟨by rfl,rfl⟩) hH ?_;try simp only[Act.put,zA,zB,zC]
       refine tkA 23 rfl (v:=undef) (Or.inr ⟨by rfl,rfl⟩) hH ?_;try simp only[Act.put,zA,zB,zC]
       refine tkA 24 rfl (v:=undef) (Or.inr ⟨by rfl,rfl⟩) hH ?_;try simp only[Act.put,zA,zB,zC]
       refine tkA 25 rfl (v:=undef) (Or.inr ⟨by rfl,rfl⟩) hH ?_;try simp only[Act.put,zA,zB,zC]
       refine tkA 26 rfl (v:=undef) (Or.inr ⟨by rfl,rfl⟩) hH ?_;try simp only[Act.put,zA,zB,zC]
       refine tkA 27 rfl (v:=undef) (Or.inr ⟨by rfl,rfl⟩) hH ?_;try simp only[Act.put,zA,zB,zC]
       refine tkA 28 rfl (v:=undef) (Or.inr ⟨by rfl,rfl⟩) hH ?_;try simp only[Act.put,zA,zB,zC]
       refine tkA 29 rfl (v:=undef) (Or.inr ⟨by rfl,rfl⟩) hH ?_;try simp only[Act.put,zA,zB,zC]
       refine tkB 30 rfl (v:=?_) ?_ hH ?_;rotate_left
       ·rintro w ⟨k0,k1,k2,k3,k4⟩;go_simp;try with_reducible rfl
       try simp only[Act.put,zA,zB,zC]
       refine dnA ?_;clear hH;have hbd:bad=true:=by rw[hbad];simp[*]
       clear hbad;go_wp2_with fail;go_meet;exact⟨by rw[hbd],(Below.refl W4.heap.size W4).drew.trans HB8.out⟩
      ·have dS':decide ((nd.sum:Int)<297)=false:=decide_eq_false (by omega)
       rcases Bool.eq_false_or_eq_true nd.leaf with hlf | hlf
       ·rw[hlf] at S4 HSUM hbad;have HLF:=Hd hlf;clear hlf
        refine rgA (S:=(fun W=>W.cell? ⟨bm,0,none⟩=some (.int .i64 (s.met+1))∧W.cell? ⟨bt,0,none⟩=some (trp tb)∧W.cell? ⟨tb,0,none⟩=some (Xb f.q)∧W.cell? ⟨w2.heap.size,0,none⟩=some (.bool true)∧W.cell? ⟨w2.heap.size,1,none⟩=some (.slice (some ⟨g2,0,none⟩) nd.l.length vc))) S4.out (fun hH=>?_);refine tkB 0 rfl (v:=?_) ?_ hH ?_;rotate_left
        ·rintro w ⟨k0,k1,k2,k3,k4⟩;go_simp;try with_reducible rfl
        try simp only[Act.put,zA,zB,zC]
        refine tkB 1 rfl (v:=?_) ?_ hH ?_;rotate_left
        ·rintro w ⟨k0,k1,k2,k3,k4⟩;go_simp;try with_reducible rfl
        try simp only[Act.put,zA,zB,zC]
        refine tkB 2 rfl (v:=?_) ?_ hH ?_;rotate_left
        ·rintro w ⟨k0,k1,k2,k3,k4⟩;go_simp;try with_reducible rfl
        try simp only[Act.put,zA,zB,zC]
        refine tkB 3 rfl (v:=?_) ?_ hH ?_;rotate_left
        ·rintro w ⟨k0,k1,k2,k3,k4⟩;go_simp;try with_reducible rfl
        try simp only[Act.put,zA,zB,zC]
        refine tkB 4 rfl (v:=?_) ?_ hH ?_;rotate_left
        ·rintro w ⟨k0,k1,k2,k3,k4⟩;go_simp;try with_reducible rfl
        try simp only[Act.put,zA,zB,zC]
        refine rdA 5 rfl (fun K hK=>?_);go_simp;refine HPGS.out.mono ?_;rintro e w7 ⟨rfl,rfl⟩;go_wp2_with fail;refine hK.out _ _ hH (fun hH=>?_);clear hK K;try simp only[Act.put,zA,zB,zC]
        refine tkB 6 rfl (v:=?_) ?_ hH ?_;rotate_left
        ·rintro w ⟨k0,k1,k2,k3,k4⟩;go_simp;try with_reducible rfl
        try simp only[Act.put,zA,zB,zC]
        refine tkB 7 rfl (v:=?_) ?_ hH ?_;rotate_left
        ·rintro w ⟨k0,k1,k2,k3,k4⟩;go_simp;try with_reducible rfl
        try simp only[Act.put,zA,zB,zC]
        refine tkB 8 rfl (v:=?_) ?_ hH ?_;rotate_left
        ·rintro w ⟨k0,k1,k2,k3,k4⟩;go_simp;try with_reducible rfl
        try simp only[Act.put,zA,zB,zC]
        refine tkB 9 rfl (v:=?_) ?_ hH ?_;rotate_left
        ·rintro w ⟨k0,k1,k2,k3,k4⟩;go_simp;try with_reducible rfl
        try simp only[Act.put,zA,zB,zC]
        refine tkB 10 rfl (v:=?_) ?_ hH ?_;rotate_left
        ·rintro w ⟨k0,k1,k2,k3,k4⟩;go_simp;try with_reducible rfl
        try simp only[Act.put,zA,zB,zC]
        refine tkB 11 rfl (v:=?_) ?_ hH ?_;rotate_left
        ·rintro w ⟨k0,k1,k2,k3,k4⟩;go_simp;try with_reducible rfl
        try simp only[Act.put,zA,zB,zC]
        refine tkB 12 rfl (v:=?_) ?_ hH ?_;rotate_left
        ·rintro w ⟨k0,k1,k2,k3,k4⟩;go_simp;try with_reducible rfl
        try simp only[Act.put,zA,zB,zC]
        refine tkB 13 rfl (v:=?_) ?_ hH ?_;rotate_left
        ·rintro w ⟨k0,k1,k2,k3,k4⟩;go_simp;try with_reducible rfl
        try simp only[Act.put,zA,zB,zC]
        refine tkB 14 rfl (v:=?_) ?_ hH ?_;rotate_left
        ·rintro w ⟨k0,k1,k2,k3,k4⟩;go_simp;try with_reducible rfl
        try simp only[Act.put,zA,zB,zC]
        refine tkB 15 rfl (v:=?_) ?_ hH ?_;rotate_left
        ·rintro w ⟨k0,k1,k2,k3,k4⟩;go_simp;try with_reducible rfl
        try simp only[Act.put,zA,zB,zC]
        refine rdA 16 rfl (fun K hK=>?_);go_simp;refine HSUM.out.mono ?_;rintro e w8 ⟨rfl,hb8⟩;have hS8:w8.cell? ⟨bm,0,none⟩=some (.int .i64 (s.met+1))∧w8.cell? ⟨bt,0,none⟩=some (trp tb)∧w8.cell? ⟨tb,0,none⟩=some (Xb f.q)∧w8.cell? ⟨w2.heap.size,0,none⟩=some (.bool true)∧w8.cell? ⟨w2.heap.size,1,none⟩=some (.slice (some ⟨g2,0,none⟩) nd.l.length vc):=⟨Zi hb8 _ _ S4.out.1,Zi hb8 _ _ S4.out.2.1,Zi hb8 _ _ S4.out.2.2.1,Zi hb8 _ _ S4.out.2.2.2.1,Zi hb8 _ _ S4.out.2.2.2.2⟩
        have HB8:=Hd hb8;clear hb8;go_wp2_with fail;refine hK.out _ _ hS8 (fun hH=>?_);clear hS8;clear hK K;try simp only[Act.put,zA,zB,zC]
        refine tkB 17 rfl (v:=?_) ?_ hH ?_;rotate_left
        ·rintro w ⟨k0,k1,k2,k3,k4⟩;go_simp;try with_reducible rfl
        try simp only[Act.put,zA,zB,zC]
        refine tkB 18 rfl (v:=?_) ?_ hH ?_;rotate_left
        ·rintro w ⟨k0,k1,k2,k3,k4⟩;go_simp;try with_reducible rfl
        try simp only[Act.put,zA,zB,zC]
        refine tkB 19 rfl (v:=?_) ?_ hH ?_;rotate_left
        ·rintro w ⟨k0,k1,k2,k3,k4⟩;go_simp;try with_reducible rfl
        try simp only[Act.put,zA,zB,zC]
        refine tkB 20 rfl (v:=?_) ?_ hH ?_;rotate_left
        ·rintro w ⟨k0,k1,k2,k3,k4⟩;go_simp;try with_reducible rfl
        try simp only[Act.put,zA,zB,zC]
        refine tkB 21 rfl (v:=?_) ?_ hH ?_;rotate_left
        ·rintro w ⟨k0,k1,k2,k3,k4⟩;go_simp;try with_reducible rfl
        try simp only[Act.put,zA,zB,zC]
        refine tkB 22 rfl (v:=?_) ?_ hH ?_;rotate_left
        ·rintro w ⟨k0,k1,k2,k3,k4⟩;go_simp;try with_reducible rfl
        try simp only[Act.put,zA,zB,zC]
        refine tkB 23 rfl (v:=?_) ?_ hH ?_;rotate_left
        ·rintro w ⟨k0,k1,k2,k3,k4⟩;go_simp;try with_reducible rfl
        try simp only[Act.put,zA,zB,zC]
        refine tkB 24 rfl (v:=?_) ?_ hH ?_;rotate_left
        ·rintro w ⟨k0,k1,k2,k3,k4⟩;go_simp;try with_reducible rfl
        try simp only[Act.put,zA,zB,zC]
        refine tkA 25 rfl (v:=undef) (Or.inr ⟨by rfl,rfl⟩) hH ?_;try simp only[Act.put,zA,zB,zC]
        refine tkA 26 rfl (v:=undef) (Or.inr ⟨by rfl,rfl⟩) hH ?_;try simp only[Act.put,zA,zB,zC]
        refine tkA 27 rfl (v:=undef) (Or.inr ⟨by rfl,rfl⟩) hH ?_;try simp only[Act.put,zA,zB,zC]
        refine tkA 28 rfl (v:=undef) (Or.inr ⟨by rfl,rfl⟩) hH ?_;try simp only[Act.put,zA,zB,zC]
        refine tkB 29 rfl (v:=?_) ?_ hH ?_;rotate_left
        ·rintro w ⟨k0,k1,k2,k3,k4⟩;go_simp;try with_reducible rfl
        try simp only[Act.put,zA,zB,zC]
        refine tkB 30 rfl (v:=?_) ?_ hH ?_;rotate_left
        ·rintro w ⟨k0,k1,k2,k3,k4⟩;go_simp;try with_reducible rfl
        try simp only[Act.put,zA,zB,zC]
        refine dnA ?_;clear hH;have hbd:bad=false:=by rw[hbad];simp[*]
        clear hbad;go_wp2_with fail;go_meet;exact⟨by rw[hbd],(Below.refl W4.heap.size W4).drew.trans HB8.out⟩
       ·rw[hlf] at S4 HSUM hbad;have HLF:=Hd hlf;clear hlf
        refine rgA (S:=(fun W=>W.cell? ⟨bm,0,none⟩=some (.int .i64 (s.met+1))∧W.cell? ⟨bt,0,none⟩=some (trp tb)∧W.cell? ⟨tb,0,none⟩=some (Xb f.q)∧W.cell? ⟨w2.heap.size,0,none⟩=some (.bool false)∧W.cell? ⟨w2.heap.size,1,none⟩=some (.slice (some ⟨g2,0,none⟩) nd.l.length vc))) S4.out (fun hH=>?_);refine tkB 0 rfl (v:=?_) ?_ hH ?_;rotate_left
        ·rintro w ⟨k0,k1,k2,k3,k4⟩;go_simp;try with_reducible rfl
        try simp only[Act.put,zA,zB,zC]
        refine tkB 1 rfl (v:=?_) ?_ hH ?_;rotate_left
        ·rintro w ⟨k0,k1,k2,k3,k4⟩;go_simp;try with_reducible rfl
        try simp only[Act.put,zA,zB,zC]
        refine tkB 2 rfl (v:=?_) ?_ hH ?_;rotate_left
        ·rintro w ⟨k0,k1,k2,k3,k4⟩;go_simp;try with_reducible rfl
        try simp only[Act.put,zA,zB,zC]
        refine tkB 3 rfl (v:=?_) ?_ hH ?_;rotate_left
        ·rintro w ⟨k0,k1,k2,k3,k4⟩;go_simp;try with_reducible rfl
        try simp only[Act.put,zA,zB,zC]
        refine tkB 4 rfl (v:=?_) ?_ hH ?_;rotate_left
        ·rintro w ⟨k0,k1,k2,k3,k4⟩;go_simp;try with_reducible rfl
        try simp only[Act.put,zA,zB,zC]
        refine rdA 5 rfl (fun K hK=>?_);go_simp;refine HPGS.out.mono ?_;rintro e w7 ⟨rfl,rfl⟩;go_wp2_with fail;refine hK.out _ _ hH (fun hH=>?_);clear hK K;try simp only[Act.put,zA,zB,zC]
        refine tkB 6 rfl (v:=?_) ?_ hH ?_;rotate_left
        ·rintro w ⟨k0,k1,k2,k3,k4⟩;go_simp;try with_reducible rfl
        try simp only[Act.put,zA,zB,zC]
        refine tkB 7 rfl (v:=?_) ?_ hH ?_;rotate_left
        ·rintro w ⟨k0,k1,k2,k3,k4⟩;go_simp;try with_reducible rfl
        try simp only[Act.put,zA,zB,zC]
        refine tkB 8 rfl (v:=?_) ?_ hH ?_;rotate_left
        ·rintro w ⟨k0,k1,k2,k3,k4⟩;go_simp;try with_reducible rfl
        try simp only[Act.put,zA,zB,zC]
        refine tkB 9 rfl (v:=?_) ?_ hH ?_;rotate_left
        ·rintro w ⟨k0,k1,k2,k3,k4⟩;go_simp;try with_reducible rfl
        try simp only[Act.put,zA,zB,zC]
        refine tkB 10 rfl (v:=?_) ?_ hH ?_;rotate_left
        ·rintro w ⟨k0,k1,k2,k3,k4⟩;go_simp;try with_reducible rfl
        try simp only[Act.put,zA,zB,zC]
        refine tkB 11 rfl (v:=?_) ?_ hH ?_;rotate_left
        ·rintro w ⟨k0,k1,k2,k3,k4⟩;go_simp;try with_reducible rfl
        try simp only[Act.put,zA,zB,zC]
        refine tkB 12 rfl (v:=?_) ?_ hH ?_;rotate_left
        ·rintro w ⟨k0,k1,k2,k3,k4⟩;go_simp;try with_reducible rfl
        try simp only[Act.put,zA,zB,zC]
        refine tkB 13 rfl (v:=?_) ?_ hH ?_;rotate_left
        ·rintro w ⟨k0,k1,k2,k3,k4⟩;go_simp;try with_reducible rfl
        try simp only[Act.put,zA,zB,zC]
        refine tkB 14 rfl (v:=?_) ?_ hH ?_;rotate_left
        ·rintro w ⟨k0,k1,k2,k3,k4⟩;go_simp;try with_reducible rfl
        try simp only[Act.put,zA,zB,zC]
        refine tkB 15 rfl (v:=?_) ?_ hH ?_;rotate_left
        ·rintro w ⟨k0,k1,k2,k3,k4⟩;go_simp;try with_reducible rfl
        try simp only[Act.put,zA,zB,zC]
        refine rdA 16 rfl (fun K hK=>?_);go_simp;refine HSUM.out.mono ?_;rintro e w8 ⟨rfl,hb8⟩;have hS8:w8.cell? ⟨bm,0,none⟩=some (.int .i64 (s.met+1))∧w8.cell? ⟨bt,0,none⟩=some (trp tb)∧w8.cell? ⟨tb,0,none⟩=some (Xb f.q)∧w8.cell? ⟨w2.heap.size,0,none⟩=some (.bool false)∧w8.cell? ⟨w2.heap.size,1,none⟩=some (.slice (some ⟨g2,0,none⟩) nd.l.length vc):=⟨Zi hb8 _ _ S4.out.1,Zi hb8 _ _ S4.out.2.1,Zi hb8 _ _ S4.out.2.2.1,Zi hb8 _ _ S4.out.2.2.2.1,Zi hb8 _ _ S4.out.2.2.2.2⟩
        have HB8:=Hd hb8;clear hb8;go_wp2_with fail;refine hK.out _ _ hS8 (fun hH=>?_);clear hS8;clear hK K;try simp only[Act.put,zA,zB,zC]
        refine tkB 17 rfl (v:=?_) ?_ hH ?_;rotate_left
        ·rintro w ⟨k0,k1,k2,k3,k4⟩;go_simp;try with_reducible rfl
        try simp only[Act.put,zA,zB,zC]
        refine tkB 18 rfl (v:=?_) ?_ hH ?_;rotate_left
        ·rintro w ⟨k0,k1,k2,k3,k4⟩;go_simp;try with_reducible rfl
        try simp only[Act.put,zA,zB,zC]
        refine tkB 19 rfl (v:=?_) ?_ hH ?_;rotate_left
        ·rintro w ⟨k0,k1,k2,k3,k4⟩;go_simp;try with_reducible rfl
        try simp only[Act.put,zA,zB,zC]
        refine tkB 20 rfl (v:=?_) ?_ hH ?_;rotate_left
        ·rintro w ⟨k0,k1,k2,k3,k4⟩;go_simp;try with_reducible rfl
        try simp only[Act.put,zA,zB,zC]
        refine tkB 21 rfl (v:=?_) ?_ hH ?_;rotate_left
        ·rintro w ⟨k0,k1,k2,k3,k4⟩;go_simp;try with_reducible rfl
        try simp only[Act.put,zA,zB,zC]
        refine tkB 22 rfl (v:=?_) ?_ hH ?_;rotate_left
        ·rintro w ⟨k0,k1,k2,k3,k4⟩;go_simp;try with_reducible rfl
        try simp only[Act.put,zA,zB,zC]
        refine tkB 23 rfl (v:=?_) ?_ hH ?_;rotate_left
        ·rintro w ⟨k0,k1,k2,k3,k4⟩;go_simp;try with_reducible rfl
        try simp only[Act.put,zA,zB,zC]
        refine tkB 24 rfl (v:=?_) ?_ hH ?_;rotate_left
        ·rintro w ⟨k0,k1,k2,k3,k4⟩;go_simp;try with_reducible rfl
        try simp only[Act.put,zA,zB,zC]
        refine tkB 25 rfl (v:=?_) ?_ hH ?_;rotate_left
        ·rintro w ⟨k0,k1,k2,k3,k4⟩;go_simp;try with_reducible rfl
        try simp only[Act.put,zA,zB,zC]
        refine tkB 26 rfl (v:=?_) ?_ hH ?_;rotate_left
        ·rintro w ⟨k0,k1,k2,k3,k4⟩;go_simp;try with_reducible rfl
        try simp only[Act.put,zA,zB,zC]
        refine tkB 27 rfl (v:=?_) ?_ hH ?_;rotate_left
        ·rintro w ⟨k0,k1,k2,k3,k4⟩;go_simp;try with_reducible rfl
        try simp only[Act.put,zA,zB,zC]
        refine tkB 28 rfl (v:=?_) ?_ hH ?_;rotate_left
        ·rintro w ⟨k0,k1,k2,k3,k4⟩;go_simp;try with_reducible rfl
        try simp only[Act.put,zA,zB,zC]
        refine tkB 29 rfl (v:=?_) ?_ hH ?_;rotate_left
        ·rintro w ⟨k0,k1,k2,k3,k4⟩;go_simp;try with_reducible rfl
        try simp only[Act.put,zA,zB,zC]
        refine tkB 30 rfl (v:=?_) ?_ hH ?_;rotate_left
        ·rintro w ⟨k0,k1,k2,k3,k4⟩;go_simp;try with_reducible rfl
        try simp only[Act.put,zA,zB,zC]
        refine dnA ?_;clear hH;have hbd:bad=decide ((nd.l.length:Int)<2):=by rw[hbad];simp[*]
        clear hbad;go_wp2_with fail;go_meet;exact⟨by rw[hbd],(Below.refl W4.heap.size W4).drew.trans HB8.out⟩
     | true =>
      rcases Bool.eq_false_or_eq_true nd.leaf with hlf | hlf
      ·rw[hlf] at S4 HSUM hbad;have HLF:=Hd hlf;clear hlf
       refine rgA (S:=(fun W=>W.cell? ⟨bm,0,none⟩=some (.int .i64 (s.met+1))∧W.cell? ⟨bt,0,none⟩=some (trp tb)∧W.cell? ⟨tb,0,none⟩=some (Xb f.q)∧W.cell? ⟨w2.heap.size,0,none⟩=some (.bool true)∧W.cell? ⟨w2.heap.size,1,none⟩=some (.slice (some ⟨g2,0,none⟩) nd.l.length vc))) S4.out (fun hH=>?_);refine tkB 0 rfl (v:=?_) ?_ hH ?_;rotate_left
       ·rintro w ⟨k0,k1,k2,k3,k4⟩;go_simp;try with_reducible rfl
       try simp only[Act.put,zA,zB,zC]
       refine tkB 1 rfl (v:=?_) ?_ hH ?_;rotate_left
       ·rintro w ⟨k0,k1,k2,k3,k4⟩;go_simp;try with_reducible rfl
       try simp only[Act.put,zA,zB,zC]
       refine tkB 2 rfl (v:=?_) ?_ hH ?_;rotate_left
       ·rintro w ⟨k0,k1,k2,k3,k4⟩;go_simp;try with_reducible rfl
       try simp only[Act.put,zA,zB,zC]
       refine tkB 3 rfl (v:=?_) ?_ hH ?_;rotate_left
       ·rintro w ⟨k0,k1,k2,k3,k4⟩;go_simp;try with_reducible rfl
       try simp only[Act.put,zA,zB,zC]
       refine tkB 4 rfl (v:=?_) ?_ hH ?_;rotate_left
       ·rintro w ⟨k0,k1,k2,k3,k4⟩;go_simp;try with_reducible rfl
       try simp only[Act.put,zA,zB,zC]
       refine rdA 5 rfl (fun K hK=>?_);go_simp;refine HPGS.out.mono ?_;rintro e w7 ⟨rfl,rfl⟩;go_wp2_with fail;refine hK.out _ _ hH (fun hH=>?_);clear hK K;try simp only[Act.put,zA,zB,zC]
       refine tkB 6 rfl (v:=?_) ?_ hH ?_;rotate_left
       ·rintro w ⟨k0,k1,k2,k3,k4⟩;go_simp;try with_reducible rfl
       try simp only[Act.put,zA,zB,zC]
       refine tkB 7 rfl (v:=?_) ?_ hH ?_;rotate_left
       ·rintro w ⟨k0,k1,k2,k3,k4⟩;go_simp;try with_reducible rfl
       try simp only[Act.put,zA,zB,zC]
       refine tkB 8 rfl (v:=?_) ?_ hH ?_;rotate_left
       ·rintro w ⟨k0,k1,k2,k3,k4⟩;go_simp;try with_reducible rfl
       try simp only[Act.put,zA,zB,zC]
       refine tkB 9 rfl (v:=?_) ?_ hH ?_;rotate_left
       ·rintro w ⟨k0,k1,k2,k3,k4⟩;go_simp;try with_reducible rfl
       try simp only[Act.put,zA,zB,zC]
       refine tkB 10 rfl (v:=?_) ?_ hH ?_;rotate_left
       ·rintro w ⟨k0,k1,k2,k3,k4⟩;go_simp;try with_reducible rfl
       try simp only[Act.put,zA,zB,zC]
       refine tkB 11 rfl (v:=?_) ?_ hH ?_;rotate_left
       ·rintro w ⟨k0,k1,k2,k3,k4⟩;go_simp;try with_reducible rfl
       try simp only[Act.put,zA,zB,zC]
       refine tkB 12 rfl (v:=?_) ?_ hH ?_;rotate_left
       ·rintro w ⟨k0,k1,k2,k3,k4⟩;go_simp;try with_reducible rfl
       try simp only[Act.put,zA,zB,zC]
       refine tkB 13 rfl (v:=?_) ?_ hH ?_;rotate_left
       ·rintro w ⟨k0,k1,k2,k3,k4⟩;go_simp;try with_reducible rfl
       try simp only[Act.put,zA,zB,zC]
       refine tkB 14 rfl (v:=?_) ?_ hH ?_;rotate_left
       ·rintro w ⟨k0,k1,k2,k3,k4⟩;go_simp;try with_reducible rfl
       try simp only[Act.put,zA,zB,zC]
       refine tkA 15 rfl (v:=undef) (Or.inr ⟨by rfl,rfl⟩) hH ?_;try simp only[Act.put,zA,zB,zC]
       refine tkA 16 rfl (v:=undef) (Or.inr ⟨by rfl,rfl⟩) hH ?_;try simp only[Act.put,zA,zB,zC]
       refine tkA 17 rfl (v:=undef) (Or.inr ⟨by rfl,rfl⟩) hH ?_;try simp only[Act.put,zA,zB,zC]
       refine tkB 18 rfl (v:=?_) ?_ hH ?_;rotate_left
       ·rintro w ⟨k0,k1,k2,k3,k4⟩;go_simp;try with_reducible rfl
       try simp only[Act.put,zA,zB,zC]
       refine tkB 19 rfl (v:=?_) ?_ hH ?_;rotate_left
       ·rintro w ⟨k0,k1,k2,k3,k4⟩;go_simp;try with_reducible rfl
       try simp only[Act.put,zA,zB,zC]
       refine tkB 20 rfl (v:=?_) ?_ hH ?_;rotate_left
       ·rintro w ⟨k0,k1,k2,k3,k4⟩;go_simp;try with_reducible rfl
       try simp only[Act.put,zA,zB,zC]
       refine tkB 21 rfl (v:=?_) ?_ hH ?_;rotate_left
       ·rintro w ⟨k0,k1,k2,k3,k4⟩;go_simp;try with_reducible rfl
       try simp only[Act.put,zA,zB,zC]
       refine tkB 22 rfl (v:=?_) ?_ hH ?_;rotate_left
       ·rintro w ⟨k0,k1,k2,k3,k4⟩;go_simp;try with_reducible rfl
       try simp only[Act.put,zA,zB,zC]
       refine tkB 23 rfl (v:=?_) ?_ hH ?_;rotate_left
       ·rintro w ⟨k0,k1,k2,k3,k4⟩;go_simp;try with_reducible rfl
       try simp only[Act.put,zA,zB,zC]
       refine tkB 24 rfl (v:=?_) ?_ hH ?_;rotate_left
       ·rintro w ⟨k0,k1,k2,k3,k4⟩;go_simp;try with_reducible rfl
       try simp only[Act.put,zA,zB,zC]
       refine tkA 25 rfl (v:=undef) (Or.inr ⟨by rfl,rfl⟩) hH ?_;try simp only[Act.put,zA,zB,zC]
       refine tkA 26 rfl (v:=undef) (Or.inr ⟨by rfl,rfl⟩) hH ?_;try simp only[Act.put,zA,zB,zC]
       refine tkA 27 rfl (v:=undef) (Or.inr ⟨by rfl,rfl⟩) hH ?_;try simp only[Act.put,zA,zB,zC]
       refine tkA 28 rfl (v:=undef) (Or.inr ⟨by rfl,rfl⟩) hH ?_;try simp only[Act.put,zA,zB,zC]
       refine tkB 29 rfl (v:=?_) ?_ hH ?_;rotate_left
       ·rintro w ⟨k0,k1,k2,k3,k4⟩;go_simp;try with_reducible rfl
       try simp only[Act.put,zA,zB,zC]
       refine tkB 30 rfl (v:=?_) ?_ hH ?_;rotate_left
       ·rintro w ⟨k0,k1,k2,k3,k4⟩;go_simp;try with_reducible rfl
       try simp only[Act.put,zA,zB,zC]
       refine dnA ?_;clear hH;have hbd:bad=false:=by rw[hbad];simp[*]
       clear hbad;go_wp2_with fail;go_meet;exact⟨by rw[hbd],(Below.refl _ _).drew⟩
      ·rw[hlf] at S4 HSUM hbad;have HLF:=Hd hlf;clear hlf
       refine rgA (S:=(fun W=>W.cell? ⟨bm,0,none⟩=some (.int .i64 (s.met+1))∧W.cell? ⟨bt,0,none⟩=some (trp tb)∧W.cell? ⟨tb,0,none⟩=some (Xb f.q)∧W.cell? ⟨w2.heap.size,0,none⟩=some (.bool false)∧W.cell? ⟨w2.heap.size,1,none⟩=some (.slice (some ⟨g2,0,none⟩) nd.l.length vc))) S4.out (fun hH=>?_);refine tkB 0 rfl (v:=?_) ?_ hH ?_;rotate_left
       ·rintro w ⟨k0,k1,k2,k3,k4⟩;go_simp;try with_reducible rfl
       try simp only[Act.put,zA,zB,zC]
       refine tkB 1 rfl (v:=?_) ?_ hH ?_;rotate_left
       ·rintro w ⟨k0,k1,k2,k3,k4⟩;go_simp;try with_reducible rfl
       try simp only[Act.put,zA,zB,zC]
       refine tkB 2 rfl (v:=?_) ?_ hH ?_;rotate_left
       ·rintro w ⟨k0,k1,k2,k3,k4⟩;go_simp;try with_reducible rfl
       try simp only[Act.put,zA,zB,zC]
       refine tkB 3 rfl (v:=?_) ?_ hH ?_;rotate_left
       ·rintro w ⟨k0,k1,k2,k3,k4⟩;go_simp;try with_reducible rfl
       try simp only[Act.put,zA,zB,zC]
       refine tkB 4 rfl (v:=?_) ?_ hH ?_;rotate_left
       ·rintro w ⟨k0,k1,k2,k3,k4⟩;go_simp;try with_reducible rfl
       try simp only[Act.put,zA,zB,zC]
       refine rdA 5 rfl (fun K hK=>?_);go_simp;refine HPGS.out.mono ?_;rintro e w7 ⟨rfl,rfl⟩;go_wp2_with fail;refine hK.out _ _ hH (fun hH=>?_);clear hK K;try simp only[Act.put,zA,zB,zC]
       refine tkB 6 rfl (v:=?_) ?_ hH ?_;rotate_left
       ·rintro w ⟨k0,k1,k2,k3,k4⟩;go_simp;try with_reducible rfl
       try simp only[Act.put,zA,zB,zC]
       refine tkB 7 rfl (v:=?_) ?_ hH ?_;rotate_left
       ·rintro w ⟨k0,k1,k2,k3,k4⟩;go_simp;try with_reducible rfl
       try simp only[Act.put,zA,zB,zC]
       refine tkB 8 rfl (v:=?_) ?_ hH ?_;rotate_left
       ·rintro w ⟨k0,k1,k2,k3,k4⟩;go_simp;try with_reducible rfl
       try simp only[Act.put,zA,zB,zC]
       refine tkB 9 rfl (v:=?_) ?_ hH ?_;rotate_left
       ·rintro w ⟨k0,k1,k2,k3,k4⟩;go_simp;try with_reducible rfl
       try simp only[Act.put,zA,zB,zC]
       refine tkB 10 rfl (v:=?_) ?_ hH ?_;rotate_left
       ·rintro w ⟨k0,k1,k2,k3,k4⟩;go_simp;try with_reducible rfl
       try simp only[Act.put,zA,zB,zC]
       refine tkB 11 rfl (v:=?_) ?_ hH ?_;rotate_left
       ·rintro w ⟨k0,k1,k2,k3,k4⟩;go_simp;try with_reducible rfl
       try simp only[Act.put,zA,zB,zC]
       refine tkB 12 rfl (v:=?_) ?_ hH ?_;rotate_left
       ·rintro w ⟨k0,k1,k2,k3,k4⟩;go_simp;try with_reducible rfl
       try simp only[Act.put,zA,zB,zC]
       refine tkB 13 rfl (v:=?_) ?_ hH ?_;rotate_left
       ·rintro w ⟨k0,k1,k2,k3,k4⟩;go_simp;try with_reducible rfl
       try simp only[Act.put,zA,zB,zC]
       refine tkB 14 rfl (v:=?_) ?_ hH ?_;rotate_left
       ·rintro w ⟨k0,k1,k2,k3,k4⟩;go_simp;try with_reducible rfl
       try simp only[Act.put,zA,zB,zC]
       refine tkA 15 rfl (v:=undef) (Or.inr ⟨by rfl,rfl⟩) hH ?_;try simp only[Act.put,zA,zB,zC]
       refine tkA 16 rfl (v:=undef) (Or.inr ⟨by rfl,rfl⟩) hH ?_;try simp only[Act.put,zA,zB,zC]
       refine tkA 17 rfl (v:=undef) (Or.inr ⟨by rfl,rfl⟩) hH ?_;try simp only[Act.put,zA,zB,zC]
       refine tkB 18 rfl (v:=?_) ?_ hH ?_;rotate_left
       ·rintro w ⟨k0,k1,k2,k3,k4⟩;go_simp;try with_reducible rfl
       try simp only[Act.put,zA,zB,zC]
       refine tkB 19 rfl (v:=?_) ?_ hH ?_;rotate_left
       ·rintro w ⟨k0,k1,k2,k3,k4⟩;go_simp;try with_reducible rfl
       try simp only[Act.put,zA,zB,zC]
       refine tkB 20 rfl (v:=?_) ?_ hH ?_;rotate_left
       ·rintro w ⟨k0,k1,k2,k3,k4⟩;go_simp;try with_reducible rfl
       try simp only[Act.put,zA,zB,zC]
       refine tkB 21 rfl (v:=?_) ?_ hH ?_;rotate_left
       ·rintro w ⟨k0,k1,k2,k3,k4⟩;go_simp;try with_reducible rfl
       try simp only[Act.put,zA,zB,zC]
       refine tkB 22 rfl (v:=?_) ?_ hH ?_;rotate_left
       ·rintro w ⟨k0,k1,k2,k3,k4⟩;go_simp;try with_reducible rfl
       try simp only[Act.put,zA,zB,zC]
       refine tkB 23 rfl (v:=?_) ?_ hH ?_;rotate_left
       ·rintro w ⟨k0,k1,k2,k3,k4⟩;go_simp;try with_reducible rfl
       try simp only[Act.put,zA,zB,zC]
       refine tkB 24 rfl (v:=?_) ?_ hH ?_;rotate_left
       ·rintro w ⟨k0,k1,k2,k3,k4⟩;go_simp;try with_reducible rfl
       try simp only[Act.put,zA,zB,zC]
       refine tkB 25 rfl (v:=?_) ?_ hH ?_;rotate_left
       ·rintro w ⟨k0,k1,k2,k3,k4⟩;go_simp;try with_reducible rfl
       try simp only[Act.put,zA,zB,zC]
       refine tkB 26 rfl (v:=?_) ?_ hH ?_;rotate_left
       ·rintro w ⟨k0,k1,k2,k3,k4⟩;go_simp;try with_reducible rfl
       try simp only[Act.put,zA,zB,zC]
       refine tkB 27 rfl (v:=?_) ?_ hH ?_;rotate_left
       ·rintro w ⟨k0,k1,k2,k3,k4⟩;go_simp;try with_reducible rfl
       try simp only[Act.put,zA,zB,zC]
       refine tkB 28 rfl (v:=?_) ?_ hH ?_;rotate_left
       ·rintro w ⟨k0,k1,k2,k3,k4⟩;go_simp;try with_reducible rfl
       try simp only[Act.put,zA,zB,zC]
       refine tkB 29 rfl (v:=?_) ?_ hH ?_;rotate_left
       ·rintro w ⟨k0,k1,k2,k3,k4⟩;go_simp;try with_reducible rfl
       try simp only[Act.put,zA,zB,zC]
       refine tkB 30 rfl (v:=?_) ?_ hH ?_;rotate_left
       ·rintro w ⟨k0,k1,k2,k3,k4⟩;go_simp;try with_reducible rfl
       try simp only[Act.put,zA,zB,zC]
       refine dnA ?_;clear hH;have hbd:bad=decide ((nd.l.length:Int)<2):=by rw[hbad];simp[*]
       clear hbad;go_wp2_with fail;go_meet;exact⟨by rw[hbd],(Below.refl _ _).drew⟩
  case rest =>
   obtain⟨rfl,hbw⟩:=hcut;have hso5:=HSO4.out.below hbw
   have ht5:Zb (fun k=>PJ F p f k∨k=bm∨k=bb) W wc:=HT4.out.trans (Zb.of_below hbw);have hn5:=(hbw.block _ (Za HN4.out)).trans HN4.out;have hE5:=HE4.out.below hbw;have HSO5:=Hd hso5;have HT5:=Hd ht5;have HN5:=Hd hn5;have HE5:=Hd hE5;have HBADD:=Hd hbad;clear S4 HSUM HPGS hso5 ht5 hn5 hE5 hbw cm3 fm3 hbad HSM
   cases bad with
   | true =>
    have HE:Hid (SwEnd n J seq B F p f R tb bt bm bb bw W (R.soundN (g+1) page lo hi top s) (.returned (.int .i64 103)) wc):=Hd (by
     have hr:R.soundN (g+1) page lo hi top s=(103,⟨s.met+1,s.bottom⟩):=by
      rw[Rp.soundN,HLDD.out];dsimp only;rw[if_pos];have hb:=HBADD.out
      simp only[Bool.true_eq,Bool.or_eq_true,Bool.and_eq_true,decide_eq_true_eq,Bool.not_eq_true'] at hb;rcases hb with h | h | ⟨h1,h2⟩ | ⟨h1,h2⟩
      ·exact .inl h
      ·exact .inr (.inl (by omega))
      ·exact .inr (.inr (.inl ⟨h1,h2⟩))
      ·exact .inr (.inr (.inr ⟨h1,by omega⟩))
     rw[hr]
     exact⟨rfl,HSO5.out,HT5.out,fun e=>absurd (show (103:Int)=0 from e) (by decide),HB0.out,HB1.out⟩)
    go_wp2_with fail;go_ret;exact HE.out
   | false =>
    have hb2:¬((R.pages.length:Int)<s.met+1∨g=0∨(top=false∧nd.sum<297)∨(nd.leaf=false∧nd.l.length<2)):=fun h=>by
     have hb:=HBADD.out
     have:(decide ((R.pages.length:Int)<s.met+1)||(decide (40<41 - (g:Int))||((!top&&decide (nd.sum<297))||(!nd.leaf&&decide ((nd.l.length:Int)<2)))))=true:=by
      simp only[Bool.or_eq_true,Bool.and_eq_true,decide_eq_true_eq,Bool.not_eq_true'];rcases h with h | h | h | h
      ·exact .inl h
      ·exact .inr (.inl (by omega))
      ·exact .inr (.inr (.inl h))
      ·exact .inr (.inr (.inr ⟨h.1,by omega⟩))
     rw[this] at hb;cases hb
    have HNB:=Hd hb2;have n0:=(Zc HN5.out).1;have n1:=(Zc HN5.out).2;have cb:=(cell_of_row _ _ 0 _ _ _ HSO5.out.hbb).trans rfl;have fb:=Zf HSO5.out.hbb 0;obtain⟨c7,hc7⟩:∃b:Bool,b=(nd.leaf&&(decide (0≤s.bottom)&&(s.bottom != 41 - (g:Int)))):=⟨_,rfl⟩;have HC7:=Hd hc7;clear hb2 hc7;go_upto_region 7 with fail;go_cut [74] from 64 to 74 (fun b wx=>b=.bool c7∧wc=wx)
    case first =>
     have hc7:=HC7.out;rcases Bool.eq_false_or_eq_true nd.leaf with hlf | hlf
     ·rw[hlf] at n0
      by_cases d2:0≤s.bottom
      ·have d2':decide (0≤s.bottom)=true:=decide_eq_true d2
       rw[hlf,d2'] at hc7;have HLF:=Hd hlf
       have HCC:=Hd hc7;clear hlf d2 hc7;go_wp2_with fail;go_meet;exact⟨by rw[HCC.out];simp,rfl⟩
      ·have d2':decide (0≤s.bottom)=false:=decide_eq_false d2
       rw[hlf,d2'] at hc7;have HLF:=Hd hlf
       have HCC:=Hd hc7;clear hlf d2 hc7;go_wp2_with fail;go_meet;exact⟨by rw[HCC.out];simp,rfl⟩
     ·rw[hlf] at n0 hc7;have HLF:=Hd hlf;have HCC:=Hd hc7;clear hlf hc7;go_wp2_with fail;go_meet;exact⟨by rw[HCC.out];simp,rfl⟩
    case rest =>
     obtain⟨rfl,rfl⟩:=hcut
     cases c7 with
     | true =>
      have HE:Hid (SwEnd n J seq B F p f R tb bt bm bb bw W (R.soundN (g+1) page lo hi top s) (.returned (.int .i64 103)) wc):=Hd (by
       have hr:R.soundN (g+1) page lo hi top s=(103,⟨s.met+1,s.bottom⟩):=by
        rw[Rp.soundN,HLDD.out];dsimp only;have hc:=HC7.out
        simp only[Bool.true_eq,Bool.and_eq_true,decide_eq_true_eq,bne_iff_ne] at hc;rw[if_neg HNB.out,if_pos hc]
       rw[hr]
       exact⟨rfl,HSO5.out,HT5.out,fun e=>absurd (show (103:Int)=0 from e) (by decide),HB0.out,HB1.out⟩)
      go_wp2_with fail;go_ret;exact HE.out
     | false =>
      have hc7:¬(nd.leaf=true∧0≤s.bottom∧s.bottom≠41 - (g:Int)):=fun h=>by
       have hc:=HC7.out;have:(nd.leaf&&(decide (0≤s.bottom)&&(s.bottom != 41 - (g:Int))))=true:=by simp only[Bool.and_eq_true,decide_eq_true_eq,bne_iff_ne];exact h
       rw[this] at hc;cases hc
      have HNC:=Hd hc7;clear hc7;have hgm:s.met+1≤R.pages.length:=by have:=HNB.out;omega
      have HGM:=Hd hgm;have hg1:g≠0:=fun e=>HNB.out (.inr (.inl e));have HG1:=Hd hg1;clear hgm hg1;obtain⟨s1,hs1⟩:∃s1:SoS,s1=⟨s.met+1,if nd.leaf then 41 - (g:Int) else s.bottom⟩:=⟨_,rfl⟩
      have HSS1:=Hd hs1;clear hs1;go_upto_if 76 with fail;go_cut [] (fun wx=>SoAt n J seq B F p f R tb bt bm bb bw wx s1∧Zb (fun k=>PJ F p f k∨k=bm∨k=bb) W wx∧wx.heap[w2.heap.size]?=some (ndO nd.leaf (.slice (some ⟨g2,0,none⟩) nd.l.length vc))∧IsE wx (.slice (some ⟨g2,0,none⟩) nd.l.length vc) nd.l∧wc.heap.size≤wx.heap.size)
      case first =>
       rcases Bool.eq_false_or_eq_true nd.leaf with hlf | hlf
       ·have hs1:=HSS1.out
        rw[hlf,if_pos rfl] at hs1;have ht6:=Zd wc bb 0 (.int .i64 (41 - (g:Int)))
        have HM:Hid (SoAt n J seq B F p f R tb bt bm bb bw (wc.setCell ⟨bb,0,none⟩ (.int .i64 (41 - (g:Int)))) s1∧Zb (fun k=>PJ F p f k∨k=bm∨k=bb) W (wc.setCell ⟨bb,0,none⟩ (.int .i64 (41 - (g:Int))))∧(wc.setCell ⟨bb,0,none⟩ (.int .i64 (41 - (g:Int)))).heap[w2.heap.size]?=some (ndO nd.leaf (.slice (some ⟨g2,0,none⟩) nd.l.length vc))∧IsE (wc.setCell ⟨bb,0,none⟩ (.int .i64 (41 - (g:Int)))) (.slice (some ⟨g2,0,none⟩) nd.l.length vc) nd.l∧wc.heap.size≤(wc.setCell ⟨bb,0,none⟩ (.int .i64 (41 - (g:Int)))).heap.size):=Hd ⟨by rw[hs1];exact HSO5.out.bot HLOW.out _,HT5.out.trans (ht6.mono fun k _ e=>.inr (.inr e)),Yg ht6 (by have:=HBBW.out;have:=HSZ.out;omega) HN5.out,by
         refine HE5.out.turned ht6 ?_;rintro k ⟨x,n',c',e,rfl⟩;simp only[Value.slice.injEq,Option.some.injEq] at e;obtain⟨rfl,_⟩:=e;show ¬g2=bb
         have:=HBBW.out;have:=HGG.out;omega,ht6.size⟩
        have HLF:=Hd hlf;clear hs1 ht6;try rw[hlf]
        clear hlf;go_wp2_with fail;go_meet;exact HM.out
       ·have hs1:=HSS1.out
        rw[hlf,if_neg (by simp)] at hs1;have HM:Hid (SoAt n J seq B F p f R tb bt bm bb bw wc s1∧Zb (fun k=>PJ F p f k∨k=bm∨k=bb) W wc∧wc.heap[w2.heap.size]?=some (ndO nd.leaf (.slice (some ⟨g2,0,none⟩) nd.l.length vc))∧IsE wc (.slice (some ⟨g2,0,none⟩) nd.l.length vc) nd.l∧wc.heap.size≤wc.heap.size):=Hd ⟨by rw[hs1];exact HSO5.out,HT5.out,HN5.out,HE5.out,Nat.le_refl _⟩
        have HLF:=Hd hlf;clear hs1;try rw[hlf]
        clear hlf;go_wp2_with fail;go_meet;exact HM.out
      case rest =>
       obtain⟨hso6,ht6,hn6,hE6,hsz6⟩:=hcut;have hx0:R.soundN (g+1) page lo hi top s=Xt nd.leaf lo hi (fun kid lo hi s=>Rp.soundN R g kid lo hi false s) 0 nd.l s1:=by rw[Rp.soundN,HLDD.out];dsimp only;rw[if_neg HNB.out,if_neg HNC.out,HSS1.out]
       have hs1m:s1.met=s.met+1:=by rw[HSS1.out]
       have hs1b:s1.bottom=(if nd.leaf then 41 - (g:Int) else s.bottom):=by rw[HSS1.out]
       have hb1:-1≤s1.bottom∧s1.bottom≤41:=by
        rw[hs1b];have:=HB0.out;have:=HB1.out
        split<;>omega
       have HX0:=Hd hx0;have HS1M:=Hd hs1m;have HS1B:=Hd hb1;have HSO6:=Hd hso6;have HT6:=Hd ht6;have HN6:=Hd hn6;have HE6:=Hd hE6
       have HPJL:Hid (∀k,PJ F p f k∨k=bm∨k=bb→k<W.heap.size):=Hd fun k hk=>by
        rcases hk with e | e | e
        ·exact HSO.out.tr.lp.lt e
        ·rw[e];exact HBMW.out
        ·rw[e];exact HBBW.out
       have q1:=(Zc hn6).2;clear n0 n1 cb fb hso6 ht6 hn6 hE6 hsz6 hx0 hs1m hs1b hb1;go_wp2_with fail;go_loopw [81] (fun i wr=>∃(k:Nat) (s':SoS),k≤nd.l.length∧i=.int .i64 (k:Int)∧R.soundN (g+1) page lo hi top s=Xt nd.leaf lo hi (fun kid lo hi s=>Rp.soundN R g kid lo hi false s) k (nd.l.drop k) s'∧SoAt n J seq B F p f R tb bt bm bb bw wr s'∧Zb (fun k=>PJ F p f k∨k=bm∨k=bb) wc wr∧0≤s'.met∧s'.met≤R.pages.length∧-1≤s'.bottom∧s'.bottom≤41) (fun i _=>nd.l.length - (intOf i).toNat)
       case atStart=>exact⟨0,s1,Nat.zero_le _,rfl,by rw[List.drop_zero];exact HX0.out,HSO6.out,Zb.refl _ _,by have:=HS1M.out;have:=HM0.out;omega,by have:=HS1M.out;have:=HGM.out;omega,HS1B.out.1,HS1B.out.2⟩
       case round =>
        obtain⟨k,s',hk,rfl,hx,hso,htr,hm0,hm1,hb0,hb1⟩:=hrel;have HX:=Hd hx
        have HSOR:=Hd hso;have HTR:=Hd htr;have HMM:Hid (0≤s'.met∧s'.met≤R.pages.length∧-1≤s'.bottom∧s'.bottom≤41):=Hd ⟨hm0,hm1,hb0,hb1⟩;have hnT:∀k,W.heap.size≤k→¬(PJ F p f k∨k=bm∨k=bb):=fun k h1 h2=>by have:=HPJL.out k h2;omega
        have hnr:=Yg htr (hnT _ HSZ.out) HN6.out;have hEr:IsE wr (.slice (some ⟨g2,0,none⟩) nd.l.length vc) nd.l:=by refine HE6.out.turned htr ?_;rintro k ⟨x,n',c',e,rfl⟩;simp only[Value.slice.injEq,Option.some.injEq] at e;obtain⟨rfl,_⟩:=e;exact hnT _ HGG.out.1
        have HNR:=Hd hnr;have HER:=Hd hEr;clear hx hso htr hm0 hm1 hb0 hb1 hnT hnr hEr q1;by_cases hlt:k<nd.l.length
        ·have hd:decide ((k:Int)<(nd.l.length:Int))=true:=by simpa using hlt
         have i0:(0:Int)≤(k:Int):=by omega
         have i1:(k:Int)<(nd.l.length:Int):=by omega
         obtain⟨Ba,o,e0,c0,c1,c2⟩:=HER.out.at k hlt;cases e0;simp only[Nat.zero_add] at c0 c1 c2;obtain⟨x,hxx⟩:∃x,x=nd.l[k]:=⟨_,rfl⟩;rw[←hxx] at c0 c1 c2;have hdr:nd.l.drop k=x::nd.l.drop (k+1):=by rw[hxx];exact List.drop_eq_getElem_cons hlt
         have hxf:=HFIT.out.few x (by rw[hxx];exact List.getElem_mem hlt);obtain⟨W7,hW7⟩:∃W7,W7=wr.alloc (enO x):=⟨_,rfl⟩;have hb7:Below wr.heap.size wr W7:=by rw[hW7];exact Zj wr _
         have hx7:W7.heap[wr.heap.size]?=some (enO x):=by rw[hW7];exact heap_alloc_new wr _
         have hn7:=(hb7.block _ (Za HNR.out)).trans HNR.out;have hE7:=HER.out.below hb7;have hso7:=HSOR.out.below hb7;have ht7:Zb (fun k=>PJ F p f k∨k=bm∨k=bb) wc W7:=HTR.out.trans (Zb.of_below hb7);obtain⟨x70,x71,x72⟩:=Zv hx7;have cw7:=(cell_of_row _ _ 0 _ _ _ hso7.hbw).trans (Eq.refl (some (swF bt bm bb bw)));have m70:=(Zc hn7).1;have m71:=(Zc hn7).2;have HX1:Hid (R.soundN (g+1) page lo hi top s=Xt nd.leaf lo hi (fun kid lo hi s=>Rp.soundN R g kid lo hi false s) k (x::nd.l.drop (k+1)) s'):=Hd (by rw[←hdr];exact HX.out);have HSO7:=Hd hso7;have HT7:=Hd ht7;have HE7:=Hd hE7;have HXF:=Hd hxf;have HW7:=Hd hW7;have HSZ7:Hid (wr.heap.size≤W7.heap.size):=Hd hb7.size;have HK1:=Hd hlt;rw[hW7] at x70 x71 x72 m70 m71 cw7;clear hdr hxf hb7 hx7 hn7 hE7 hso7 ht7 hxx hW7 hlt;by_cases hc:(nd.leaf=true∨0<k)∧(x.key<lo∨(hi≠[]∧¬x.key<hi))
         ·have HE:Hid (SwEnd n J seq B F p f R tb bt bm bb bw W (R.soundN (g+1) page lo hi top s) (.returned (.int .i64 103)) W7):=Hd (by
           rw[HX1.out,Zdi,if_pos hc]
           exact⟨rfl,HSO7.out,HT6.out.trans HT7.out,fun e=>absurd (show (103:Int)=0 from e) (by decide),HMM.out.2.2.1,HMM.out.2.2.2⟩)
          have hk1:Hid (nd.leaf=true)∨(Hid (nd.leaf=false)∧decide (0<k)=true):=by
           rcases Bool.eq_false_or_eq_true nd.leaf with hlf | hlf
           ·exact .inl (Hd hlf)
           ·refine .inr ⟨Hd hlf,decide_eq_true ?_⟩
            rcases hc.1 with h | h
            ·rw[hlf] at h;cases h
            ·exact h
          have hk2:Op.bytesLess x.key lo=true∨(Op.bytesLess x.key lo=false∧hi.isEmpty=false∧Op.bytesLess x.key hi=false):=by
           rw[Yt,Yt];by_cases h1:x.key<lo
           ·exact .inl (decide_eq_true h1)
           ·obtain⟨h2,h3⟩:=hc.2.resolve_left h1;exact .inr ⟨decide_eq_false h1,by simpa using h2,decide_eq_false h3⟩
          clear hc
          rcases hk1 with hlf | ⟨hlf,hk1⟩<;>rw[hlf.out] at m70<;>rcases hk2 with b1 | ⟨b1,b2,b3⟩
          all_goals
           go_wp2_with fail
           rw[←HW7.out]
           go_ret
           exact HE.out
         ·have HC:=Hd hc
          have hk2:∀(h:nd.leaf=true∨0<k),Op.bytesLess x.key lo=false∧(hi.isEmpty=true∨(hi.isEmpty=false∧Op.bytesLess x.key hi=true)):=fun h=>by
           rw[Yt,Yt];refine⟨decide_eq_false fun h1=>HC.out ⟨h,.inl h1⟩,?_⟩
           cases hh:hi with
           | nil=>exact .inl rfl
           | cons a r =>
            refine .inr ⟨rfl,decide_eq_true (Classical.byContradiction fun h1=>HC.out ⟨h,.inr ⟨by rw[hh];simp,by rw[hh];exact h1⟩⟩)⟩
          clear hc;rcases Bool.eq_false_or_eq_true nd.leaf with hlf | hlf
          ·obtain⟨b1,hk2⟩:=hk2 (.inl hlf)
           rw[hlf] at m70;have HLF:=Hd hlf
           have HR:Hid (∃(k':Nat) (s':SoS),k'≤nd.l.length∧Value.int .i64 ((k:Int)+1)=.int .i64 (k':Int)∧R.soundN (g+1) page lo hi top s=Xt nd.leaf lo hi (fun kid lo hi s=>Rp.soundN R g kid lo hi false s) k' (nd.l.drop k') s'∧SoAt n J seq B F p f R tb bt bm bb bw W7 s'∧Zb (fun k=>PJ F p f k∨k=bm∨k=bb) wc W7∧0≤s'.met∧s'.met≤R.pages.length∧-1≤s'.bottom∧s'.bottom≤41):=Hd ⟨k+1,s',HK1.out,by simp,by rw[HX1.out,Zdi,if_neg HC.out,if_pos HLF.out],HSO7.out,HT7.out,HMM.out.1,HMM.out.2.1,HMM.out.2.2.1,HMM.out.2.2.2⟩;clear hlf;rcases hk2 with b2 | ⟨b2,b3⟩
           all_goals
            go_wp2_with fail
            rw[←HW7.out]
            go_roundw
            case rel=>exact HR.out
            case measure=>have:=HK1.out;simp[intOf];omega
          ·rw[hlf] at m70
           have HLF:=Hd hlf
           have hkk:decide (0<k)=false∨(decide (0<k)=true∧Op.bytesLess x.key lo=false∧(hi.isEmpty=true∨(hi.isEmpty=false∧Op.bytesLess x.key hi=true))):=by
            rcases Nat.eq_zero_or_pos k with h | h
            ·exact .inl (decide_eq_false (by omega))
            ·exact .inr ⟨decide_eq_true (by omega),hk2 (.inr h)⟩
           clear hk2 hlf;obtain⟨LO,hLO⟩:∃LO,LO=(if 0<k then x.key else lo):=⟨_,rfl⟩
           obtain⟨HI,hHI⟩:∃HI,HI=nextK hi (nd.l.drop (k+1)):=⟨_,rfl⟩;obtain⟨g',hg'⟩:∃g',g'+1=g:=⟨g - 1,by have:=HG1.out;omega⟩
           have hcall:∀a b,a=LO→b=HI→Calls Tryz.prog 46 #[.int .i64 x.kid,.int .i64 (41 - (g':Int)),.string ⟨a.toArray⟩,.string ⟨b.toArray⟩,.bool false,Xc bt,Xc bm,Xc bb,Xc bw] W7 (SwEnd n J seq B F p f R tb bt bm bb bw W7 (R.soundN g x.kid LO HI false s')):=fun a b ha hb=>by
            rw[ha,hb];have:=HIH.out g' (by omega) (by omega) x.kid LO HI false s' W7 (by have:=HXF.out.k0;omega) (by have:=HXF.out.k1;omega) HMM.out.1 HMM.out.2.1 HMM.out.2.2.1 HMM.out.2.2.2 HSO7.out
            rw[hg'] at this;exact this
           have HCALL:=Hd hcall;have hwr2:IntKind.i64.wrap (41 - (g:Int)+1)=41 - (g':Int):=by rw[IntWalk.i64_in _ (by omega)];omega
           have hwr3:IntKind.i64.wrap ((k:Int)+1)=(k:Int)+1:=IntWalk.i64_in _ (by omega)
           have HEB:Hid (∀W8 r,SwEnd n J seq B F p f R tb bt bm bb bw W7 r (.returned (.int .i64 r.1)) W8→r=R.soundN g x.kid LO HI false s'→r.1≠0→SwEnd n J seq B F p f R tb bt bm bb bw W (R.soundN (g+1) page lo hi top s) (.returned (.int .i64 r.1)) W8):=Hd (by
            intro W8 r hr he h0;have hx:R.soundN (g+1) page lo hi top s=r:=by rw[HX1.out,Zdi,if_neg HC.out,if_neg (by rw[HLF.out];simp),←hLO,←hHI,←he,if_pos h0]
            rw[hx]
            exact⟨rfl,hr.2.1,(HT6.out.trans HT7.out).trans hr.2.2.1,fun e=>absurd e h0,hr.2.2.2.2.1,hr.2.2.2.2.2⟩)
           have HRB:Hid (∀W8 r,SwEnd n J seq B F p f R tb bt bm bb bw W7 r (.returned (.int .i64 r.1)) W8→r=R.soundN g x.kid LO HI false s'→r.1=0→∃(k':Nat) (s':SoS),k'≤nd.l.length∧Value.int .i64 ((k:Int)+1)=.int .i64 (k':Int)∧R.soundN (g+1) page lo hi top s=Xt nd.leaf lo hi (fun kid lo hi s=>Rp.soundN R g kid lo hi false s) k' (nd.l.drop k') s'∧SoAt n J seq B F p f R tb bt bm bb bw W8 s'∧Zb (fun k=>PJ F p f k∨k=bm∨k=bb) wc W8∧0≤s'.met∧s'.met≤R.pages.length∧-1≤s'.bottom∧s'.bottom≤41):=Hd (by
            intro W8 r hr he h0;have hx:R.soundN (g+1) page lo hi top s=Xt nd.leaf lo hi (fun kid lo hi s=>Rp.soundN R g kid lo hi false s) (k+1) (nd.l.drop (k+1)) r.2:=by rw[HX1.out,Zdi,if_neg HC.out,if_neg (by rw[HLF.out];simp),←hLO,←hHI,←he,if_neg (by simp[h0])]
            exact⟨k+1,r.2,HK1.out,by simp,hx,hr.2.1,HT7.out.trans hr.2.2.1,(hr.2.2.2.1 h0).1,(hr.2.2.2.1 h0).2,hr.2.2.2.2.1,hr.2.2.2.2.2⟩)
           have HLO:=Hd hLO;have HHI:=Hd hHI;clear hcall hLO hHI hg';by_cases hk1:k+1<nd.l.length
           ·have hdk:decide ((k:Int)+1<(nd.l.length:Int))=true:=decide_eq_true (by omega)
            have hdn:decide (k+1<nd.l.length)=true:=decide_eq_true hk1;have j0:(0:Int)≤(k:Int)+1:=by omega
            have j1:(k:Int)+1<(nd.l.length:Int):=by omega
            obtain⟨Bb,o2,e2,y0,y1,y2⟩:=HE7.out.at (k+1) hk1;cases e2;obtain⟨y,hyy⟩:∃y,y=nd.l[k+1]:=⟨_,rfl⟩;rw[←hyy] at y0 y1 y2;have hHI2:Hid (y.key=HI):=Hd (by rw[HHI.out,hyy,List.drop_eq_getElem_cons hk1];rfl)
            have HKK:=Hd hk1;simp only[Nat.zero_add] at y0;rw[HW7.out] at y0;clear y1 y2 hyy hk1;rcases hkk with hz | ⟨hz,b1,b2 | ⟨b2,b3⟩⟩
            ·have hLO2:Hid (lo=LO):=Hd (by rw[HLO.out,if_neg (by simpa using hz)])
             have HCL:=Hd (HCALL.out _ _ hLO2.out hHI2.out);go_wp2_with fail;rw[←HW7.out];refine HCL.out.mono ?_;rintro e W8 ⟨rfl,hend⟩;obtain⟨rc,hrc⟩:∃rc,rc=R.soundN g x.kid LO HI false s':=⟨_,rfl⟩;rw[←hrc] at hend ⊢;by_cases h0:rc.1=0
             ·have HR:=Hd (HRB.out W8 rc ⟨rfl,hend⟩ hrc h0)
              have hz8:(rc.1 != 0)=false:=by rw[h0];rfl
              clear hend hrc h0 cw7 x70 x71 x72 m70 m71;go_wp2_with fail;go_roundw
              case rel=>exact HR.out
              case measure=>have:=HK1.out;simp[intOf];omega
             ·have HE:=Hd (HEB.out W8 rc ⟨rfl,hend⟩ hrc h0)
              have hz8:(rc.1 != 0)=true:=by rw[bne_iff_ne];exact h0
              clear hend hrc h0 cw7 x70 x71 x72 m70 m71;go_wp2_with fail;go_ret;exact HE.out
            ·have hLO2:Hid (x.key=LO):=Hd (by rw[HLO.out,if_pos (by simpa using hz)])
             have HCL:=Hd (HCALL.out _ _ hLO2.out hHI2.out);go_wp2_with fail;rw[←HW7.out];refine HCL.out.mono ?_;rintro e W8 ⟨rfl,hend⟩;obtain⟨rc,hrc⟩:∃rc,rc=R.soundN g x.kid LO HI false s':=⟨_,rfl⟩;rw[←hrc] at hend ⊢;by_cases h0:rc.1=0
             ·have HR:=Hd (HRB.out W8 rc ⟨rfl,hend⟩ hrc h0)
              have hz8:(rc.1 != 0)=false:=by rw[h0];rfl
              clear hend hrc h0 cw7 x70 x71 x72 m70 m71;go_wp2_with fail;go_roundw
              case rel=>exact HR.out
              case measure=>have:=HK1.out;simp[intOf];omega
             ·have HE:=Hd (HEB.out W8 rc ⟨rfl,hend⟩ hrc h0)
              have hz8:(rc.1 != 0)=true:=by rw[bne_iff_ne];exact h0
              clear hend hrc h0 cw7 x70 x71 x72 m70 m71;go_wp2_with fail;go_ret;exact HE.out
            ·have hLO2:Hid (x.key=LO):=Hd (by rw[HLO.out,if_pos (by simpa using hz)])
             have HCL:=Hd (HCALL.out _ _ hLO2.out hHI2.out);go_wp2_with fail;rw[←HW7.out];refine HCL.out.mono ?_;rintro e W8 ⟨rfl,hend⟩;obtain⟨rc,hrc⟩:∃rc,rc=R.soundN g x.kid LO HI false s':=⟨_,rfl⟩;rw[←hrc] at hend ⊢;by_cases h0:rc.1=0
             ·have HR:=Hd (HRB.out W8 rc ⟨rfl,hend⟩ hrc h0)
              have hz8:(rc.1 != 0)=false:=by rw[h0];rfl
              clear hend hrc h0 cw7 x70 x71 x72 m70 m71;go_wp2_with fail;go_roundw
              case rel=>exact HR.out
              case measure=>have:=HK1.out;simp[intOf];omega
             ·have HE:=Hd (HEB.out W8 rc ⟨rfl,hend⟩ hrc h0)
              have hz8:(rc.1 != 0)=true:=by rw[bne_iff_ne];exact h0
              clear hend hrc h0 cw7 x70 x71 x72 m70 m71;go_wp2_with fail;go_ret;exact HE.out
           ·have hdk:decide ((k:Int)+1<(nd.l.length:Int))=false:=decide_eq_false (by omega)
            have hdn:decide (k+1<nd.l.length)=false:=decide_eq_false hk1;have hHI2:Hid (hi=HI):=Hd (by rw[HHI.out,List.drop_eq_nil_of_le (by omega)];rfl);have HKK:=Hd hk1;clear hk1;rcases hkk with hz | ⟨hz,b1,b2 | ⟨b2,b3⟩⟩
            ·have hLO2:Hid (lo=LO):=Hd (by rw[HLO.out,if_neg (by simpa using hz)])
             have HCL:=Hd (HCALL.out _ _ hLO2.out hHI2.out);go_wp2_with fail;rw[←HW7.out];refine HCL.out.mono ?_;rintro e W8 ⟨rfl,hend⟩;obtain⟨rc,hrc⟩:∃rc,rc=R.soundN g x.kid LO HI false s':=⟨_,rfl⟩;rw[←hrc] at hend ⊢;by_cases h0:rc.1=0
             ·have HR:=Hd (HRB.out W8 rc ⟨rfl,hend⟩ hrc h0)
              have hz8:(rc.1 != 0)=false:=by rw[h0];rfl
              clear hend hrc h0 cw7 x70 x71 x72 m70 m71;go_wp2_with fail;go_roundw
              case rel=>exact HR.out
              case measure=>have:=HK1.out;simp[intOf];omega
             ·have HE:=Hd (HEB.out W8 rc ⟨rfl,hend⟩ hrc h0)
              have hz8:(rc.1 != 0)=true:=by rw[bne_iff_ne];exact h0
              clear hend hrc h0 cw7 x70 x71 x72 m70 m71;go_wp2_with fail;go_ret;exact HE.out
            ·have hLO2:Hid (x.key=LO):=Hd (by rw[HLO.out,if_pos (by simpa using hz)])
             have HCL:=Hd (HCALL.out _ _ hLO2.out hHI2.out);go_wp2_with fail;rw[←HW7.out];refine HCL.out.mono ?_;rintro e W8 ⟨rfl,hend⟩;obtain⟨rc,hrc⟩:∃rc,rc=R.soundN g x.kid LO HI false s':=⟨_,rfl⟩;rw[←hrc] at hend ⊢;by_cases h0:rc.1=0
             ·have HR:=Hd (HRB.out W8 rc ⟨rfl,hend⟩ hrc h0)
              have hz8:(rc.1 != 0)=false:=by rw[h0];rfl
              clear hend hrc h0 cw7 x70 x71 x72 m70 m71;go_wp2_with fail;go_roundw
              case rel=>exact HR.out
              case measure=>have:=HK1.out;simp[intOf];omega
             ·have HE:=Hd (HEB.out W8 rc ⟨rfl,hend⟩ hrc h0)
              have hz8:(rc.1 != 0)=true:=by rw[bne_iff_ne];exact h0
              clear hend hrc h0 cw7 x70 x71 x72 m70 m71;go_wp2_with fail;go_ret;exact HE.out
            ·have hLO2:Hid (x.key=LO):=Hd (by rw[HLO.out,if_pos (by simpa using hz)])
             have HCL:=Hd (HCALL.out _ _ hLO2.out hHI2.out);go_wp2_with fail;rw[←HW7.out];refine HCL.out.mono ?_;rintro e W8 ⟨rfl,hend⟩;obtain⟨rc,hrc⟩:∃rc,rc=R.soundN g x.kid LO HI false s':=⟨_,rfl⟩;rw[←hrc] at hend ⊢;by_cases h0:rc.1=0
             ·have HR:=Hd (HRB.out W8 rc ⟨rfl,hend⟩ hrc h0)
              have hz8:(rc.1 != 0)=false:=by rw[h0];rfl
              clear hend hrc h0 cw7 x70 x71 x72 m70 m71;go_wp2_with fail;go_roundw
              case rel=>exact HR.out
              case measure=>have:=HK1.out;simp[intOf];omega
             ·have HE:=Hd (HEB.out W8 rc ⟨rfl,hend⟩ hrc h0)
              have hz8:(rc.1 != 0)=true:=by rw[bne_iff_ne];exact h0
              clear hend hrc h0 cw7 x70 x71 x72 m70 m71;go_wp2_with fail;go_ret;exact HE.out
        ·obtain rfl:k=nd.l.length:=by omega
         have hd:decide ((nd.l.length:Int)<(nd.l.length:Int))=false:=by simp
         have HE:Hid (SwEnd n J seq B F p f R tb bt bm bb bw W (R.soundN (g+1) page lo hi top s) (.returned (.int .i64 0)) wr):=Hd (by
          have hr:R.soundN (g+1) page lo hi top s=(0,s'):=by rw[HX.out,List.drop_length];rfl
          rw[hr]
          exact⟨rfl,HSOR.out,HT6.out.trans HTR.out,fun _=>⟨HMM.out.1,HMM.out.2.1⟩,HMM.out.2.2.1,HMM.out.2.2.2⟩)
         go_wp2_with fail;go_ret;exact HE.out
end
end
end Go.Proofs.YtofibccplbnaiaaGreatDoor
