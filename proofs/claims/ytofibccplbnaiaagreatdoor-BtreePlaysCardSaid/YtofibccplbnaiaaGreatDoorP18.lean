/- Contracts of the functions that the statements of this seat reach, part 18: each says what the call answers and what it leaves of the memory. -/
import Derived.Test.YtofibccplbnaiaaGreatDoorP17
import Derived.Test.YtofibccplbnaiaaGreatDoorP13
import Derived.Test.YtofibccplbnaiaaGreatDoorP6
set_option linter.unusedVariables false
set_option linter.unusedSimpArgs false
set_option maxRecDepth 100000
set_option maxHeartbeats 64000000
namespace Go.Proofs.YtofibccplbnaiaaGreatDoor
section
open Go.RowKit Go.Shelf Go.Lib
theorem tsound_nil (w:World):Calls Tryz.prog 14 #[.pointer none] w fun e w'=>e=.returned (.int .i64 1)∧Below w.heap.size w w':=by have hb:=Zj w (.cells #[.pointer none] 25);go_enter Tryz.func14,Tryz.ntmps14;go_wp2_with fail;go_ret;exact⟨rfl,hb⟩
section
variable {n : Nat} {J : Jn} {seq : Int} {B : List (List UInt8)} {F : Ft} {p : Nat} {f : Pf} {R : Rp} {tb : Nat}
theorem tsound_any {w:World} (hT:Tr n J seq B w F p f R tb):Calls Tryz.prog 14 #[trp tb] w fun e w'=>e=.returned (.int .i64 R.sound)∧Tr n J seq B w' F p f R tb∧Zb (PJ F p f) w w':=by
 have hgood:=hT.lp.good;have hrb:=hT.lp.root_le;have hpg:=hgood.few;have hfr:Ye R.pages≤R.pages.length:=List.countP_le_length;obtain⟨W1,hW1⟩:∃x,x=w.alloc (trpO tb):=⟨_,rfl⟩;have hb1:Below w.heap.size w W1:=by rw[hW1];exact Zj w _
 have hs1:W1.heap.size=w.heap.size+1:=by rw[hW1];simp
 have r1:W1.heap[w.heap.size]?=some (trpO tb):=by rw[hW1];exact heap_alloc_new w _
 obtain⟨W2,hW2⟩:∃x,x=W1.alloc (izO 0):=⟨_,rfl⟩;have hb2:Below W1.heap.size W1 W2:=by rw[hW2];exact Zj W1 _
 have hs2:W2.heap.size=w.heap.size+2:=by rw[hW2];simp[hs1]
 have r2:W2.heap[w.heap.size+1]?=some (izO 0):=by rw[hW2,←hs1];exact heap_alloc_new W1 _
 obtain⟨W3,hW3⟩:∃x,x=W2.alloc (izO (-1)):=⟨_,rfl⟩;have hb3:Below W2.heap.size W2 W3:=by rw[hW3];exact Zj W2 _
 have hs3:W3.heap.size=w.heap.size+3:=by rw[hW3];simp[hs2]
 have r3:W3.heap[w.heap.size+2]?=some (izO (-1)):=by rw[hW3,←hs2];exact heap_alloc_new W2 _
 obtain⟨W4,hW4⟩:∃x,x=W3.alloc (swO w.heap.size (w.heap.size+1) (w.heap.size+2) (w.heap.size+3)):=⟨_,rfl⟩;have hb4:Below W3.heap.size W3 W4:=by rw[hW4];exact Zj W3 _
 have r4:W4.heap[w.heap.size+3]?=some (swO w.heap.size (w.heap.size+1) (w.heap.size+2) (w.heap.size+3)):=by rw[hW4,←hs3];exact heap_alloc_new W3 _
 have hB:Below w.heap.size w W4:=((hb1.trans (hb2.mono (by omega))).trans (hb3.mono (by omega))).trans (hb4.mono (by omega));have r14:=(hb4.block _ (by omega)).trans ((hb3.block _ (by omega)).trans ((hb2.block _ (Za r1)).trans r1));have r24:=(hb4.block _ (by omega)).trans ((hb3.block _ (Za r2)).trans r2);have r34:=(hb4.block _ (Za r3)).trans r3;have hso:SoAt n J seq B F p f R tb w.heap.size (w.heap.size+1) (w.heap.size+2) (w.heap.size+3) W4 ⟨0,-1⟩:=⟨hT.step hB,r14,r24,r34,r4⟩;have hpj:∀k,PJ F p f k→k<w.heap.size:=fun k hk=>hT.lp.lt hk;have htb:=Za hT.head;have hnb:=hT.lp.nib_lt;have hlow:SoLow F p f tb w.heap.size (w.heap.size+1) (w.heap.size+2) (w.heap.size+3):=⟨fun e=>by have:=hpj _ e;omega,fun e=>by have:=hpj _ e;omega,fun e=>by have:=hpj _ e;omega,fun e=>by have:=hpj _ e;omega,by omega,by omega,by omega,by omega,by omega,by omega,by omega,by omega,by omega⟩;have ct:W4.cell? ⟨w.heap.size,0,none⟩=some (trp tb):=by rw[cell_of_row _ _ _ _ _ _ hso.hbt];rfl
 have cq:W4.cell? ⟨tb,0,none⟩=some (Xb f.q):=by rw[cell_of_row _ _ _ _ _ _ hso.tr.head];rfl
 have cw:W4.cell? ⟨w.heap.size+3,0,none⟩=some (swF w.heap.size (w.heap.size+1) (w.heap.size+2) (w.heap.size+3)):=by rw[cell_of_row _ _ _ _ _ _ hso.hbw];rfl
 have HRT:=Hd (lp_root hso.tr.lp)
 have hw:R.root=R.root→Calls Tryz.prog 46 #[.int .i64 R.root,.int .i64 0,.string ⟨#[]⟩,.string ⟨#[]⟩,.bool true,Xc w.heap.size,Xc (w.heap.size+1),Xc (w.heap.size+2),Xc (w.heap.size+3)] W4 (SwEnd n J seq B F p f R tb w.heap.size (w.heap.size+1) (w.heap.size+2) (w.heap.size+3) W4 (R.soundN (41+1) R.root [] [] true ⟨0,-1⟩)):=fun _ =>
  swalk_any hlow 41 (Nat.le_refl _) R.root [] [] true ⟨0,-1⟩ W4 (by omega) (by omega) (Int.le_refl _) (by show (0:Int)≤_;omega) (Int.le_refl _) (by show (-1:Int)≤41;decide) hso
 have HWW:=Hd (hw rfl);have HSO:=Hd hso;have HBB:=Hd hB;have HPJ:=Hd hpj;have HLOW:=Hd hlow;have HPG:Hid (R.pages.length≤1023∧Ye R.pages≤R.pages.length):=Hd ⟨hpg,hfr⟩;have hWW:W4=(((w.alloc (trpO tb)).alloc (izO 0)).alloc (izO (-1))).alloc (swO w.heap.size (w.heap.size+1) (w.heap.size+2) (w.heap.size+3)):=by rw[hW4,hW3,hW2,hW1]
 have HW4:=Hd hWW;rw[hWW] at ct cq cw;have HFIN:Hid (∀W5 s',SoAt n J seq B F p f R tb w.heap.size (w.heap.size+1) (w.heap.size+2) (w.heap.size+3) W5 s'→Zb (fun k=>PJ F p f k∨k=w.heap.size+1∨k=w.heap.size+2) W4 W5→Tr n J seq B W5.drew F p f R tb∧Zb (PJ F p f) w W5.drew):=Hd fun W5 s' h ht=>⟨h.tr.step (Below.refl _ _).drew,((Zb.of_below hB).then ht fun i hi e=>e.elim id fun e=>by omega).drew⟩;have HFIN2:Hid (∀W5 s',SoAt n J seq B F p f R tb w.heap.size (w.heap.size+1) (w.heap.size+2) (w.heap.size+3) W5 s'→Zb (fun k=>PJ F p f k∨k=w.heap.size+1∨k=w.heap.size+2) W4 W5→Zb (PJ F p f) w W5):=Hd fun W5 s' h ht=>(Zb.of_below hB).then ht fun i hi e=>e.elim id fun e=>by omega
 clear hT hgood hpg hfr hW1 hb1 hs1 r1 hW2 hb2 hs2 r2 hW3 hb3 hs3 r3 hW4 hb4 r4 hB r14 r24 r34 hso hpj htb hnb hlow hw hWW;go_enter Tryz.func14,Tryz.ntmps14;go_wp2_with fail;rw[←HW4.out];refine HRT.out.mono ?_;rintro e w5 ⟨rfl,e5⟩;obtain rfl:W4=w5:=e5.symm;rw[←HW4.out] at cw;clear ct cq;by_cases hp:0≤R.root
 ·have hd:decide (0≤R.root)=true:=decide_eq_true hp
  have HP:=Hd hp;clear hp;go_wp2_with fail;refine HWW.out.mono ?_;obtain⟨rc,hrc⟩:∃rc,rc=R.soundN (41+1) R.root [] [] true ⟨0,-1⟩:=⟨_,rfl⟩;rw[←hrc];rintro e W5 ⟨rfl,hso5,ht5,hm5,_⟩;have HRC:=Hd hrc;have HSO5:=Hd hso5;have HT5:=Hd ht5;have HM5:=Hd hm5;clear hrc hso5 ht5 hm5 cw;by_cases h0:rc.1=0
  ·have hz:(rc.1 != 0)=false:=by rw[h0];rfl
   have H0:=Hd h0
   have HX:Hid (R.sound=if rc.2.met≠(R.pages.length:Int) - Ye R.pages then 103 else 0):=Hd (by
    unfold Rp.sound
    rw[if_pos HP.out,←HRC.out,if_neg (by simp[h0])])
   generalize hmm:rc.2.met=mt at *;obtain⟨s',hs'⟩:∃s',s'=rc.2:=⟨_,rfl⟩;rw[←hs'] at HSO5 hmm;clear h0 hs';have hbd:Below W5.heap.size W5 W5.drew:=(Below.refl _ _).drew
   have HPGS:=Hd (lp_pages (HSO5.out.below hbd).tr.lp);have HLFS:=Hd (lp_left (HSO5.out.below hbd).tr.lp);have HEND:=Hd (HFIN.out _ _ HSO5.out HT5.out);have S4:Hid (W5.heap[w.heap.size+1]?=some (izO mt)∧W5.heap[w.heap.size]?=some (trpO tb)∧W5.heap[tb]?=some (trO f.q)):=Hd ⟨by rw[←hmm];exact HSO5.out.hbm,HSO5.out.hbt,HSO5.out.tr.head⟩;have hwr:IntKind.i64.wrap ((R.pages.length:Int) - Ye R.pages)=(R.pages.length:Int) - Ye R.pages:=IntWalk.i64_in _ (by have:=HPG.out;omega);clear hmm hbd;go_upto_region 12 with fail;refine rgA (S:=(fun W=>W.heap[w.heap.size+1]?=some (izO mt)∧W.heap[w.heap.size]?=some (trpO tb)∧W.heap[tb]?=some (trO f.q))) S4.out (fun hH=>?_);refine tkB 0 rfl (v:=?_) ?_ hH ?_;rotate_left
   ·rintro w ⟨s0,s1,s2⟩;have k0:=(cell_of_row _ _ 0 _ _ _ s0).trans rfl;have k1:=(cell_of_row _ _ 0 _ _ _ s1).trans rfl;have k2:=(cell_of_row _ _ 0 _ _ _ s2).trans rfl;go_simp;try with_reducible rfl
   try simp only[Act.put,zA,zB,zC]
   refine tkB 1 rfl (v:=?_) ?_ hH ?_;rotate_left
   ·rintro w ⟨s0,s1,s2⟩;have k0:=(cell_of_row _ _ 0 _ _ _ s0).trans rfl;have k1:=(cell_of_row _ _ 0 _ _ _ s1).trans rfl;have k2:=(cell_of_row _ _ 0 _ _ _ s2).trans rfl;go_simp;try with_reducible rfl
   try simp only[Act.put,zA,zB,zC]
   refine tkB 2 rfl (v:=?_) ?_ hH ?_;rotate_left
   ·rintro w ⟨s0,s1,s2⟩;have k0:=(cell_of_row _ _ 0 _ _ _ s0).trans rfl;have k1:=(cell_of_row _ _ 0 _ _ _ s1).trans rfl;have k2:=(cell_of_row _ _ 0 _ _ _ s2).trans rfl;go_simp;try with_reducible rfl
   try simp only[Act.put,zA,zB,zC]
   refine tkB 3 rfl (v:=?_) ?_ hH ?_;rotate_left
   ·rintro w ⟨s0,s1,s2⟩;have k0:=(cell_of_row _ _ 0 _ _ _ s0).trans rfl;have k1:=(cell_of_row _ _ 0 _ _ _ s1).trans rfl;have k2:=(cell_of_row _ _ 0 _ _ _ s2).trans rfl;go_simp;try with_reducible rfl
   try simp only[Act.put,zA,zB,zC]
   refine tkB 4 rfl (v:=?_) ?_ hH ?_;rotate_left
   ·rintro w ⟨s0,s1,s2⟩;have k0:=(cell_of_row _ _ 0 _ _ _ s0).trans rfl;have k1:=(cell_of_row _ _ 0 _ _ _ s1).trans rfl;have k2:=(cell_of_row _ _ 0 _ _ _ s2).trans rfl;go_simp;try with_reducible rfl
   try simp only[Act.put,zA,zB,zC]
   refine tkB 6 rfl (v:=?_) ?_ hH ?_;rotate_left
   ·rintro w ⟨s0,s1,s2⟩;have k0:=(cell_of_row _ _ 0 _ _ _ s0).trans rfl;have k1:=(cell_of_row _ _ 0 _ _ _ s1).trans rfl;have k2:=(cell_of_row _ _ 0 _ _ _ s2).trans rfl;go_simp;try with_reducible rfl
   try simp only[Act.put,zA,zB,zC]
   refine tkB 7 rfl (v:=?_) ?_ hH ?_;rotate_left
   ·rintro w ⟨s0,s1,s2⟩;have k0:=(cell_of_row _ _ 0 _ _ _ s0).trans rfl;have k1:=(cell_of_row _ _ 0 _ _ _ s1).trans rfl;have k2:=(cell_of_row _ _ 0 _ _ _ s2).trans rfl;go_simp;try with_reducible rfl
   try simp only[Act.put,zA,zB,zC]
   refine tkB 8 rfl (v:=?_) ?_ hH ?_;rotate_left
   ·rintro w ⟨s0,s1,s2⟩;have k0:=(cell_of_row _ _ 0 _ _ _ s0).trans rfl;have k1:=(cell_of_row _ _ 0 _ _ _ s1).trans rfl;have k2:=(cell_of_row _ _ 0 _ _ _ s2).trans rfl;go_simp;try with_reducible rfl
   try simp only[Act.put,zA,zB,zC]
   refine tkB 9 rfl (v:=?_) ?_ hH ?_;rotate_left
   ·rintro w ⟨s0,s1,s2⟩;have k0:=(cell_of_row _ _ 0 _ _ _ s0).trans rfl;have k1:=(cell_of_row _ _ 0 _ _ _ s1).trans rfl;have k2:=(cell_of_row _ _ 0 _ _ _ s2).trans rfl;go_simp;try with_reducible rfl
   try simp only[Act.put,zA,zB,zC]
   refine rdA 5 rfl (fun K hK=>?_);go_simp;refine HPGS.out.mono ?_;rintro e w7 ⟨rfl,rfl⟩;go_wp2_with fail;refine hK.out _ _ hH (fun hH=>?_);clear hK K;try simp only[Act.put,zA,zB,zC]
   refine rdA 10 rfl (fun K hK=>?_);go_simp;refine HLFS.out.mono ?_;rintro e w7 ⟨rfl,rfl⟩;go_wp2_with fail;refine hK.out _ _ hH (fun hH=>?_);clear hK K;try simp only[Act.put,zA,zB,zC]
   refine tkB 11 rfl (v:=?_) ?_ hH ?_;rotate_left
   ·rintro w ⟨s0,s1,s2⟩;have k0:=(cell_of_row _ _ 0 _ _ _ s0).trans rfl;have k1:=(cell_of_row _ _ 0 _ _ _ s1).trans rfl;have k2:=(cell_of_row _ _ 0 _ _ _ s2).trans rfl;go_simp;try with_reducible rfl
   try simp only[Act.put,zA,zB,zC]
   refine tkB 12 rfl (v:=?_) ?_ hH ?_;rotate_left
   ·rintro w ⟨s0,s1,s2⟩;have k0:=(cell_of_row _ _ 0 _ _ _ s0).trans rfl;have k1:=(cell_of_row _ _ 0 _ _ _ s1).trans rfl;have k2:=(cell_of_row _ _ 0 _ _ _ s2).trans rfl;go_simp;try with_reducible rfl
   try simp only[Act.put,zA,zB,zC]
   refine dnA ?_;clear hH;by_cases hq:mt=(R.pages.length:Int) - Ye R.pages
   ·have hqb:(mt != (R.pages.length:Int) - Ye R.pages)=false:=by rw[hq];simp
    have HY:Hid (R.sound=0):=Hd (by rw[HX.out,if_neg (by simp[hq])]);clear hq;go_wp2_with fail;go_ret;exact⟨by rw[HY.out];rfl,HEND.out⟩
   ·have hqb:(mt != (R.pages.length:Int) - Ye R.pages)=true:=by rw[bne_iff_ne];exact hq
    have HY:Hid (R.sound=103):=Hd (by rw[HX.out,if_pos hq]);clear hq;go_wp2_with fail;go_ret;exact⟨by rw[HY.out];rfl,HEND.out⟩
  ·have hz:(rc.1 != 0)=true:=by rw[bne_iff_ne];exact h0
   have HX:Hid (R.sound=rc.1):=Hd (by
    unfold Rp.sound
    rw[if_pos HP.out,←HRC.out,if_pos h0])
   have HE:Hid (Tr n J seq B W5 F p f R tb∧Zb (PJ F p f) w W5):=Hd ⟨HSO5.out.tr,(HFIN2.out _ _ HSO5.out HT5.out)⟩;clear h0;go_wp2_with fail;go_ret;exact⟨by rw[HX.out];rfl,HE.out⟩
 ·have hd:decide (0≤R.root)=false:=decide_eq_false hp
  obtain⟨mt,hmt⟩:∃mt:Int,mt=0:=⟨_,rfl⟩
  have HX:Hid (R.sound=if mt≠(R.pages.length:Int) - Ye R.pages then 103 else 0):=Hd (by
   unfold Rp.sound
   rw[if_neg hp,hmt])
  clear hp cw;obtain⟨s',hs'⟩:∃s':SoS,s'=⟨0,-1⟩:=⟨_,rfl⟩;have hmm:s'.met=mt:=by rw[hs',hmt]
  have HSO5:Hid (SoAt n J seq B F p f R tb w.heap.size (w.heap.size+1) (w.heap.size+2) (w.heap.size+3) W4 s'):=Hd (by rw[hs'];exact HSO.out);have HT5:Hid (Zb (fun k=>PJ F p f k∨k=w.heap.size+1∨k=w.heap.size+2) W4 W4):=Hd (Zb.refl _ _);clear hmt hs';have hbd:Below W4.heap.size W4 W4.drew:=(Below.refl _ _).drew;have HPGS:=Hd (lp_pages (HSO5.out.below hbd).tr.lp);have HLFS:=Hd (lp_left (HSO5.out.below hbd).tr.lp);have HEND:=Hd (HFIN.out _ _ HSO5.out HT5.out);have S4:Hid (W4.heap[w.heap.size+1]?=some (izO mt)∧W4.heap[w.heap.size]?=some (trpO tb)∧W4.heap[tb]?=some (trO f.q)):=Hd ⟨by rw[←hmm];exact HSO5.out.hbm,HSO5.out.hbt,HSO5.out.tr.head⟩;have hwr:IntKind.i64.wrap ((R.pages.length:Int) - Ye R.pages)=(R.pages.length:Int) - Ye R.pages:=IntWalk.i64_in _ (by have:=HPG.out;omega);clear hmm hbd;go_upto_region 12 with fail;refine rgA (S:=(fun W=>W.heap[w.heap.size+1]?=some (izO mt)∧W.heap[w.heap.size]?=some (trpO tb)∧W.heap[tb]?=some (trO f.q))) S4.out (fun hH=>?_);refine tkB 0 rfl (v:=?_) ?_ hH ?_;rotate_left
  ·rintro w ⟨s0,s1,s2⟩;have k0:=(cell_of_row _ _ 0 _ _ _ s0).trans rfl;have k1:=(cell_of_row _ _ 0 _ _ _ s1).trans rfl;have k2:=(cell_of_row _ _ 0 _ _ _ s2).trans rfl;go_simp;try with_reducible rfl
  try simp only[Act.put,zA,zB,zC]
  refine tkB 1 rfl (v:=?_) ?_ hH ?_;rotate_left
  ·rintro w ⟨s0,s1,s2⟩;have k0:=(cell_of_row _ _ 0 _ _ _ s0).trans rfl;have k1:=(cell_of_row _ _ 0 _ _ _ s1).trans rfl;have k2:=(cell_of_row _ _ 0 _ _ _ s2).trans rfl;go_simp;try with_reducible rfl
  try simp only[Act.put,zA,zB,zC]
  refine tkB 2 rfl (v:=?_) ?_ hH ?_;rotate_left
  ·rintro w ⟨s0,s1,s2⟩;have k0:=(cell_of_row _ _ 0 _ _ _ s0).trans rfl;have k1:=(cell_of_row _ _ 0 _ _ _ s1).trans rfl;have k2:=(cell_of_row _ _ 0 _ _ _ s2).trans rfl;go_simp;try with_reducible rfl
  try simp only[Act.put,zA,zB,zC]
  refine tkB 3 rfl (v:=?_) ?_ hH ?_;rotate_left
  ·rintro w ⟨s0,s1,s2⟩;have k0:=(cell_of_row _ _ 0 _ _ _ s0).trans rfl;have k1:=(cell_of_row _ _ 0 _ _ _ s1).trans rfl;have k2:=(cell_of_row _ _ 0 _ _ _ s2).trans rfl;go_simp;try with_reducible rfl
  try simp only[Act.put,zA,zB,zC]
  refine tkB 4 rfl (v:=?_) ?_ hH ?_;rotate_left
  ·rintro w ⟨s0,s1,s2⟩;have k0:=(cell_of_row _ _ 0 _ _ _ s0).trans rfl;have k1:=(cell_of_row _ _ 0 _ _ _ s1).trans rfl;have k2:=(cell_of_row _ _ 0 _ _ _ s2).trans rfl;go_simp;try with_reducible rfl
  try simp only[Act.put,zA,zB,zC]
  refine tkB 6 rfl (v:=?_) ?_ hH ?_;rotate_left
  ·rintro w ⟨s0,s1,s2⟩;have k0:=(cell_of_row _ _ 0 _ _ _ s0).trans rfl;have k1:=(cell_of_row _ _ 0 _ _ _ s1).trans rfl;have k2:=(cell_of_row _ _ 0 _ _ _ s2).trans rfl;go_simp;try with_reducible rfl
  try simp only[Act.put,zA,zB,zC]
  refine tkB 7 rfl (v:=?_) ?_ hH ?_;rotate_left
  ·rintro w ⟨s0,s1,s2⟩;have k0:=(cell_of_row _ _ 0 _ _ _ s0).trans rfl;have k1:=(cell_of_row _ _ 0 _ _ _ s1).trans rfl;have k2:=(cell_of_row _ _ 0 _ _ _ s2).trans rfl;go_simp;try with_reducible rfl
  try simp only[Act.put,zA,zB,zC]
  refine tkB 8 rfl (v:=?_) ?_ hH ?_;rotate_left
  ·rintro w ⟨s0,s1,s2⟩;have k0:=(cell_of_row _ _ 0 _ _ _ s0).trans rfl;have k1:=(cell_of_row _ _ 0 _ _ _ s1).trans rfl;have k2:=(cell_of_row _ _ 0 _ _ _ s2).trans rfl;go_simp;try with_reducible rfl
  try simp only[Act.put,zA,zB,zC]
  refine tkB 9 rfl (v:=?_) ?_ hH ?_;rotate_left
  ·rintro w ⟨s0,s1,s2⟩;have k0:=(cell_of_row _ _ 0 _ _ _ s0).trans rfl;have k1:=(cell_of_row _ _ 0 _ _ _ s1).trans rfl;have k2:=(cell_of_row _ _ 0 _ _ _ s2).trans rfl;go_simp;try with_reducible rfl
  try simp only[Act.put,zA,zB,zC]
  refine rdA 5 rfl (fun K hK=>?_);go_simp;refine HPGS.out.mono ?_;rintro e w7 ⟨rfl,rfl⟩;go_wp2_with fail;refine hK.out _ _ hH (fun hH=>?_);clear hK K;try simp only[Act.put,zA,zB,zC]
  refine rdA 10 rfl (fun K hK=>?_);go_simp;refine HLFS.out.mono ?_;rintro e w7 ⟨rfl,rfl⟩;go_wp2_with fail;refine hK.out _ _ hH (fun hH=>?_);clear hK K;try simp only[Act.put,zA,zB,zC]
  refine tkB 11 rfl (v:=?_) ?_ hH ?_;rotate_left
  ·rintro w ⟨s0,s1,s2⟩;have k0:=(cell_of_row _ _ 0 _ _ _ s0).trans rfl;have k1:=(cell_of_row _ _ 0 _ _ _ s1).trans rfl;have k2:=(cell_of_row _ _ 0 _ _ _ s2).trans rfl;go_simp;try with_reducible rfl
  try simp only[Act.put,zA,zB,zC]
  refine tkB 12 rfl (v:=?_) ?_ hH ?_;rotate_left
  ·rintro w ⟨s0,s1,s2⟩;have k0:=(cell_of_row _ _ 0 _ _ _ s0).trans rfl;have k1:=(cell_of_row _ _ 0 _ _ _ s1).trans rfl;have k2:=(cell_of_row _ _ 0 _ _ _ s2).trans rfl;go_simp;try with_reducible rfl
  try simp only[Act.put,zA,zB,zC]
  refine dnA ?_;clear hH;by_cases hq:mt=(R.pages.length:Int) - Ye R.pages
  ·have hqb:(mt != (R.pages.length:Int) - Ye R.pages)=false:=by rw[hq];simp
   have HY:Hid (R.sound=0):=Hd (by rw[HX.out,if_neg (by simp[hq])]);clear hq;go_wp2_with fail;go_ret;exact⟨by rw[HY.out];rfl,HEND.out⟩
  ·have hqb:(mt != (R.pages.length:Int) - Ye R.pages)=true:=by rw[bne_iff_ne];exact hq
   have HY:Hid (R.sound=103):=Hd (by rw[HX.out,if_pos hq]);clear hq;go_wp2_with fail;go_ret;exact⟨by rw[HY.out];rfl,HEND.out⟩
end
end
section
open Go.RowKit
section
variable {n : Nat} {J : Jn} {seq : Int} {B : List (List UInt8)} {F : Ft} {p : Nat}
theorem topen_any {w:World} {f:Pf} {R:Rp} (h:LP n J seq B w F p f R):Calls Tryz.prog 30 #[Xb f.q] w fun e w'=>e=.returned (.tuple #[trp w.heap.size,.int .i64 0])∧Below w.heap.size w w'∧Tr n J seq B w' F p f R w.heap.size:=by have hb:Below w.heap.size w (w.alloc (trO f.q)):=Zj w _;have HE:Hid (Tr n J seq B (w.alloc (trO f.q)) F p f R w.heap.size):=Hd ⟨h.step hb,heap_alloc_new w _,fun e=>by have:=h.lt e;omega⟩;have HB:=Hd hb;clear h hb;go_enter Tryz.func30,Tryz.ntmps30;go_wp2_with fail;go_ret2;exact⟨rfl,HB.out,HE.out⟩
theorem topen_nil (w:World):Calls Tryz.prog 30 #[.pointer none] w fun e w'=>e=.returned (.tuple #[.pointer none,.int .i64 1])∧w'=w:=by go_enter Tryz.func30,Tryz.ntmps30;go_wp2_with fail;go_ret2;exact⟨rfl,rfl⟩
end
end
section
open Go.RowKit
theorem begun10_any (w:World) (hn:Nib w) (n:Nat) (hn32:32≤n) (hn4:n≤4096) :
  Calls Tryz.prog 8 #[.int .i64 (n:Int)] w fun e w'=>∃F p f tb J seq B,e=.returned (.tuple #[Xb f.q,trp tb])∧Tr n J seq B w' F p f (Rp.begun ((n - 2) / 2)) tb∧Below w.heap.size w w'∧(∀k,PJ F p f k→w.heap.size≤k)∧w.heap.size≤tb∧J.D.cut<0∧J.last≤2∧J.D.ops≤2*n+13:=by
 obtain⟨D1,J,e1,e2,hl,h3,h4,h5⟩:=begun_plain hn32 (by omega);obtain⟨J',P,B',fr⟩:=pformat_live hl (by omega) (by omega) h4 (by omega) (by omega);have E1:=Hd e1
 have E2:=Hd e2;have HL:=Hd (And.intro hl (And.intro h3 (And.intro h4 h5)));have FR:=Hd fr;have HNB:=Hd hn;clear e1 e2 hl h3 h4 h5 fr hn;go_enter Tryz.func8,Tryz.ntmps8;go_wp2_with fail;refine(new_some w n ⟨by omega,by omega⟩).mono ?_;rintro e w1 ⟨F,rfl,d1,hF,hb1⟩;have db1:DB w.heap.size w w1 F (Dk.new n):=⟨d1,HNB.out.below hb1,hb1,hF,hb1.size⟩;clear d1 hF hb1;go_wp2_with fail;refine(format_any w1 F _ db1.dat db1.nib).mono ?_;rintro e w2 ⟨rfl,d2,t2⟩;rw[E1.out] at d2 ⊢;have db2:=db1.turn d2 t2;clear d2 t2 db1;go_wp2_with fail;refine(open_good w2 F D1 db2.dat db2.nib E2.out).mono ?_;rintro e w3 ⟨p,rfl,j3,hp,t3⟩;have jb3:=JB.of db2 j3 hp t3;clear j3 t3 db2 hp;have hJn:J.D.n=n:=HL.out.1.hn;have HF:=Hd (pformat_any w3 F p J jb3.jat jb3.nib (by omega) (by have:=HL.out.2.1;omega) (by rw[HL.out.1.hseq];decide) (by rw[HL.out.1.hseq];decide));rw[FR.out.fmt] at HF;have HJ3:=Hd jb3;clear jb3 hJn;go_wp2_with fail;refine HF.out.mono ?_;rintro e w4 ⟨rfl,j4,t4⟩;have jb4:=HJ3.out.turn j4 t4;have hJn2:J'.D.n=n:=by have:=FR.out.sim.live.hn;rw[FR.out.pj] at this;exact this
 have HO:=Hd (popen_any w4 F p J' jb4.jat jb4.nib (by omega));have HJ4:=Hd jb4;clear j4 t4 jb4 hJn2;go_wp2_with fail;refine HO.out.mono ?_;rintro e w5 ⟨_,hsome,t5⟩;obtain⟨f,rfl,hpg,hpf⟩:=hsome _ _ _ FR.out.opn;have jb5:=HJ4.out.turn (by have:=hpg.jat;rw[FR.out.pj] at this;exact this) t5;have hlp:LP n J' 1 B' w5 F p f (Rp.begun ((n - 2) / 2)):=⟨P,FR.out.pj,hpg,FR.out.sim⟩;have HTO:=Hd (topen_any hlp)
 have HOW:Hid (∀k,PJ F p f k→w.heap.size≤k):=Hd fun k hk=>by
  rcases hk with hk | hk
  ·exact jb5.own k hk
  ·exact Nat.le_trans HJ4.out.base (hpf k hk)
 have HB5:=Hd jb5.below;have HBS:=Hd jb5.base;clear hpg hsome t5 jb5 hpf hlp;go_wp2_with fail;refine HTO.out.mono ?_;rintro e w6 ⟨rfl,hb6,hT6⟩
 have HE:Hid (Tr n J' 1 B' w6 F p f (Rp.begun ((n - 2) / 2)) w5.heap.size∧Below w.heap.size w w6∧(∀k,PJ F p f k→w.heap.size≤k)∧w.heap.size≤w5.heap.size∧J'.D.cut<0∧J'.last≤2∧J'.D.ops≤2*n+13):=Hd (by
  have f':=FR.out;obtain⟨a1,a2,a3,a4⟩:=HL.out
  exact⟨hT6,HB5.out.trans (hb6.mono HBS.out),HOW.out,HBS.out,by rw[f'.cut];exact a3,by have:=f'.last;omega,by have:=f'.ops;omega⟩)
 clear hb6 hT6;go_wp2_with fail;go_ret2;exact⟨F,p,f,_,_,_,_,rfl,HE.out⟩
end
section
open Go.RowKit Go.Shelf Go.Lib
def Roomy (m:Nat) (l:List KV):Prop:=∀R:Rp,R.good→R.pages.length=m→∀h P,TreH R h l P→h≤39∧h+3≤Ye R.pages
theorem roomy255 {l:List KV} (hw:wgtB l≤45300):Roomy 255 l:=fun R hg hm h P hT=>by have h1:=hT.small hg;have h2:=hT.count;omega
theorem Zew {m:Nat} {l:List KV} (hm:4≤m) (hw:wgtB l≤118):Roomy m l:=fun R hg hm h P hT=>by have h1:=hT.small hg;have h2:=hT.count;omega
structure TW (w:World) (m:Nat) (F:Ft) (p:Nat) (f:Pf) (tb:Nat) (l:List KV):Prop where
 ex:∃n J seq B R,Tr n J seq B w F p f R tb∧Tre R l∧R.pages.length=m
 m4:4≤m
 m255:m≤255
def TWto (w:World) (m:Nat) (F:Ft) (p:Nat) (f:Pf) (tb:Nat) (l:List KV) (w':World):Prop:=∃f',TW w' m F p f' tb l∧f'.q=f.q∧(∀k,PT f' k→PT f k∨w.heap.size≤k)∧Zb (PJ F p f) w w'
section
variable {w w' : World} {m : Nat} {F : Ft} {p : Nat} {f : Pf} {tb : Nat} {l : List KV}
theorem TW.step (h:TW w m F p f tb l) (hb:Below w.heap.size w w'):TW w' m F p f tb l:=by obtain⟨⟨n,J,seq,B,R,h1,h2,h3⟩,h4,h5⟩:=h;exact⟨⟨n,J,seq,B,R,h1.step hb,h2,h3⟩,h4,h5⟩
theorem TW.lt (h:TW w m F p f tb l) {k:Nat} (hk:PJ F p f k):k<w.heap.size:=by obtain⟨⟨n,J,seq,B,R,h1,h2,h3⟩,h4,h5⟩:=h;exact h1.lp.lt hk
theorem TW.tlt (h:TW w m F p f tb l):tb<w.heap.size∧¬PJ F p f tb∧0<w.heap.size:=by obtain⟨⟨n,J,seq,B,R,h1,h2,h3⟩,h4,h5⟩:=h;exact⟨Za h1.head,h1.apart,h1.lp.nib_lt⟩
theorem TreH.low39 {R:Rp} (hg:R.good) (hm:R.pages.length≤255):∀h P,TreH R h l P→h≤39:=fun h P hT=>by have:=hT.low hg hm;omega
theorem put_tw (h:TW w m F p f tb l) (hr:Roomy m l) {key val:List UInt8} (hk:key.length≤80) (hv:val.length≤200) :
  Calls Tryz.prog 11 #[trp tb,.string ⟨key.toArray⟩,.string ⟨val.toArray⟩] w fun e w'=>e=.returned (.int .i64 0)∧TWto w m F p f tb (putL l key val) w':=by
 obtain⟨⟨n,J,seq,B,R,h1,h2,h3⟩,h4,h5⟩:=h;have hg:=h1.lp.good
 obtain⟨a,b,c⟩:=h2.put hg (by omega) (hr R hg h3) hk hv;refine(tput_any h1 key val (by omega) (by omega)).mono ?_;rintro e w' ⟨rfl,f',t1,t2,t3,t4⟩;exact⟨by rw[a],f',⟨⟨n,J,seq,B,_,t1,b,c.len.trans h3⟩,h4,h5⟩,t2,t3,t4⟩
theorem del_tw (h:TW w m F p f tb l) (hr:Roomy m l) {key:List UInt8} (hk:key.length≤80) :
  Calls Tryz.prog 13 #[trp tb,.string ⟨key.toArray⟩] w fun e w'=>e=.returned (.tuple #[.bool (Zab l key).2,.int .i64 0])∧TWto w m F p f tb (delL l key) w':=by
 obtain⟨⟨n,J,seq,B,R,h1,h2,h3⟩,h4,h5⟩:=h;have hg:=h1.lp.good
 obtain⟨a,b,c⟩:=h2.del hg (hr R hg h3) hk;refine(tdel_any h1 key (by omega)).mono ?_;rintro e w' ⟨rfl,f',t1,t2,t3,t4⟩;exact⟨by rw[a],f',⟨⟨n,J,seq,B,_,t1,b,c.len.trans h3⟩,h4,h5⟩,t2,t3,t4⟩
theorem get_tw (h:TW w m F p f tb l) {key:List UInt8} (hk:key.length≤80) :
  Calls Tryz.prog 21 #[trp tb,.string ⟨key.toArray⟩] w fun e w'=>e=.returned (.tuple #[.string ⟨(Zab l key).1.toArray⟩,.bool (Zab l key).2,.int .i64 0])∧TW w' m F p f tb l∧Zb (PJ F p f) w w':=by
 obtain⟨⟨n,J,seq,B,R,h1,h2,h3⟩,h4,h5⟩:=h;have hg:=h1.lp.good
 have hrb:=h1.lp.root_le;have a:=h2.get hg (TreH.low39 hg (by omega)) hk;refine(tget_any h1 key (by omega) (by omega)).mono ?_;rw[a];rintro e w' ⟨rfl,t1,t2⟩;exact⟨rfl,⟨⟨n,J,seq,B,R,t1,h2,h3⟩,h4,h5⟩,t2⟩
theorem sound_tw (h:TW w m F p f tb l):Calls Tryz.prog 14 #[trp tb] w fun e w'=>e=.returned (.int .i64 0)∧TW w' m F p f tb l∧Zb (PJ F p f) w w':=by
 obtain⟨⟨n,J,seq,B,R,h1,h2,h3⟩,h4,h5⟩:=h;have hg:=h1.lp.good
 have a:=h2.sound hg (TreH.low39 hg (by omega));refine(tsound_any h1).mono ?_;rw[a];rintro e w' ⟨rfl,t1,t2⟩;exact⟨rfl,⟨⟨n,J,seq,B,R,t1,h2,h3⟩,h4,h5⟩,t2⟩
end
end
end Go.Proofs.YtofibccplbnaiaaGreatDoor
