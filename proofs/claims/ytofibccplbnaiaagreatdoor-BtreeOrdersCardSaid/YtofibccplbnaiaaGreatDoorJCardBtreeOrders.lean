/- The card CardBtreeOrders: for every input the law answers true, and what came in reads as it did; with what it needs ahead. -/
import Derived.Test.YtofibccplbnaiaaGreatDoorL26
import Derived.Deep.Cut
import Derived.Deep.DeepCutAuto
import Derived.Deep.CutBlock
import Derived.Deep.CutRange
import Derived.Test.YtofibccplbnaiaaGreatDoorCards
import Derived.Test.YtofibccplbnaiaaGreatDoorTie
import Derived.Test.YtofibccplbnaiaaGreatDoorL22
set_option linter.unusedVariables false
set_option linter.unusedSimpArgs false
set_option maxRecDepth 100000
namespace Go.Proofs.YtofibccplbnaiaaGreatDoor
section
open Go.RowKit Go.Shelf Go.Lib
attribute [local go_sem] Oper.semAt_some
theorem TB.lift {N M : Nat} {w0 w1 w : World} {m : Nat} {F : Ft} {p : Nat} {f : Pf} {tb : Nat} {l : List KV} (h : TB M w1 w m F p f tb l) (hb : Below N w0 w1) (hN : N ≤ M) : TB N w0 w m F p f tb l :=
 ⟨h.tw,fun k hk=>Nat.le_trans hN (h.own k hk),Nat.le_trans hN h.tbN,hb.trans (h.below.mono hN),Nat.le_trans hN h.base⟩
theorem rise_eq {U l : List KV} (hU : Rise U) (hl : Rise l) (h1 : ∀ x ∈ U,x ∈ l) (h2 : ∀ x ∈ l,x ∈ U) : U = l:=(rise_sub hU hl h1).eq_of_length (Nat.le_antisymm (rise_sub hU hl h1).length_le (rise_sub hl hU h2).length_le)
theorem left_nil {w : World} {m : Nat} {F : Ft} {p : Nat} {f : Pf} {tb : Nat} (h : TW w m F p f tb []) {a : Nat} (ha : f.q = a) : (Calls Tryz.prog 15 #[qptr a] w fun e w'=>e = .returned (.int .i64 (m : Int))∧w' = w)∧(Calls Tryz.prog 16 #[qptr a] w fun e w'=>e = .returned (.int .i64 (m : Int))∧w' = w)∧(Calls Tryz.prog 17 #[qptr a] w fun e w'=>e = .returned (.int .i64 (-1))∧w' = w):=by subst ha;refine ⟨(left_tw h).mono ?_,pages_tw h,root_tw h⟩;rintro e w' ⟨n,rfl,rfl,_,_,h5⟩;exact ⟨by rw [h5 rfl],rfl⟩
set_option maxHeartbeats 32000000 in
theorem borders_walk (w : World) (hn : Nib w) (va : Value) (keys : List (List UInt8)) (hv : IsRow rdStr w va keys) (vb : Value) (vals : List (List UInt8)) (hu : IsRow rdStr w vb vals) (turn : Int) (ht1 : -9223372036854775808 ≤ turn) (ht2 : turn ≤ 9223372036854775807) :
  Calls Tryz.prog 3 #[va,vb,.int .i64 turn] w fun e w'=>e = .returned (.bool true)∧Below w.heap.size w w':=by
 obtain ⟨a,cap,rfl,hl1,hl2⟩:=hv.form;obtain ⟨a2,cap2,rfl,hl3,hl4⟩:=hu.form;unfold maxLen at hl2 hl4;have HSH:=Hd (shown10_any w hn)
 have HV:=Hd hv;have HU:=Hd hu;have HN:=Hd hn;clear hv hu hn;go_enter Tryz.func3,Tryz.ntmps3;go_wp2_with fail;refine HSH.out.mono ?_;rintro e w1 ⟨rfl,hb1⟩;have hn1:=HN.out.below hb1;have HBG:=Hd (begun10_any w1 hn1 4096 (by omega) (by omega));have HB1:=Hd hb1;have HN1:=Hd hn1;clear hb1 hn1;go_wp2_with fail;refine HBG.out.mono ?_;rintro e w2 ⟨F,p,f,tb,J,seq,B,rfl,hT,hb2,ho2,htb2,_,_,_⟩;have ht:=tb_begun (by omega) (by omega) hT hb2 ho2 htb2;simp only [Nat.reduceSub,Nat.reduceDiv] at ht;have HBG2:=Hd (begun10_any w2 (HN1.out.below hb2) 4096 (by omega) (by omega));have HT:=Hd ht;have HB2:=Hd hb2;clear hT hb2 ho2 htb2 ht;go_wp2_with fail;refine HBG2.out.mono ?_;rintro e w3 ⟨G,q,g,ub,J2,seq2,B2,rfl,hT,hb3,ho3,htb3,_,_,_⟩;have hu:=tb_begun (by omega) (by omega) hT hb3 ho3 htb3;simp only [Nat.reduceSub,Nat.reduceDiv] at hu
 have htu : TU w1.heap.size w1 w3 F p f tb [] G q g ub [] (.slice none 0 0) [] :=
  ⟨HT.out.step hb3,hu.lift HB2.out HB2.out.size,World.block_lt_of_cell? w1 _ (HN1.out 0 (by omega)),fun k e e2=>by have:=HT.out.tw.lt e;have:=ho3 k e2;omega,fun e=>by have:=HT.out.tw.tlt.1;have:=ho3 _ e;omega,fun e=>by have:=HT.out.tw.lt e;omega,IsPv.nil _,fun k hk=>by cases hk⟩
 have HTU:=Hd htu;clear hT hb3 ho3 htb3 hu htu;go_upto_block 0 with fail;go_cut [12] (fun s wx=>∃ lst,OkL 100 lst∧TU w1.heap.size w1 wx F p f tb [] G q g ub [] s lst)
 case first =>
  go_wp2_with fail;go_loopw [12,13] (fun s i wr=>∃ (k : Nat) (lst : List KV),k ≤ keys.length∧k ≤ 100∧i = .int .i64 (k : Int)∧OkL k lst∧TU w1.heap.size w1 wr F p f tb [] G q g ub [] s lst) (fun _ i _=>keys.length - (intOf i).toNat)
  case atStart=>exact ⟨0,[],Nat.zero_le _,Nat.zero_le _,rfl,OkL.nil,HTU.out⟩
  case round =>
   obtain ⟨k,lst,hk,hk2,rfl,hok,htu⟩:=hrel;have HOK:=Hd hok
   have HT1:=Hd htu;obtain ⟨ar,cr,rfl,_⟩:=htu.is;clear hok htu HTU;by_cases hlt : k < keys.length
   ·have hd : decide ((k : Int) < (keys.length : Int)) = true:=decide_eq_true (by omega)
    have hdn : decide (k < keys.length) = true:=decide_eq_true hlt;by_cases h100 : k < 100
    ·have hd2 : decide ((k : Int) < 100) = true:=decide_eq_true (by omega)
     have hd3 : decide (k < 100) = true:=decide_eq_true h100;obtain ⟨kb,ko,rfl,ck,hkl⟩:=strs_at (HV.out.below (HB1.out.trans (HT1.out.t.below.mono HB1.out.size))) k hlt;obtain ⟨key,hkey⟩ : ∃ x,x = keys[k]:=⟨_,rfl⟩;rw [← hkey] at ck hkl;clear hkey;go_upto_if 63 with fail;go_cut [14] from 61 to 70 (fun x wx=>wr = wx∧∃ V : List UInt8,V.length ≤ maxLen∧x = .string ⟨V.toArray⟩)
     case first =>
      by_cases h0 : 0 < vals.length
      ·have hv0 : decide ((0 : Int) < (vals.length : Int)) = true:=decide_eq_true (by omega)
       have hv1 : decide (0 < vals.length) = true:=decide_eq_true h0;obtain ⟨vb,vo,rfl,cv,hvl⟩:=strs_at (HU.out.below (HB1.out.trans (HT1.out.t.below.mono HB1.out.size))) (k % vals.length) (Nat.mod_lt _ h0);obtain ⟨V,hV⟩ : ∃ x,x = vals[k % vals.length]'(Nat.mod_lt _ h0):=⟨_,rfl⟩;rw [← hV] at cv hvl;have hmod : (k : Int).tmod (vals.length : Int) = ((k % vals.length : Nat) : Int):=by rw [Int.tmod_eq_emod_of_nonneg (by omega)];rfl
       have hne : ¬ (vals.length : Int) = 0:=by omega
       have hne2 : ¬ vals.length = 0:=by omega
       have hi0 : (0 : Int) ≤ ((k % vals.length : Nat) : Int):=by omega
       have hml:=Nat.mod_lt k h0;have hi1 : ((k % vals.length : Nat) : Int) < (vals.length : Int):=by omega
       clear hV;go_wp2_with fail;go_meet;exact ⟨rfl,V,hvl,rfl⟩
      ·obtain rfl : vals = []:=List.eq_nil_of_length_eq_zero (by omega);clear h0;go_wp2_with fail;go_meet;exact ⟨rfl,[],by simp [maxLen],rfl⟩
     case rest =>
      obtain ⟨rfl,V,hVl,rfl⟩:=hcut;have HGT:=Hd (rget_any wr HT1.out.is key)
      go_wp2_with fail;refine HGT.out.mono ?_;rintro e w4 ⟨rfl,hb4⟩;have HT4:=Hd (HT1.out.step hb4)
      have ck4:=cells_below hb4 _ _ ck;obtain ⟨ig,hig⟩ : ∃ x,x = (getL lst key).2:=⟨_,rfl⟩;rw [← hig];have HIG:=Hd hig;clear hig hb4 HGT ck;go_upto_region 14 with fail;go_cut [94] from 80 to 94 (fun b wx=>w4 = wx∧b = .bool (!ig && (decide (key.length ≤ 80) && decide (V.length ≤ 200))))
      case first =>
       cases ig with
       | true =>
        go_wp2_with fail;go_meet;exact ⟨rfl,rfl⟩
       | false =>
        by_cases h80 : key.length ≤ 80
        ·have e80 : decide ((key.length : Int) ≤ 80) = true:=decide_eq_true (by omega)
         have f80 : decide (key.length ≤ 80) = true:=decide_eq_true h80;by_cases h200 : V.length ≤ 200
         ·have e200 : decide ((V.length : Int) ≤ 200) = true:=decide_eq_true (by omega);have f200 : decide (V.length ≤ 200) = true:=decide_eq_true h200;go_wp2_with fail;go_meet;exact ⟨rfl,by simp [f80,f200]⟩
         ·have e200 : decide ((V.length : Int) ≤ 200) = false:=decide_eq_false (by omega);have f200 : decide (V.length ≤ 200) = false:=decide_eq_false h200;go_wp2_with fail;go_meet;exact ⟨rfl,by simp [f80,f200]⟩
        ·have e80 : decide ((key.length : Int) ≤ 80) = false:=decide_eq_false (by omega);have f80 : decide (key.length ≤ 80) = false:=decide_eq_false h80;go_wp2_with fail;go_meet;exact ⟨rfl,by simp [f80]⟩
      case rest =>
       obtain ⟨rfl,rfl⟩:=hcut;have hwr : IntKind.i64.wrap ((k : Int) + 1) = (k : Int) + 1:=IntWalk.i64_in _ (by omega)
       cases hb : (!ig && (decide (key.length ≤ 80) && decide (V.length ≤ 200))) with
       | true =>
        have h2 : key.length ≤ 80∧V.length ≤ 200:=by simp only [Bool.and_eq_true,decide_eq_true_eq] at hb;exact hb.2
        have HPT:=Hd (rput_any w4 HT4.out.is key V (by have:=HOK.out.len;omega));have H2:=Hd h2;clear hb h2;go_wp2_with fail;refine HPT.out.mono ?_;rintro e w5 ⟨v',rfl,hm5,hb5⟩;have HR:=Hd (HT4.out.row rfl hm5 hb5);clear hm5 hb5;go_wp2_with fail;go_roundw
        case rel=>exact ⟨k + 1,_,hlt,by omega,by go_num,HOK.out.put H2.out.1 H2.out.2,HR.out⟩
        case measure=>simp [intOf];omega
       | false =>
        clear hb;go_wp2_with fail;go_roundw
        case rel=>exact ⟨k + 1,lst,hlt,by omega,by go_num,HOK.out.mono (by omega),HT4.out⟩
        case measure=>simp [intOf];omega
    ·have hd2 : decide ((k : Int) < 100) = false:=decide_eq_false (by omega);have hd3 : decide (k < 100) = false:=decide_eq_false h100;go_wp2_with fail;go_meet;exact ⟨lst,HOK.out.mono hk2,HT1.out⟩
   ·have hd : decide ((k : Int) < (keys.length : Int)) = false:=decide_eq_false (by omega);have hdn : decide (k < keys.length) = false:=decide_eq_false hlt;go_wp2_with fail;go_meet;exact ⟨lst,HOK.out.mono hk2,HT1.out⟩
 case rest =>
  obtain ⟨l,hok,htu⟩:=hcut;have HOK:=Hd hok
  have HT2:=Hd htu;obtain ⟨ar,cr,rfl,hlc,hcm,_⟩:=htu.is;have hlen:=hok.len;clear hok htu;unfold maxLen at hcm;go_wp2_with fail;go_loopw [17] (fun i wr=>∃ (k : Nat) (f' g' : Pf) (U : List KV),k ≤ l.length∧i = .int .i64 (k : Int)∧f'.q = f.q∧g'.q = g.q∧(∀ x ∈ U,x ∈ l)∧Rise U∧TU w1.heap.size w1 wr F p f' tb (l.take k) G q g' ub U (.slice ar l.length cr) l) (fun i _=>l.length - (intOf i).toNat)
  case atStart=>exact ⟨0,f,g,[],Nat.zero_le _,rfl,rfl,rfl,by simp,List.Pairwise.nil,HT2.out⟩
  case round =>
   obtain ⟨k,f',g',U,hk,rfl,hfq,hgq,hUs,hUr,htu⟩:=hrel;have HT3:=Hd htu
   have HQ:=Hd (And.intro hfq (And.intro hgq (And.intro hUs hUr)));clear htu hfq hgq hUs hUr HT2;by_cases hlt : k < l.length
   ·have hd : decide ((k : Int) < (l.length : Int)) = true:=decide_eq_true (by omega)
    have hdn : decide (k < l.length) = true:=decide_eq_true hlt;have htd:=HT3.out.step (Below.refl _ _).drew;obtain ⟨b,o,rfl,c0,c1⟩:=htd.is.at k hlt;have hxl : l[k] ∈ l:=List.getElem_mem hlt;have hpt:=put_tw htd.t.tw (roomy255 (by have:=(HOK.out.sub (List.take_sublist k l)).wgt;omega)) (key:=l[k].1) (val:=l[k].2) (HOK.out.key _ hxl) (HOK.out.val _ hxl);rw [put_next HOK.out.rise hlt] at hpt;obtain ⟨x,hx⟩ : ∃ x,x = l[k]:=⟨_,rfl⟩;rw [← hx] at c0 c1 hpt;have HX:=Hd (And.intro hx hxl);have HPUT:=Hd hpt;have HTD:=Hd htd;have hi0 : (0 : Int) ≤ (k : Int):=by omega
    have hi1 : (k : Int) < (l.length : Int):=by omega
    have hS : (fun W : World=>W.cell? ⟨b,o + k * 2,none⟩ = some (.string ⟨x.1.toArray⟩)∧W.cell? ⟨b,o + k * 2 + 1,none⟩ = some (.string ⟨x.2.toArray⟩)) wr.drew:=⟨c0,c1⟩;have HS:=Hd hS;clear htd hpt hx hxl c0 c1 hS;go_upto_region 19 with fail;refine rgA (S:=(fun W : World=>W.cell? ⟨b,o + k * 2,none⟩ = some (.string ⟨x.1.toArray⟩)∧W.cell? ⟨b,o + k * 2 + 1,none⟩ = some (.string ⟨x.2.toArray⟩))) HS.out (fun hH=>?_);refine tkB 0 rfl (v:=?_) ?_ hH ?_;rotate_left
    ·intro w hSw;obtain ⟨q0,q1⟩:=hSw;go_simp;try with_reducible rfl
    try simp only [Act.put,zA,zB,zC]
    refine tkB 1 rfl (v:=?_) ?_ hH ?_;rotate_left
    ·intro w hSw;obtain ⟨q0,q1⟩:=hSw;go_simp;try with_reducible rfl
    try simp only [Act.put,zA,zB,zC]
    refine tkB 2 rfl (v:=?_) ?_ hH ?_;rotate_left
    ·intro w hSw;obtain ⟨q0,q1⟩:=hSw;go_simp;try with_reducible rfl
    try simp only [Act.put,zA,zB,zC]
    refine tkB 3 rfl (v:=?_) ?_ hH ?_;rotate_left
    ·intro w hSw;obtain ⟨q0,q1⟩:=hSw;go_simp;try with_reducible rfl
    try simp only [Act.put,zA,zB,zC]
    refine tkB 4 rfl (v:=?_) ?_ hH ?_;rotate_left
    ·intro w hSw;obtain ⟨q0,q1⟩:=hSw;go_simp;try with_reducible rfl
    try simp only [Act.put,zA,zB,zC]
    refine tkB 5 rfl (v:=?_) ?_ hH ?_;rotate_left
    ·intro w hSw;obtain ⟨q0,q1⟩:=hSw;go_simp;try with_reducible rfl
    try simp only [Act.put,zA,zB,zC]
    refine tkB 6 rfl (v:=?_) ?_ hH ?_;rotate_left
    ·intro w hSw;obtain ⟨q0,q1⟩:=hSw;go_simp;try with_reducible rfl
    try simp only [Act.put,zA,zB,zC]
    refine tkB 7 rfl (v:=?_) ?_ hH ?_;rotate_left
    ·intro w hSw;obtain ⟨q0,q1⟩:=hSw;go_simp;try with_reducible rfl
    try simp only [Act.put,zA,zB,zC]
    refine tkB 8 rfl (v:=?_) ?_ hH ?_;rotate_left
    ·intro w hSw;obtain ⟨q0,q1⟩:=hSw;go_simp;try with_reducible rfl
    try simp only [Act.put,zA,zB,zC]
    refine tkB 9 rfl (v:=?_) ?_ hH ?_;rotate_left
    ·intro w hSw;obtain ⟨q0,q1⟩:=hSw;go_simp;try with_reducible rfl
    try simp only [Act.put,zA,zB,zC]
    refine tkB 10 rfl (v:=?_) ?_ hH ?_;rotate_left
    ·intro w hSw;obtain ⟨q0,q1⟩:=hSw;go_simp;try with_reducible rfl
    try simp only [Act.put,zA,zB,zC]
    refine rdA 11 rfl (fun K hK=>?_);go_simp;refine HPUT.out.mono ?_;rintro e w7 ⟨rfl,hto⟩;obtain ⟨f7,htu7,hq7⟩:=HTD.out.to hto;have HT7:=Hd (And.intro htu7 (hq7.trans HQ.out.1))
    have hS7 : (fun W : World=>W.cell? ⟨b,o + k * 2,none⟩ = some (.string ⟨x.1.toArray⟩)∧W.cell? ⟨b,o + k * 2 + 1,none⟩ = some (.string ⟨x.2.toArray⟩)) w7:=by
     obtain ⟨b2,o2,e2,d0,d1⟩:=htu7.is.at k hlt;obtain ⟨rfl,rfl⟩ : b = b2∧o = o2:=by simpa using e2
     rw [← HX.out.1] at d0 d1;exact ⟨d0,d1⟩
    clear htu7 hq7 hto hH;go_wp2_with fail;refine hK.out _ _ hS7 (fun hH=>?_);clear hK K;try simp only [Act.put,zA,zB,zC]
    refine tkB 12 rfl (v:=?_) ?_ hH ?_;rotate_left
    ·intro w hSw;obtain ⟨q0,q1⟩:=hSw;go_simp;try with_reducible rfl
    try simp only [Act.put,zA,zB,zC]
    refine dnA ?_;clear hH;obtain ⟨kk,hkk⟩ : ∃ kk,kk = l.length - 1 - k:=⟨_,rfl⟩;have hkl : kk < l.length:=by omega
    have hw1 : IntKind.i64.wrap ((l.length : Int) - 1) = (l.length : Int) - 1:=IntWalk.i64_in _ (by omega);have hw2 : IntKind.i64.wrap ((l.length : Int) - 1 - (k : Int)) = (kk : Int):=by rw [IntWalk.i64_in _ (by omega)];omega
    have hw3 : IntKind.i64.wrap ((kk : Int) + 1) = (kk : Int) + 1:=IntWalk.i64_in _ (by omega);have hw4 : IntKind.i64.wrap ((l.length : Int) - 1 - (kk : Int)) = (k : Int):=by rw [IntWalk.i64_in _ (by omega)];omega
    have hwr : IntKind.i64.wrap ((k : Int) + 1) = (k : Int) + 1:=IntWalk.i64_in _ (by omega);have hkk0 : (0 : Int) ≤ (kk : Int):=by omega
    have hkk1 : (kk : Int) < (l.length : Int):=by omega
    clear hkk;go_upto_region 21 with fail;go_cut [139] from 126 to 139 (fun b wx=>w7 = wx∧∃ bb,b = .bool bb)
    case first =>
     go_wp2_with fail
     all_goals
      go_meet
      exact ⟨rfl,_,rfl⟩
    case rest =>
     obtain ⟨rfl,bb,rfl⟩:=hcut;have hok4 : OkL 100 U:=HOK.out.sub (rise_sub HQ.out.2.2.2 HOK.out.rise HQ.out.2.2.1)
     have HOU:=Hd hok4;clear hok4
     cases bb with
     | false =>
      have htd:=HT7.out.1.step (Below.refl _ _).drew;obtain ⟨b2,o2,e2,c0,c1⟩:=htd.is.at kk hkl;obtain ⟨rfl,rfl⟩ : b = b2∧o = o2:=by simpa using e2
      have hyl : l[kk] ∈ l:=List.getElem_mem hkl;have hps:=put_sub (U:=U) (y:=l[kk]) HOK.out.rise HQ.out.2.2.1 hyl;have hpt:=put_tw htd.u.tw (roomy255 (by have:=HOU.out.wgt;omega)) (key:=l[kk].1) (val:=l[kk].2) (HOK.out.key _ hyl) (HOK.out.val _ hyl);obtain ⟨y,hy⟩ : ∃ y,y = l[kk]:=⟨_,rfl⟩;rw [← hy] at c0 c1 hpt hps;have HY:=Hd (And.intro hy hps);have HPUT2:=Hd hpt;have HTD2:=Hd htd;have hS : (fun W : World=>W.cell? ⟨b,o + kk * 2,none⟩ = some (.string ⟨y.1.toArray⟩)∧W.cell? ⟨b,o + kk * 2 + 1,none⟩ = some (.string ⟨y.2.toArray⟩)) w7.drew:=⟨c0,c1⟩;have HS2:=Hd hS;clear htd hpt hy hps hyl c0 c1 hS e2;go_upto_region 23 with fail;refine rgA (S:=(fun W : World=>W.cell? ⟨b,o + kk * 2,none⟩ = some (.string ⟨y.1.toArray⟩)∧W.cell? ⟨b,o + kk * 2 + 1,none⟩ = some (.string ⟨y.2.toArray⟩))) HS2.out (fun hH=>?_);refine tkB 0 rfl (v:=?_) ?_ hH ?_;rotate_left
      ·intro w hSw;obtain ⟨q0,q1⟩:=hSw;go_simp;try with_reducible rfl
      try simp only [Act.put,zA,zB,zC]
      refine tkB 1 rfl (v:=?_) ?_ hH ?_;rotate_left
      ·intro w hSw;obtain ⟨q0,q1⟩:=hSw;go_simp;try with_reducible rfl
      try simp only [Act.put,zA,zB,zC]
      refine tkB 2 rfl (v:=?_) ?_ hH ?_;rotate_left
      ·intro w hSw;obtain ⟨q0,q1⟩:=hSw;go_simp;try with_reducible rfl
      try simp only [Act.put,zA,zB,zC]
      refine tkB 3 rfl (v:=?_) ?_ hH ?_;rotate_left
      ·intro w hSw;obtain ⟨q0,q1⟩:=hSw;go_simp;try with_reducible rfl
      try simp only [Act.put,zA,zB,zC]
      refine tkB 4 rfl (v:=?_) ?_ hH ?_;rotate_left
      ·intro w hSw;obtain ⟨q0,q1⟩:=hSw;go_simp;try with_reducible rfl
      try simp only [Act.put,zA,zB,zC]
      refine tkB 5 rfl (v:=?_) ?_ hH ?_;rotate_left
      ·intro w hSw;obtain ⟨q0,q1⟩:=hSw;go_simp;try with_reducible rfl
      try simp only [Act.put,zA,zB,zC]
      refine tkB 6 rfl (v:=?_) ?_ hH ?_;rotate_left
      ·intro w hSw;obtain ⟨q0,q1⟩:=hSw;go_simp;try with_reducible rfl
      try simp only [Act.put,zA,zB,zC]
      refine tkB 7 rfl (v:=?_) ?_ hH ?_;rotate_left
      ·intro w hSw;obtain ⟨q0,q1⟩:=hSw;go_simp;try with_reducible rfl
      try simp only [Act.put,zA,zB,zC]
      refine tkB 8 rfl (v:=?_) ?_ hH ?_;rotate_left
      ·intro w hSw;obtain ⟨q0,q1⟩:=hSw;go_simp;try with_reducible rfl
      try simp only [Act.put,zA,zB,zC]
      refine tkB 9 rfl (v:=?_) ?_ hH ?_;rotate_left
      ·intro w hSw;obtain ⟨q0,q1⟩:=hSw;go_simp;try with_reducible rfl
      try simp only [Act.put,zA,zB,zC]
      refine tkB 10 rfl (v:=?_) ?_ hH ?_;rotate_left
      ·intro w hSw;obtain ⟨q0,q1⟩:=hSw;go_simp;try with_reducible rfl
      try simp only [Act.put,zA,zB,zC]
      refine rdA 11 rfl (fun K hK=>?_);go_simp;refine HPUT2.out.mono ?_;rintro e w8 ⟨rfl,hto⟩;obtain ⟨g8,htu8,hq8⟩:=HTD2.out.swap.to hto;have HT8:=Hd (And.intro htu8.swap (hq8.trans HQ.out.2.1))
      have hS8 : (fun W : World=>W.cell? ⟨b,o + kk * 2,none⟩ = some (.string ⟨y.1.toArray⟩)∧W.cell? ⟨b,o + kk * 2 + 1,none⟩ = some (.string ⟨y.2.toArray⟩)) w8:=by
       obtain ⟨b2,o2,e2,d0,d1⟩:=htu8.is.at kk hkl;obtain ⟨rfl,rfl⟩ : b = b2∧o = o2:=by simpa using e2
       rw [← HY.out.1] at d0 d1;exact ⟨d0,d1⟩
      clear htu8 hq8 hto hH;go_wp2_with fail;refine hK.out _ _ hS8 (fun hH=>?_);clear hK K;try simp only [Act.put,zA,zB,zC]
      refine tkB 12 rfl (v:=?_) ?_ hH ?_;rotate_left
      ·intro w hSw;obtain ⟨q0,q1⟩:=hSw;go_simp;try with_reducible rfl
      try simp only [Act.put,zA,zB,zC]
      refine dnA ?_;clear hH;go_wp2_with fail;go_roundw
      case rel=>exact ⟨k + 1,f7,g8,_,hlt,by go_num,HT7.out.2,HT8.out.2,HY.out.2.1,putL_rise HQ.out.2.2.2,HT8.out.1⟩
      case measure=>simp [intOf];omega
     | true =>
      have htd:=HT7.out.1.step (Below.refl _ _).drew;obtain ⟨b2,o2,e2,c0,c1⟩:=htd.is.at k hlt;obtain ⟨rfl,rfl⟩ : b = b2∧o = o2:=by simpa using e2
      have hyl : l[k] ∈ l:=List.getElem_mem hlt;have hps:=put_sub (U:=U) (y:=l[k]) HOK.out.rise HQ.out.2.2.1 hyl;have hpt:=put_tw htd.u.tw (roomy255 (by have:=HOU.out.wgt;omega)) (key:=l[k].1) (val:=l[k].2) (HOK.out.key _ hyl) (HOK.out.val _ hyl);obtain ⟨y,hy⟩ : ∃ y,y = l[k]:=⟨_,rfl⟩;rw [← hy] at c0 c1 hpt hps;have HY:=Hd (And.intro hy hps);have HPUT2:=Hd hpt;have HTD2:=Hd htd;have hS : (fun W : World=>W.cell? ⟨b,o + k * 2,none⟩ = some (.string ⟨y.1.toArray⟩)∧W.cell? ⟨b,o + k * 2 + 1,none⟩ = some (.string ⟨y.2.toArray⟩)) w7.drew:=⟨c0,c1⟩;have HS2:=Hd hS;clear htd hpt hy hps hyl c0 c1 hS e2;go_upto_region 23 with fail;refine rgA (S:=(fun W : World=>W.cell? ⟨b,o + k * 2,none⟩ = some (.string ⟨y.1.toArray⟩)∧W.cell? ⟨b,o + k * 2 + 1,none⟩ = some (.string ⟨y.2.toArray⟩))) HS2.out (fun hH=>?_);refine tkB 0 rfl (v:=?_) ?_ hH ?_;rotate_left
      ·intro w hSw;obtain ⟨q0,q1⟩:=hSw;go_simp;try with_reducible rfl
      try simp only [Act.put,zA,zB,zC]
      refine tkB 1 rfl (v:=?_) ?_ hH ?_;rotate_left
      ·intro w hSw;obtain ⟨q0,q1⟩:=hSw;go_simp;try with_reducible rfl
      try simp only [Act.put,zA,zB,zC]
      refine tkB 2 rfl (v:=?_) ?_ hH ?_;rotate_left
      ·intro w hSw;obtain ⟨q0,q1⟩:=hSw;go_simp;try with_reducible rfl
      try simp only [Act.put,zA,zB,zC]
      refine tkB 3 rfl (v:=?_) ?_ hH ?_;rotate_left
      ·intro w hSw;obtain ⟨q0,q1⟩:=hSw;go_simp;try with_reducible rfl
      try simp only [Act.put,zA,zB,zC]
      refine tkB 4 rfl (v:=?_) ?_ hH ?_;rotate_left
      ·intro w hSw;obtain ⟨q0,q1⟩:=hSw;go_simp;try with_reducible rfl
      try simp only [Act.put,zA,zB,zC]
      refine tkB 5 rfl (v:=?_) ?_ hH ?_;rotate_left
      ·intro w hSw;obtain ⟨q0,q1⟩:=hSw;go_simp;try with_reducible rfl
      try simp only [Act.put,zA,zB,zC]
      refine tkB 6 rfl (v:=?_) ?_ hH ?_;rotate_left
      ·intro w hSw;obtain ⟨q0,q1⟩:=hSw;go_simp;try with_reducible rfl
      try simp only [Act.put,zA,zB,zC]
      refine tkB 7 rfl (v:=?_) ?_ hH ?_;rotate_left
      ·intro w hSw;obtain ⟨q0,q1⟩:=hSw;go_simp;try with_reducible rfl
      try simp only [Act.put,zA,zB,zC]
      refine tkB 8 rfl (v:=?_) ?_ hH ?_;rotate_left
      ·intro w hSw;obtain ⟨q0,q1⟩:=hSw;go_simp;try with_reducible rfl
      try simp only [Act.put,zA,zB,zC]
      refine tkB 9 rfl (v:=?_) ?_ hH ?_;rotate_left
      ·intro w hSw;obtain ⟨q0,q1⟩:=hSw;go_simp;try with_reducible rfl
      try simp only [Act.put,zA,zB,zC]
      refine tkB 10 rfl (v:=?_) ?_ hH ?_;rotate_left
      ·intro w hSw;obtain ⟨q0,q1⟩:=hSw;go_simp;try with_reducible rfl
      try simp only [Act.put,zA,zB,zC]
      refine rdA 11 rfl (fun K hK=>?_);go_simp;refine HPUT2.out.mono ?_;rintro e w8 ⟨rfl,hto⟩;obtain ⟨g8,htu8,hq8⟩:=HTD2.out.swap.to hto;have HT8:=Hd (And.intro htu8.swap (hq8.trans HQ.out.2.1))
      have hS8 : (fun W : World=>W.cell? ⟨b,o + k * 2,none⟩ = some (.string ⟨y.1.toArray⟩)∧W.cell? ⟨b,o + k * 2 + 1,none⟩ = some (.string ⟨y.2.toArray⟩)) w8:=by
       obtain ⟨b2,o2,e2,d0,d1⟩:=htu8.is.at k hlt;obtain ⟨rfl,rfl⟩ : b = b2∧o = o2:=by simpa using e2
       rw [← HY.out.1] at d0 d1;exact ⟨d0,d1⟩
      clear htu8 hq8 hto hH;go_wp2_with fail;refine hK.out _ _ hS8 (fun hH=>?_);clear hK K;try simp only [Act.put,zA,zB,zC]
      refine tkB 12 rfl (v:=?_) ?_ hH ?_;rotate_left
      ·intro w hSw;obtain ⟨q0,q1⟩:=hSw;go_simp;try with_reducible rfl
      try simp only [Act.put,zA,zB,zC]
      refine dnA ?_;clear hH;go_wp2_with fail;go_roundw
      case rel=>exact ⟨k + 1,f7,g8,_,hlt,by go_num,HT7.out.2,HT8.out.2,HY.out.2.1,putL_rise HQ.out.2.2.2,HT8.out.1⟩
      case measure=>simp [intOf];omega
   ·obtain rfl : k = l.length:=by omega
    have hd : decide ((l.length : Int) < (l.length : Int)) = false:=decide_eq_false (by omega);have hdn : decide (l.length < l.length) = false:=decide_eq_false (by omega);go_wp2_with fail
    have HT4:=Hd (show TU w1.heap.size w1 wr F p f' tb l G q g' ub U (.slice ar l.length cr) l by
     have h:=HT3.out;rw [List.take_length] at h
     exact h)
    clear HT3 hd hdn;go_loopw [21] (fun i wr=>∃ (k : Nat) (g2 : Pf) (V : List KV),k ≤ l.length∧i = .int .i64 (k : Int)∧g2.q = g.q∧(∀ x ∈ V,x ∈ l)∧Rise V∧(∀ x ∈ l.take k,x ∈ V)∧TU w1.heap.size w1 wr F p f' tb l G q g2 ub V (.slice ar l.length cr) l) (fun i _=>l.length - (intOf i).toNat)
    case atStart=>exact ⟨0,g',U,Nat.zero_le _,rfl,HQ.out.2.1,HQ.out.2.2.1,HQ.out.2.2.2,by simp,HT4.out⟩
    case round =>
     have HF:=Hd HQ.out.1;clear HT4 HQ;rename_i wr0 _;obtain ⟨k,g2,V,hk,rfl,hgq,hVs,hVr,hVi,htu⟩:=hrel;have HT3:=Hd htu;have HQ:=Hd (And.intro hgq (And.intro hVs (And.intro hVr hVi)));clear htu hgq hVs hVr hVi;have HOU : Hid (OkL 100 V):=Hd (HOK.out.sub (rise_sub HQ.out.2.2.1 HOK.out.rise HQ.out.2.1));by_cases hlt : k < l.length
     ·have hd : decide ((k : Int) < (l.length : Int)) = true:=decide_eq_true (by omega)
      have hdn : decide (k < l.length) = true:=decide_eq_true hlt;have hi0 : (0 : Int) ≤ (k : Int):=by omega
      have hi1 : (k : Int) < (l.length : Int):=by omega
      have hwr : IntKind.i64.wrap ((k : Int) + 1) = (k : Int) + 1:=IntWalk.i64_in _ (by omega);obtain ⟨b,o,rfl,_⟩:=HT3.out.is.at k hlt;have htd:=HT3.out.step (Below.refl _ _).drew;obtain ⟨b2,o2,e2,c0,c1⟩:=htd.is.at k hlt;obtain ⟨rfl,rfl⟩ : b = b2∧o = o2:=by simpa using e2
      have hyl : l[k] ∈ l:=List.getElem_mem hlt;have hps:=put_sub (U:=V) (y:=l[k]) HOK.out.rise HQ.out.2.1 hyl;have hpt:=put_tw htd.u.tw (roomy255 (by have:=HOU.out.wgt;omega)) (key:=l[k].1) (val:=l[k].2) (HOK.out.key _ hyl) (HOK.out.val _ hyl);obtain ⟨y,hy⟩ : ∃ y,y = l[k]:=⟨_,rfl⟩;rw [← hy] at c0 c1 hpt hps;have HY:=Hd (And.intro hy hps);have HPUT2:=Hd hpt;have HTD2:=Hd htd;have hS : (fun W : World=>W.cell? ⟨b,o + k * 2,none⟩ = some (.string ⟨y.1.toArray⟩)∧W.cell? ⟨b,o + k * 2 + 1,none⟩ = some (.string ⟨y.2.toArray⟩)) wr.drew:=⟨c0,c1⟩;have HS2:=Hd hS;clear htd hpt hy hps hyl c0 c1 hS e2;go_upto_region 29 with fail;refine rgA (S:=(fun W : World=>W.cell? ⟨b,o + k * 2,none⟩ = some (.string ⟨y.1.toArray⟩)∧W.cell? ⟨b,o + k * 2 + 1,none⟩ = some (.string ⟨y.2.toArray⟩))) HS2.out (fun hH=>?_);refine tkB 0 rfl (v:=?_) ?_ hH ?_;rotate_left
      ·intro w hSw;obtain ⟨q0,q1⟩:=hSw;go_simp;try with_reducible rfl
      try simp only [Act.put,zA,zB,zC]
      refine tkB 1 rfl (v:=?_) ?_ hH ?_;rotate_left
      ·intro w hSw;obtain ⟨q0,q1⟩:=hSw;go_simp;try with_reducible rfl
      try simp only [Act.put,zA,zB,zC]
      refine tkB 2 rfl (v:=?_) ?_ hH ?_;rotate_left
      ·intro w hSw;obtain ⟨q0,q1⟩:=hSw;go_simp;try with_reducible rfl
      try simp only [Act.put,zA,zB,zC]
      refine tkB 3 rfl (v:=?_) ?_ hH ?_;rotate_left
      ·intro w hSw;obtain ⟨q0,q1⟩:=hSw;go_simp;try with_reducible rfl
      try simp only [Act.put,zA,zB,zC]
      refine tkB 4 rfl (v:=?_) ?_ hH ?_;rotate_left
      ·intro w hSw;obtain ⟨q0,q1⟩:=hSw;go_simp;try with_reducible rfl
      try simp only [Act.put,zA,zB,zC]
      refine tkB 5 rfl (v:=?_) ?_ hH ?_;rotate_left
      ·intro w hSw;obtain ⟨q0,q1⟩:=hSw;go_simp;try with_reducible rfl
      try simp only [Act.put,zA,zB,zC]
      refine tkB 6 rfl (v:=?_) ?_ hH ?_;rotate_left
      ·intro w hSw;obtain ⟨q0,q1⟩:=hSw;go_simp;try with_reducible rfl
      try simp only [Act.put,zA,zB,zC]
      refine tkB 7 rfl (v:=?_) ?_ hH ?_;rotate_left
      ·intro w hSw;obtain ⟨q0,q1⟩:=hSw;go_simp;try with_reducible rfl
      try simp only [Act.put,zA,zB,zC]
      refine tkB 8 rfl (v:=?_) ?_ hH ?_;rotate_left
      ·intro w hSw;obtain ⟨q0,q1⟩:=hSw;go_simp;try with_reducible rfl
      try simp only [Act.put,zA,zB,zC]
      refine tkB 9 rfl (v:=?_) ?_ hH ?_;rotate_left
      ·intro w hSw;obtain ⟨q0,q1⟩:=hSw;go_simp;try with_reducible rfl
      try simp only [Act.put,zA,zB,zC]
      refine tkB 10 rfl (v:=?_) ?_ hH ?_;rotate_left
      ·intro w hSw;obtain ⟨q0,q1⟩:=hSw;go_simp;try with_reducible rfl
      try simp only [Act.put,zA,zB,zC]
      refine rdA 11 rfl (fun K hK=>?_);go_simp;refine HPUT2.out.mono ?_;rintro e w8 ⟨rfl,hto⟩;obtain ⟨g8,htu8,hq8⟩:=HTD2.out.swap.to hto;have HT8:=Hd (And.intro htu8.swap (hq8.trans HQ.out.1))
      have hS8 : (fun W : World=>W.cell? ⟨b,o + k * 2,none⟩ = some (.string ⟨y.1.toArray⟩)∧W.cell? ⟨b,o + k * 2 + 1,none⟩ = some (.string ⟨y.2.toArray⟩)) w8:=by
       obtain ⟨b2,o2,e2,d0,d1⟩:=htu8.is.at k hlt;obtain ⟨rfl,rfl⟩ : b = b2∧o = o2:=by simpa using e2
       rw [← HY.out.1] at d0 d1;exact ⟨d0,d1⟩
      clear htu8 hq8 hto hH;go_wp2_with fail;refine hK.out _ _ hS8 (fun hH=>?_);clear hK K;try simp only [Act.put,zA,zB,zC]
      refine tkB 12 rfl (v:=?_) ?_ hH ?_;rotate_left
      ·intro w hSw;obtain ⟨q0,q1⟩:=hSw;go_simp;try with_reducible rfl
      try simp only [Act.put,zA,zB,zC]
      refine dnA ?_;clear hH;go_wp2_with fail;go_roundw
      case rel =>
       refine ⟨k + 1,g8,_,hlt,by go_num,HT8.out.2,HY.out.2.1,putL_rise HQ.out.2.2.1,fun x hx=>?_,HT8.out.1⟩;rw [List.take_succ_eq_append_getElem hlt] at hx;rcases List.mem_append.1 hx with hx | hx
       ·exact HY.out.2.2.1 x (HQ.out.2.2.2 x hx)
       ·rw [List.mem_singleton.1 hx,← HY.out.1];exact HY.out.2.2.2
      case measure=>simp [intOf];omega
     ·obtain rfl : k = l.length:=by omega
      have hd : decide ((l.length : Int) < (l.length : Int)) = false:=decide_eq_false (by omega);have hdn : decide (l.length < l.length) = false:=decide_eq_false (by omega);have eV : V = l:=rise_eq HQ.out.2.2.1 HOK.out.rise HQ.out.2.1 (fun x hx=>HQ.out.2.2.2 x (by rw [List.take_length];exact hx));have htu:=HT3.out;rw [eV] at htu;have HG:=Hd HQ.out.1;have HT5:=Hd htu;have hsm : Calls Tryz.prog 12 #[trp tb,.string ⟨#[]⟩,.string ⟨#[]⟩,.slice ar l.length cr,.int .i64 0] wr fun e w'=>e = .returned (.bool true)∧TW w' 255 F p f' tb l∧Turned (PJ F p f') wr w':=bsame_any (from_:=[]) (to_:=[]) htu.t.tw (by have:=HOK.out.len;omega) (by rw [rngL_all];exact htu.is) (fun k hk=>(htu.off k hk).2.1) 0 (by omega);have HSM:=Hd hsm;clear eV htu hsm HT3 HQ HOU;go_wp2_with fail;refine HSM.out.mono ?_;rintro e w8 ⟨rfl,htw,htt⟩;have htu:=HT5.out.read htw htt;have HT6:=Hd htu;have hsm : Calls Tryz.prog 12 #[trp ub,.string ⟨#[]⟩,.string ⟨#[]⟩,.slice ar l.length cr,.int .i64 0] w8 fun e w'=>e = .returned (.bool true)∧TW w' 255 G q g2 ub l∧Turned (PJ G q g2) w8 w':=bsame_any (from_:=[]) (to_:=[]) htu.u.tw (by have:=HOK.out.len;omega) (by rw [rngL_all];exact htu.is) (fun k hk=>(htu.off k hk).2.2) 0 (by omega);have HSM2:=Hd hsm;clear htw htt htu hsm HSM HT5;go_wp2_with fail;refine HSM2.out.mono ?_;rintro e w9 ⟨rfl,htw,htt⟩;have HT7:=Hd (HT6.out.swap.read htw htt).swap;clear htw htt HSM2 HT6 hd hdn
      go_wp2_with fail;go_loopw [25] (fun i wr=>∃ (k : Nat) (f4 g4 : Pf),k ≤ l.length∧i = .int .i64 (k : Int)∧f4.q = f.q∧g4.q = g.q∧TU w1.heap.size w1 wr F p f4 tb (l.drop k) G q g4 ub (l.take (l.length - k)) (.slice ar l.length cr) l) (fun i _=>l.length - (intOf i).toNat)
      case atStart=>exact ⟨0,f',g2,Nat.zero_le _,rfl,HF.out,HG.out,by rw [List.drop_zero,Nat.sub_zero,List.take_length];exact HT7.out⟩
      case round =>
       obtain ⟨k,f4,g4,hk,rfl,hfq,hgq,htu⟩:=hrel;have HQ:=Hd (And.intro hfq hgq)
       clear hfq hgq HF HG HT7;by_cases hlt : k < l.length
       ·have hd : decide ((k : Int) < (l.length : Int)) = true:=decide_eq_true (by omega)
        have hdn : decide (k < l.length) = true:=decide_eq_true hlt;have hwr : IntKind.i64.wrap ((k : Int) + 1) = (k : Int) + 1:=IntWalk.i64_in _ (by omega);obtain ⟨kk,hkk⟩ : ∃ kk,kk = l.length - 1 - k:=⟨_,rfl⟩;have hkl : kk < l.length:=by omega
        have hw1 : IntKind.i64.wrap ((l.length : Int) - 1) = (l.length : Int) - 1:=IntWalk.i64_in _ (by omega);have hw2 : IntKind.i64.wrap ((l.length : Int) - 1 - (k : Int)) = (kk : Int):=by rw [IntWalk.i64_in _ (by omega)];omega
        have hi0 : (0 : Int) ≤ (k : Int):=by omega
        have hi1 : (k : Int) < (l.length : Int):=by omega
        have hj0 : (0 : Int) ≤ (kk : Int):=by omega
        have hj1 : (kk : Int) < (l.length : Int):=by omega
        rw [show l.length - k = kk + 1 by omega] at htu
        have HT8:=Hd htu;have HKK:=Hd hkk;obtain ⟨b,o,rfl,c0,_⟩:=htu.is.at k hlt;have hxl : l[k] ∈ l:=List.getElem_mem hlt;have hyl : l[kk] ∈ l:=List.getElem_mem hkl;have hdl:=del_tw htu.t.tw (roomy255 (by have:=(HOK.out.sub (List.drop_sublist k l)).wgt;omega)) (key:=l[k].1) (HOK.out.key _ hxl);rw [(del_first HOK.out.rise hlt).1,(del_first HOK.out.rise hlt).2] at hdl;have HYL:=Hd (HOK.out.key _ hyl);have HD:=Hd hdl;obtain ⟨x,hx⟩ : ∃ x,x = l[k].1:=⟨_,rfl⟩;rw [← hx] at c0 HD;clear hdl htu hxl hyl hkk hx;go_wp2_with fail;refine HD.out.mono ?_;rintro e w10 ⟨rfl,hto⟩;obtain ⟨f5,htu,hq5⟩:=HT8.out.to hto;have hdl:=del_tw htu.u.tw (roomy255 (by have:=(HOK.out.sub (List.take_sublist (kk + 1) l)).wgt;omega)) (key:=l[kk].1) HYL.out;rw [(del_last HOK.out.rise hkl).1,(del_last HOK.out.rise hkl).2] at hdl;obtain ⟨b2,o2,e0,c1,_⟩:=htu.is.at kk hkl;obtain ⟨rfl,rfl⟩ : b = b2∧o = o2:=by simpa using e0
        have HT9:=Hd (And.intro htu (hq5.trans HQ.out.1));have HD2:=Hd hdl;obtain ⟨y,hy⟩ : ∃ y,y = l[kk].1:=⟨_,rfl⟩;rw [← hy] at c1 HD2;clear hto htu hq5 hdl e0 hy c0 HD HT8 HYL;go_wp2_with fail;refine HD2.out.mono ?_;rintro e w11 ⟨rfl,hto⟩;obtain ⟨g5,htu,hq5⟩:=HT9.out.1.swap.to hto;have HT10:=Hd (And.intro htu.swap (hq5.trans HQ.out.2));have HSD:=Hd (sound_tw htu.swap.t.tw);clear hto htu hq5 c1 HD2;go_wp2_with fail;refine HSD.out.mono ?_;rintro e w12 ⟨rfl,htw,htt⟩;have htu:=HT10.out.1.read htw htt;have HT11:=Hd htu;have HSD2:=Hd (sound_tw htu.u.tw);clear htw htt htu HSD;go_wp2_with fail;refine HSD2.out.mono ?_;rintro e w13 ⟨rfl,htw,htt⟩;have HT12:=Hd (HT11.out.swap.read htw htt).swap;clear htw htt HSD2 HT11;go_wp2_with fail;go_roundw
        case rel=>exact ⟨k + 1,f5,g5,hlt,by go_num,HT9.out.2,HT10.out.2,by rw [show l.length - (k + 1) = kk by have:=HKK.out;omega];exact HT12.out⟩
        case measure=>simp [intOf];omega
       ·obtain rfl : k = l.length:=by omega
        have hd : decide ((l.length : Int) < (l.length : Int)) = false:=decide_eq_false (by omega);have hdn : decide (l.length < l.length) = false:=decide_eq_false (by omega);rw [List.drop_length,Nat.sub_self,List.take_zero] at htu;have HL1:=Hd (left_nil htu.t.tw HQ.out.1);have HL2:=Hd (left_nil htu.u.tw HQ.out.2);have HEND : Hid (Below w.heap.size w wr):=Hd (HB1.out.trans (htu.t.below.mono HB1.out.size));clear htu;go_wp2_with fail;refine HL1.out.1.mono ?_;rintro e wa ⟨rfl,e2⟩;obtain rfl : wr = wa:=e2.symm;go_wp2_with fail;refine HL1.out.2.1.mono ?_;rintro e wa ⟨rfl,e2⟩;obtain rfl : wr = wa:=e2.symm;go_wp2_with fail;refine HL2.out.1.mono ?_;rintro e wa ⟨rfl,e2⟩;obtain rfl : wr = wa:=e2.symm;go_wp2_with fail;refine HL2.out.2.1.mono ?_;rintro e wa ⟨rfl,e2⟩;obtain rfl : wr = wa:=e2.symm;go_wp2_with fail;refine HL1.out.2.2.mono ?_;rintro e wa ⟨rfl,e2⟩;obtain rfl : wr = wa:=e2.symm;go_wp2_with fail;refine HL2.out.2.2.mono ?_;rintro e wa ⟨rfl,e2⟩;obtain rfl : wr = wa:=e2.symm;go_wp2_with fail;go_ret;exact ⟨rfl,HEND.out⟩
end
end Go.Proofs.YtofibccplbnaiaaGreatDoor
namespace Go.Proofs.YtofibccplbnaiaaGreatDoor.cardBtreeOrders
open Go.ChangeShapes Go.WideShapes Go.ChangeAt Go.RowKit Go.Deep
open Go.ChangeMaps (open_string shut_string)
theorem gTab : Tryz.prog.globalNamed "usance/wire.nibbles" = some 0 := by kernel_rfl
theorem gTabType : (Tryz.prog.globals[0]?).map (·.type) = some 180 := by kernel_rfl
theorem cellsTab : Tryz.prog.cellsOf 180 = 16 := by kernel_rfl
theorem cellsU32 : Tryz.prog.cellsOf 162 = 1 := by kernel_rfl
theorem table {W : World} (h : laidMetH Tryz.prog Rows.btreeOrdersRow.laid W) : Nib W := by
  have ht : Lib.TabIs Tryz.prog W "usance/wire.nibbles" .u32 [0, 498536548, 997073096, 651767980, 1994146192, 1802195444, 1303535960, 1342533948, 3988292384, 4027552580, 3604390888, 3412177804, 2607071920, 2262029012, 2685067896, 3183342108] :=
    Lib.tabIs_of_head (rest := []) gTab gTabType Tryz.underlying180 Tryz.underlying162 cellsU32 cellsTab h
  intro i hi
  rw [ht.cell gTab i (by simpa using hi)]
  have e : ∀ i : Fin 16, ([0, 498536548, 997073096, 651767980, 1994146192, 1802195444, 1303535960, 1342533948, 3988292384, 4027552580, 3604390888, 3412177804, 2607071920, 2262029012, 2685067896, 3183342108] : List Int).getD i.val 0 = ((UsCrc.nib.getD i.val 0 : Nat) : Int) := by decide
  rw [e ⟨i, hi⟩]
theorem contract (H : Type) (enc : TypeId × Value → H) (W : World) (base : Nat) (args : Array Value) (ds gs : List (DataW H)) (before : List MemPlace)
    (hval : ∀ (j : Nat) t v, Tryz.f3.params[j]? = some t → args[j]? = some v → Value.okWide Tryz.prog W .any base t v)
    (hW : DataW.Whole enc Tryz.prog Tryz.f3.params.toList Rows.btreeOrdersSpec.vars false W args.toList ds gs before) (hL : laidMetH Tryz.prog Rows.btreeOrdersRow.laid W)
    (hsz : (DataW.weightsEach Tryz.prog (Tryz.f3.params.toList ++ (OpenSpec.ofChange Rows.btreeOrdersSpec).bare.plain.varTypes Tryz.prog) (ds ++ gs)).all (· ≤ reachBytes) = true) :
    Calls Tryz.prog 3 args W fun e W' => ∃ v, e = .returned v ∧ Rows.btreeOrdersSpec.post enc Tryz.prog Tryz.f3 false true false false W args v W' := by
  have hW' := hW
  obtain ⟨p, q, hA0, hV, rfl, hfz, hnd⟩ := hW
  have hA : DataW.TrodAll enc Tryz.prog W 0 (fun _ => true) true Tryz.f3.params.toList args.toList ds p := hA0
  rw [Tryz.params3] at hA hval hsz
  obtain ⟨v0, vs0, d0, ds0, p0, q0, hargs, rfl, rfl, h0, r0⟩ := trodAll_cons hA
  obtain ⟨v1, vs1, d1, ds1, p1, q1, rfl, rfl, rfl, h1, r1⟩ := trodAll_cons r0
  obtain ⟨v2, vs2, d2, ds2, p2, q2, rfl, rfl, rfl, h2, r2⟩ := trodAll_cons r1
  obtain ⟨rfl, rfl, rfl⟩ := trodAll_nil r2
  obtain rfl : args = #[v0, v1, v2] := by cases args; simp_all
  obtain ⟨rfl, rfl⟩ := trodVars_none hV
  have k0 := h0
  have lt0 : ∀ x ∈ p0, x.block < W.heap.size := by obtain ⟨m, hm⟩ := k0; exact DataW.trod_lt m _ _ _ hm
  have k1 := h1
  have lt1 : ∀ x ∈ p1, x.block < W.heap.size := by obtain ⟨m, hm⟩ := k1; exact DataW.trod_lt m _ _ _ hm
  have k2 := h2
  have lt2 : ∀ x ∈ p2, x.block < W.heap.size := by obtain ⟨m, hm⟩ := k2; exact DataW.trod_lt m _ _ _ hm
  simp only [List.append_nil, List.nil_append, List.cons_append] at hsz
  obtain ⟨xs0, ir0⟩ := open_row rdStr (by decide) Tryz.underlying22 (hval 0 22 v0 rfl rfl) h0 (light_arg (j := 0) hsz rfl rfl)
  obtain ⟨xs1, ir1⟩ := open_row rdStr (by decide) Tryz.underlying22 (hval 1 22 v1 rfl rfl) h1 (light_arg (j := 1) hsz rfl rfl)
  obtain ⟨x2, rfl, rfl, rfl, w2⟩ := open_int Tryz.underlying3 (hval 2 3 v2 rfl rfl) h2
  have b2 := wf_int64 w2
  have hnib := table hL
  clear hA0
  refine (borders_walk W hnib v0 xs0 ir0 v1 xs1 ir1 x2 b2.1 b2.2).mono fun e W' ⟨he, bel⟩ => ?_
  subst he
  exact ⟨_, rfl, _, _, _, [], _, [], hW', trodAll_mk1 (shut_bool Tryz.underlying4 _), (trodAll_cons_mk (Below.trod laidOut (by kernel_rfl) (of_decide_eq_true (by kernel_rfl)) k0 bel lt0) (trodAll_cons_mk (Below.trod laidOut (by kernel_rfl) (of_decide_eq_true (by kernel_rfl)) k1 bel lt1) (trodAll_cons_mk (Below.trod laidOut (by kernel_rfl) (of_decide_eq_true (by kernel_rfl)) k2 bel lt2) trodAll_mk0))), rfl, bel.frame _, fun h => by cases h⟩
noncomputable def laidWorld (os : Os) : World :=
  { World.holding Tryz.prog os ⟨#[], #[], []⟩ with heap := (World.holding Tryz.prog os ⟨#[], #[], []⟩).heap.modify 0 fun
      | .cells _ t frozen => .cells #[.int .u32 0, .int .u32 498536548, .int .u32 997073096, .int .u32 651767980, .int .u32 1994146192, .int .u32 1802195444, .int .u32 1303535960, .int .u32 1342533948, .int .u32 3988292384, .int .u32 4027552580, .int .u32 3604390888, .int .u32 3412177804, .int .u32 2607071920, .int .u32 2262029012, .int .u32 2685067896, .int .u32 3183342108] t frozen
      | o => o }
theorem laid_met (os : Os) : laidMet Tryz.prog Rows.btreeOrdersRow.laid ((laidWorld os).forCall (fun _ _ => 0) ⟨#[], #[.slice none 0 0, .slice none 0 0, .int .i64 0], []⟩).memory :=
  laidMet_of_run' 8 (by kernel_rfl) (by kernel_rfl)
theorem reads (os : Os) {H : Type} (enc : TypeId × Value → H) : ∃ places, DataW.whole enc Tryz.prog ((laidWorld os).forCall (fun _ _ => 0) ⟨#[], #[.slice none 0 0, .slice none 0 0, .int .i64 0], []⟩).memory Tryz.f3.params.toList Rows.btreeOrdersSpec.vars false (#[.slice none 0 0, .slice none 0 0, .int .i64 0] : Array Value).toList 8 = some ([.nil, .nil, .lit (.int .i64 0)], [], places) :=
  ⟨[], by kernel_rfl⟩
theorem lifted (os : Os) (started : os.Started) (H : Type) (enc : TypeId × Value → H) (F : Stop.Interp) :
    ReturnsInHanded {} Tryz.checked os 3 .any ((OpenSpec.ofChange Rows.btreeOrdersSpec).preRow enc Tryz.prog Tryz.f3 Rows.btreeOrdersRow.domain false Rows.btreeOrdersRow.laid) (((OpenSpec.ofChange Rows.btreeOrdersSpec).at F).post enc Tryz.prog Tryz.f3 false true false false) := by
  obtain ⟨places, hx⟩ := reads os enc
  refine returnsInHanded_of_row (C := Tryz.checked) (s := OpenSpec.ofChange Rows.btreeOrdersSpec) own started (by kernel_rfl) Tryz.func3
    (witness_row_at (enc := enc) (C := Tryz.checked) false (laidWorld os) #[.slice none 0 0, .slice none 0 0, .int .i64 0] rfl (by kernel_rfl) (by kernel_rfl) (by kernel_rfl)
      (OpenSpec.preRow_of_cond 8 hx (by kernel_rfl) (fun k hk => by cases hk) (by kernel_rfl) (laid_met os))) ?_
  intro W base args ds gs before hval hW _ hcond hsz hL _ _
  exact contract H enc W base args ds gs before hval hW hL hsz
theorem said : Rows.BtreeOrdersSaid :=
  OpenClaim.holds_of_cond 3 Tryz.f3 rfl rfl rfl rfl rfl rfl rfl ⟨rfl, rfl, rfl, rfl, rfl⟩ rfl rfl rfl rfl rfl (by kernel_rfl) Tryz.func3 (by kernel_rfl)
    (of_decide_eq_true (by kernel_rfl)) (by unfold Func.isWrapper; first | (rw [if_pos (by decide +kernel)]; kernel_rfl) | (rw [if_neg (by decide +kernel)]; exact ⟨rfl, rfl⟩))
    (fun os started H enc _ F => by rw [OpenClaim.pre_eq_preRow]; exact lifted os started H enc F)
theorem plain (f : FuncId) (fn : Func) (hf : Tryz.pinned.checked.prog.funcNamed "usance/usancelaw10.BtreeOrders" = some f) (hfn : Tryz.pinned.checked.prog.funcs[f]? = some fn) :
    false = Tryz.pinned.checked.prog.looks [] ∧ ∀ (j : Nat) t, fn.params[j]? = some t → Tryz.pinned.checked.prog.wantsStandIn t = false := by
  obtain rfl : f = 3 := Option.some.inj ((show Tryz.prog.funcNamed "usance/usancelaw10.BtreeOrders" = some 3 by kernel_rfl).symm.trans hf) |>.symm
  obtain rfl : fn = Tryz.f3 := (Option.some.inj (Tryz.func3.symm.trans hfn)).symm
  refine ⟨by kernel_rfl, fun j t ht => ?_⟩
  rw [Tryz.params3] at ht
  have hm := Array.mem_of_getElem? ht
  simp only [List.mem_toArray, List.mem_cons, List.not_mem_nil, or_false] at hm
  rcases hm with rfl | rfl | rfl
  · exact (show Tryz.prog.wantsStandIn 22 = false by kernel_rfl)
  · exact (show Tryz.prog.wantsStandIn 22 = false by kernel_rfl)
  · exact (show Tryz.prog.wantsStandIn 3 = false by kernel_rfl)
theorem proved : Rows.BtreeOrdersCardSaid :=
  Claim7.holds_tied_plain_at .later [] _ _ _ _ said (fun _ h => by cases h) (by kernel_rfl) (fun _ h => by cases h) btreeOrders_row_tie rfl ⟨rfl, rfl⟩ (by kernel_rfl) rfl plain (by kernel_rfl)
#print axioms proved
end Go.Proofs.YtofibccplbnaiaaGreatDoor.cardBtreeOrders
