/- The card CardBtreeTwice: for every input the law answers true, and what came in reads as it did; with what it needs ahead. -/
import Derived.Test.YtofibccplbnaiaaGreatDoorJ23
import Derived.Deep.Cut
import Derived.Deep.DeepCutAuto
import Derived.Deep.CutBlock
import Derived.Deep.CutRange
import Derived.Test.YtofibccplbnaiaaGreatDoorCards
import Derived.Test.YtofibccplbnaiaaGreatDoorTie
import Derived.Test.YtofibccplbnaiaaGreatDoorJ22
set_option linter.unusedVariables false
set_option linter.unusedSimpArgs false
set_option maxRecDepth 100000
namespace Go.Proofs.YtofibccplbnaiaaGreatDoor
open Go.RowKit Go.Shelf Go.Lib
set_option maxHeartbeats 16000000 in
theorem btwice_walk (w : World) (hn : Nib w) (v : Value) (keys : List (List UInt8)) (hv : IsRow rdStr w v keys) (one : Int) (o1 : -9223372036854775808 ≤ one) (o2 : one ≤ 9223372036854775807) (other : List UInt8) (ho : other.length ≤ 9223372036854775807) :
  Calls Tryz.prog 5 #[v,.int .i64 one,.string ⟨other.toArray⟩] w fun e w'=>e = .returned (.bool true)∧Below w.heap.size w w':=by
 have hform:=hv.form;obtain ⟨a,cap,rfl,hl1,hl2⟩:=hform;unfold maxLen at hl2;have HV:=Hd hv;have HN:=Hd hn;have HSH:=Hd (shown10_any w hn);clear hv hn;obtain ⟨l0,hl0⟩ : ∃ l0,l0 = fillL (keys.take 150) []:=⟨_,rfl⟩;obtain ⟨B1,B2,B3⟩:=fill_bounds (keys.take 150);have htl : (keys.take 150).length ≤ 150:=by rw [List.length_take];omega
 have hrise : Rise l0:=by rw [hl0];exact fillL_rise _ _ List.Pairwise.nil
 have hin : ∀ k ∈ keys.take 150,k.length ≤ 80 → (getL l0 k).2 = true:=fun k hk hk2=>by rw [hl0];exact fillL_in _ _ k List.Pairwise.nil hk hk2
 rw [← hl0] at B1 B2 B3;have HL0:=Hd hl0
 have HTW:=Hd B1;have HWG : Hid (wgtB l0 ≤ 24300∧l0.length ≤ 150):=Hd ⟨by omega,by omega⟩;have HRI:=Hd hrise;have HIN:=Hd hin;clear hl0 B1 B2 B3 htl hrise hin;go_enter Tryz.func5,Tryz.ntmps5;go_wp2_with fail;refine HSH.out.mono ?_;rintro e w1 ⟨rfl,hb1⟩;have HFL:=Hd (filled_any w1 (HN.out.below hb1) _ keys (HV.out.below hb1));have HB1:=Hd hb1;rw [← HL0.out] at HFL;clear hb1;go_wp2_with fail;refine HFL.out.mono ?_;rintro e w2 ⟨F,p,f,tb,rfl,htb⟩;have htold : Calls Tryz.prog 20 #[trp tb,.string ⟨#[]⟩,.string ⟨#[]⟩] w2 fun e w'=>e = .returned (.string ⟨(toldL (rngL [] [] l0)).toArray⟩)∧TW w' 255 F p f tb l0∧Turned (PJ F p f) w2 w':=btold_any (from_:=[]) (to_:=[]) htb.tw HTW.out.eq HTW.out.few (by have:=HWG.out;omega);rw [rngL_all] at htold;obtain ⟨T0,hT0⟩ : ∃ T0,T0 = toldL l0:=⟨_,rfl⟩;rw [← hT0] at htold;have HT0:=Hd hT0;have HTD:=Hd htold;have HTB2:=Hd htb;clear hT0 htold htb;go_wp2_with fail;refine HTD.out.mono ?_;rintro e w3 ⟨rfl,htw3,htt3⟩;have HTB3:=Hd (HTB2.out.read htw3 htt3);clear htw3 htt3;go_upto_block 0 with fail;go_cut [] (fun wx=>TB w1.heap.size w1 wx 255 F p f tb l0)
 case first =>
  go_wp2_with fail;go_loopw [12] (fun i wr=>∃ (k : Nat),k ≤ keys.length∧k ≤ 150∧i = .int .i64 (k : Int)∧TB w1.heap.size w1 wr 255 F p f tb l0) (fun i _=>keys.length - (intOf i).toNat)
  case atStart=>exact ⟨0,Nat.zero_le _,Nat.zero_le _,rfl,HTB3.out⟩
  case round =>
   obtain ⟨k,hk,hk2,rfl,htb⟩:=hrel;have HT:=Hd htb
   clear htb;by_cases hlt : k < keys.length
   ·have hd : decide ((k : Int) < (keys.length : Int)) = true:=by simpa using hlt
    by_cases h150 : k < 150
    ·have hd2 : decide ((k : Int) < 150) = true:=by simp;omega
     have i0 : (0 : Int) ≤ (k : Int):=by omega
     have i1 : (k : Int) < (keys.length : Int):=by omega
     have hvw1:=HV.out.below HB1.out;have hv2:=hvw1.below HT.out.below;obtain ⟨b,o,rfl,c0,hmx⟩:=strs_at hv2 k hlt;obtain ⟨key,hkey⟩ : ∃ key,key = keys[k]:=⟨_,rfl⟩;rw [← hkey] at c0 hmx;unfold maxLen at hmx;have hkin : key ∈ keys.take 150:=by rw [hkey];exact List.mem_take_iff_getElem.2 ⟨k,by omega,rfl⟩
     have hbl : b < w1.heap.size:=by obtain ⟨b2,o2,e2,c2,_⟩:=strs_at hvw1 k hlt;cases e2;exact World.block_lt_of_cell? w1 _ c2
     have HLT:=Hd hlt;have HBL:=Hd hbl
     have HC : Hid (∀ w7,TW w7 255 F p f tb l0 → Turned (PJ F p f) wr w7 → w7.cell? ⟨b,o + k,none⟩ = some (.string ⟨key.toArray⟩)∧∃ (k' : Nat),k' ≤ keys.length∧k' ≤ 150∧Value.int .i64 ((k : Int) + 1) = .int .i64 (k' : Int)∧TB w1.heap.size w1 w7 255 F p f tb l0):=Hd fun w7 h1 h2 =>
      ⟨(World.cell?_of_block (h2.block b (by have:=HT.out.base;have:=HBL.out;omega) fun e=>by have:=HT.out.own b e;have:=HBL.out;omega)).trans c0,k + 1,HLT.out,h150,by simp,HT.out.read h1 h2⟩
     have hwr : IntKind.i64.wrap ((k : Int) + 1) = (k : Int) + 1:=IntWalk.i64_in _ (by omega);by_cases hle : key.length ≤ 80
     ·have hg:=HIN.out key hkin hle
      have HGT:=Hd (get_tw HT.out.tw hle);rw [hg] at HGT;have hdl : decide (key.length ≤ 80) = true:=decide_eq_true hle;have hdl2 : decide ((key.length : Int) ≤ 80) = true:=decide_eq_true (by omega);clear hvw1 hv2 hkey hkin hle hg hbl hlt;go_wp2_with fail;refine HGT.out.mono ?_;rintro e w7 ⟨rfl,h1,h2⟩;obtain ⟨c7,hnx⟩:=HC.out w7 h1 h2;have HNX:=Hd hnx;clear h1 h2 hnx c0;go_wp2_with fail;go_roundw
      case rel=>exact HNX.out
      case measure=>have:=HLT.out;simp [intOf];omega
     ·have HGT:=Hd (get_bad HT.out.tw (key:=key) (by omega) (by omega))
      have hdl : decide (key.length ≤ 80) = false:=decide_eq_false hle;have hdl2 : decide ((key.length : Int) ≤ 80) = false:=decide_eq_false (by omega);clear hvw1 hv2 hkey hkin hle hbl hlt;go_wp2_with fail;refine HGT.out.mono ?_;rintro e w7 ⟨rfl,h1,h2⟩;obtain ⟨c7,hnx⟩:=HC.out w7 h1 h2;have HNX:=Hd hnx;clear h1 h2 hnx c0;go_wp2_with fail;go_roundw
      case rel=>exact HNX.out
      case measure=>have:=HLT.out;simp [intOf];omega
    ·have hd2 : decide ((k : Int) < 150) = false:=by simp;omega
     have hd3 : decide (k < 150) = false:=decide_eq_false h150;obtain rfl : k = 150:=by omega
     go_wp2_with fail;go_meet;exact HT.out
   ·obtain rfl : k = keys.length:=by omega
    have hd : decide ((keys.length : Int) < (keys.length : Int)) = false:=by simp
    go_wp2_with fail;go_meet;exact HT.out
 case rest =>
  have HTB4:=Hd hcut;clear hcut;obtain ⟨th,hth⟩ : ∃ th : Bool,th = (decide (other.length ≤ 80) && (getL l0 other).2):=⟨_,rfl⟩;obtain ⟨er,her⟩ : ∃ er : Int,er = (if other.length ≤ 80 then 0 else 100):=⟨_,rfl⟩
  obtain ⟨l1,hl1⟩ : ∃ l1,l1 = (if th then delL l0 other else l0):=⟨_,rfl⟩
  have HGET : Hid (Calls Tryz.prog 21 #[trp tb,.string ⟨other.toArray⟩] wc fun e w'=>∃ V,e = .returned (.tuple #[.string V,.bool th,.int .i64 er])∧TW w' 255 F p f tb l0∧Turned (PJ F p f) wc w'):=Hd (by
   by_cases hlo : other.length ≤ 80
   ·rw [her,if_pos hlo,hth,decide_eq_true hlo,Bool.true_and];refine (get_tw HTB4.out.tw hlo).mono ?_;rintro e w' ⟨rfl,h⟩;exact ⟨_,rfl,h⟩
   ·rw [her,if_neg hlo,hth,decide_eq_false hlo,Bool.false_and]
    refine (get_bad HTB4.out.tw (by omega) ho).mono ?_;rintro e w' ⟨rfl,h⟩
    exact ⟨_,rfl,h⟩)
  have HDEL : Hid (∀ wx,TW wx 255 F p f tb l0 → Calls Tryz.prog 13 #[trp tb,.string ⟨other.toArray⟩] wx fun e w'=>e = .returned (.tuple #[.bool th,.int .i64 er])∧TWto wx 255 F p f tb l1 w'):=Hd (by
   intro wx htw;by_cases hlo : other.length ≤ 80
   ·rw [her,if_pos hlo,hl1]
    have e1 : th = (getL l0 other).2:=by rw [hth,decide_eq_true hlo,Bool.true_and]
    have:=del_tw htw (roomy255 (by have:=HWG.out;omega)) (key:=other) hlo;rw [e1]
    cases hg : (getL l0 other).2 with
    | true=>rw [hg] at this;exact this
    | false =>
     rw [hg,(getL_false hg).1] at this;exact this
   ·rw [her,if_neg hlo,hl1]
    have e1 : th = false:=by rw [hth,decide_eq_false hlo,Bool.false_and]
    rw [e1]
    exact del_bad htw (by omega) ho)
  have HTH:=Hd hth;have HL1:=Hd hl1;have HER:=Hd her;clear hth her hl1;go_wp2_with fail;refine HGET.out.mono ?_;rintro e w5 ⟨V,rfl,htw5,htt5⟩;have HTB5:=Hd (HTB4.out.read htw5 htt5);have HD5:=Hd (HDEL.out w5 htw5);clear htw5 htt5;go_wp2_with fail;refine HD5.out.mono ?_;rintro e w6 ⟨rfl,hto⟩;obtain ⟨f1,htb6,_⟩:=HTB5.out.to hto;have HTB6:=Hd htb6;clear hto htb6;go_upto_region 14 with fail;go_cut [109] from 88 to 109 (fun b wx=>b = .bool false∧TB w1.heap.size w1 wx 255 F p f1 tb l1)
  case first =>
   cases th with
   | true =>
    have hs : other.length ≤ 80∧er = 0:=by
     have h1:=HTH.out;have h2 : other.length ≤ 80:=Classical.byContradiction fun h=>by rw [decide_eq_false h,Bool.false_and] at h1;cases h1
     exact ⟨h2,by rw [HER.out,if_pos h2]⟩
    obtain ⟨h2,rfl⟩:=hs;have hdl : decide (other.length ≤ 80) = true:=decide_eq_true h2
    have hdl2 : decide ((other.length : Int) ≤ 80) = true:=decide_eq_true (by omega);clear h2;go_wp2_with fail;go_meet;exact ⟨rfl,HTB6.out⟩
   | false =>
    have e1 : l1 = l0:=by rw [HL1.out];rfl
    have htold : Calls Tryz.prog 20 #[trp tb,.string ⟨#[]⟩,.string ⟨#[]⟩] w6 fun e w'=>e = .returned (.string ⟨(toldL (rngL [] [] l0)).toArray⟩)∧TW w' 255 F p f1 tb l0∧Turned (PJ F p f1) w6 w':=btold_any (from_:=[]) (to_:=[]) (by have:=HTB6.out.tw;rw [e1] at this;exact this) HTW.out.eq HTW.out.few (by have:=HWG.out;omega);rw [rngL_all,← HT0.out] at htold;have HTD6:=Hd htold;have E1:=Hd e1;clear htold e1;by_cases h2 : other.length ≤ 80
    ·have hdl : decide (other.length ≤ 80) = true:=decide_eq_true h2
     have hdl2 : decide ((other.length : Int) ≤ 80) = true:=decide_eq_true (by omega);obtain rfl : er = 0:=by rw [HER.out,if_pos h2]
     clear h2;go_wp2_with fail;refine HTD6.out.mono ?_;rintro e w7 ⟨rfl,h1,h2⟩;have HM : Hid (TB w1.heap.size w1 w7 255 F p f1 tb l1):=Hd (by rw [E1.out];have:=HTB6.out;rw [E1.out] at this;exact this.read h1 h2)
     clear h1 h2;go_wp2_with fail;go_meet;exact ⟨rfl,HM.out⟩
    ·have hdl : decide (other.length ≤ 80) = false:=decide_eq_false h2;have hdl2 : decide ((other.length : Int) ≤ 80) = false:=decide_eq_false (by omega);clear h2;go_wp2_with fail;refine HTD6.out.mono ?_;rintro e w7 ⟨rfl,h1,h2⟩;have HM : Hid (TB w1.heap.size w1 w7 255 F p f1 tb l1):=Hd (by rw [E1.out];have:=HTB6.out;rw [E1.out] at this;exact this.read h1 h2);clear h1 h2;go_wp2_with fail;go_meet;exact ⟨rfl,HM.out⟩
  case rest =>
   obtain ⟨rfl,htb7⟩:=hcut;have HTB7:=Hd htb7
   clear htb7;go_upto_if 110 with fail;go_cut [] (fun wx=>∃ f',TB w1.heap.size w1 wx 255 F p f' tb l0)
   case first =>
    cases th with
    | true =>
     have hs : other.length ≤ 80∧(getL l0 other).2 = true:=by
      have h1:=HTH.out;have h2 : other.length ≤ 80:=Classical.byContradiction fun h=>by rw [decide_eq_false h,Bool.false_and] at h1;cases h1
      rw [decide_eq_true h2,Bool.true_and] at h1;exact ⟨h2,h1.symm⟩
     have e1 : l1 = delL l0 other:=by rw [HL1.out];rfl
     have htw:=HTB7.out.tw;rw [e1] at htw;have hp:=put_tw htw (roomy255 (by have:=delL_wgt l0 other;have:=HWG.out;omega)) (key:=other) (val:=other) hs.1 (by omega);rw [putL_delL HRI.out,putL_same HRI.out HTW.out hs.2] at hp;have HP:=Hd hp;clear hs e1 htw hp;go_wp2_with fail;refine HP.out.mono ?_;rintro e w8 ⟨rfl,hto⟩;obtain ⟨f2,htb8,_⟩:=HTB7.out.to hto;have HM : Hid (∃ f',TB w1.heap.size w1 w8 255 F p f' tb l0):=Hd ⟨f2,htb8⟩;clear hto htb8;go_wp2_with fail;go_meet;exact HM.out
    | false =>
     have HM : Hid (∃ f',TB w1.heap.size w1 wc 255 F p f' tb l0):=Hd ⟨f1,by have:=HTB7.out;rw [HL1.out] at this;exact this⟩;go_wp2_with fail;go_meet;exact HM.out
   case rest =>
    obtain ⟨f2,htb8⟩:=hcut;have HTB8:=Hd htb8
    clear htb8;go_upto_if 119 with fail;go_cut [] (fun wx=>∃ f',TB w1.heap.size w1 wx 255 F p f' tb l0)
    case first =>
     by_cases h0 : 0 < keys.length
     ·have hd0 : decide (0 < keys.length) = true:=decide_eq_true h0
      have hd1 : decide (0 < (keys.length : Int)) = true:=decide_eq_true (by omega);obtain ⟨n,hnn⟩ : ∃ n,n = min keys.length 150:=⟨_,rfl⟩;have hpk:=pick_any wc one n o1 o2 (by omega) (by omega);have hlt:=pickN_lt one (n:=n) (by omega);rw [show (n : Int) = min (keys.length : Int) 150 by omega] at hpk
      obtain ⟨j,hj⟩ : ∃ j,j = pickN one n:=⟨_,rfl⟩;rw [← hj] at hpk hlt;have hjl : j < keys.length:=by omega
      have hvw1:=HV.out.below HB1.out;have hv2:=hvw1.below HTB8.out.below;obtain ⟨b,o,rfl,c0,hmx⟩:=strs_at hv2 j hjl;obtain ⟨key,hkey⟩ : ∃ key,key = keys[j]:=⟨_,rfl⟩;rw [← hkey] at c0 hmx;unfold maxLen at hmx;have hkin : key ∈ keys.take 150:=by rw [hkey];exact List.mem_take_iff_getElem.2 ⟨j,by omega,rfl⟩
      have i0 : (0 : Int) ≤ (j : Int):=by omega
      have i1 : (j : Int) < (keys.length : Int):=by omega
      have HPK:=Hd hpk;have HKIN:=Hd hkin;clear hpk hlt hj hnn hvw1 hv2 hkey hkin hjl;go_wp2_with fail;refine HPK.out.mono ?_;rintro e w9 ⟨rfl,e9⟩;obtain rfl : wc = w9:=e9;by_cases hle : key.length ≤ 80
      ·have hg:=HIN.out key HKIN.out hle;have hp1:=put_tw HTB8.out.tw (roomy255 (by have:=HWG.out;omega)) (key:=key) (val:=key) hle (by omega);rw [putL_same HRI.out HTW.out hg] at hp1;have HP1:=Hd hp1;have HLE:=Hd hle;have HG:=Hd hg;clear hp1 hle hg;go_wp2_with fail;refine HP1.out.mono ?_;rintro e wa ⟨rfl,hto⟩;obtain ⟨f3,htba,_⟩:=HTB8.out.to hto;have hp2:=del_tw htba.tw (roomy255 (by have:=HWG.out;omega)) (key:=key) HLE.out;have HP2:=Hd hp2;have HTBA:=Hd htba;clear hto htba hp2 c0;go_wp2_with fail;refine HP2.out.mono ?_;rintro e wb ⟨rfl,hto⟩;obtain ⟨f4,htbb,_⟩:=HTBA.out.to hto;have hp3:=get_tw htbb.tw (key:=key) HLE.out;rw [(head_mid HRI.out).2.2] at hp3;have HP3:=Hd hp3;have HTBB:=Hd htbb;clear hto htbb hp3;go_wp2_with fail;refine HP3.out.mono ?_;rintro e wd ⟨rfl,htw,htt⟩;have htbd:=HTBB.out.read htw htt;have hp4:=put_tw htbd.tw (roomy255 (by have:=delL_wgt l0 key;have:=HWG.out;omega)) (key:=key) (val:=key) HLE.out (by have:=HLE.out;omega);rw [putL_delL HRI.out,putL_same HRI.out HTW.out HG.out] at hp4;have HP4:=Hd hp4;have HTBD:=Hd htbd;clear htw htt htbd hp4;go_wp2_with fail;refine HP4.out.mono ?_;rintro e we ⟨rfl,hto⟩;obtain ⟨f5,htbe,_⟩:=HTBD.out.to hto;have HM : Hid (∃ f',TB w1.heap.size w1 we 255 F p f' tb l0):=Hd ⟨f5,htbe⟩;clear hto htbe;go_wp2_with fail;go_meet;exact HM.out
      ·have hf : failsT key key = 100:=by unfold failsT;rw [if_pos (by omega)]
       have hp1:=put_bad HTB8.out.tw (key:=key) (val:=key) (by omega) (by omega) (by rw [hf];decide);rw [hf] at hp1;have HP1:=Hd hp1;have HLE:=Hd hle;have HF:=Hd hf;clear hp1 hle hf;go_wp2_with fail;refine HP1.out.mono ?_;rintro e wa ⟨rfl,hto⟩;obtain ⟨f3,htba,_⟩:=HTB8.out.to hto;have HP2:=Hd (del_bad htba.tw (key:=key) (by have:=HLE.out;omega) (by omega));have HTBA:=Hd htba;clear hto htba c0;go_wp2_with fail;refine HP2.out.mono ?_;rintro e wb ⟨rfl,hto⟩;obtain ⟨f4,htbb,_⟩:=HTBA.out.to hto;have HP3:=Hd (get_bad htbb.tw (key:=key) (by have:=HLE.out;omega) (by omega));have HTBB:=Hd htbb;clear hto htbb;go_wp2_with fail;refine HP3.out.mono ?_;rintro e wd ⟨rfl,htw,htt⟩;have htbd:=HTBB.out.read htw htt;have hp4:=put_bad htbd.tw (key:=key) (val:=key) (by omega) (by omega) (by rw [HF.out];decide);rw [HF.out] at hp4;have HP4:=Hd hp4;have HTBD:=Hd htbd;clear htw htt htbd hp4;go_wp2_with fail;refine HP4.out.mono ?_;rintro e we ⟨rfl,hto⟩;obtain ⟨f5,htbe,_⟩:=HTBD.out.to hto;have HM : Hid (∃ f',TB w1.heap.size w1 we 255 F p f' tb l0):=Hd ⟨f5,htbe⟩;clear hto htbe;go_wp2_with fail;go_meet;exact HM.out
     ·obtain rfl : keys = []:=List.eq_nil_of_length_eq_zero (by omega);have HM : Hid (∃ f',TB w1.heap.size w1 wc 255 F p f' tb l0):=Hd ⟨f2,HTB8.out⟩;clear h0;go_wp2_with fail;go_meet;exact HM.out
    case rest =>
     obtain ⟨f3,htb9⟩:=hcut;have htold : Calls Tryz.prog 20 #[trp tb,.string ⟨#[]⟩,.string ⟨#[]⟩] wc fun e w'=>e = .returned (.string ⟨(toldL (rngL [] [] l0)).toArray⟩)∧TW w' 255 F p f3 tb l0∧Turned (PJ F p f3) wc w':=btold_any (from_:=[]) (to_:=[]) htb9.tw HTW.out.eq HTW.out.few (by have:=HWG.out;omega)
     rw [rngL_all,← HT0.out] at htold;have HTD9:=Hd htold
     have HTB9:=Hd htb9;clear htold htb9;go_wp2_with fail;refine HTD9.out.mono ?_;rintro e wa ⟨rfl,htwa,htta⟩;have HTBA:=Hd (HTB9.out.read htwa htta);have HSD:=Hd (sound_tw htwa);clear htwa htta;go_wp2_with fail;refine HSD.out.mono ?_;rintro e wb ⟨rfl,htwb,httb⟩;have HEND : Hid (Below w.heap.size w wb):=Hd (HB1.out.trans ((HTBA.out.read htwb httb).below.mono HB1.out.size));clear htwb httb;go_wp2_with fail;go_ret;exact ⟨rfl,HEND.out⟩
theorem btwice_card (w : World) (hn : Nib w) (v : Value) (keys : List (List UInt8)) (hv : IsRow rdStr w v keys) (one : Int) (o1 : -9223372036854775808 ≤ one) (o2 : one ≤ 9223372036854775807) (s : ByteArray) (hs : s.size ≤ maxLen) :
  Calls Tryz.prog 5 #[v,.int .i64 one,.string s] w fun e w'=>e = .returned (.bool true)∧Below w.heap.size w w':=by
 have h1 : s.data.toList.length = s.size:=Array.length_toList;have h2:=btwice_walk w hn v keys hv one o1 o2 s.data.toList (by unfold maxLen at hs;omega);rw [show (⟨s.data.toList.toArray⟩ : ByteArray) = s from by rw [Array.toArray_toList]] at h2
 exact h2
end Go.Proofs.YtofibccplbnaiaaGreatDoor

namespace Go.Proofs.YtofibccplbnaiaaGreatDoor.cardBtreeTwice
open Go.ChangeShapes Go.WideShapes Go.ChangeAt Go.RowKit Go.Deep
open Go.ChangeMaps (open_string shut_string)
theorem gTab : Tryz.prog.globalNamed "usance/wire.nibbles" = some 0 := by kernel_rfl
theorem gTabType : (Tryz.prog.globals[0]?).map (·.type) = some 180 := by kernel_rfl
theorem cellsTab : Tryz.prog.cellsOf 180 = 16 := by kernel_rfl
theorem cellsU32 : Tryz.prog.cellsOf 162 = 1 := by kernel_rfl
theorem table {W : World} (h : laidMetH Tryz.prog Rows.btreeTwiceRow.laid W) : Nib W := by
  have ht : Lib.TabIs Tryz.prog W "usance/wire.nibbles" .u32 [0, 498536548, 997073096, 651767980, 1994146192, 1802195444, 1303535960, 1342533948, 3988292384, 4027552580, 3604390888, 3412177804, 2607071920, 2262029012, 2685067896, 3183342108] :=
    Lib.tabIs_of_head (rest := []) gTab gTabType Tryz.underlying180 Tryz.underlying162 cellsU32 cellsTab h
  intro i hi
  rw [ht.cell gTab i (by simpa using hi)]
  have e : ∀ i : Fin 16, ([0, 498536548, 997073096, 651767980, 1994146192, 1802195444, 1303535960, 1342533948, 3988292384, 4027552580, 3604390888, 3412177804, 2607071920, 2262029012, 2685067896, 3183342108] : List Int).getD i.val 0 = ((UsCrc.nib.getD i.val 0 : Nat) : Int) := by decide
  rw [e ⟨i, hi⟩]
theorem contract (H : Type) (enc : TypeId × Value → H) (W : World) (base : Nat) (args : Array Value) (ds gs : List (DataW H)) (before : List MemPlace)
    (hval : ∀ (j : Nat) t v, Tryz.f5.params[j]? = some t → args[j]? = some v → Value.okWide Tryz.prog W .any base t v)
    (hW : DataW.Whole enc Tryz.prog Tryz.f5.params.toList Rows.btreeTwiceSpec.vars false W args.toList ds gs before) (hL : laidMetH Tryz.prog Rows.btreeTwiceRow.laid W)
    (hsz : (DataW.weightsEach Tryz.prog (Tryz.f5.params.toList ++ (OpenSpec.ofChange Rows.btreeTwiceSpec).bare.plain.varTypes Tryz.prog) (ds ++ gs)).all (· ≤ reachBytes) = true) :
    Calls Tryz.prog 5 args W fun e W' => ∃ v, e = .returned v ∧ Rows.btreeTwiceSpec.post enc Tryz.prog Tryz.f5 false true false false W args v W' := by
  have hW' := hW
  obtain ⟨p, q, hA0, hV, rfl, hfz, hnd⟩ := hW
  have hA : DataW.TrodAll enc Tryz.prog W 0 (fun _ => true) true Tryz.f5.params.toList args.toList ds p := hA0
  rw [Tryz.params5] at hA hval hsz
  obtain ⟨v0, vs0, d0, ds0, p0, q0, hargs, rfl, rfl, h0, r0⟩ := trodAll_cons hA
  obtain ⟨v1, vs1, d1, ds1, p1, q1, rfl, rfl, rfl, h1, r1⟩ := trodAll_cons r0
  obtain ⟨v2, vs2, d2, ds2, p2, q2, rfl, rfl, rfl, h2, r2⟩ := trodAll_cons r1
  obtain ⟨rfl, rfl, rfl⟩ := trodAll_nil r2
  obtain rfl : args = #[v0, v1, v2] := by cases args; simp_all
  obtain ⟨rfl, rfl⟩ := trodVars_none hV
  have k0 := h0
  have lt0 : ∀ x ∈ p0, x.block < W.heap.size := by obtain ⟨m, hm⟩ := k0; exact DataW.trod_lt m _ _ _ hm
  have k1 := h1
  have lt1 : ∀ x ∈ p1, x.block < W.heap.size := by obtain ⟨m, hm⟩ := k1; exact DataW.trod_lt m _ _ _ hm
  have k2 := h2
  have lt2 : ∀ x ∈ p2, x.block < W.heap.size := by obtain ⟨m, hm⟩ := k2; exact DataW.trod_lt m _ _ _ hm
  simp only [List.append_nil, List.nil_append, List.cons_append] at hsz
  obtain ⟨xs0, ir0⟩ := open_row rdStr (by decide) Tryz.underlying22 (hval 0 22 v0 rfl rfl) h0 (light_arg (j := 0) hsz rfl rfl)
  obtain ⟨x1, rfl, rfl, rfl, w1⟩ := open_int Tryz.underlying3 (hval 1 3 v1 rfl rfl) h1
  have b1 := wf_int64 w1
  have lg2 := light_arg (j := 2) hsz rfl rfl
  obtain ⟨s2, rfl, rfl, rfl, hs2⟩ := open_string Tryz.underlying9 (hval 2 9 v2 rfl rfl) h2
  have hnib := table hL
  clear hA0
  refine (btwice_card W hnib v0 xs0 ir0 x1 b1.1 b1.2 s2 hs2).mono fun e W' ⟨he, bel⟩ => ?_
  subst he
  exact ⟨_, rfl, _, _, _, [], _, [], hW', trodAll_mk1 (shut_bool Tryz.underlying4 _), (trodAll_cons_mk (Below.trod laidOut (by kernel_rfl) (of_decide_eq_true (by kernel_rfl)) k0 bel lt0) (trodAll_cons_mk (Below.trod laidOut (by kernel_rfl) (of_decide_eq_true (by kernel_rfl)) k1 bel lt1) (trodAll_cons_mk (Below.trod laidOut (by kernel_rfl) (of_decide_eq_true (by kernel_rfl)) k2 bel lt2) trodAll_mk0))), rfl, bel.frame _, fun h => by cases h⟩
noncomputable def laidWorld (os : Os) : World :=
  { World.holding Tryz.prog os ⟨#[], #[], []⟩ with heap := (World.holding Tryz.prog os ⟨#[], #[], []⟩).heap.modify 0 fun
      | .cells _ t frozen => .cells #[.int .u32 0, .int .u32 498536548, .int .u32 997073096, .int .u32 651767980, .int .u32 1994146192, .int .u32 1802195444, .int .u32 1303535960, .int .u32 1342533948, .int .u32 3988292384, .int .u32 4027552580, .int .u32 3604390888, .int .u32 3412177804, .int .u32 2607071920, .int .u32 2262029012, .int .u32 2685067896, .int .u32 3183342108] t frozen
      | o => o }
theorem laid_met (os : Os) : laidMet Tryz.prog Rows.btreeTwiceRow.laid ((laidWorld os).forCall (fun _ _ => 0) ⟨#[], #[.slice none 0 0, .int .i64 0, .string ByteArray.empty], []⟩).memory :=
  laidMet_of_run' 8 (by kernel_rfl) (by kernel_rfl)
theorem reads (os : Os) {H : Type} (enc : TypeId × Value → H) : ∃ places, DataW.whole enc Tryz.prog ((laidWorld os).forCall (fun _ _ => 0) ⟨#[], #[.slice none 0 0, .int .i64 0, .string ByteArray.empty], []⟩).memory Tryz.f5.params.toList Rows.btreeTwiceSpec.vars false (#[.slice none 0 0, .int .i64 0, .string ByteArray.empty] : Array Value).toList 8 = some ([.nil, .lit (.int .i64 0), .lit (.string [])], [], places) :=
  ⟨[], by kernel_rfl⟩
theorem lifted (os : Os) (started : os.Started) (H : Type) (enc : TypeId × Value → H) (F : Stop.Interp) :
    ReturnsInHanded {} Tryz.checked os 5 .any ((OpenSpec.ofChange Rows.btreeTwiceSpec).preRow enc Tryz.prog Tryz.f5 Rows.btreeTwiceRow.domain false Rows.btreeTwiceRow.laid) (((OpenSpec.ofChange Rows.btreeTwiceSpec).at F).post enc Tryz.prog Tryz.f5 false true false false) := by
  obtain ⟨places, hx⟩ := reads os enc
  refine returnsInHanded_of_row (C := Tryz.checked) (s := OpenSpec.ofChange Rows.btreeTwiceSpec) own started (by kernel_rfl) Tryz.func5
    (witness_row_at (enc := enc) (C := Tryz.checked) false (laidWorld os) #[.slice none 0 0, .int .i64 0, .string ByteArray.empty] rfl (by kernel_rfl) (by kernel_rfl) (by kernel_rfl)
      (OpenSpec.preRow_of_cond 8 hx (by kernel_rfl) (fun k hk => by cases hk) (by kernel_rfl) (laid_met os))) ?_
  intro W base args ds gs before hval hW _ hcond hsz hL _ _
  exact contract H enc W base args ds gs before hval hW hL hsz
theorem said : Rows.BtreeTwiceSaid :=
  OpenClaim.holds_of_cond 5 Tryz.f5 rfl rfl rfl rfl rfl rfl rfl ⟨rfl, rfl, rfl, rfl, rfl⟩ rfl rfl rfl rfl rfl (by kernel_rfl) Tryz.func5 (by kernel_rfl)
    (of_decide_eq_true (by kernel_rfl)) (by unfold Func.isWrapper; first | (rw [if_pos (by decide +kernel)]; kernel_rfl) | (rw [if_neg (by decide +kernel)]; exact ⟨rfl, rfl⟩))
    (fun os started H enc _ F => by rw [OpenClaim.pre_eq_preRow]; exact lifted os started H enc F)
theorem plain (f : FuncId) (fn : Func) (hf : Tryz.pinned.checked.prog.funcNamed "usance/usancelaw10.BtreeTwice" = some f) (hfn : Tryz.pinned.checked.prog.funcs[f]? = some fn) :
    false = Tryz.pinned.checked.prog.looks [] ∧ ∀ (j : Nat) t, fn.params[j]? = some t → Tryz.pinned.checked.prog.wantsStandIn t = false := by
  obtain rfl : f = 5 := Option.some.inj ((show Tryz.prog.funcNamed "usance/usancelaw10.BtreeTwice" = some 5 by kernel_rfl).symm.trans hf) |>.symm
  obtain rfl : fn = Tryz.f5 := (Option.some.inj (Tryz.func5.symm.trans hfn)).symm
  refine ⟨by kernel_rfl, fun j t ht => ?_⟩
  rw [Tryz.params5] at ht
  have hm := Array.mem_of_getElem? ht
  simp only [List.mem_toArray, List.mem_cons, List.not_mem_nil, or_false] at hm
  rcases hm with rfl | rfl | rfl
  · exact (show Tryz.prog.wantsStandIn 22 = false by kernel_rfl)
  · exact (show Tryz.prog.wantsStandIn 3 = false by kernel_rfl)
  · exact (show Tryz.prog.wantsStandIn 9 = false by kernel_rfl)
theorem proved : Rows.BtreeTwiceCardSaid :=
  Claim7.holds_tied_plain_at .later [] _ _ _ _ said (fun _ h => by cases h) (by kernel_rfl) (fun _ h => by cases h) btreeTwice_row_tie rfl ⟨rfl, rfl⟩ (by kernel_rfl) rfl plain (by kernel_rfl)
#print axioms proved
end Go.Proofs.YtofibccplbnaiaaGreatDoor.cardBtreeTwice
