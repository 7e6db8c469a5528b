/- Contracts of the functions that the statements of this seat reach, part 21: each says what the call answers and what it leaves of the memory. -/
import Derived.Test.YtofibccplbnaiaaGreatDoorP20
import Derived.Test.YtofibccplbnaiaaGreatDoorP8
import Derived.Test.YtofibccplbnaiaaGreatDoorP3
import Derived.Test.YtofibccplbnaiaaGreatDoorP2
import Derived.Test.YtofibccplbnaiaaGreatDoorP1
import Derived.StillTailTactics
import Derived.Deep.RegionHeld3
import Derived.Laws.MakeOwn
import Derived.Laws.Cover1
set_option linter.unusedVariables false
set_option linter.unusedSimpArgs false
set_option maxRecDepth 100000
set_option maxHeartbeats 64000000
namespace Go.Proofs.YtofibccplbnaiaaGreatDoor
section
open Go.RowKit Go.Shelf Go.Lib
attribute [local go_sem] Oper.semAt_some
section
variable {w w' : World} {m : Nat} {F : Ft} {p : Nat} {f : Pf} {tb : Nat} {l : List KV}
theorem Sub.ne {R:Rp} (hg:R.good) {h:Nat} {page:Int} {l:List KV} {P:List Int} (hs:Sub R h page l P):l≠[]:=by
 cases h with
 | zero =>
  obtain⟨n,h1,h2,h3,h4⟩:=hs;rw[h3];intro e;exact(Sub.srt hg h1).some (List.map_eq_nil_iff.1 e)
 | succ h =>
  obtain⟨n,T,h1,h2,h3,h4,h5,h6,h7⟩:=hs;rw[h4]
  cases T with
  | nil=>exact absurd h3 (Sub.srt hg h1).some
  | cons t r =>
   rw[List.flatMap_cons];intro e;exact h6.some t (List.mem_cons_self ..) (List.append_eq_nil_iff.1 e).1
theorem left_tw (h:TW w m F p f tb l):Calls Tryz.prog 15 #[Xb f.q] w fun e w'=>∃n:Nat,e=.returned (.int .i64 (n:Int))∧w'=w∧n≤m∧(l≠[]→n<m)∧(l=[]→n=m):=by
 obtain⟨⟨n,J,seq,B,R,h1,h2,h3⟩,h4,h5⟩:=h;refine(lp_left h1.lp).mono ?_;rintro e w' ⟨rfl,rfl⟩;refine⟨_,rfl,rfl,by rw[←h3];exact List.countP_le_length,fun hl=>?_,fun hl=>?_⟩
 ·rcases h2 with ⟨_,e,_⟩ | ⟨h,P,hT⟩
  ·exact absurd e hl
  ·have h6:=hT.count;have h7:=List.length_pos_iff.2 (List.ne_nil_of_mem (Sub.page h hT.sub));omega
 ·rcases h2 with ⟨_,_,e⟩ | ⟨h,P,hT⟩
  ·have:=Zcg (R:=R) (P:=[]) (by simp) fun p=>by rw[e p];simp
   simp only[List.length_nil] at this;omega
  ·exact absurd hl (Sub.ne h1.lp.good hT.sub)
theorem pages_tw (h:TW w m F p f tb l):Calls Tryz.prog 16 #[Xb f.q] w fun e w'=>e=.returned (.int .i64 (m:Int))∧w'=w:=by obtain⟨⟨n,J,seq,B,R,h1,h2,h3⟩,h4,h5⟩:=h;rw[←h3];exact lp_pages h1.lp
theorem TW.live (h:TW w m F p f tb l):∃n J seq B R,Tr n J seq B w F p f R tb∧(∀from_ to_,R.rangeN from_ to_=Zch from_ to_ l)∧Tre R l∧R.pages.length=m∧4≤m∧m≤255:=by obtain⟨⟨n,J,seq,B,R,h1,h2,h3⟩,h4,h5⟩:=h;exact⟨n,J,seq,B,R,h1,fun a b=>h2.range h1.lp.good (TreH.low39 h1.lp.good (by omega)) a b,h2,h3,h4,h5⟩
end
theorem shown10_any (w:World) (hn:Nib w):Calls Tryz.prog 7 #[] w fun e w'=>e=.returned (.bool true)∧Below w.heap.size w w':=by
 obtain⟨W1,hW1⟩:∃x,x=w.alloc (bolO false):=⟨_,rfl⟩;have hb1:Below w.heap.size w W1:=by rw[hW1];exact Zj w _
 have hs1:W1.heap.size=w.heap.size+1:=by rw[hW1];simp
 have r1:W1.heap[w.heap.size]?=some (bolO false):=by rw[hW1];exact heap_alloc_new w _
 have HBG:=Hd (begun10_any W1 (hn.below hb1) 200 (by omega) (by omega));have HW1:=Hd hW1;have HB1:=Hd hb1;have HS1:=Hd hs1;have HR1:=Hd r1;clear hn hW1 hb1 hs1 r1;refine callsIn_wide (n:=3).1 ?_;refine callsIn_of_wp_marks Tryz.func7 rfl trivial ?_ rfl;simp only[Tryz.ntmps7,List.size_toArray,List.length_cons,List.length_nil,Nat.reduceAdd,Nat.reduceSub,Array.replicate_succ,Array.replicate_zero,List.push_toArray,List.append_toArray,List.nil_append,List.cons_append];gi_wp2_with fail;rw[←HW1.out];refine⟨trivial,?_⟩;refine(callsIn_wide.2 HBG.out).mono ?_;rintro e w1 ⟨F,p,f,tb,J,seq,B,rfl,hT,hb,ho,ht,_⟩;have htb:=tb_begun (by omega) (by omega) hT hb ho ht;have e12:(((200 - 2) / 2 - 2) / 8:Nat)=12:=by decide
 rw[e12] at htb;clear hT hb ho ht e12;generalize hqq:f.q=qq at *;have HQ:=Hd hqq
 clear hqq;have H1:Hid (Calls Tryz.prog 11 #[trp tb,.string ⟨#[97]⟩,.string ⟨#[120]⟩] w1 fun e w'=>e=.returned (.int .i64 0)∧TWto w1 12 F p f tb [([97],[120])] w'):=Hd (put_tw htb.tw (Zew (by omega) (by simp[wgtB])) (key:=[97]) (val:=[120]) (by simp) (by simp))
 have HTB1:=Hd htb;clear htb;gi_wp2_with fail;refine⟨trivial,?_⟩;refine(callsIn_wide.2 H1.out).mono ?_;rintro e w2 ⟨rfl,hto⟩;obtain⟨f2,htb2,hq2,_⟩:=HTB1.out.to hto;have H2:Hid (Calls Tryz.prog 11 #[trp tb,.string ⟨#[98]⟩,.string ⟨#[121]⟩] w2 fun e w'=>e=.returned (.int .i64 0)∧TWto w2 12 F p f2 tb [([97],[120]),([98],[121])] w'):=Hd (put_tw htb2.tw (Zew (by omega) (by simp[wgtB])) (key:=[98]) (val:=[121]) (by simp) (by simp));have HTB2:=Hd htb2;have HQ2:=Hd (hq2.trans HQ.out);clear hto htb2 hq2;gi_wp2_with fail;refine⟨trivial,?_⟩;refine(callsIn_wide.2 H2.out).mono ?_;rintro e w3 ⟨rfl,hto⟩;obtain⟨f3,htb3,hq3,_⟩:=HTB2.out.to hto;have H3:Hid (Calls Tryz.prog 11 #[trp tb,.string ⟨#[97]⟩,.string ⟨#[122]⟩] w3 fun e w'=>e=.returned (.int .i64 0)∧TWto w3 12 F p f3 tb [([97],[122]),([98],[121])] w'):=Hd (put_tw htb3.tw (Zew (by omega) (by simp[wgtB])) (key:=[97]) (val:=[122]) (by simp) (by simp));have HTB3:=Hd htb3;have HQ3:=Hd (hq3.trans HQ2.out);clear hto htb3 hq3;gi_wp2_with fail;refine⟨trivial,?_⟩;refine(callsIn_wide.2 H3.out).mono ?_;rintro e w4 ⟨rfl,hto⟩;obtain⟨f4,htb4,hq4,_⟩:=HTB3.out.to hto
 have H4:Hid (Calls Tryz.prog 21 #[trp tb,.string ⟨#[97]⟩] w4 fun e w'=>e=.returned (.tuple #[.string ⟨#[122]⟩,.bool true,.int .i64 0])∧TW w' 12 F p f4 tb [([97],[122]),([98],[121])]∧Zb (PJ F p f4) w4 w'):=Hd (get_tw htb4.tw (key:=[97]) (by simp));have HTB4:=Hd htb4;have HQ4:=Hd (hq4.trans HQ3.out);clear hto htb4 hq4;gi_wp2_with fail;refine⟨trivial,?_⟩;refine(callsIn_wide.2 H4.out).mono ?_;rintro e w5 ⟨rfl,htw,htt⟩;have htb5:=HTB4.out.read htw htt;clear htw htt;obtain⟨W6,hW6⟩:∃x,x=w5.alloc (izO 0):=⟨_,rfl⟩;have hb6:Below w5.heap.size w5 W6:=by rw[hW6];exact Zj w5 _
 have hs6:W6.heap.size=w5.heap.size+1:=by rw[hW6];simp
 have r6:W6.heap[w5.heap.size]?=some (izO 0):=by rw[hW6];exact heap_alloc_new w5 _
 have htb6:=htb5.step hb6;obtain⟨n,J,seq,B,R,hT,hrg,htre,hRm,_,_⟩:=htb6.tw.live;obtain⟨w7,hw7⟩:∃w7,w7=((W6.alloc (trpO tb)).alloc (Ql [97,0])).alloc (Ql []):=⟨_,rfl⟩;obtain⟨hb7,hs7,hl7,hlow7⟩:=range_begin hT hw7;have hrg1:R.rangeN [97,0] []=[([98],[121])]:=by rw[hrg];rfl
 have HRG:Hid (Calls Tryz.prog 19 #[trp tb,.string ⟨#[97,0]⟩,.string ⟨#[]⟩] W6 fun e w'=>e=.returned (rngF W6.heap.size (W6.heap.size+1) (W6.heap.size+2))∧w'=w7):=Hd (by
  have:=trange_any W6 (trp tb) (.inr ⟨tb,rfl⟩) [97,0] [];rw[←hw7] at this
  exact this)
 have HL7:=Hd hl7;have HLOW:=Hd hlow7;have HR7:=Hd ((hb7.block _ (Za r6)).trans r6);have HTB5:=Hd htb5;have HTB6:=Hd htb6;have HW6:=Hd hW6;have HS:=Hd (And.intro hs6 hs7);have HB67:=Hd (And.intro hb6 hb7);have HRN:=Hd hrg1;have HPJ:Hid (∀k,PJ F p f4 k→k<w5.heap.size):=Hd fun k hk=>htb5.tw.lt hk;have HTL:=Hd htb5.tw.tlt;have HTRE:=Hd htre;have HRM:=Hd hRm;clear htb5 hW6 hb6 hs6 r6 htb6 hT hrg htre hRm hw7 hb7 hs7 hl7 hlow7 hrg1;gi_wp2_with fail;rw[←HW6.out];refine⟨trivial,?_⟩;refine(callsIn_wide.2 HRG.out).mono ?_;rintro e w8 ⟨rfl,e8⟩;obtain rfl:w7=w8:=e8.symm;gi_wp2_with fail
 refine rangeT (F:=Fence.wide) rfl (by omega) (gf:=49) (lb:=#[Xc W6.heap.size,Xc (W6.heap.size+1),Xc (W6.heap.size+2)]) rfl trivial (enters_of Tryz.func49 (by kernel_rfl) rfl)
  (range_seq (n:=n) (J:=J) (seq:=seq) (B:=B) (F:=F) (p:=p) (f:=f4) (R:=R) (tb:=tb) (bt:=W6.heap.size) (bf:=W6.heap.size+1) (bq:=W6.heap.size+2) (from_:=[97,0]) (to_:=[]) 2 (by omega)) (fun _=>rfl)
  (fun pre W=>Zcj n J seq B F p f4 R tb W6.heap.size (W6.heap.size+1) (W6.heap.size+2) [97,0] [] W∧W.heap[w5.heap.size]?=some (izO (pre.length:Int))∧Zb (fun k=>PJ F p f4 k∨k=w5.heap.size) w7 W)
  (fun _ _ _=>False) ?hG (fun s A h=>h.1) ?hLp ?hI ?hU (fun _ _ _ _ h=>h.elim) ?h0 (fun x a' A=>a'={ tmps:=#[Xc w.heap.size,Xb qq,trp tb,.int .i64 0,.int .i64 0,.int .i64 0,.string ⟨#[122]⟩,.bool true,.int .i64 0,Xc w5.heap.size,.string ⟨x.1.toArray⟩,.string ⟨x.2.toArray⟩,undef,undef,undef,.tuple #[Xb qq,trp tb],.tuple #[Xb qq,trp tb],Xb qq,trp tb,trp tb,.bool false,trp tb,.int .i64 0,trp tb,.int .i64 0,trp tb,.int .i64 0,.tuple #[.string ⟨#[122]⟩,.bool true,.int .i64 0],trp tb,.tuple #[.string ⟨#[122]⟩,.bool true,.int .i64 0],.string ⟨#[122]⟩,.bool true,.int .i64 0,trp tb,rngF W6.heap.size (W6.heap.size+1) (W6.heap.size+2),.string ⟨x.1.toArray⟩,.string ⟨x.2.toArray⟩,undef,undef,undef,undef,undef,undef,undef,undef,undef,undef,undef,undef,undef,undef,undef,undef,undef,undef,undef,undef,undef,undef,undef,undef,undef,undef,undef,undef,undef,undef,undef,undef,undef,undef,undef,undef,undef,undef,undef,undef,undef,undef,undef,undef,undef,undef,undef,undef,undef,undef,undef,undef,undef,undef,undef,undef,undef,undef],defers:=[] }) (fun _ _ _ _ h=>h) ?assign ?body ?done (fun _ _ _ _ _ _ _ h=>h.elim)
 case assign =>
  rintro L pre x W K hi hpx hsz hK;gi_wp2_with fail;exact hK _ _ (Zb.refl _ _) hi rfl
 case hG =>
  intro W hb;exact⟨HL7.out.far HLOW.out (Zb.of_below (T:=fun k=>w7.heap.size≤k) hb) fun k hk e=>by omega,HLOW.out.mono hb.size⟩
 case hLp=>exact fun A A' h ht=>h.far HLOW.out ht fun k hk e=>by omega
 case hI =>
  rintro s A A' ⟨i1,i2,i3⟩ ht hl;have hS:=HS.out
  refine⟨hl,Yg ht (fun e=>?_) i2,i3.then ht fun i hi e=>?_⟩
  ·rcases e with e | e
   ·have:=HPJ.out _ e;omega
   ·omega
  ·rcases e with e | e
   ·exact .inl e
   ·omega
 case hU=>exact fun k hk=>by have:=HPJ.out k hk;have:=HS.out;omega
 case h0=>exact⟨HL7.out,HR7.out,Zb.refl _ _⟩
 case body =>
  rintro L pre x a' W hl ⟨r,hr⟩ ⟨i1,i2,i3⟩ rfl hpx hsz;rw[HRN.out] at hpx
  obtain⟨rfl,rfl⟩:pre=[]∧x=([98],[121]):=by
   obtain⟨t,ht⟩:=hpx
   cases pre with
   | nil=>simp at ht;exact⟨rfl,ht.1⟩
   | cons y r=>simp at ht
  have cn:=(cell_of_row _ _ 0 _ _ _ i2).trans rfl;have fn:=Zf i2 0;have hS:=HS.out;have ht9:=Zd W w5.heap.size 0 (.int .i64 1)
  have hE:Zb (fun k=>k<w7.heap.size) W (W.setCell ⟨w5.heap.size,0,none⟩ (.int .i64 1))∧Zcj n J seq B F p f4 R tb W6.heap.size (W6.heap.size+1) (W6.heap.size+2) [97,0] [] (W.setCell ⟨w5.heap.size,0,none⟩ (.int .i64 1))∧(W.setCell ⟨w5.heap.size,0,none⟩ (.int .i64 1)).heap[w5.heap.size]?=some (izO ((([]++[(([98],[121]):KV)]):List KV).length:Int))∧Zb (fun k=>PJ F p f4 k∨k=w5.heap.size) w7 (W.setCell ⟨w5.heap.size,0,none⟩ (.int .i64 1)):=by
   refine⟨ht9.mono fun j _ e=>by omega,⟨i1.tr.turned ht9 (fun j hj e=>?_) (fun e=>by have:=HTL.out.1;omega),Yg ht9 (by omega) i1.hbt,Yg ht9 (by omega) i1.hbf,Yg ht9 (by omega) i1.hbq⟩,Ze i2 _,i3.trans (ht9.mono fun j _ e=>.inr e)⟩;rcases hj with hj | hj
   ·have:=HPJ.out j hj;omega
   ·have:=HTL.out.2.2;omega
  have HE:=Hd hE;have hz0:(([]:List KV).length:Int)=0:=rfl;clear i1 i2 i3 hpx hE ht9 hS;gi_wp2_with fail;exact HE.out
 case done =>
  rintro D W hD hsz ⟨i1,i2,i3⟩ hK;rw[HRN.out] at i2;have hS:=HS.out
  have hTW:TW W 12 F p f4 tb [([97],[122]),([98],[121])]:=i1.tw HTRE.out HRM.out (by omega) (by omega)
  have htD:Zb (fun k=>PJ F p f4 k) w5 W:=(Zb.of_below (HB67.out.1.trans (HB67.out.2.mono (by omega)))).then i3 fun i hi e=>by
   rcases e with e | e
   ·exact e
   ·omega
  have htb8:=HTB5.out.read hTW htD;have hdel:Calls Tryz.prog 13 #[trp tb,.string ⟨#[97]⟩] W fun e w'=>e=.returned (.tuple #[.bool true,.int .i64 0])∧TWto W 12 F p f4 tb [([98],[121])] w':=del_tw hTW (Zew (by omega) (by simp[wgtB])) (key:=[97]) (by simp);have HDEL:=Hd hdel;have HTB8:=Hd htb8;have HN8:=Hd i2;have HK:=Hd hK;clear i1 i2 i3 hK hTW htD htb8 hdel hS;gi_wp2_with fail;refine⟨trivial,?_⟩;refine(callsIn_wide.2 HDEL.out).mono ?_;rintro e w9 ⟨rfl,hto⟩;obtain⟨f5,htb9,hq5,hpj5,htt⟩:=HTB8.out.to hto;have HSND:=Hd (sound_tw htb9.tw);have HTB9:=Hd htb9;have HTT9:=Hd htt;have HQ5:=Hd (hq5.trans HQ4.out);have HPJ5:=Hd hpj5;clear hto htb9 hq5 htt hpj5;gi_wp2_with fail;refine⟨trivial,?_⟩;refine(callsIn_wide.2 HSND.out).mono ?_;rintro e wa ⟨rfl,htw,hta⟩;have htba:=HTB9.out.read htw hta;have hS:=HS.out;have hno4:∀k,w5.heap.size≤k→¬PJ F p f4 k:=fun k hk e=>by have:=HPJ.out k e;omega
  have hno5:∀k,w5.heap.size≤k→k<W.heap.size→¬PJ F p f5 k:=fun k hk hk2 e=>by
   rcases HPJ5.out k e with e | e
   ·exact hno4 k hk e
   ·omega
  have na:=Yg hta (hno5 _ (Nat.le_refl _) (by omega)) (Yg HTT9.out (hno4 _ (Nat.le_refl _)) HN8.out);have hDl:D<W.heap.size:=Za HK.out;have ka:=Yg hta (hno5 _ (by omega) hDl) (Yg HTT9.out (hno4 _ (by omega)) HK.out);have ra:=(htba.below.block _ (by have:=HS1.out;omega)).trans HR1.out;have hLEFT:=left_tw htba.tw;have hPGS:=pages_tw htba.tw;rw[HQ5.out] at hLEFT hPGS;have HLEFT:=Hd hLEFT;have HPGS:=Hd hPGS;have HTBA:=Hd htba;have cna:=(cell_of_row _ _ 0 _ _ _ na).trans rfl;have cra:=(cell_of_row _ _ 0 _ _ _ ra).trans rfl;have fra:=Zf ra 0;have ht9:=Zd wa w.heap.size 0 (.bool true);have hwD:w.heap.size≠D:=by have:=HTB5.out.base;have:=HS1.out;omega
  have HK6:Hid ((wa.setCell ⟨w.heap.size,0,none⟩ (.bool true)).heap[D]?=some (.deferred (some []))):=Hd (Yg ht9 (fun e=>hwD e.symm) ka);have HR6:Hid ((wa.setCell ⟨w.heap.size,0,none⟩ (.bool true)).heap[w.heap.size]?=some (bolO true)):=Hd (Ze ra _);have HE:Hid (∀o,Below w.heap.size w ((wa.setCell ⟨w.heap.size,0,none⟩ (.bool true)).putObj D o)):=Hd fun o=>by have h1:Below w.heap.size w wa:=HB1.out.trans (htba.below.mono HB1.out.size);have h2:Zb (fun k=>k=w.heap.size∨k=D) wa ((wa.setCell ⟨w.heap.size,0,none⟩ (.bool true)).putObj D o):=(ht9.mono fun k _ e=>.inl e).trans (Zak _ D o (.inr rfl));refine h1.trans (h2.below h1.size fun k e=>?_);have:=HTB5.out.base;have:=HS1.out;omega
  clear htw hta htba hS hno4 hno5 na hDl ka ra hLEFT hPGS ht9;gi_wp2_with fail;refine⟨trivial,?_⟩;refine(callsIn_wide.2 HLEFT.out).mono ?_;rintro e wb ⟨left,rfl,eb,_,hlt,_⟩;obtain rfl:wa=wb:=eb.symm;have hl12:left<12:=hlt (by simp)
  clear hlt;gi_wp2_with fail;refine⟨trivial,?_⟩;refine(callsIn_wide.2 HPGS.out).mono ?_;rintro e wb ⟨rfl,eb⟩;obtain rfl:wa=wb:=eb.symm;have hd:decide ((left:Int)<((12:Nat):Int))=true:=decide_eq_true (by omega)
  have hd2:decide ((left:Int)<12)=true:=decide_eq_true (by omega);have hd3:decide (left<12)=true:=decide_eq_true hl12;gi_wp2_with fail;refine⟨by simp,.inl ⟨_,_,rfl,run_takeDeferred HK6.out,?_⟩⟩;exact⟨_,Qd rfl rfl (Zbs ((World.putObj_heap_other hwD).trans HR6.out)),rfl,HE.out _⟩
end
section
open Go.RowKit
theorem info_pair:(Tryz.prog.info? 35).map (fun i=>(i.zero,i.size,i.bytes))=some (some (.agg #[.string ⟨#[]⟩,.string ⟨#[]⟩]),2,32):=by kernel_rfl
def pvC (e:KV):List Value:=[.string ⟨e.1.toArray⟩,.string ⟨e.2.toArray⟩]
def pvV (l:List KV):List Value:=l.flatMap pvC
theorem pvV_length (l:List KV):(pvV l).length=l.length*2:=by
 induction l with
 | nil=>rfl
 | cons e r ih =>
  rw[pvV,List.flatMap_cons,List.length_append,List.length_cons];rw[pvV] at ih;rw[ih];show 2+_=_
  omega
theorem pvV_append (a b:List KV):pvV (a++b)=pvV a++pvV b:=by simp[pvV]
theorem pvV_get:∀(l:List KV) (i:Nat) (hi:i<l.length) (j:Nat),j<2→(pvV l)[i*2+j]?=(pvC l[i])[j]?
 | e::r,0,_,j,hj=>by rw[pvV,List.flatMap_cons,Nat.zero_mul,Nat.zero_add,List.getElem?_append_left (by simpa [pvC] using hj)];rfl
 | e::r,i+1,hi,j,hj=>by
  have ih:=pvV_get r i (by simpa using hi) j hj;rw[pvV,List.flatMap_cons,show (i+1)*2+j=(pvC e).length+(i*2+j) by show _=2+_;omega,List.getElem?_append_right (by omega),Nat.add_sub_cancel_left]
  exact ih
theorem pvV_oneCell (l:List KV):∀v∈pvV l,v.oneCell'=true:=by
 intro v hv;obtain⟨e,_,hv⟩:=List.mem_flatMap.1 hv;simp only[pvC,List.mem_cons,List.not_mem_nil,or_false] at hv
 rcases hv with rfl | rfl<;>rfl
def Qj (w:World) (v:Value) (l:List KV):Prop :=
 ∃a cap,v=.slice a l.length cap∧l.length≤cap∧cap≤maxLen∧(a=none→cap=0) ∧
  ∀x,a=some x→(0<l.length→x.spot=none)∧∀i,(h:i<l.length)→w.cell? ⟨x.block,x.off+i*2,none⟩=some (.string ⟨l[i].1.toArray⟩)∧w.cell? ⟨x.block,x.off+i*2+1,none⟩=some (.string ⟨l[i].2.toArray⟩)
theorem Qj.nil (w:World):Qj w (.slice none 0 0) []:=⟨none,0,rfl,Nat.le_refl _,by simp[maxLen],fun _=>rfl,fun x h=>by cases h⟩
theorem Qj.of_cells {w w':World} {v:Value} {l:List KV} (h:Qj w v l) (hw:∀a u,w.cell? a=some u→w'.cell? a=some u):Qj w' v l:=by obtain⟨a,cap,hv,hl,hm,hn,hc⟩:=h;exact⟨a,cap,hv,hl,hm,hn,fun x hx=>⟨(hc x hx).1,fun i hi=>⟨hw _ _ ((hc x hx).2 i hi).1,hw _ _ ((hc x hx).2 i hi).2⟩⟩⟩
theorem Qj.below {w w':World} {v:Value} {l:List KV} (h:Qj w v l) (hb:Below w.heap.size w w'):Qj w' v l:=h.of_cells (Zi hb)
theorem Qj.form {w:World} {v:Value} {l:List KV} (h:Qj w v l):∃a cap,v=.slice a l.length cap∧l.length≤cap∧cap≤maxLen:=by obtain⟨a,cap,hv,hl,hm,_⟩:=h;exact⟨a,cap,hv,hl,hm⟩
theorem Qj.at {w:World} {a:Option Addr} {n cap:Nat} {l:List KV} (h:Qj w (.slice a n cap) l) (i:Nat) (hi:i<l.length):∃b o,a=some ⟨b,o,none⟩ ∧
  w.cell? ⟨b,o+i*2,none⟩=some (.string ⟨l[i].1.toArray⟩)∧w.cell? ⟨b,o+i*2+1,none⟩=some (.string ⟨l[i].2.toArray⟩):=by
 obtain⟨a',cap',hv,hl,hm,hn,hc⟩:=h;simp only[Value.slice.injEq] at hv;obtain⟨rfl,_,rfl⟩:=hv
 cases a with
 | none=>have:=hn rfl;omega
 | some x =>
  obtain⟨b,o,s⟩:=x;obtain⟨hs,hc⟩:=hc _ rfl;obtain rfl:s=none:=hs (by omega);exact⟨b,o,rfl,hc i hi⟩
def Xo (B:Nat) (w:World) (v:Value) (l:List KV):Prop:=w.ownsRow B 35 2 v l.length (pvV l)
theorem Xo.nil (B:Nat) (w:World):Xo B w (.slice none 0 0) []:=World.ownsRow_nil w B 35 2
theorem Xo.keep {B:Nat} {w w':World} {v:Value} {l:List KV} (h:Xo B w v l) (hw:∀k,B≤k→k<w.heap.size→w'.heap[k]?=w.heap[k]?):Xo B w' v l:=Zfp h hw
theorem Xo.below {B:Nat} {w w':World} {v:Value} {l:List KV} (h:Xo B w v l) (hb:Below w.heap.size w w'):Xo B w' v l:=h.keep fun k _ hl=>hb.block k hl
theorem Xo.lt {B:Nat} {w:World} {v:Value} {l:List KV} (h:Xo B w v l) {k:Nat} (hk:v.ownBlock=some k):B≤k∧k<w.heap.size:=by obtain⟨h1,c,hc⟩:=Zek h hk.symm;exact⟨h1,Za hc⟩
theorem Xo.isE {B:Nat} {w:World} {v:Value} {l:List KV} (h:Xo B w v l):Qj w v l:=by
 rcases h.2 with ⟨rfl,hn⟩ | ⟨g,cap,cur,rfl,hb,hg,hnc,hcm,hcs,htake⟩
 ·obtain rfl:=List.eq_nil_of_length_eq_zero hn;exact Qj.nil w
 ·refine⟨_,cap,rfl,hnc,hcm,fun e=>(by cases e),fun x hx=>?_⟩
  simp only[Option.some.injEq] at hx;subst hx;refine⟨fun _=>rfl,fun i hi=>?_⟩
  have key:∀j,j<2→w.cell? ⟨g,i*2+j,none⟩=(pvC l[i])[j]?:=fun j hj=>by
   rw[cell_of_row _ _ _ _ _ _ hg];have e:=pvV_get l i hi j hj
   rw[←htake,List.getElem?_take,if_pos (by omega)] at e;simpa using e
  dsimp only;rw[Nat.zero_add];exact⟨key 0 (by omega),key 1 (by omega)⟩
theorem Qj.firsts {w:World} {v:Value} {l:List KV} (h:Qj w v l):∀w',w'.heap=w.heap→(Builtin.firstCells 2 l.length v).run Tryz.prog w'=.ok (pvV l).toArray w':=by
 intro w' hw;obtain⟨a,cap,rfl,hl,hm,hn,hc⟩:=h;by_cases h0:l.length=0
 ·obtain rfl:=List.eq_nil_of_length_eq_zero h0
  cases a with
  | none=>simp[Builtin.firstCells,pvV]
  | some x=>simp[Builtin.firstCells,loadCells,loadCellsFrom,pvV]
 ·cases a with
  | none=>have:=hn rfl;omega
  | some x =>
   obtain⟨b,o,s⟩:=x;obtain⟨hs,hc⟩:=hc _ rfl;obtain rfl:s=none:=hs (by omega);refine run_firstCells_some (P:=Tryz.prog) w' 2 l.length _ _ _ (pvV l) (by rw[pvV_length]) ?_;intro j u hj;have hlt:j<l.length*2:=by have:=(List.getElem?_eq_some_iff.1 hj).1;rwa[pvV_length] at this
   obtain⟨i,r,rfl,hr⟩:∃i r,j=i*2+r∧r<2:=⟨j / 2,j % 2,by omega,Nat.mod_lt _ (by omega)⟩;have hi:i<l.length:=by omega
   rw[pvV_get l i hi r hr] at hj;rw[Addr.add_mid];have hcell:∀c,w'.cell? ⟨b,c,none⟩=w.cell? ⟨b,c,none⟩:=fun c=>by unfold World.cell?;rw[hw]
   rw[hcell];obtain⟨c0,c1⟩:=hc i hi;rcases(show r=0∨r=1 by omega) with rfl | rfl
   ·rw[←hj];exact c0
   ·rw[←hj];exact c1
theorem Xo.app {B:Nat} {w:World} {v u:Value} {l m:List KV} (h:Xo B w v l) (hu:Qj w u m) (hB:B≤w.heap.size) (hL:l.length+m.length≤1000000) :
  ∃v' w',(Builtin.append_ #[28,28] 28 #[v,u]).run Tryz.prog w=.ok v' w'∧Xo B w' v' (l++m)∧w.grownBy w' v.ownBlock∧(v'.ownBlock=v.ownBlock∨v'.ownBlock=some w.heap.size):=by
 obtain⟨i,hi,hz,hs,hb⟩:=info_parts (P:=Tryz.prog) (e:=35) info_pair;have hf:=hu.firsts
 obtain⟨a,cap,rfl,hc1,hc2⟩:=hu.form
 obtain⟨v',w',hr,ho,hgr,_,h5⟩:=Zdw (P:=Tryz.prog) w B 28 28 28 35 i _ 2 32 _ Tryz.underlying28 Tryz.underlying28 (.inl rfl) hi hz hs hb rfl (by decide) v l.length (pvV l) h
  (.slice a m.length cap) m.length (pvV m) (fun w'=>rfl) (by rw[pvV_length]) hf (pvV_oneCell m) (by simp[maxLen];omega) (by omega) hB
 refine⟨v',w',hr,?_,hgr,h5⟩;unfold Xo;rw[pvV_append,List.length_append];exact ho
theorem Qj.take {w:World} {a:Option Addr} {n cap:Nat} {l:List KV} (h:Qj w (.slice a n cap) l) (k:Nat) (hk:k≤l.length):Qj w (.slice a k cap) (l.take k):=by
 obtain⟨a',cap',hv,hl,hm,hn,hc⟩:=h;simp only[Value.slice.injEq] at hv;obtain⟨rfl,_,rfl⟩:=hv;have hlk:(l.take k).length=k:=by rw[List.length_take];omega
 refine⟨a,cap,by rw[hlk],by omega,hm,hn,fun x hx=>⟨fun hp=>(hc x hx).1 (by omega),fun i hi=>?_⟩⟩;rw[hlk] at hi;have:=(hc x hx).2 i (by omega)
 simpa using this
theorem Qj.drop {w:World} {b o n cap:Nat} {l:List KV} (h:Qj w (.slice (some ⟨b,o,none⟩) n cap) l) (k:Nat) (hk:k≤l.length):Qj w (.slice (some ⟨b,o+k*2,none⟩) (l.length - k) (cap - k)) (l.drop k):=by
 obtain⟨a',cap',hv,hl,hm,hn,hc⟩:=h;simp only[Value.slice.injEq] at hv;obtain⟨rfl,_,rfl⟩:=hv;refine⟨_,_,by rw[List.length_drop],by rw[List.length_drop];omega,by omega,fun e=>(by cases e),fun x hx=>?_⟩;simp only[Option.some.injEq] at hx;subst hx;refine⟨fun _=>rfl,fun i hi=>?_⟩;rw[List.length_drop] at hi;have h2:=(hc _ rfl).2 (k+i) (by omega)
 have e:o+k*2+i*2=o+(k+i)*2:=by omega
 simp only[List.getElem_drop];rw[e];exact h2
end
section
theorem rngL_all (l:List KV):Zch [] [] l=l:=by
 unfold Zch;rw[List.filter_eq_self];intro x _;have:¬x.1 < []:=List.not_lt_nil _
 simp[this]
end
section
open Go.RowKit
theorem head_at {l:List KV} {key:List UInt8} {k:Nat} (hk:k≤l.length) (hlo:∀j (h:j<l.length),j<k→l[j].1<key) (hhi:∀h:k<l.length,¬l[k].1<key):Xa l key=l.take k∧l.dropWhile (fun x=>decide (x.1<key))=l.drop k:=by
 induction l generalizing k with
 | nil=>simp[Xa]
 | cons x r ih =>
  cases k with
  | zero =>
   have h0:=hhi (by simp);simp only[List.getElem_cons_zero] at h0;exact⟨by rw[Xa,List.takeWhile_cons_of_neg (by simpa using h0)];rfl,by rw[List.dropWhile_cons_of_neg (by simpa using h0)];rfl⟩
  | succ k =>
   have h0:=hlo 0 (by simp) (by omega);simp only[List.getElem_cons_zero] at h0;obtain⟨i1,i2⟩:=ih (k:=k) (by simpa using hk) (fun j hj hjk=>hlo (j+1) (by simp;exact hj) (by omega)) (fun hj=>hhi (by simp;exact hj));rw[Xa] at i1 ⊢;exact⟨by rw[List.takeWhile_cons_of_pos (by simpa using h0),i1];rfl,by rw[List.dropWhile_cons_of_pos (by simpa using h0),i2];rfl⟩
theorem get_at {l:List KV} {key:List UInt8} {k:Nat} (hk:k<l.length) (hd:l.dropWhile (fun x=>decide (x.1<key))=l.drop k):Zab l key=(if l[k].1=key then (l[k].2,true) else ([],false))∧Zaz l key=if l[k].1=key then l.drop (k+1) else l.drop k:=by unfold Zab Zaz;rw[hd,List.drop_eq_getElem_cons hk];exact⟨rfl,rfl⟩
theorem get_end {l:List KV} {key:List UInt8} (hd:l.dropWhile (fun x=>decide (x.1<key))=[]):Zab l key=([],false)∧Zaz l key=[]:=by unfold Zab Zaz;rw[hd];exact⟨rfl,rfl⟩
attribute [local irreducible] wpStill
theorem place_any (w:World) {v:Value} {l:List KV} (h:Qj w v l) (key:List UInt8) :
  Calls Tryz.prog 37 #[v,.string ⟨key.toArray⟩] w fun e w'=>(e=.returned (.tuple #[.int .i64 ((Xa l key).length:Int),.bool (Zab l key).2])∧(Xa l key).length≤l.length)∧Below w.heap.size w w':=by
 obtain⟨a,cap,rfl,hl1,hl2⟩:=h.form;unfold maxLen at hl2;have H:=Hd h
 clear h;go_enter Tryz.func37,Tryz.ntmps37;go_wp2_with fail;go_loopw [6] (fun i wr=>∃k:Nat,k≤l.length∧i=.int .i64 (k:Int)∧(∀j (h:j<l.length),j<k→l[j].1<key)∧wr=w) (fun i _=>l.length - (intOf i).toNat)
 case atStart=>exact⟨0,Nat.zero_le _,rfl,fun j _ h=>by omega,rfl⟩
 case round =>
  obtain⟨k,hk,rfl,hlo,rfl⟩:=hrel;have hwr:k<l.length→IntKind.i64.wrap ((k:Int)+1)=(k:Int)+1:=fun _=>IntWalk.i64_in _ (by omega)
  by_cases hlt:k<l.length
  ·have hd:decide ((k:Int)<(l.length:Int))=true:=by simpa using hlt
   have hd2:decide (k<l.length)=true:=by simpa using hlt
   have hi0:(0:Int)≤(k:Int):=by omega
   have hi1:(k:Int)<(l.length:Int):=by omega
   obtain⟨b,o,rfl,c0,c1⟩:=H.out.at k hlt;replace hwr:=hwr hlt;obtain⟨x,hx⟩:∃x,x=l[k]:=⟨_,rfl⟩;rw[←hx] at c0 c1;by_cases hkey:x.1<key
   ·have d1:Op.bytesLess x.1 key=true:=by rw[Yt];exact decide_eq_true hkey
    have LO:Hid (∀j (h:j<l.length),j<k+1→l[j].1<key):=Hd fun j hj hjk=>by
     rcases Nat.lt_or_ge j k with e | e
     ·exact hlo j hj e
     ·obtain rfl:j=k:=by omega
      rw[←hx];exact hkey
    clear hlo hx hkey;go_wp2_with fail;go_roundw
    case rel=>exact⟨k+1,hlt,by go_num,LO.out,trivial⟩
    case measure=>simp[intOf];omega
   ·have d1:Op.bytesLess x.1 key=false:=by rw[Yt];exact decide_eq_false hkey
    obtain⟨e1,e2⟩:=head_at (key:=key) hk hlo (fun _=>by rw[←hx];exact hkey);have e3:=(get_at hlt e2).1
    rw[←hx] at e3;have hlen:(Xa l key).length=k:=by rw[e1,List.length_take];omega
    have HE:Hid ((Xa l key).length=k∧(Zab l key).2=(x.1==key)):=Hd ⟨hlen,by rw[e3];by_cases e:x.1=key<;>simp[e]⟩
    clear hlo hx hkey e1 e2 e3 hlen;by_cases hq:(x.1==key)=true
    ·rw[hq] at HE;have c0d:wr.drew.cell? ⟨b,o+k*2,none⟩=some (.string ⟨x.1.toArray⟩):=c0;go_wp2_with fail;go_region;go_wp2_with fail;go_ret2;exact⟨⟨by rw[HE.out.1,HE.out.2];rfl,by rw[HE.out.1];exact hk⟩,(Below.refl _ _).drew⟩
    ·replace hq:(x.1==key)=false:=by simpa using hq
     rw[hq] at HE;have c0d:wr.drew.cell? ⟨b,o+k*2,none⟩=some (.string ⟨x.1.toArray⟩):=c0
     go_wp2_with fail;go_region;go_wp2_with fail;go_ret2;exact⟨⟨by rw[HE.out.1,HE.out.2];rfl,by rw[HE.out.1];exact hk⟩,(Below.refl _ _).drew⟩
  ·obtain rfl:k=l.length:=by omega
   have hd:decide ((l.length:Int)<(l.length:Int))=false:=by simp
   obtain⟨e1,e2⟩:=head_at (key:=key) hk hlo (fun h=>absurd h hlt);have e3:=(get_end (l:=l) (key:=key) (by rw[e2,List.drop_length])).1
   have HE:Hid ((Xa l key).length=l.length∧(Zab l key).2=false):=Hd ⟨by rw[e1,List.take_length],by rw[e3]⟩;clear hlo e1 e2 e3 hwr;go_wp2_with fail;go_region;go_wp2_with fail;go_ret2;exact⟨⟨by rw[HE.out.1,HE.out.2];rfl,by rw[HE.out.1];exact hk⟩,(Below.refl _ _).drew⟩
end
section
open Go.RowKit Go.Shelf Go.Lib
attribute [local go_sem] Oper.semAt_some
theorem Qj.turned {T:Nat→Prop} {w w':World} {v:Value} {l:List KV} (h:Qj w v l) (ht:Zb T w w') (hT:∀k,v.ownBlock=some k→¬T k):Qj w' v l:=by
 obtain⟨a,cap,rfl,hl,hm,hn,hc⟩:=h;refine⟨a,cap,rfl,hl,hm,hn,?_⟩;rintro x rfl;have hk:∀(o:Nat) (u:Value),w.cell? ⟨x.block,o,none⟩=some u→w'.cell? ⟨x.block,o,none⟩=some u:=fun o u hu=>(World.cell?_of_block (ht.block _ (World.block_lt_of_cell? w _ hu) (hT _ rfl))).trans hu
 exact⟨(hc x rfl).1,fun i hi=>⟨hk _ _ ((hc x rfl).2 i hi).1,hk _ _ ((hc x rfl).2 i hi).2⟩⟩
abbrev pvsO (v:Value):Obj:=.cells #[v] 28 (0,0)
section
variable {m : Nat} {F : Ft} {p : Nat} {f : Pf} {tb : Nat} {l : List KV} {from_ to_ : List UInt8}
theorem bsame_tr {n:Nat} {J:Jn} {seq:Int} {B:List (List UInt8)} {R:Rp} {w:World} (h1:Tr n J seq B w F p f R tb) (h2:Tre R l) (hm:R.pages.length≤255) (hll:l.length≤1000000) {v:Value} (hv:Qj w v (Zch from_ to_ l)) (hvT:∀k,v.ownBlock=some k→¬PJ F p f k) (ea:Int) (hea:-9223372036854775808≤ea∧ea≤9223372036854775807) :
  Calls Tryz.prog 12 #[trp tb,.string ⟨from_.toArray⟩,.string ⟨to_.toArray⟩,v,.int .i64 ea] w fun e w'=>e=.returned (.bool true)∧Tr n J seq B w' F p f R tb∧Zb (PJ F p f) w w':=by
 have hrg:R.rangeN from_ to_=Zch from_ to_ l:=h2.range h1.lp.good (TreH.low39 h1.lp.good hm) from_ to_;have hrl:(Zch from_ to_ l).length≤1000000:=Nat.le_trans (List.length_filter_le _ _) hll;rw[←hrg] at hv hrl;obtain⟨av,cv,rfl,hc1,hc2⟩:=hv.form;unfold maxLen at hc2;obtain⟨W1,hW1⟩:∃x,x=(((w.alloc (pvsO (.slice av (R.rangeN from_ to_).length cv))).alloc (izO ea)).alloc (bolO false)).alloc (izO 0):=⟨_,rfl⟩;have hb1:Below w.heap.size w W1:=by rw[hW1];exact(((Zj w _).alloc (by simp) _).alloc (by simp;omega) _).alloc (by simp;omega) _
 have hs1:W1.heap.size=w.heap.size+4:=by rw[hW1];simp
 have v1:W1.heap[w.heap.size]?=some (pvsO (.slice av (R.rangeN from_ to_).length cv)):=by rw[hW1];exact(Below.heap_alloc _ _ _ (by simp;omega)).trans ((Below.heap_alloc _ _ _ (by simp;omega)).trans ((Below.heap_alloc _ _ _ (by simp)).trans (heap_alloc_new w _)))
 have a1:W1.heap[w.heap.size+1]?=some (izO ea):=by
  rw[hW1];have:=heap_alloc_new (w.alloc (pvsO (.slice av (R.rangeN from_ to_).length cv))) (izO ea)
  rw[World.size_alloc] at this;exact(Below.heap_alloc _ _ _ (by simp)).trans ((Below.heap_alloc _ _ _ (by simp)).trans this)
 have r1:W1.heap[w.heap.size+2]?=some (bolO false):=by
  rw[hW1];have:=heap_alloc_new ((w.alloc (pvsO (.slice av (R.rangeN from_ to_).length cv))).alloc (izO ea)) (bolO false)
  rw[World.size_alloc,World.size_alloc] at this;exact(Below.heap_alloc _ _ _ (by simp)).trans this
 have k1:W1.heap[w.heap.size+3]?=some (izO 0):=by
  rw[hW1];have:=heap_alloc_new (((w.alloc (pvsO (.slice av (R.rangeN from_ to_).length cv))).alloc (izO ea)).alloc (bolO false)) (izO 0)
  rw[World.size_alloc,World.size_alloc,World.size_alloc] at this;exact this
 have hT1:=h1.step hb1;obtain⟨w2,hw2⟩:∃w2,w2=((W1.alloc (trpO tb)).alloc (Ql from_)).alloc (Ql to_):=⟨_,rfl⟩;obtain⟨hb2,hs2,hl2,hlow2⟩:=range_begin hT1 hw2;have v2:=(hb2.block _ (Za v1)).trans v1;have a2:=(hb2.block _ (Za a1)).trans a1;have r2:=(hb2.block _ (Za r1)).trans r1;have k2:=(hb2.block _ (Za k1)).trans k1;have hpj:∀k,PJ F p f k→k<w.heap.size:=fun k hk=>h1.lp.lt hk;have htl:=Za h1.head;have hnl:=h1.lp.nib_lt;have HRG:=Hd (trange_any W1 (trp tb) (.inr ⟨tb,rfl⟩) from_ to_);rw[←hw2] at HRG;have HBB:Hid (Below w.heap.size w w2):=Hd (hb1.trans (hb2.mono (by omega)));have HV2:=Hd (hv.below HBB.out);have HV0:=Hd hv;have HL2:=Hd hl2;have HLOW:=Hd hlow2;have HVV:=Hd v2;have HAA:=Hd a2;have HRR:=Hd r2;have HKK:=Hd k2;have HW1:=Hd hW1;have HS:=Hd (And.intro hs1 hs2);have HPJ:=Hd hpj;have HTRE:=Hd h2;have HRN:=Hd hrg;have HB2:=Hd hb2;have HTN:=Hd (And.intro htl hnl);have HRL:=Hd hrl;have HVT:=Hd hvT;obtain⟨XS,hXS⟩:∃XS,XS=R.rangeN from_ to_:=⟨_,rfl⟩;rw[←hXS] at HVV HW1 HV0 HV2 HVT HRL HRN hc1 ⊢;have HXS:=Hd hXS;clear h1 h2 hm hrg hW1 hb1 hs1 v1 a1 r1 k1 hT1 hw2 hb2 hs2 hl2 hlow2 v2 a2 r2 k2 hpj htl hnl hv hvT hrl hXS;refine callsIn_wide (n:=3).1 ?_;refine callsIn_of_wp_marks Tryz.func12 rfl trivial ?_ rfl
 simp only[Tryz.ntmps12,List.size_toArray,List.length_cons,List.length_nil,Nat.reduceAdd,Nat.reduceSub,Array.replicate_succ,Array.replicate_zero,List.push_toArray,List.append_toArray,List.nil_append,List.cons_append];gi_wp2_with fail;rw[←HW1.out];refine⟨trivial,?_⟩;refine(callsIn_wide.2 HRG.out).mono ?_;rintro e w5 ⟨rfl,e5⟩;obtain rfl:w2=w5:=e5.symm;gi_wp2_with fail;rename_i K hK0;have HKO:=Hd hK0
 clear hK0
 have HFIN:Hid (∀(D:Nat) (W:World) (a1 a2:Value) (k:Nat),w2.heap.size≤D→k≤XS.length→Zcj n J seq B F p f R tb W1.heap.size (W1.heap.size+1) (W1.heap.size+2) from_ to_ W→W.heap[w.heap.size+3]?=some (izO (k:Int))→((0:Int)<ea∧(k:Int)=min ea (XS.length:Int)∨ea≤0∧k=XS.length)→Zb (fun k=>PJ F p f k∨k=w.heap.size+3) w2 W→W.heap[D]?=some (.deferred (some []))→K { tmps:=#[trp tb,.string ⟨from_.toArray⟩,.string ⟨to_.toArray⟩,.slice av XS.length cv,.int .i64 ea,undef,undef,undef,Xc w.heap.size,Xc (w.heap.size+1),Xc (w.heap.size+1+1),Xc (w.heap.size+1+1+1),undef,undef,trp tb,.string ⟨from_.toArray⟩,.string ⟨to_.toArray⟩,rngF W1.heap.size (W1.heap.size+1) (W1.heap.size+2),a1,a2,undef,undef,undef,undef,undef,undef,undef,undef,undef,undef,undef,undef,undef,undef,undef,undef,undef,undef,undef,undef,undef,undef,undef,undef,undef,undef,undef,undef,undef,undef,undef,undef,undef,undef,undef,undef,undef,undef,undef],defers:=[{ target:=.collected D,args:=#[] }] } W):=Hd (by
  intro D W a1 a2 k hD hkx i1 i2 hcase i4 hK;have hS:=HS.out
  have hT4:∀k,w.heap.size≤k→k<w2.heap.size→k≠w.heap.size+3→W.heap[k]?=w2.heap[k]?:=fun k h1 h2 h3=>i4.block k h2 fun e=>by
   rcases e with e | e
   ·have:=HPJ.out k e;omega
   ·exact h3 e
  have kv:=(hT4 w.heap.size (by omega) (by omega) (by omega)).trans HVV.out;have ka:=(hT4 (w.heap.size+1) (by omega) (by omega) (by omega)).trans HAA.out;have kr:=(hT4 (w.heap.size+2) (by omega) (by omega) (by omega)).trans HRR.out;have cv:=(cell_of_row _ _ 0 _ _ _ kv).trans (Eq.refl (some _));have ca:=(cell_of_row _ _ 0 _ _ _ ka).trans (Eq.refl (some (Value.int .i64 ea)));have ck:=(cell_of_row _ _ 0 _ _ _ i2).trans (Eq.refl (some (Value.int .i64 (k:Int))));have cr:=(cell_of_row _ _ 0 _ _ _ kr).trans (Eq.refl (some (Value.bool false)));have fr:=Zf kr 0;have ht6:=Zd W (w.heap.size+2) 0 (.bool true);have hK6:=Yg ht6 (by omega) hK;have hr6:(W.setCell ⟨w.heap.size+2,0,none⟩ (.bool true)).heap[w.heap.size+2]?=some (bolO true):=Ze kr _;have ht7:∀o,Zb (fun k=>k=w.heap.size+2∨k=D) W ((W.setCell ⟨w.heap.size+2,0,none⟩ (.bool true)).putObj D o):=fun o=>(ht6.mono fun k _ e=>.inl e).trans (Zak _ D o (.inr rfl));have hne:∀k,k<w.heap.size→¬(k=w.heap.size+2∨k=D):=fun k hk e=>by omega
  have HE:Hid (∀o,Tr n J seq B ((W.setCell ⟨w.heap.size+2,0,none⟩ (.bool true)).putObj D o) F p f R tb∧Zb (PJ F p f) w ((W.setCell ⟨w.heap.size+2,0,none⟩ (.bool true)).putObj D o)):=Hd fun o=>by
   have hTW:Tr n J seq B W F p f R tb:=i1.tr;refine⟨hTW.turned (ht7 o) (fun k hk=>hne k ?_) (hne _ HTN.out.1),(((Zb.of_below HBB.out).then i4 fun i hi e=>?_)).then (ht7 o) fun i hi e=>absurd e (hne i hi)⟩
   ·rcases hk with e | e
    ·exact HPJ.out k e
    ·rw[e];exact HTN.out.2
   ·rcases e with e | e
    ·exact e
    ·omega
  have HK6:=Hd hK6;have HR6:=Hd hr6;have hDr:w.heap.size+2≠D:=by omega
  have hrl:=HRL.out;clear i1 i2 i4 ht6 ht7 hK6 hr6 hK hne hS hT4 kv ka kr;dsimp only;refine HKO.out _ _ ?_;rcases hcase with ⟨he,hk⟩ | ⟨he,hk⟩
  ·have hd:decide ((0:Int)<ea)=true:=decide_eq_true he
   have hq:((k:Int)==min ea (XS.length:Int))=true:=by rw[←hk];exact beq_self_eq_true _
   have HKM:=Hd hk;clear hk he;gi_wp2_with fail;refine⟨by simp,.inl ⟨_,_,rfl,run_takeDeferred HK6.out,?_⟩⟩;exact⟨_,Qd rfl rfl (Zbs ((World.putObj_heap_other hDr).trans HR6.out)),rfl,HE.out _⟩
  ·have hd:decide ((0:Int)<ea)=false:=decide_eq_false (by omega)
   subst hk;have hq:((XS.length:Int)==(XS.length:Int))=true:=beq_self_eq_true _
   clear he;gi_wp2_with fail;refine⟨by simp,.inl ⟨_,_,rfl,run_takeDeferred HK6.out,?_⟩⟩
   exact⟨_,Qd rfl rfl (Zbs ((World.putObj_heap_other hDr).trans HR6.out)),rfl,HE.out _⟩)
 refine rangeT (F:=Fence.wide) rfl (by omega) (gf:=49) (lb:=#[Xc W1.heap.size,Xc (W1.heap.size+1),Xc (W1.heap.size+2)]) rfl trivial (enters_of Tryz.func49 (by kernel_rfl) rfl)
  (range_seq (n:=n) (J:=J) (seq:=seq) (B:=B) (F:=F) (p:=p) (f:=f) (R:=R) (tb:=tb) (bt:=W1.heap.size) (bf:=W1.heap.size+1) (bq:=W1.heap.size+2) (from_:=from_) (to_:=to_) 2 (by omega)) (fun _=>rfl)
  (fun pre W=>Zcj n J seq B F p f R tb W1.heap.size (W1.heap.size+1) (W1.heap.size+2) from_ to_ W∧W.heap[w.heap.size+3]?=some (izO (pre.length:Int))∧(∀j:Nat,1≤j→j≤pre.length→ea≠(j:Int))∧Zb (fun k=>PJ F p f k∨k=w.heap.size+3) w2 W)
  (fun c pre W=>c=.exit 0∧Zcj n J seq B F p f R tb W1.heap.size (W1.heap.size+1) (W1.heap.size+2) from_ to_ W∧W.heap[w.heap.size+3]?=some (izO (pre.length:Int))∧ea=(pre.length:Int)∧1≤pre.length∧Zb (fun k=>PJ F p f k∨k=w.heap.size+3) w2 W) ?hG (fun s A h=>h.1) ?hLp ?hI ?hU ?hIx ?h0
  (fun x a' A=>a'={ tmps:=#[trp tb,.string ⟨from_.toArray⟩,.string ⟨to_.toArray⟩,.slice av XS.length cv,.int .i64 ea,undef,undef,undef,Xc w.heap.size,Xc (w.heap.size+1),Xc (w.heap.size+1+1),Xc (w.heap.size+1+1+1),.string ⟨x.1.toArray⟩,.string ⟨x.2.toArray⟩,trp tb,.string ⟨from_.toArray⟩,.string ⟨to_.toArray⟩,rngF W1.heap.size (W1.heap.size+1) (W1.heap.size+2),.string ⟨x.1.toArray⟩,.string ⟨x.2.toArray⟩,undef,undef,undef,undef,undef,undef,undef,undef,undef,undef,undef,undef,undef,undef,undef,undef,undef,undef,undef,undef,undef,undef,undef,undef,undef,undef,undef,undef,undef,undef,undef,undef,undef,undef,undef,undef,undef,undef,undef],defers:=[] }) (fun _ _ _ _ h=>h) ?assign ?body ?done ?stop
 case hG =>
  intro W hb;exact⟨HL2.out.far HLOW.out (Zb.of_below (T:=fun k=>w2.heap.size≤k) hb) fun k hk e=>by omega,HLOW.out.mono hb.size⟩
 case hLp=>exact fun A A' h ht=>h.far HLOW.out ht fun k hk e=>by omega
 case hI =>
  rintro s A A' ⟨i1,i2,i3,i4⟩ ht hl;have hS:=HS.out
  refine⟨hl,Yg ht (fun e=>?_) i2,i3,i4.then ht fun i hi e=>?_⟩
  ·rcases e with e | e
   ·have:=HPJ.out _ e;omega
   ·omega
  ·rcases e with e | e
   ·exact .inl e
   ·omega
 case hU=>exact fun k hk=>by have:=HPJ.out k hk;have:=HS.out;omega
 case hIx =>
  rintro c s A A' ⟨i0,i1,i2,i3,i5,i4⟩ ht;have hS:=HS.out
  exact⟨i0,i1.far HLOW.out ht fun k hk e=>by omega,Yg ht (fun e=>by omega) i2,i3,i5,i4.then ht fun i hi e=>by omega⟩
 case h0=>exact⟨HL2.out,HKK.out,fun j h1 h2=>by simp at h2;omega,Zb.refl _ _⟩
 case assign =>
  rintro L pre x W K1 hi hpx hsz hK1;have HI:=Hd hi
  clear hi hpx hsz;gi_wp2_with fail;exact hK1 _ _ (Zb.refl _ _) HI.out rfl
 case done =>
  rintro D W hD hsz ⟨i1,i2,i3,i4⟩ hK;rw[←HXS.out] at i2 i3;refine HFIN.out D W _ _ _ hD (Nat.le_refl _) i1 i2 ?_ i4 hK;rcases Int.lt_or_le 0 ea with h | h
  ·refine .inl ⟨h,?_⟩
   have:=i3 ea.toNat;have hlt:(XS.length:Int)<ea:=by apply Classical.byContradiction;intro hn;exact i3 ea.toNat (by omega) (by omega) (by omega)
   omega
  ·exact .inr ⟨h,rfl⟩
 case stop =>
  rintro D c pre W hD hsz hpre ⟨rfl,i1,i2,i3,i5,i4⟩ hK;have hpl:pre.length≤XS.length:=by rw[HXS.out];exact hpre.length_le
  have HF:=Hd (fun a1 a2=>HFIN.out D W a1 a2 _ hD hpl i1 i2 (.inl ⟨by omega,by omega⟩) i4 hK);clear i1 i2 i3 i4 i5 hK hpre;gi_wp2_with fail;exact HF.out _ _
 case body =>
  rintro L pre x a' W hl ⟨r,hr⟩ ⟨i1,i2,i3,i4⟩ rfl hpx hsz;have hS:=HS.out
  rw[←HXS.out] at hpx
  have hT4:∀k,w.heap.size≤k→k<w2.heap.size→k≠w.heap.size+3→W.heap[k]?=w2.heap[k]?:=fun k h1 h2 h3=>i4.block k h2 fun e=>by
   rcases e with e | e
   ·have:=HPJ.out k e;omega
   ·exact h3 e
  have kv:=(hT4 w.heap.size (by omega) (by omega) (by omega)).trans HVV.out;have ka:=(hT4 (w.heap.size+1) (by omega) (by omega) (by omega)).trans HAA.out;have hlt:pre.length<XS.length:=by have:=hpx.length_le;rw[List.length_append,List.length_singleton] at this;omega
  have hvW:Qj W (.slice av XS.length cv) XS:=HV2.out.turned i4 fun k hk e=>by
   rcases e with e | e
   ·exact HVT.out k hk e
   ·obtain⟨b0,o0,rfl,c00,_⟩:=HV0.out.at pre.length hlt;have hb0:=World.block_lt_of_cell? w _ c00;simp only[Value.ownBlock,Option.map_some,Option.some.injEq] at hk;simp only at hb0;omega
  have hget:XS[pre.length]=x:=by obtain⟨t,ht⟩:=hpx;simp[←ht]
  obtain⟨b,o,rfl,c0,c1⟩:=hvW.at pre.length hlt;rw[hget] at c0 c1;have cv:=(cell_of_row _ _ 0 _ _ _ kv).trans (Eq.refl (some _))
  have ca:=(cell_of_row _ _ 0 _ _ _ ka).trans (Eq.refl (some (Value.int .i64 ea)));have ck:=(cell_of_row _ _ 0 _ _ _ i2).trans (Eq.refl (some (Value.int .i64 (pre.length:Int))));have fk:=Zf i2 0;have hd:decide ((XS.length:Int)≤(pre.length:Int))=false:=decide_eq_false (by omega);have hd2:decide (XS.length≤pre.length)=false:=decide_eq_false (by omega);have hi0:(0:Int)≤(pre.length:Int):=by omega
  have hi1:(pre.length:Int)<(XS.length:Int):=by omega
  have hrl:=HRL.out;have hwr:IntKind.i64.wrap ((pre.length:Int)+1)=(pre.length:Int)+1:=IntWalk.i64_in _ (by omega);have ht9:=Zd W (w.heap.size+3) 0 (.int .i64 ((pre.length:Int)+1));have hn9:(W.setCell ⟨w.heap.size+3,0,none⟩ (.int .i64 ((pre.length:Int)+1))).heap[w.heap.size+3]?=some (izO ((pre++[x]).length:Int)):=by rw[List.length_append];exact Ze i2 _
  have ck9:=(cell_of_row _ _ 0 _ _ _ hn9).trans (Eq.refl (some (Value.int .i64 ((pre++[x]).length:Int))));rw[List.length_append,List.length_singleton] at ck9;have ka9:=Yg ht9 (by omega) ka;have ca9:=(cell_of_row _ _ 0 _ _ _ ka9).trans (Eq.refl (some (Value.int .i64 ea)))
  have hLR:Zcj n J seq B F p f R tb W1.heap.size (W1.heap.size+1) (W1.heap.size+2) from_ to_ (W.setCell ⟨w.heap.size+3,0,none⟩ (.int .i64 ((pre.length:Int)+1))):=⟨i1.tr.turned ht9 (fun k hk e=>by
   rcases hk with hk | hk
   ·have:=HPJ.out k hk;omega
   ·have:=HTN.out.2;omega) (fun e=>by have:=HTN.out.1;omega),Yg ht9 (by omega) i1.hbt,Yg ht9 (by omega) i1.hbf,Yg ht9 (by omega) i1.hbq⟩
  have HALL:=Hd (And.intro (ht9.mono (T':=fun k=>k<w2.heap.size) fun k _ e=>by omega) (And.intro hLR (And.intro hn9 (And.intro i3 (i4.then ht9 fun i hi e=>.inr e)))));clear i1 i2 i3 i4 hr hl hpx hsz ht9 hn9 hLR ka ka9 kv hvW hget hS hT4 hrl;by_cases he:(pre.length:Int)+1=ea
  ·have HE:=Hd he
   have hq:(((pre.length:Int)+1)==ea)=true:=by rw[he];exact beq_self_eq_true _
   clear he;gi_wp2_with fail;exact⟨HALL.out.1,rfl,HALL.out.2.1,HALL.out.2.2.1,by have:=HE.out;simp;omega,by simp,HALL.out.2.2.2.2⟩
  ·have HE:=Hd he
   have hq:(((pre.length:Int)+1)==ea)=false:=beq_false_of_ne he;clear he;gi_wp2_with fail;refine⟨HALL.out.1,HALL.out.2.1,HALL.out.2.2.1,fun j h1 h2=>?_,HALL.out.2.2.2.2⟩;rw[List.length_append,List.length_singleton] at h2;rcases Nat.lt_or_ge pre.length j with h3 | h3
   ·obtain rfl:j=pre.length+1:=by omega
    have:=HE.out;intro e;apply this;omega
   ·exact HALL.out.2.2.2.1 j h1 h3
end
end
end Go.Proofs.YtofibccplbnaiaaGreatDoor
