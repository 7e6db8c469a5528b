/- Contracts of the functions that the statements of this seat reach, part 23: each says what the call answers and what it leaves of the memory. -/
import Derived.Test.YtofibccplbnaiaaGreatDoorJ22
import Derived.Test.YtofibccplbnaiaaGreatDoorJ5
set_option linter.unusedVariables false
set_option linter.unusedSimpArgs false
set_option maxRecDepth 100000
namespace Go.Proofs.YtofibccplbnaiaaGreatDoor
open Go.RowKit Go.Shelf Go.Lib
attribute [local go_sem] Oper.semAt_some
section
variable {w w' : World} {m : Nat} {F : Ft} {p : Nat} {f : Pf} {tb : Nat} {l : List KV}
theorem Sub.ne {R : Rp} (hg : R.good) {h : Nat} {page : Int} {l : List KV} {P : List Int} (hs : Sub R h page l P) : l ≠ []:=by
 cases h with
 | zero =>
  obtain ⟨n,h1,h2,h3,h4⟩:=hs;rw [h3];intro e;exact (Sub.srt hg h1).some (List.map_eq_nil_iff.1 e)
 | succ h =>
  obtain ⟨n,T,h1,h2,h3,h4,h5,h6,h7⟩:=hs;rw [h4]
  cases T with
  | nil=>exact absurd h3 (Sub.srt hg h1).some
  | cons t r =>
   rw [List.flatMap_cons];intro e;exact h6.some t (List.mem_cons_self ..) (List.append_eq_nil_iff.1 e).1
theorem left_tw (h : TW w m F p f tb l) : Calls Tryz.prog 15 #[qptr f.q] w fun e w'=>∃ n : Nat,e = .returned (.int .i64 (n : Int))∧w' = w∧n ≤ m∧(l ≠ [] → n < m)∧(l = [] → n = m):=by
 obtain ⟨⟨n,J,seq,B,R,h1,h2,h3⟩,h4,h5⟩:=h;refine (lp_left h1.lp).mono ?_;rintro e w' ⟨rfl,rfl⟩;refine ⟨_,rfl,rfl,by rw [← h3];exact List.countP_le_length,fun hl=>?_,fun hl=>?_⟩
 ·rcases h2 with ⟨_,e,_⟩ | ⟨h,P,hT⟩
  ·exact absurd e hl
  ·have h6:=hT.count;have h7:=List.length_pos_iff.2 (List.ne_nil_of_mem (Sub.page h hT.sub));omega
 ·rcases h2 with ⟨_,_,e⟩ | ⟨h,P,hT⟩
  ·have:=taken_count (R:=R) (P:=[]) (by simp) fun p=>by rw [e p];simp
   simp only [List.length_nil] at this;omega
  ·exact absurd hl (Sub.ne h1.lp.good hT.sub)
theorem pages_tw (h : TW w m F p f tb l) : Calls Tryz.prog 16 #[qptr f.q] w fun e w'=>e = .returned (.int .i64 (m : Int))∧w' = w:=by obtain ⟨⟨n,J,seq,B,R,h1,h2,h3⟩,h4,h5⟩:=h;rw [← h3];exact lp_pages h1.lp
theorem TW.live (h : TW w m F p f tb l) : ∃ n J seq B R,Tr n J seq B w F p f R tb∧(∀ from_ to_,R.rangeN from_ to_ = rngL from_ to_ l)∧Tre R l∧R.pages.length = m∧4 ≤ m∧m ≤ 255:=by obtain ⟨⟨n,J,seq,B,R,h1,h2,h3⟩,h4,h5⟩:=h;exact ⟨n,J,seq,B,R,h1,fun a b=>h2.range h1.lp.good (TreH.low39 h1.lp.good (by omega)) a b,h2,h3,h4,h5⟩
end
set_option maxHeartbeats 16000000 in
theorem shown10_any (w : World) (hn : Nib w) : Calls Tryz.prog 7 #[] w fun e w'=>e = .returned (.bool true)∧Below w.heap.size w w':=by
 obtain ⟨W1,hW1⟩ : ∃ x,x = w.alloc (bolO false):=⟨_,rfl⟩;have hb1 : Below w.heap.size w W1:=by rw [hW1];exact nodeAlloc w _
 have hs1 : W1.heap.size = w.heap.size + 1:=by rw [hW1];simp
 have r1 : W1.heap[w.heap.size]? = some (bolO false):=by rw [hW1];exact heap_alloc_new w _
 have HBG:=Hd (begun10_any W1 (hn.below hb1) 200 (by omega) (by omega));have HW1:=Hd hW1;have HB1:=Hd hb1;have HS1:=Hd hs1;have HR1:=Hd r1;clear hn hW1 hb1 hs1 r1;refine callsIn_wide (n:=3).1 ?_;refine callsIn_of_wp_marks Tryz.func7 rfl trivial ?_ rfl;simp only [Tryz.ntmps7,List.size_toArray,List.length_cons,List.length_nil,Nat.reduceAdd,Nat.reduceSub,Array.replicate_succ,Array.replicate_zero,List.push_toArray,List.append_toArray,List.nil_append,List.cons_append];gi_wp2_with fail;rw [← HW1.out];refine ⟨trivial,?_⟩;refine (callsIn_wide.2 HBG.out).mono ?_;rintro e w1 ⟨F,p,f,tb,J,seq,B,rfl,hT,hb,ho,ht,_⟩;have htb:=tb_begun (by omega) (by omega) hT hb ho ht;have e12 : (((200 - 2) / 2 - 2) / 8 : Nat) = 12:=by decide
 rw [e12] at htb;clear hT hb ho ht e12;generalize hqq : f.q = qq at *;have HQ:=Hd hqq
 clear hqq;have H1 : Hid (Calls Tryz.prog 11 #[trp tb,.string ⟨#[97]⟩,.string ⟨#[120]⟩] w1 fun e w'=>e = .returned (.int .i64 0)∧TWto w1 12 F p f tb [([97],[120])] w'):=Hd (put_tw htb.tw (roomy_small (by omega) (by simp [wgtB])) (key:=[97]) (val:=[120]) (by simp) (by simp))
 have HTB1:=Hd htb;clear htb;gi_wp2_with fail;refine ⟨trivial,?_⟩;refine (callsIn_wide.2 H1.out).mono ?_;rintro e w2 ⟨rfl,hto⟩;obtain ⟨f2,htb2,hq2,_⟩:=HTB1.out.to hto;have H2 : Hid (Calls Tryz.prog 11 #[trp tb,.string ⟨#[98]⟩,.string ⟨#[121]⟩] w2 fun e w'=>e = .returned (.int .i64 0)∧TWto w2 12 F p f2 tb [([97],[120]),([98],[121])] w'):=Hd (put_tw htb2.tw (roomy_small (by omega) (by simp [wgtB])) (key:=[98]) (val:=[121]) (by simp) (by simp));have HTB2:=Hd htb2;have HQ2:=Hd (hq2.trans HQ.out);clear hto htb2 hq2;gi_wp2_with fail;refine ⟨trivial,?_⟩;refine (callsIn_wide.2 H2.out).mono ?_;rintro e w3 ⟨rfl,hto⟩;obtain ⟨f3,htb3,hq3,_⟩:=HTB2.out.to hto;have H3 : Hid (Calls Tryz.prog 11 #[trp tb,.string ⟨#[97]⟩,.string ⟨#[122]⟩] w3 fun e w'=>e = .returned (.int .i64 0)∧TWto w3 12 F p f3 tb [([97],[122]),([98],[121])] w'):=Hd (put_tw htb3.tw (roomy_small (by omega) (by simp [wgtB])) (key:=[97]) (val:=[122]) (by simp) (by simp));have HTB3:=Hd htb3;have HQ3:=Hd (hq3.trans HQ2.out);clear hto htb3 hq3;gi_wp2_with fail;refine ⟨trivial,?_⟩;refine (callsIn_wide.2 H3.out).mono ?_;rintro e w4 ⟨rfl,hto⟩;obtain ⟨f4,htb4,hq4,_⟩:=HTB3.out.to hto
 have H4 : Hid (Calls Tryz.prog 21 #[trp tb,.string ⟨#[97]⟩] w4 fun e w'=>e = .returned (.tuple #[.string ⟨#[122]⟩,.bool true,.int .i64 0])∧TW w' 12 F p f4 tb [([97],[122]),([98],[121])]∧Turned (PJ F p f4) w4 w'):=Hd (get_tw htb4.tw (key:=[97]) (by simp));have HTB4:=Hd htb4;have HQ4:=Hd (hq4.trans HQ3.out);clear hto htb4 hq4;gi_wp2_with fail;refine ⟨trivial,?_⟩;refine (callsIn_wide.2 H4.out).mono ?_;rintro e w5 ⟨rfl,htw,htt⟩;have htb5:=HTB4.out.read htw htt;clear htw htt;obtain ⟨W6,hW6⟩ : ∃ x,x = w5.alloc (izO 0):=⟨_,rfl⟩;have hb6 : Below w5.heap.size w5 W6:=by rw [hW6];exact nodeAlloc w5 _
 have hs6 : W6.heap.size = w5.heap.size + 1:=by rw [hW6];simp
 have r6 : W6.heap[w5.heap.size]? = some (izO 0):=by rw [hW6];exact heap_alloc_new w5 _
 have htb6:=htb5.step hb6;obtain ⟨n,J,seq,B,R,hT,hrg,htre,hRm,_,_⟩:=htb6.tw.live;obtain ⟨w7,hw7⟩ : ∃ w7,w7 = ((W6.alloc (trpO tb)).alloc (keyO [97,0])).alloc (keyO []):=⟨_,rfl⟩;obtain ⟨hb7,hs7,hl7,hlow7⟩:=range_begin hT hw7;have hrg1 : R.rangeN [97,0] [] = [([98],[121])]:=by rw [hrg];rfl
 have HRG : Hid (Calls Tryz.prog 19 #[trp tb,.string ⟨#[97,0]⟩,.string ⟨#[]⟩] W6 fun e w'=>e = .returned (rngF W6.heap.size (W6.heap.size + 1) (W6.heap.size + 2))∧w' = w7):=Hd (by
  have:=trange_any W6 (trp tb) (.inr ⟨tb,rfl⟩) [97,0] [];rw [← hw7] at this
  exact this)
 have HL7:=Hd hl7;have HLOW:=Hd hlow7;have HR7:=Hd ((hb7.block _ (lt_of_heap r6)).trans r6);have HTB5:=Hd htb5;have HTB6:=Hd htb6;have HW6:=Hd hW6;have HS:=Hd (And.intro hs6 hs7);have HB67:=Hd (And.intro hb6 hb7);have HRN:=Hd hrg1;have HPJ : Hid (∀ k,PJ F p f4 k → k < w5.heap.size):=Hd fun k hk=>htb5.tw.lt hk;have HTL:=Hd htb5.tw.tlt;have HTRE:=Hd htre;have HRM:=Hd hRm;clear htb5 hW6 hb6 hs6 r6 htb6 hT hrg htre hRm hw7 hb7 hs7 hl7 hlow7 hrg1;gi_wp2_with fail;rw [← HW6.out];refine ⟨trivial,?_⟩;refine (callsIn_wide.2 HRG.out).mono ?_;rintro e w8 ⟨rfl,e8⟩;obtain rfl : w7 = w8:=e8.symm;gi_wp2_with fail
 refine rangeT (F:=Fence.wide) rfl (by omega) (gf:=49) (lb:=#[boxp W6.heap.size,boxp (W6.heap.size + 1),boxp (W6.heap.size + 2)]) rfl trivial (enters_of Tryz.func49 (by kernel_rfl) rfl)
  (range_seq (n:=n) (J:=J) (seq:=seq) (B:=B) (F:=F) (p:=p) (f:=f4) (R:=R) (tb:=tb) (bt:=W6.heap.size) (bf:=W6.heap.size + 1) (bq:=W6.heap.size + 2) (from_:=[97,0]) (to_:=[]) 2 (by omega)) (fun _=>rfl)
  (fun pre W=>LiveR n J seq B F p f4 R tb W6.heap.size (W6.heap.size + 1) (W6.heap.size + 2) [97,0] [] W∧W.heap[w5.heap.size]? = some (izO (pre.length : Int))∧Turned (fun k=>PJ F p f4 k ∨ k = w5.heap.size) w7 W)
  (fun _ _ _=>False) ?hG (fun s A h=>h.1) ?hLp ?hI ?hU (fun _ _ _ _ h=>h.elim) ?h0 (fun x a' A=>a' = { tmps:=#[boxp w.heap.size,qptr qq,trp tb,.int .i64 0,.int .i64 0,.int .i64 0,.string ⟨#[122]⟩,.bool true,.int .i64 0,boxp w5.heap.size,.string ⟨x.1.toArray⟩,.string ⟨x.2.toArray⟩,undef,undef,undef,.tuple #[qptr qq,trp tb],.tuple #[qptr qq,trp tb],qptr qq,trp tb,trp tb,.bool false,trp tb,.int .i64 0,trp tb,.int .i64 0,trp tb,.int .i64 0,.tuple #[.string ⟨#[122]⟩,.bool true,.int .i64 0],trp tb,.tuple #[.string ⟨#[122]⟩,.bool true,.int .i64 0],.string ⟨#[122]⟩,.bool true,.int .i64 0,trp tb,rngF W6.heap.size (W6.heap.size + 1) (W6.heap.size + 2),.string ⟨x.1.toArray⟩,.string ⟨x.2.toArray⟩,undef,undef,undef,undef,undef,undef,undef,undef,undef,undef,undef,undef,undef,undef,undef,undef,undef,undef,undef,undef,undef,undef,undef,undef,undef,undef,undef,undef,undef,undef,undef,undef,undef,undef,undef,undef,undef,undef,undef,undef,undef,undef,undef,undef,undef,undef,undef,undef,undef,undef,undef,undef,undef,undef,undef,undef,undef,undef],defers:=[] }) (fun _ _ _ _ h=>h) ?assign ?body ?done (fun _ _ _ _ _ _ _ h=>h.elim)
 case assign =>
  rintro L pre x W K hi hpx hsz hK;gi_wp2_with fail;exact hK _ _ (Turned.refl _ _) hi rfl
 case hG =>
  intro W hb;exact ⟨HL7.out.far HLOW.out (Turned.of_below (T:=fun k=>w7.heap.size ≤ k) hb) fun k hk e=>by omega,HLOW.out.mono hb.size⟩
 case hLp=>exact fun A A' h ht=>h.far HLOW.out ht fun k hk e=>by omega
 case hI =>
  rintro s A A' ⟨i1,i2,i3⟩ ht hl;have hS:=HS.out
  refine ⟨hl,keepB ht (fun e=>?_) i2,i3.then ht fun i hi e=>?_⟩
  ·rcases e with e | e
   ·have:=HPJ.out _ e;omega
   ·omega
  ·rcases e with e | e
   ·exact .inl e
   ·omega
 case hU=>exact fun k hk=>by have:=HPJ.out k hk;have:=HS.out;omega
 case h0=>exact ⟨HL7.out,HR7.out,Turned.refl _ _⟩
 case body =>
  rintro L pre x a' W hl ⟨r,hr⟩ ⟨i1,i2,i3⟩ rfl hpx hsz;rw [HRN.out] at hpx
  obtain ⟨rfl,rfl⟩ : pre = []∧x = ([98],[121]):=by
   obtain ⟨t,ht⟩:=hpx
   cases pre with
   | nil=>simp at ht;exact ⟨rfl,ht.1⟩
   | cons y r=>simp at ht
  have cn:=(cell_of_row _ _ 0 _ _ _ i2).trans rfl;have fn:=frozen_p i2 0;have hS:=HS.out;have ht9:=turned_one W w5.heap.size 0 (.int .i64 1)
  have hE : Turned (fun k=>k < w7.heap.size) W (W.setCell ⟨w5.heap.size,0,none⟩ (.int .i64 1))∧LiveR n J seq B F p f4 R tb W6.heap.size (W6.heap.size + 1) (W6.heap.size + 2) [97,0] [] (W.setCell ⟨w5.heap.size,0,none⟩ (.int .i64 1))∧(W.setCell ⟨w5.heap.size,0,none⟩ (.int .i64 1)).heap[w5.heap.size]? = some (izO ((([] ++ [(([98],[121]) : KV)]) : List KV).length : Int))∧Turned (fun k=>PJ F p f4 k ∨ k = w5.heap.size) w7 (W.setCell ⟨w5.heap.size,0,none⟩ (.int .i64 1)):=by
   refine ⟨ht9.mono fun j _ e=>by omega,⟨i1.tr.turned ht9 (fun j hj e=>?_) (fun e=>by have:=HTL.out.1;omega),keepB ht9 (by omega) i1.hbt,keepB ht9 (by omega) i1.hbf,keepB ht9 (by omega) i1.hbq⟩,head_setCell i2 _,i3.trans (ht9.mono fun j _ e=>.inr e)⟩;rcases hj with hj | hj
   ·have:=HPJ.out j hj;omega
   ·have:=HTL.out.2.2;omega
  have HE:=Hd hE;have hz0 : (([] : List KV).length : Int) = 0:=rfl;clear i1 i2 i3 hpx hE ht9 hS;gi_wp2_with fail;exact HE.out
 case done =>
  rintro D W hD hsz ⟨i1,i2,i3⟩ hK;rw [HRN.out] at i2;have hS:=HS.out
  have hTW : TW W 12 F p f4 tb [([97],[122]),([98],[121])]:=i1.tw HTRE.out HRM.out (by omega) (by omega)
  have htD : Turned (fun k=>PJ F p f4 k) w5 W:=(Turned.of_below (HB67.out.1.trans (HB67.out.2.mono (by omega)))).then i3 fun i hi e=>by
   rcases e with e | e
   ·exact e
   ·omega
  have htb8:=HTB5.out.read hTW htD;have hdel : Calls Tryz.prog 13 #[trp tb,.string ⟨#[97]⟩] W fun e w'=>e = .returned (.tuple #[.bool true,.int .i64 0])∧TWto W 12 F p f4 tb [([98],[121])] w':=del_tw hTW (roomy_small (by omega) (by simp [wgtB])) (key:=[97]) (by simp);have HDEL:=Hd hdel;have HTB8:=Hd htb8;have HN8:=Hd i2;have HK:=Hd hK;clear i1 i2 i3 hK hTW htD htb8 hdel hS;gi_wp2_with fail;refine ⟨trivial,?_⟩;refine (callsIn_wide.2 HDEL.out).mono ?_;rintro e w9 ⟨rfl,hto⟩;obtain ⟨f5,htb9,hq5,hpj5,htt⟩:=HTB8.out.to hto;have HSND:=Hd (sound_tw htb9.tw);have HTB9:=Hd htb9;have HTT9:=Hd htt;have HQ5:=Hd (hq5.trans HQ4.out);have HPJ5:=Hd hpj5;clear hto htb9 hq5 htt hpj5;gi_wp2_with fail;refine ⟨trivial,?_⟩;refine (callsIn_wide.2 HSND.out).mono ?_;rintro e wa ⟨rfl,htw,hta⟩;have htba:=HTB9.out.read htw hta;have hS:=HS.out;have hno4 : ∀ k,w5.heap.size ≤ k → ¬ PJ F p f4 k:=fun k hk e=>by have:=HPJ.out k e;omega
  have hno5 : ∀ k,w5.heap.size ≤ k → k < W.heap.size → ¬ PJ F p f5 k:=fun k hk hk2 e=>by
   rcases HPJ5.out k e with e | e
   ·exact hno4 k hk e
   ·omega
  have na:=keepB hta (hno5 _ (Nat.le_refl _) (by omega)) (keepB HTT9.out (hno4 _ (Nat.le_refl _)) HN8.out);have hDl : D < W.heap.size:=lt_of_heap HK.out;have ka:=keepB hta (hno5 _ (by omega) hDl) (keepB HTT9.out (hno4 _ (by omega)) HK.out);have ra:=(htba.below.block _ (by have:=HS1.out;omega)).trans HR1.out;have hLEFT:=left_tw htba.tw;have hPGS:=pages_tw htba.tw;rw [HQ5.out] at hLEFT hPGS;have HLEFT:=Hd hLEFT;have HPGS:=Hd hPGS;have HTBA:=Hd htba;have cna:=(cell_of_row _ _ 0 _ _ _ na).trans rfl;have cra:=(cell_of_row _ _ 0 _ _ _ ra).trans rfl;have fra:=frozen_p ra 0;have ht9:=turned_one wa w.heap.size 0 (.bool true);have hwD : w.heap.size ≠ D:=by have:=HTB5.out.base;have:=HS1.out;omega
  have HK6 : Hid ((wa.setCell ⟨w.heap.size,0,none⟩ (.bool true)).heap[D]? = some (.deferred (some []))):=Hd (keepB ht9 (fun e=>hwD e.symm) ka);have HR6 : Hid ((wa.setCell ⟨w.heap.size,0,none⟩ (.bool true)).heap[w.heap.size]? = some (bolO true)):=Hd (head_setCell ra _);have HE : Hid (∀ o,Below w.heap.size w ((wa.setCell ⟨w.heap.size,0,none⟩ (.bool true)).putObj D o)):=Hd fun o=>by have h1 : Below w.heap.size w wa:=HB1.out.trans (htba.below.mono HB1.out.size);have h2 : Turned (fun k=>k = w.heap.size ∨ k = D) wa ((wa.setCell ⟨w.heap.size,0,none⟩ (.bool true)).putObj D o):=(ht9.mono fun k _ e=>.inl e).trans (turned_put _ D o (.inr rfl));refine h1.trans (h2.below h1.size fun k e=>?_);have:=HTB5.out.base;have:=HS1.out;omega
  clear htw hta htba hS hno4 hno5 na hDl ka ra hLEFT hPGS ht9;gi_wp2_with fail;refine ⟨trivial,?_⟩;refine (callsIn_wide.2 HLEFT.out).mono ?_;rintro e wb ⟨left,rfl,eb,_,hlt,_⟩;obtain rfl : wa = wb:=eb.symm;have hl12 : left < 12:=hlt (by simp)
  clear hlt;gi_wp2_with fail;refine ⟨trivial,?_⟩;refine (callsIn_wide.2 HPGS.out).mono ?_;rintro e wb ⟨rfl,eb⟩;obtain rfl : wa = wb:=eb.symm;have hd : decide ((left : Int) < ((12 : Nat) : Int)) = true:=decide_eq_true (by omega)
  have hd2 : decide ((left : Int) < 12) = true:=decide_eq_true (by omega);have hd3 : decide (left < 12) = true:=decide_eq_true hl12;gi_wp2_with fail;refine ⟨by simp,.inl ⟨_,_,rfl,run_takeDeferred HK6.out,?_⟩⟩;exact ⟨_,results_cell1 rfl rfl (load_bool ((World.putObj_heap_other hwD).trans HR6.out)),rfl,HE.out _⟩
end Go.Proofs.YtofibccplbnaiaaGreatDoor

namespace Go.Proofs.YtofibccplbnaiaaGreatDoor
theorem getL_in {l : List KV} {key : List UInt8} (hr : Rise l) : (getL l key).2 = true ↔ ∃ x ∈ l,x.1 = key:=by
 have hd2 : Rise (l.dropWhile fun x=>decide (x.1 < key)):=hr.sublist (List.dropWhile_sublist _);unfold getL
 cases hd : l.dropWhile (fun x=>decide (x.1 < key)) with
 | nil =>
  refine ⟨fun h=>(by cases h),?_⟩;rintro ⟨x,hx,rfl⟩;have h1 : ∀ y ∈ l,y.1 < x.1:=fun y hy=>by have h2:=List.takeWhile_append_dropWhile (p:=fun z : KV=>decide (z.1 < x.1)) (l:=l);rw [hd,List.append_nil] at h2;rw [← h2] at hy;have:=takeWhile_all hy;simpa using this
  exact absurd (h1 x hx) (List.lt_irrefl _)
 | cons y r =>
  rw [hd] at hd2;have hy : ¬ y.1 < key:=by have:=dropWhile_head hd;simpa using this
  have hyl : y ∈ l:=(List.dropWhile_sublist _).mem (by rw [hd];exact List.mem_cons_self ..);dsimp only;by_cases e : y.1 = key
  ·rw [if_pos e];exact ⟨fun _=>⟨y,hyl,e⟩,fun _=>rfl⟩
  ·rw [if_neg e]
   refine ⟨fun h=>(by cases h),?_⟩;rintro ⟨x,hx,rfl⟩;exfalso;have h2:=List.takeWhile_append_dropWhile (p:=fun z : KV=>decide (z.1 < x.1)) (l:=l)
   rw [← h2,hd] at hx;rcases List.mem_append.1 hx with hx | hx
   ·have:=takeWhile_all hx;exact List.lt_irrefl x.1 (by simpa using this)
   ·rcases List.mem_cons.1 hx with rfl | hx
    ·exact e rfl
    ·exact hy ((List.pairwise_cons.1 hd2).1 x hx)
theorem head_mid {l : List KV} {key : List UInt8} (hr : Rise l) : headL (delL l key) key = headL l key∧restL (delL l key) key = restL l key∧getL (delL l key) key = ([],false):=by
 have h1 : ∀ x ∈ headL l key,x.1 < key:=headL_lt;have h2:=(restL_gt (key:=key) hr).1;have e : delL l key = headL l key ++ ([] ++ restL l key):=rfl;rw [e];refine ⟨?_,?_,?_⟩
 ·rw [headL_mid h1 h2];simp [headL]
 ·rw [restL_mid h1 h2];rfl
 ·rw [getL_mid h1 h2];rfl
theorem putL_delL {l : List KV} {key val : List UInt8} (hr : Rise l) : putL (delL l key) key val = putL l key val:=by obtain ⟨a,b,_⟩:=head_mid (key:=key) hr;unfold putL;rw [a,b]
theorem putL_same {l : List KV} {key : List UInt8} (hr : Rise l) (ht : Twin l) (h : (getL l key).2 = true) : putL l key key = l:=by
 unfold getL at h;unfold putL headL restL
 cases hd : l.dropWhile (fun x=>decide (x.1 < key)) with
 | nil=>rw [hd] at h;cases h
 | cons y r =>
  rw [hd] at h;dsimp only at h ⊢;by_cases e : y.1 = key
  ·rw [if_pos e]
   have hyl : y ∈ l:=(List.dropWhile_sublist _).mem (by rw [hd];exact List.mem_cons_self ..);have h2:=ht.eq y hyl;have hy : (key,key) = y:=by obtain ⟨a,b⟩:=y;dsimp only at e h2;rw [← h2,e]
   rw [hy,← hd,List.takeWhile_append_dropWhile]
  ·rw [if_neg e] at h;cases h
theorem putL_in {l : List KV} {key val : List UInt8} (k : List UInt8) (hr : Rise l) (h : k = key ∨ (getL l k).2 = true) : (getL (putL l key val) k).2 = true:=by
 rw [getL_in (putL_rise hr)];by_cases e : k = key
 ·exact ⟨(key,val),List.mem_append_right _ (List.mem_cons_self ..),e.symm⟩
 ·obtain ⟨x,hx,hk⟩:=(getL_in hr).1 (h.resolve_left e)
  refine ⟨x,?_,hk⟩
  have h1 : x ∈ headL l key ∨ x ∈ restL l key:=by
   have h2:=List.takeWhile_append_dropWhile (p:=fun z : KV=>decide (z.1 < key)) (l:=l);rw [← h2] at hx;rcases List.mem_append.1 hx with hx | hx
   ·exact .inl hx
   ·unfold restL
    cases hd : l.dropWhile (fun x=>decide (x.1 < key)) with
    | nil=>rw [hd] at hx;cases hx
    | cons y r =>
     rw [hd] at hx;dsimp only;split
     ·rename_i e2
      rcases List.mem_cons.1 hx with rfl | hx
      ·exact absurd (hk.symm.trans e2) e
      ·exact .inr hx
     ·exact .inr hx
  rcases h1 with h1 | h1
  ·exact List.mem_append_left _ h1
  ·exact List.mem_append_right _ (List.mem_cons_of_mem _ h1)
theorem fillL_rise : ∀ (ks : List (List UInt8)) (l : List KV),Rise l → Rise (fillL ks l)
 | [],l,h=>h
 | k :: r,l,h=>by
  rw [fillL];split
  ·exact fillL_rise r _ (putL_rise h)
  ·exact fillL_rise r _ h
theorem fillL_keeps : ∀ (ks : List (List UInt8)) (l : List KV) (k : List UInt8),Rise l → (getL l k).2 = true → (getL (fillL ks l) k).2 = true
 | [],l,k,_,h=>h
 | x :: r,l,k,hr,h=>by
  rw [fillL];split
  ·exact fillL_keeps r _ k (putL_rise hr) (putL_in k hr (.inr h))
  ·exact fillL_keeps r _ k hr h
theorem fillL_in : ∀ (ks : List (List UInt8)) (l : List KV) (k : List UInt8),Rise l → k ∈ ks → k.length ≤ 80 → (getL (fillL ks l) k).2 = true
 | [],l,k,_,h,_=>by cases h
 | x :: r,l,k,hr,h,hk=>by
  rw [fillL];rcases List.mem_cons.1 h with rfl | h
  ·rw [if_pos hk];exact fillL_keeps r _ k (putL_rise hr) (putL_in k hr (.inl rfl))
  ·split
   ·exact fillL_in r _ k (putL_rise hr) h hk
   ·exact fillL_in r _ k hr h hk
theorem rngL_all (l : List KV) : rngL [] [] l = l:=by
 unfold rngL;rw [List.filter_eq_self];intro x _;have : ¬ x.1 < []:=List.not_lt_nil _
 simp [this]
end Go.Proofs.YtofibccplbnaiaaGreatDoor

namespace Go.Proofs.YtofibccplbnaiaaGreatDoor
open Go.RowKit
set_option maxHeartbeats 1000000 in
theorem pick_any (w : World) (c : Int) (n : Nat) (h1 : -9223372036854775808 ≤ c) (h2 : c ≤ 9223372036854775807) (hn : 0 < n) (hm : n ≤ 4611686018427387904) :
  Calls Tryz.prog 22 #[.int .i64 c,.int .i64 (n : Int)] w fun e w'=>e = .returned (.int .i64 (pickN c n : Int))∧w = w':=by
 by_cases h0 : c < 0
 ·have hd : decide (c < 0) = true:=by simpa using h0
  have e1 : (pickN c n : Int) = (-(c + 1)) % (n : Int):=by rw [pickN,if_pos h0,Int.natCast_emod,Int.toNat_of_nonneg (by omega)]
  rw [e1];have hz : ((n : Int) == 0) = false:=by simp;omega
  go_enter Tryz.func22,Tryz.ntmps22;go_wp2;go_ret;exact ⟨by rw [← Int.neg_tmod,Int.tmod_eq_emod_of_nonneg (by omega)];rfl,rfl⟩
 ·have hd : decide (c < 0) = false:=by simpa using h0
  have e1 : (pickN c n : Int) = c % (n : Int):=by rw [pickN,if_neg h0,Int.natCast_emod,Int.toNat_of_nonneg (by omega)]
  rw [e1];go_enter Tryz.func22,Tryz.ntmps22;go_wp2;go_ret;exact ⟨rfl,rfl⟩
end Go.Proofs.YtofibccplbnaiaaGreatDoor
