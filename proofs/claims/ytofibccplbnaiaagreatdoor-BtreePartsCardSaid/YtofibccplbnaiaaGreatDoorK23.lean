/- Contracts of the functions that the statements of this seat reach, part 23: each says what the call answers and what it leaves of the memory. -/
import Derived.Test.YtofibccplbnaiaaGreatDoorK22
import Derived.Test.YtofibccplbnaiaaGreatDoorK16
set_option linter.unusedVariables false
set_option linter.unusedSimpArgs false
set_option maxRecDepth 100000
namespace Go.Proofs.YtofibccplbnaiaaGreatDoor
section
open Go.RowKit Go.Shelf Go.Lib
attribute [local go_sem] Oper.semAt_some
section
variable {w w' : World} {m : Nat} {F : Ft} {p : Nat} {f : Pf} {tb : Nat} {l : List KV}
theorem Sub.ne {R : Rp} (hg : R.good) {h : Nat} {page : Int} {l : List KV} {P : List Int} (hs : Sub R h page l P) : l ≠ []:=by
 cases h with
 | zero =>
  obtain ⟨n,h1,h2,h3,h4⟩:=hs;rw [h3];intro e;exact (Sub.srt hg h1).some (List.map_eq_nil_iff.1 e)
 | succ h =>
  obtain ⟨n,T,h1,h2,h3,h4,h5,h6,h7⟩:=hs;rw [h4]
  cases T with
  | nil=>exact absurd h3 (Sub.srt hg h1).some
  | cons t r =>
   rw [List.flatMap_cons];intro e;exact h6.some t (List.mem_cons_self ..) (List.append_eq_nil_iff.1 e).1
theorem left_tw (h : TW w m F p f tb l) : Calls Tryz.prog 15 #[qptr f.q] w fun e w'=>∃ n : Nat,e = .returned (.int .i64 (n : Int))∧w' = w∧n ≤ m∧(l ≠ [] → n < m)∧(l = [] → n = m):=by
 obtain ⟨⟨n,J,seq,B,R,h1,h2,h3⟩,h4,h5⟩:=h;refine (lp_left h1.lp).mono ?_;rintro e w' ⟨rfl,rfl⟩;refine ⟨_,rfl,rfl,by rw [← h3];exact List.countP_le_length,fun hl=>?_,fun hl=>?_⟩
 ·rcases h2 with ⟨_,e,_⟩ | ⟨h,P,hT⟩
  ·exact absurd e hl
  ·have h6:=hT.count;have h7:=List.length_pos_iff.2 (List.ne_nil_of_mem (Sub.page h hT.sub));omega
 ·rcases h2 with ⟨_,_,e⟩ | ⟨h,P,hT⟩
  ·have:=taken_count (R:=R) (P:=[]) (by simp) fun p=>by rw [e p];simp
   simp only [List.length_nil] at this;omega
  ·exact absurd hl (Sub.ne h1.lp.good hT.sub)
theorem pages_tw (h : TW w m F p f tb l) : Calls Tryz.prog 16 #[qptr f.q] w fun e w'=>e = .returned (.int .i64 (m : Int))∧w' = w:=by obtain ⟨⟨n,J,seq,B,R,h1,h2,h3⟩,h4,h5⟩:=h;rw [← h3];exact lp_pages h1.lp
theorem TW.live (h : TW w m F p f tb l) : ∃ n J seq B R,Tr n J seq B w F p f R tb∧(∀ from_ to_,R.rangeN from_ to_ = rngL from_ to_ l)∧Tre R l∧R.pages.length = m∧4 ≤ m∧m ≤ 255:=by obtain ⟨⟨n,J,seq,B,R,h1,h2,h3⟩,h4,h5⟩:=h;exact ⟨n,J,seq,B,R,h1,fun a b=>h2.range h1.lp.good (TreH.low39 h1.lp.good (by omega)) a b,h2,h3,h4,h5⟩
end
set_option maxHeartbeats 16000000 in
theorem shown10_any (w : World) (hn : Nib w) : Calls Tryz.prog 7 #[] w fun e w'=>e = .returned (.bool true)∧Below w.heap.size w w':=by
 obtain ⟨W1,hW1⟩ : ∃ x,x = w.alloc (bolO false):=⟨_,rfl⟩;have hb1 : Below w.heap.size w W1:=by rw [hW1];exact nodeAlloc w _
 have hs1 : W1.heap.size = w.heap.size + 1:=by rw [hW1];simp
 have r1 : W1.heap[w.heap.size]? = some (bolO false):=by rw [hW1];exact heap_alloc_new w _
 have HBG:=Hd (begun10_any W1 (hn.below hb1) 200 (by omega) (by omega));have HW1:=Hd hW1;have HB1:=Hd hb1;have HS1:=Hd hs1;have HR1:=Hd r1;clear hn hW1 hb1 hs1 r1;refine callsIn_wide (n:=3).1 ?_;refine callsIn_of_wp_marks Tryz.func7 rfl trivial ?_ rfl;simp only [Tryz.ntmps7,List.size_toArray,List.length_cons,List.length_nil,Nat.reduceAdd,Nat.reduceSub,Array.replicate_succ,Array.replicate_zero,List.push_toArray,List.append_toArray,List.nil_append,List.cons_append];gi_wp2_with fail;rw [← HW1.out];refine ⟨trivial,?_⟩;refine (callsIn_wide.2 HBG.out).mono ?_;rintro e w1 ⟨F,p,f,tb,J,seq,B,rfl,hT,hb,ho,ht,_⟩;have htb:=tb_begun (by omega) (by omega) hT hb ho ht;have e12 : (((200 - 2) / 2 - 2) / 8 : Nat) = 12:=by decide
 rw [e12] at htb;clear hT hb ho ht e12;generalize hqq : f.q = qq at *;have HQ:=Hd hqq
 clear hqq;have H1 : Hid (Calls Tryz.prog 11 #[trp tb,.string ⟨#[97]⟩,.string ⟨#[120]⟩] w1 fun e w'=>e = .returned (.int .i64 0)∧TWto w1 12 F p f tb [([97],[120])] w'):=Hd (put_tw htb.tw (roomy_small (by omega) (by simp [wgtB])) (key:=[97]) (val:=[120]) (by simp) (by simp))
 have HTB1:=Hd htb;clear htb;gi_wp2_with fail;refine ⟨trivial,?_⟩;refine (callsIn_wide.2 H1.out).mono ?_;rintro e w2 ⟨rfl,hto⟩;obtain ⟨f2,htb2,hq2,_⟩:=HTB1.out.to hto;have H2 : Hid (Calls Tryz.prog 11 #[trp tb,.string ⟨#[98]⟩,.string ⟨#[121]⟩] w2 fun e w'=>e = .returned (.int .i64 0)∧TWto w2 12 F p f2 tb [([97],[120]),([98],[121])] w'):=Hd (put_tw htb2.tw (roomy_small (by omega) (by simp [wgtB])) (key:=[98]) (val:=[121]) (by simp) (by simp));have HTB2:=Hd htb2;have HQ2:=Hd (hq2.trans HQ.out);clear hto htb2 hq2;gi_wp2_with fail;refine ⟨trivial,?_⟩;refine (callsIn_wide.2 H2.out).mono ?_;rintro e w3 ⟨rfl,hto⟩;obtain ⟨f3,htb3,hq3,_⟩:=HTB2.out.to hto;have H3 : Hid (Calls Tryz.prog 11 #[trp tb,.string ⟨#[97]⟩,.string ⟨#[122]⟩] w3 fun e w'=>e = .returned (.int .i64 0)∧TWto w3 12 F p f3 tb [([97],[122]),([98],[121])] w'):=Hd (put_tw htb3.tw (roomy_small (by omega) (by simp [wgtB])) (key:=[97]) (val:=[122]) (by simp) (by simp));have HTB3:=Hd htb3;have HQ3:=Hd (hq3.trans HQ2.out);clear hto htb3 hq3;gi_wp2_with fail;refine ⟨trivial,?_⟩;refine (callsIn_wide.2 H3.out).mono ?_;rintro e w4 ⟨rfl,hto⟩;obtain ⟨f4,htb4,hq4,_⟩:=HTB3.out.to hto
 have H4 : Hid (Calls Tryz.prog 21 #[trp tb,.string ⟨#[97]⟩] w4 fun e w'=>e = .returned (.tuple #[.string ⟨#[122]⟩,.bool true,.int .i64 0])∧TW w' 12 F p f4 tb [([97],[122]),([98],[121])]∧Turned (PJ F p f4) w4 w'):=Hd (get_tw htb4.tw (key:=[97]) (by simp));have HTB4:=Hd htb4;have HQ4:=Hd (hq4.trans HQ3.out);clear hto htb4 hq4;gi_wp2_with fail;refine ⟨trivial,?_⟩;refine (callsIn_wide.2 H4.out).mono ?_;rintro e w5 ⟨rfl,htw,htt⟩;have htb5:=HTB4.out.read htw htt;clear htw htt;obtain ⟨W6,hW6⟩ : ∃ x,x = w5.alloc (izO 0):=⟨_,rfl⟩;have hb6 : Below w5.heap.size w5 W6:=by rw [hW6];exact nodeAlloc w5 _
 have hs6 : W6.heap.size = w5.heap.size + 1:=by rw [hW6];simp
 have r6 : W6.heap[w5.heap.size]? = some (izO 0):=by rw [hW6];exact heap_alloc_new w5 _
 have htb6:=htb5.step hb6;obtain ⟨n,J,seq,B,R,hT,hrg,htre,hRm,_,_⟩:=htb6.tw.live;obtain ⟨w7,hw7⟩ : ∃ w7,w7 = ((W6.alloc (trpO tb)).alloc (keyO [97,0])).alloc (keyO []):=⟨_,rfl⟩;obtain ⟨hb7,hs7,hl7,hlow7⟩:=range_begin hT hw7;have hrg1 : R.rangeN [97,0] [] = [([98],[121])]:=by rw [hrg];rfl
 have HRG : Hid (Calls Tryz.prog 19 #[trp tb,.string ⟨#[97,0]⟩,.string ⟨#[]⟩] W6 fun e w'=>e = .returned (rngF W6.heap.size (W6.heap.size + 1) (W6.heap.size + 2))∧w' = w7):=Hd (by
  have:=trange_any W6 (trp tb) (.inr ⟨tb,rfl⟩) [97,0] [];rw [← hw7] at this
  exact this)
 have HL7:=Hd hl7;have HLOW:=Hd hlow7;have HR7:=Hd ((hb7.block _ (lt_of_heap r6)).trans r6);have HTB5:=Hd htb5;have HTB6:=Hd htb6;have HW6:=Hd hW6;have HS:=Hd (And.intro hs6 hs7);have HB67:=Hd (And.intro hb6 hb7);have HRN:=Hd hrg1;have HPJ : Hid (∀ k,PJ F p f4 k → k < w5.heap.size):=Hd fun k hk=>htb5.tw.lt hk;have HTL:=Hd htb5.tw.tlt;have HTRE:=Hd htre;have HRM:=Hd hRm;clear htb5 hW6 hb6 hs6 r6 htb6 hT hrg htre hRm hw7 hb7 hs7 hl7 hlow7 hrg1;gi_wp2_with fail;rw [← HW6.out];refine ⟨trivial,?_⟩;refine (callsIn_wide.2 HRG.out).mono ?_;rintro e w8 ⟨rfl,e8⟩;obtain rfl : w7 = w8:=e8.symm;gi_wp2_with fail
 refine rangeT (F:=Fence.wide) rfl (by omega) (gf:=49) (lb:=#[boxp W6.heap.size,boxp (W6.heap.size + 1),boxp (W6.heap.size + 2)]) rfl trivial (enters_of Tryz.func49 (by kernel_rfl) rfl)
  (range_seq (n:=n) (J:=J) (seq:=seq) (B:=B) (F:=F) (p:=p) (f:=f4) (R:=R) (tb:=tb) (bt:=W6.heap.size) (bf:=W6.heap.size + 1) (bq:=W6.heap.size + 2) (from_:=[97,0]) (to_:=[]) 2 (by omega)) (fun _=>rfl)
  (fun pre W=>LiveR n J seq B F p f4 R tb W6.heap.size (W6.heap.size + 1) (W6.heap.size + 2) [97,0] [] W∧W.heap[w5.heap.size]? = some (izO (pre.length : Int))∧Turned (fun k=>PJ F p f4 k ∨ k = w5.heap.size) w7 W)
  (fun _ _ _=>False) ?hG (fun s A h=>h.1) ?hLp ?hI ?hU (fun _ _ _ _ h=>h.elim) ?h0 (fun x a' A=>a' = { tmps:=#[boxp w.heap.size,qptr qq,trp tb,.int .i64 0,.int .i64 0,.int .i64 0,.string ⟨#[122]⟩,.bool true,.int .i64 0,boxp w5.heap.size,.string ⟨x.1.toArray⟩,.string ⟨x.2.toArray⟩,undef,undef,undef,.tuple #[qptr qq,trp tb],.tuple #[qptr qq,trp tb],qptr qq,trp tb,trp tb,.bool false,trp tb,.int .i64 0,trp tb,.int .i64 0,trp tb,.int .i64 0,.tuple #[.string ⟨#[122]⟩,.bool true,.int .i64 0],trp tb,.tuple #[.string ⟨#[122]⟩,.bool true,.int .i64 0],.string ⟨#[122]⟩,.bool true,.int .i64 0,trp tb,rngF W6.heap.size (W6.heap.size + 1) (W6.heap.size + 2),.string ⟨x.1.toArray⟩,.string ⟨x.2.toArray⟩,undef,undef,undef,undef,undef,undef,undef,undef,undef,undef,undef,undef,undef,undef,undef,undef,undef,undef,undef,undef,undef,undef,undef,undef,undef,undef,undef,undef,undef,undef,undef,undef,undef,undef,undef,undef,undef,undef,undef,undef,undef,undef,undef,undef,undef,undef,undef,undef,undef,undef,undef,undef,undef,undef,undef,undef,undef,undef],defers:=[] }) (fun _ _ _ _ h=>h) ?assign ?body ?done (fun _ _ _ _ _ _ _ h=>h.elim)
 case assign =>
  rintro L pre x W K hi hpx hsz hK;gi_wp2_with fail;exact hK _ _ (Turned.refl _ _) hi rfl
 case hG =>
  intro W hb;exact ⟨HL7.out.far HLOW.out (Turned.of_below (T:=fun k=>w7.heap.size ≤ k) hb) fun k hk e=>by omega,HLOW.out.mono hb.size⟩
 case hLp=>exact fun A A' h ht=>h.far HLOW.out ht fun k hk e=>by omega
 case hI =>
  rintro s A A' ⟨i1,i2,i3⟩ ht hl;have hS:=HS.out
  refine ⟨hl,keepB ht (fun e=>?_) i2,i3.then ht fun i hi e=>?_⟩
  ·rcases e with e | e
   ·have:=HPJ.out _ e;omega
   ·omega
  ·rcases e with e | e
   ·exact .inl e
   ·omega
 case hU=>exact fun k hk=>by have:=HPJ.out k hk;have:=HS.out;omega
 case h0=>exact ⟨HL7.out,HR7.out,Turned.refl _ _⟩
 case body =>
  rintro L pre x a' W hl ⟨r,hr⟩ ⟨i1,i2,i3⟩ rfl hpx hsz;rw [HRN.out] at hpx
  obtain ⟨rfl,rfl⟩ : pre = []∧x = ([98],[121]):=by
   obtain ⟨t,ht⟩:=hpx
   cases pre with
   | nil=>simp at ht;exact ⟨rfl,ht.1⟩
   | cons y r=>simp at ht
  have cn:=(cell_of_row _ _ 0 _ _ _ i2).trans rfl;have fn:=frozen_p i2 0;have hS:=HS.out;have ht9:=turned_one W w5.heap.size 0 (.int .i64 1)
  have hE : Turned (fun k=>k < w7.heap.size) W (W.setCell ⟨w5.heap.size,0,none⟩ (.int .i64 1))∧LiveR n J seq B F p f4 R tb W6.heap.size (W6.heap.size + 1) (W6.heap.size + 2) [97,0] [] (W.setCell ⟨w5.heap.size,0,none⟩ (.int .i64 1))∧(W.setCell ⟨w5.heap.size,0,none⟩ (.int .i64 1)).heap[w5.heap.size]? = some (izO ((([] ++ [(([98],[121]) : KV)]) : List KV).length : Int))∧Turned (fun k=>PJ F p f4 k ∨ k = w5.heap.size) w7 (W.setCell ⟨w5.heap.size,0,none⟩ (.int .i64 1)):=by
   refine ⟨ht9.mono fun j _ e=>by omega,⟨i1.tr.turned ht9 (fun j hj e=>?_) (fun e=>by have:=HTL.out.1;omega),keepB ht9 (by omega) i1.hbt,keepB ht9 (by omega) i1.hbf,keepB ht9 (by omega) i1.hbq⟩,head_setCell i2 _,i3.trans (ht9.mono fun j _ e=>.inr e)⟩;rcases hj with hj | hj
   ·have:=HPJ.out j hj;omega
   ·have:=HTL.out.2.2;omega
  have HE:=Hd hE;have hz0 : (([] : List KV).length : Int) = 0:=rfl;clear i1 i2 i3 hpx hE ht9 hS;gi_wp2_with fail;exact HE.out
 case done =>
  rintro D W hD hsz ⟨i1,i2,i3⟩ hK;rw [HRN.out] at i2;have hS:=HS.out
  have hTW : TW W 12 F p f4 tb [([97],[122]),([98],[121])]:=i1.tw HTRE.out HRM.out (by omega) (by omega)
  have htD : Turned (fun k=>PJ F p f4 k) w5 W:=(Turned.of_below (HB67.out.1.trans (HB67.out.2.mono (by omega)))).then i3 fun i hi e=>by
   rcases e with e | e
   ·exact e
   ·omega
  have htb8:=HTB5.out.read hTW htD;have hdel : Calls Tryz.prog 13 #[trp tb,.string ⟨#[97]⟩] W fun e w'=>e = .returned (.tuple #[.bool true,.int .i64 0])∧TWto W 12 F p f4 tb [([98],[121])] w':=del_tw hTW (roomy_small (by omega) (by simp [wgtB])) (key:=[97]) (by simp);have HDEL:=Hd hdel;have HTB8:=Hd htb8;have HN8:=Hd i2;have HK:=Hd hK;clear i1 i2 i3 hK hTW htD htb8 hdel hS;gi_wp2_with fail;refine ⟨trivial,?_⟩;refine (callsIn_wide.2 HDEL.out).mono ?_;rintro e w9 ⟨rfl,hto⟩;obtain ⟨f5,htb9,hq5,hpj5,htt⟩:=HTB8.out.to hto;have HSND:=Hd (sound_tw htb9.tw);have HTB9:=Hd htb9;have HTT9:=Hd htt;have HQ5:=Hd (hq5.trans HQ4.out);have HPJ5:=Hd hpj5;clear hto htb9 hq5 htt hpj5;gi_wp2_with fail;refine ⟨trivial,?_⟩;refine (callsIn_wide.2 HSND.out).mono ?_;rintro e wa ⟨rfl,htw,hta⟩;have htba:=HTB9.out.read htw hta;have hS:=HS.out;have hno4 : ∀ k,w5.heap.size ≤ k → ¬ PJ F p f4 k:=fun k hk e=>by have:=HPJ.out k e;omega
  have hno5 : ∀ k,w5.heap.size ≤ k → k < W.heap.size → ¬ PJ F p f5 k:=fun k hk hk2 e=>by
   rcases HPJ5.out k e with e | e
   ·exact hno4 k hk e
   ·omega
  have na:=keepB hta (hno5 _ (Nat.le_refl _) (by omega)) (keepB HTT9.out (hno4 _ (Nat.le_refl _)) HN8.out);have hDl : D < W.heap.size:=lt_of_heap HK.out;have ka:=keepB hta (hno5 _ (by omega) hDl) (keepB HTT9.out (hno4 _ (by omega)) HK.out);have ra:=(htba.below.block _ (by have:=HS1.out;omega)).trans HR1.out;have hLEFT:=left_tw htba.tw;have hPGS:=pages_tw htba.tw;rw [HQ5.out] at hLEFT hPGS;have HLEFT:=Hd hLEFT;have HPGS:=Hd hPGS;have HTBA:=Hd htba;have cna:=(cell_of_row _ _ 0 _ _ _ na).trans rfl;have cra:=(cell_of_row _ _ 0 _ _ _ ra).trans rfl;have fra:=frozen_p ra 0;have ht9:=turned_one wa w.heap.size 0 (.bool true);have hwD : w.heap.size ≠ D:=by have:=HTB5.out.base;have:=HS1.out;omega
  have HK6 : Hid ((wa.setCell ⟨w.heap.size,0,none⟩ (.bool true)).heap[D]? = some (.deferred (some []))):=Hd (keepB ht9 (fun e=>hwD e.symm) ka);have HR6 : Hid ((wa.setCell ⟨w.heap.size,0,none⟩ (.bool true)).heap[w.heap.size]? = some (bolO true)):=Hd (head_setCell ra _);have HE : Hid (∀ o,Below w.heap.size w ((wa.setCell ⟨w.heap.size,0,none⟩ (.bool true)).putObj D o)):=Hd fun o=>by have h1 : Below w.heap.size w wa:=HB1.out.trans (htba.below.mono HB1.out.size);have h2 : Turned (fun k=>k = w.heap.size ∨ k = D) wa ((wa.setCell ⟨w.heap.size,0,none⟩ (.bool true)).putObj D o):=(ht9.mono fun k _ e=>.inl e).trans (turned_put _ D o (.inr rfl));refine h1.trans (h2.below h1.size fun k e=>?_);have:=HTB5.out.base;have:=HS1.out;omega
  clear htw hta htba hS hno4 hno5 na hDl ka ra hLEFT hPGS ht9;gi_wp2_with fail;refine ⟨trivial,?_⟩;refine (callsIn_wide.2 HLEFT.out).mono ?_;rintro e wb ⟨left,rfl,eb,_,hlt,_⟩;obtain rfl : wa = wb:=eb.symm;have hl12 : left < 12:=hlt (by simp)
  clear hlt;gi_wp2_with fail;refine ⟨trivial,?_⟩;refine (callsIn_wide.2 HPGS.out).mono ?_;rintro e wb ⟨rfl,eb⟩;obtain rfl : wa = wb:=eb.symm;have hd : decide ((left : Int) < ((12 : Nat) : Int)) = true:=decide_eq_true (by omega)
  have hd2 : decide ((left : Int) < 12) = true:=decide_eq_true (by omega);have hd3 : decide (left < 12) = true:=decide_eq_true hl12;gi_wp2_with fail;refine ⟨by simp,.inl ⟨_,_,rfl,run_takeDeferred HK6.out,?_⟩⟩;exact ⟨_,results_cell1 rfl rfl (load_bool ((World.putObj_heap_other hwD).trans HR6.out)),rfl,HE.out _⟩
end
section
theorem fillL_rise : ∀ (ks : List (List UInt8)) (l : List KV),Rise l → Rise (fillL ks l)
 | [],l,h=>h
 | k :: r,l,h=>by
  rw [fillL];split
  ·exact fillL_rise r _ (putL_rise h)
  ·exact fillL_rise r _ h
end
section
open Go.RowKit
variable {F : Fence} {n : Nat} {P : Program}
theorem rangeTN {α : Type} {g : Operand} {ps : Array Tmp} {assign body : Code} {Q : Exit → Act → World → Prop} {a : Act} {w : World}
  {l₀ : Nat} {r₀ : Loop} (hro : F.round = some l₀) (hl₀ : w.heap[l₀]? = some (.loop r₀)) (h1 : 1 ≤ n) {gf : Nat} {lb : Array Value} (hg : a.eval g = .func (.func gf) #[] lb) (hFg : F.fn gf) (eg : ∀ args w,(callFunc gf args).run P w = .ok (.enter gf args) w)
  {encs : α → Array Value} {U : Nat → Prop} {Live : World → Prop} {xs : List α} {G : World → Prop} (hseq : SeqT F (n - 1) P gf lb encs U Live xs G) (hps : ∀ x,(encs x).size = ps.size)
  (I : List α → World → Prop) (Ix : Code → List α → World → Prop) (hG : ∀ W,Below w.heap.size w W → G W) (hL : ∀ s A,I s A → Live A) (hLp : ∀ A B,Live A → Turned (fun k=>w.heap.size ≤ k) A B → Live B)
  (hI : ∀ s A B,I s A → Turned (fun k=>U k ∨ w.heap.size ≤ k) A B → Live B → I s B) (hU : ∀ k,U k → k < w.heap.size) (hIx : ∀ c s A B,Ix c s A → Turned (fun k=>w.heap.size ≤ k) A B → Ix c s B) (h0 : I [] w)
  (Ax : α → Act → World → Prop) (hAx : ∀ x a' A o,Ax x a' A → Ax x a' (A.putObj w.heap.size o))
  (hassign : ∀ (l : Nat) (pre : List α) (x : α) (W : World) (K : Act → World → Prop),I pre W → pre ++ [x] <+: xs → w.heap.size + 1 ≤ W.heap.size → (∀ a' W',Turned (fun _=>False) W W' → I pre W' → Ax x a' W' → K a' W') →
   assign.wpIn (F.inRound l) (n - 1 - 1) P (Exit.then K (fun _ _ _=>False)) { tmps:=(ps.zip (encs x)).foldl (fun t (p,v)=>t.setIfInBounds p v) a.tmps,defers:=[] } W)
  (hbody : ∀ (l : Nat) (pre : List α) (x : α) (a' : Act) (W : World),w.heap.size ≤ l → (∃ r,W.heap[l]? = some (.loop r)) → I pre W → Ax x a' W → pre ++ [x] <+: xs → w.heap.size + 1 ≤ W.heap.size → body.wpIn (F.inRound l) (n - 1 - 1) P (postT w.heap.size I Ix (pre ++ [x]) W) a' W)
  (hdone : ∀ (W : World),w.heap.size ≤ W.heap.size → I xs W → Q .normal a W)
  (hstop : ∀ (c : Code) (pre : List α) (W : World),w.heap.size ≤ W.heap.size → pre <+: xs → Ix c pre W → c.wpIn F n P Q a W) :
  (Code.rangeFunc g ps assign body).wpIn F n P Q a w:=by
 refine wpIn_rangeFunc ?_;intro fn hfn;rw [hro];obtain ⟨rec,hrec⟩ : ∃ rec : LoopState → Option Code → Loop,rec = fun st pe=>{ state:=st,pending:=pe,fn,tmps:=a.tmps,params:=ps,assign,body,defers:=r₀.defers }:=⟨_,rfl⟩;obtain ⟨W1,hW1⟩ : ∃ W1,w.alloc (.loop (rec .ready none)) = W1:=⟨_,rfl⟩;have hs1 : W1.heap.size = w.heap.size + 1:=by rw [← hW1];simp
 have hL1 : W1.heap[w.heap.size]? = some (.loop (rec .ready none)):=by rw [← hW1];exact World.alloc_heap_new w _
 have hb1 : Below w.heap.size w W1:=by rw [← hW1];exact (Below.refl _ w).alloc (Nat.le_refl _) _
 have ht1 : Turned (fun k=>U k ∨ w.heap.size ≤ k) w W1:=Turned.of_below hb1;have hlive : Live W1:=hLp _ _ (hL _ _ h0) (Turned.of_below hb1);have hI1 : I [] W1:=hI _ _ _ h0 ht1 hlive;have put : ∀ {s : List α} {A : World} (l : Nat) (o : Obj),w.heap.size ≤ l → I s A → I s (A.putObj l o):=fun l o hl hi=>hI _ _ _ hi (turned_put _ l o (.inr hl)) (hLp _ _ (hL _ _ hi) (turned_put _ l o hl));have putx : ∀ {c : Code} {s : List α} {A : World} (l : Nat) (o : Obj),w.heap.size ≤ l → Ix c s A → Ix c s (A.putObj l o):=fun l o hl hi=>hIx _ _ _ _ hi (turned_put _ l o hl)
 refine ⟨w.heap.size,[],W1,{ target:=.fn (.func gf) lb,args:=#[.func (.yield w.heap.size) #[] #[]] },W1,gf,
  #[.func (.yield w.heap.size) #[] #[]] ++ lb,W1,?_,?_,?_,?_,fun _=>h1,?_⟩
 ·rw [← hW1,hrec];exact run_enterLoop_inner hl₀ _ _ _ _ _
 ·simp only [resolve,hg];simp [go_sem]
 ·intro f' hf';simp [Target.leads] at hf';subst hf';exact hFg
 ·simp [invoke,go_sem,eg]
 ·have keep : ∀ {A B : World} {T : Nat → Prop} {k : Nat} {o : Obj},Turned T A B → ¬ T k → A.heap[k]? = some o → B.heap[k]? = some o:=fun ht hk h=>(ht.block _ (Array.getElem?_eq_some_iff.1 h).1 hk).trans h
  have un0 : ¬ (U w.heap.size ∨ W1.heap.size ≤ w.heap.size):=fun e=>e.elim (fun e=>absurd (hU _ e) (Nat.lt_irrefl _)) fun e=>by omega
  refine (hseq w.heap.size
   (fun pre W=>I pre W∧W.heap[w.heap.size]? = some (.loop (rec .ready none)))
   (fun pre W=>∃ c,Ix c pre W∧W.heap[w.heap.size]? = some (.loop (rec .done (some c))))
   W1 (hG W1 hb1) (fun s A h=>hL s A h.1)
   (fun s A B hs ht hl=>⟨hI s A B hs.1 (ht.mono fun k _ e=>e.imp id fun e=>by omega) hl,keep ht un0 hs.2⟩)
   (fun s A B hs ht=>by
    obtain ⟨c,hc,hl⟩:=hs
    exact ⟨c,hIx c s A B hc (ht.mono fun k _ e=>by omega),keep ht (by omega) hl⟩)
   ?_ ⟨hI1,hL1⟩).mono ?_
  ·-- one round
   rintro pre x W ⟨hi,hl⟩ hpre hsz;have hy:=run_yield (P:=P) (args:=encs x) hl (by rw [hrec];exact hps x)
   rw [hrec] at hy;refine ⟨fn,_,assign,body,hy,roundIn_of_wpIn hfn (hassign _ pre x W _ hi hpre (by omega) ?_)⟩;clear hy;intro a' Wa hta hia hax;replace hl:=keep hta (fun e=>e) hl;have hlt : w.heap.size < Wa.heap.size:=(Array.getElem?_eq_some_iff.1 hl).1
   refine ⟨_,run_beginRound hl (by rw [hrec]),?_⟩;have hl2 : (Wa.putObj w.heap.size (.loop { rec .ready none with state:=.busy })).heap[w.heap.size]? = some (.loop { rec .ready none with state:=.busy }):=World.putObj_heap_same hlt
   have htw : Turned (fun k=>k < W1.heap.size) W (Wa.putObj w.heap.size (.loop { rec .ready none with state:=.busy })):=(hta.mono fun _ _ e=>e.elim).trans (turned_put _ _ _ (by omega));refine wpIn_mono (hbody _ pre x a' _ (by omega) ⟨_,hl2⟩ (put _ _ (by omega) hia) (hAx x a' _ _ hax) hpre (by simp;omega)) ?_
   have fin : ∀ (jump : Option Code) (W3 : World),Turned (fun k=>k < w.heap.size) (Wa.putObj w.heap.size (.loop { rec .ready none with state:=.busy })) W3 →
     (Instr.endRound w.heap.size jump).run P W3 = .ok (.bool jump.isNone) (W3.putObj w.heap.size (.loop (rec (if jump.isNone then .ready else .done) jump))) ∧
     (W3.putObj w.heap.size (.loop (rec (if jump.isNone then .ready else .done) jump))).heap[w.heap.size]? = some (.loop (rec (if jump.isNone then .ready else .done) jump)) ∧
     Turned (fun k=>k < W1.heap.size) W (W3.putObj w.heap.size (.loop (rec (if jump.isNone then .ready else .done) jump))):=fun jump W3 hk3=>by
    have hl3:=keep hk3 (by omega) hl2
    have:=run_endRound (P:=P) jump hl3
    rw [hrec] at this ⊢
    exact ⟨this,World.putObj_heap_same (Array.getElem?_eq_some_iff.1 hl3).1,(htw.trans (hk3.mono fun k _ e=>by omega)).trans (turned_put _ _ _ (by omega))⟩
   rintro e a3 W3 hp
   cases e with
   | normal =>
    obtain ⟨hk3,hi3⟩:=hp;obtain ⟨hr,hl4,ht4⟩:=fin none W3 hk3;exact ⟨_,_,hr,ht4,.inl ⟨rfl,put _ _ (by omega) hi3,hl4⟩⟩
   | ret =>
    obtain ⟨hk3,hi3⟩:=hp;obtain ⟨hr,hl4,ht4⟩:=fin (some .ret) W3 hk3;exact ⟨_,_,hr,ht4,.inr ⟨rfl,.ret,putx _ _ (by omega) hi3,hl4⟩⟩
   | exit id =>
    obtain ⟨hk3,hi3⟩:=hp;obtain ⟨hr,hl4,ht4⟩:=fin (some (.exit id)) W3 hk3;exact ⟨_,_,hr,ht4,.inr ⟨rfl,.exit id,putx _ _ (by omega) hi3,hl4⟩⟩
   | goto t =>
    obtain ⟨hk3,hi3⟩:=hp;obtain ⟨hr,hl4,ht4⟩:=fin (some (.goto t)) W3 hk3;exact ⟨_,_,hr,ht4,.inr ⟨rfl,.goto t,putx _ _ (by omega) hi3,hl4⟩⟩
   | panic ch=>exact hp.elim
   | outgrown=>exact hp.elim
  ·-- behind the iterator
   rintro e W2 ⟨⟨v,rfl⟩,hsz,(⟨hi,hl⟩ | ⟨pre,hpre,c,hi,hl⟩)⟩
   ·exact ⟨none,_,by have:=run_endLoop (P:=P) hl (by rw [hrec];simp);rw [hrec] at this;exact this,hdone _ (by simp;omega) (put _ _ (by omega) hi)⟩
   ·exact ⟨some c,_,by have:=run_endLoop (P:=P) hl (by rw [hrec];simp);rw [hrec] at this;exact this,hstop c pre _ (by simp;omega) hpre (putx _ _ (by omega) hi)⟩
end
end Go.Proofs.YtofibccplbnaiaaGreatDoor
