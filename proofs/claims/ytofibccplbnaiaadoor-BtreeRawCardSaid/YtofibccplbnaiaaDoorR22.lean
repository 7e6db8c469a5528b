/- Contracts of the functions that the statements of this seat reach, part 22: each says what the call answers and what it leaves of the memory. -/
import Derived.Test.YtofibccplbnaiaaDoorR21
import Derived.Test.YtofibccplbnaiaaDoorR14
set_option linter.unusedVariables false
set_option linter.unusedSimpArgs false
set_option maxRecDepth 100000
namespace Go.Proofs.YtofibccplbnaiaaDoor
section
open Go.RowKit Go.Shelf Go.Lib
attribute [local go_sem] Oper.semAt_some
section
variable {w w' : World} {m : Nat} {F : Ft} {p : Nat} {f : Pf} {tb : Nat} {l : List KV}
theorem Sub.ne {R : Rp} (hg : R.good) {h : Nat} {page : Int} {l : List KV} {P : List Int} (hs : Sub R h page l P) : l ≠ []:=by
 cases h with
 | zero =>
  obtain ⟨n,h1,h2,h3,h4⟩:=hs;rw [h3];intro e;exact (Sub.srt hg h1).some (List.map_eq_nil_iff.1 e)
 | succ h =>
  obtain ⟨n,T,h1,h2,h3,h4,h5,h6,h7⟩:=hs;rw [h4]
  cases T with
  | nil=>exact absurd h3 (Sub.srt hg h1).some
  | cons t r =>
   rw [List.flatMap_cons];intro e;exact h6.some t (List.mem_cons_self ..) (List.append_eq_nil_iff.1 e).1
theorem left_tw (h : TW w m F p f tb l) : Calls Tryd.prog 15 #[qptr f.q] w fun e w'=>∃ n : Nat,e = .returned (.int .i64 (n : Int))∧w' = w∧n ≤ m∧(l ≠ [] → n < m)∧(l = [] → n = m):=by
 obtain ⟨⟨n,J,seq,B,R,h1,h2,h3⟩,h4,h5⟩:=h;refine (lp_left h1.lp).mono ?_;rintro e w' ⟨rfl,rfl⟩;refine ⟨_,rfl,rfl,by rw [← h3];exact List.countP_le_length,fun hl=>?_,fun hl=>?_⟩
 ·rcases h2 with ⟨_,e,_⟩ | ⟨h,P,hT⟩
  ·exact absurd e hl
  ·have h6:=hT.count;have h7:=List.length_pos_iff.2 (List.ne_nil_of_mem (Sub.page h hT.sub));omega
 ·rcases h2 with ⟨_,_,e⟩ | ⟨h,P,hT⟩
  ·have:=taken_count (R:=R) (P:=[]) (by simp) fun p=>by rw [e p];simp
   simp only [List.length_nil] at this;omega
  ·exact absurd hl (Sub.ne h1.lp.good hT.sub)
theorem pages_tw (h : TW w m F p f tb l) : Calls Tryd.prog 6 #[qptr f.q] w fun e w'=>e = .returned (.int .i64 (m : Int))∧w' = w:=by obtain ⟨⟨n,J,seq,B,R,h1,h2,h3⟩,h4,h5⟩:=h;rw [← h3];exact lp_pages h1.lp
theorem TW.live (h : TW w m F p f tb l) : ∃ n J seq B R,Tr n J seq B w F p f R tb∧(∀ from_ to_,R.rangeN from_ to_ = rngL from_ to_ l)∧Tre R l∧R.pages.length = m∧4 ≤ m∧m ≤ 255:=by obtain ⟨⟨n,J,seq,B,R,h1,h2,h3⟩,h4,h5⟩:=h;exact ⟨n,J,seq,B,R,h1,fun a b=>h2.range h1.lp.good (TreH.low39 h1.lp.good (by omega)) a b,h2,h3,h4,h5⟩
end
set_option maxHeartbeats 16000000 in
theorem shown10_any (w : World) (hn : Nib w) : Calls Tryd.prog 4 #[] w fun e w'=>e = .returned (.bool true)∧Below w.heap.size w w':=by
 obtain ⟨W1,hW1⟩ : ∃ x,x = w.alloc (bolO false):=⟨_,rfl⟩;have hb1 : Below w.heap.size w W1:=by rw [hW1];exact nodeAlloc w _
 have hs1 : W1.heap.size = w.heap.size + 1:=by rw [hW1];simp
 have r1 : W1.heap[w.heap.size]? = some (bolO false):=by rw [hW1];exact heap_alloc_new w _
 have HBG:=Hd (begun10_any W1 (hn.below hb1) 200 (by omega) (by omega));have HW1:=Hd hW1;have HB1:=Hd hb1;have HS1:=Hd hs1;have HR1:=Hd r1;clear hn hW1 hb1 hs1 r1;refine callsIn_wide (n:=3).1 ?_;refine callsIn_of_wp_marks Tryd.func4 rfl trivial ?_ rfl;simp only [Tryd.ntmps4,List.size_toArray,List.length_cons,List.length_nil,Nat.reduceAdd,Nat.reduceSub,Array.replicate_succ,Array.replicate_zero,List.push_toArray,List.append_toArray,List.nil_append,List.cons_append];gi_wp2_with fail;rw [← HW1.out];refine ⟨trivial,?_⟩;refine (callsIn_wide.2 HBG.out).mono ?_;rintro e w1 ⟨F,p,f,tb,J,seq,B,rfl,hT,hb,ho,ht,_⟩;have htb:=tb_begun (by omega) (by omega) hT hb ho ht;have e12 : (((200 - 2) / 2 - 2) / 8 : Nat) = 12:=by decide
 rw [e12] at htb;clear hT hb ho ht e12;generalize hqq : f.q = qq at *;have HQ:=Hd hqq
 clear hqq;have H1 : Hid (Calls Tryd.prog 14 #[trp tb,.string ⟨#[97]⟩,.string ⟨#[120]⟩] w1 fun e w'=>e = .returned (.int .i64 0)∧TWto w1 12 F p f tb [([97],[120])] w'):=Hd (put_tw htb.tw (roomy_small (by omega) (by simp [wgtB])) (key:=[97]) (val:=[120]) (by simp) (by simp))
 have HTB1:=Hd htb;clear htb;gi_wp2_with fail;refine ⟨trivial,?_⟩;refine (callsIn_wide.2 H1.out).mono ?_;rintro e w2 ⟨rfl,hto⟩;obtain ⟨f2,htb2,hq2,_⟩:=HTB1.out.to hto;have H2 : Hid (Calls Tryd.prog 14 #[trp tb,.string ⟨#[98]⟩,.string ⟨#[121]⟩] w2 fun e w'=>e = .returned (.int .i64 0)∧TWto w2 12 F p f2 tb [([97],[120]),([98],[121])] w'):=Hd (put_tw htb2.tw (roomy_small (by omega) (by simp [wgtB])) (key:=[98]) (val:=[121]) (by simp) (by simp));have HTB2:=Hd htb2;have HQ2:=Hd (hq2.trans HQ.out);clear hto htb2 hq2;gi_wp2_with fail;refine ⟨trivial,?_⟩;refine (callsIn_wide.2 H2.out).mono ?_;rintro e w3 ⟨rfl,hto⟩;obtain ⟨f3,htb3,hq3,_⟩:=HTB2.out.to hto;have H3 : Hid (Calls Tryd.prog 14 #[trp tb,.string ⟨#[97]⟩,.string ⟨#[122]⟩] w3 fun e w'=>e = .returned (.int .i64 0)∧TWto w3 12 F p f3 tb [([97],[122]),([98],[121])] w'):=Hd (put_tw htb3.tw (roomy_small (by omega) (by simp [wgtB])) (key:=[97]) (val:=[122]) (by simp) (by simp));have HTB3:=Hd htb3;have HQ3:=Hd (hq3.trans HQ2.out);clear hto htb3 hq3;gi_wp2_with fail;refine ⟨trivial,?_⟩;refine (callsIn_wide.2 H3.out).mono ?_;rintro e w4 ⟨rfl,hto⟩;obtain ⟨f4,htb4,hq4,_⟩:=HTB3.out.to hto
 have H4 : Hid (Calls Tryd.prog 12 #[trp tb,.string ⟨#[97]⟩] w4 fun e w'=>e = .returned (.tuple #[.string ⟨#[122]⟩,.bool true,.int .i64 0])∧TW w' 12 F p f4 tb [([97],[122]),([98],[121])]∧Turned (PJ F p f4) w4 w'):=Hd (get_tw htb4.tw (key:=[97]) (by simp));have HTB4:=Hd htb4;have HQ4:=Hd (hq4.trans HQ3.out);clear hto htb4 hq4;gi_wp2_with fail;refine ⟨trivial,?_⟩;refine (callsIn_wide.2 H4.out).mono ?_;rintro e w5 ⟨rfl,htw,htt⟩;have htb5:=HTB4.out.read htw htt;clear htw htt;obtain ⟨W6,hW6⟩ : ∃ x,x = w5.alloc (izO 0):=⟨_,rfl⟩;have hb6 : Below w5.heap.size w5 W6:=by rw [hW6];exact nodeAlloc w5 _
 have hs6 : W6.heap.size = w5.heap.size + 1:=by rw [hW6];simp
 have r6 : W6.heap[w5.heap.size]? = some (izO 0):=by rw [hW6];exact heap_alloc_new w5 _
 have htb6:=htb5.step hb6;obtain ⟨n,J,seq,B,R,hT,hrg,htre,hRm,_,_⟩:=htb6.tw.live;obtain ⟨w7,hw7⟩ : ∃ w7,w7 = ((W6.alloc (trpO tb)).alloc (keyO [97,0])).alloc (keyO []):=⟨_,rfl⟩;obtain ⟨hb7,hs7,hl7,hlow7⟩:=range_begin hT hw7;have hrg1 : R.rangeN [97,0] [] = [([98],[121])]:=by rw [hrg];rfl
 have HRG : Hid (Calls Tryd.prog 11 #[trp tb,.string ⟨#[97,0]⟩,.string ⟨#[]⟩] W6 fun e w'=>e = .returned (rngF W6.heap.size (W6.heap.size + 1) (W6.heap.size + 2))∧w' = w7):=Hd (by
  have:=trange_any W6 (trp tb) (.inr ⟨tb,rfl⟩) [97,0] [];rw [← hw7] at this
  exact this)
 have HL7:=Hd hl7;have HLOW:=Hd hlow7;have HR7:=Hd ((hb7.block _ (lt_of_heap r6)).trans r6);have HTB5:=Hd htb5;have HTB6:=Hd htb6;have HW6:=Hd hW6;have HS:=Hd (And.intro hs6 hs7);have HB67:=Hd (And.intro hb6 hb7);have HRN:=Hd hrg1;have HPJ : Hid (∀ k,PJ F p f4 k → k < w5.heap.size):=Hd fun k hk=>htb5.tw.lt hk;have HTL:=Hd htb5.tw.tlt;have HTRE:=Hd htre;have HRM:=Hd hRm;clear htb5 hW6 hb6 hs6 r6 htb6 hT hrg htre hRm hw7 hb7 hs7 hl7 hlow7 hrg1;gi_wp2_with fail;rw [← HW6.out];refine ⟨trivial,?_⟩;refine (callsIn_wide.2 HRG.out).mono ?_;rintro e w8 ⟨rfl,e8⟩;obtain rfl : w7 = w8:=e8.symm;gi_wp2_with fail
 refine rangeT (F:=Fence.wide) rfl (by omega) (gf:=30) (lb:=#[boxp W6.heap.size,boxp (W6.heap.size + 1),boxp (W6.heap.size + 2)]) rfl trivial (enters_of Tryd.func30 (by kernel_rfl) rfl)
  (range_seq (n:=n) (J:=J) (seq:=seq) (B:=B) (F:=F) (p:=p) (f:=f4) (R:=R) (tb:=tb) (bt:=W6.heap.size) (bf:=W6.heap.size + 1) (bq:=W6.heap.size + 2) (from_:=[97,0]) (to_:=[]) 2 (by omega)) (fun _=>rfl)
  (fun pre W=>LiveR n J seq B F p f4 R tb W6.heap.size (W6.heap.size + 1) (W6.heap.size + 2) [97,0] [] W∧W.heap[w5.heap.size]? = some (izO (pre.length : Int))∧Turned (fun k=>PJ F p f4 k ∨ k = w5.heap.size) w7 W)
  (fun _ _ _=>False) ?hG (fun s A h=>h.1) ?hLp ?hI ?hU (fun _ _ _ _ h=>h.elim) ?h0 (fun x a' A=>a' = { tmps:=#[boxp w.heap.size,qptr qq,trp tb,.int .i64 0,.int .i64 0,.int .i64 0,.string ⟨#[122]⟩,.bool true,.int .i64 0,boxp w5.heap.size,.string ⟨x.1.toArray⟩,.string ⟨x.2.toArray⟩,undef,undef,undef,.tuple #[qptr qq,trp tb],.tuple #[qptr qq,trp tb],qptr qq,trp tb,trp tb,.bool false,trp tb,.int .i64 0,trp tb,.int .i64 0,trp tb,.int .i64 0,.tuple #[.string ⟨#[122]⟩,.bool true,.int .i64 0],trp tb,.tuple #[.string ⟨#[122]⟩,.bool true,.int .i64 0],.string ⟨#[122]⟩,.bool true,.int .i64 0,trp tb,rngF W6.heap.size (W6.heap.size + 1) (W6.heap.size + 2),.string ⟨x.1.toArray⟩,.string ⟨x.2.toArray⟩,undef,undef,undef,undef,undef,undef,undef,undef,undef,undef,undef,undef,undef,undef,undef,undef,undef,undef,undef,undef,undef,undef,undef,undef,undef,undef,undef,undef,undef,undef,undef,undef,undef,undef,undef,undef,undef,undef,undef,undef,undef,undef,undef,undef,undef,undef,undef,undef,undef,undef,undef,undef,undef,undef,undef,undef,undef,undef],defers:=[] }) (fun _ _ _ _ h=>h) ?assign ?body ?done (fun _ _ _ _ _ _ _ h=>h.elim)
 case assign =>
  rintro L pre x W K hi hpx hsz hK;gi_wp2_with fail;exact hK _ _ (Turned.refl _ _) hi rfl
 case hG =>
  intro W hb;exact ⟨HL7.out.far HLOW.out (Turned.of_below (T:=fun k=>w7.heap.size ≤ k) hb) fun k hk e=>by omega,HLOW.out.mono hb.size⟩
 case hLp=>exact fun A A' h ht=>h.far HLOW.out ht fun k hk e=>by omega
 case hI =>
  rintro s A A' ⟨i1,i2,i3⟩ ht hl;have hS:=HS.out
  refine ⟨hl,keepB ht (fun e=>?_) i2,i3.then ht fun i hi e=>?_⟩
  ·rcases e with e | e
   ·have:=HPJ.out _ e;omega
   ·omega
  ·rcases e with e | e
   ·exact .inl e
   ·omega
 case hU=>exact fun k hk=>by have:=HPJ.out k hk;have:=HS.out;omega
 case h0=>exact ⟨HL7.out,HR7.out,Turned.refl _ _⟩
 case body =>
  rintro L pre x a' W hl ⟨r,hr⟩ ⟨i1,i2,i3⟩ rfl hpx hsz;rw [HRN.out] at hpx
  obtain ⟨rfl,rfl⟩ : pre = []∧x = ([98],[121]):=by
   obtain ⟨t,ht⟩:=hpx
   cases pre with
   | nil=>simp at ht;exact ⟨rfl,ht.1⟩
   | cons y r=>simp at ht
  have cn:=(cell_of_row _ _ 0 _ _ _ i2).trans rfl;have fn:=frozen_p i2 0;have hS:=HS.out;have ht9:=turned_one W w5.heap.size 0 (.int .i64 1)
  have hE : Turned (fun k=>k < w7.heap.size) W (W.setCell ⟨w5.heap.size,0,none⟩ (.int .i64 1))∧LiveR n J seq B F p f4 R tb W6.heap.size (W6.heap.size + 1) (W6.heap.size + 2) [97,0] [] (W.setCell ⟨w5.heap.size,0,none⟩ (.int .i64 1))∧(W.setCell ⟨w5.heap.size,0,none⟩ (.int .i64 1)).heap[w5.heap.size]? = some (izO ((([] ++ [(([98],[121]) : KV)]) : List KV).length : Int))∧Turned (fun k=>PJ F p f4 k ∨ k = w5.heap.size) w7 (W.setCell ⟨w5.heap.size,0,none⟩ (.int .i64 1)):=by
   refine ⟨ht9.mono fun j _ e=>by omega,⟨i1.tr.turned ht9 (fun j hj e=>?_) (fun e=>by have:=HTL.out.1;omega),keepB ht9 (by omega) i1.hbt,keepB ht9 (by omega) i1.hbf,keepB ht9 (by omega) i1.hbq⟩,head_setCell i2 _,i3.trans (ht9.mono fun j _ e=>.inr e)⟩;rcases hj with hj | hj
   ·have:=HPJ.out j hj;omega
   ·have:=HTL.out.2.2;omega
  have HE:=Hd hE;have hz0 : (([] : List KV).length : Int) = 0:=rfl;clear i1 i2 i3 hpx hE ht9 hS;gi_wp2_with fail;exact HE.out
 case done =>
  rintro D W hD hsz ⟨i1,i2,i3⟩ hK;rw [HRN.out] at i2;have hS:=HS.out
  have hTW : TW W 12 F p f4 tb [([97],[122]),([98],[121])]:=i1.tw HTRE.out HRM.out (by omega) (by omega)
  have htD : Turned (fun k=>PJ F p f4 k) w5 W:=(Turned.of_below (HB67.out.1.trans (HB67.out.2.mono (by omega)))).then i3 fun i hi e=>by
   rcases e with e | e
   ·exact e
   ·omega
  have htb8:=HTB5.out.read hTW htD;have hdel : Calls Tryd.prog 13 #[trp tb,.string ⟨#[97]⟩] W fun e w'=>e = .returned (.tuple #[.bool true,.int .i64 0])∧TWto W 12 F p f4 tb [([98],[121])] w':=del_tw hTW (roomy_small (by omega) (by simp [wgtB])) (key:=[97]) (by simp);have HDEL:=Hd hdel;have HTB8:=Hd htb8;have HN8:=Hd i2;have HK:=Hd hK;clear i1 i2 i3 hK hTW htD htb8 hdel hS;gi_wp2_with fail;refine ⟨trivial,?_⟩;refine (callsIn_wide.2 HDEL.out).mono ?_;rintro e w9 ⟨rfl,hto⟩;obtain ⟨f5,htb9,hq5,hpj5,htt⟩:=HTB8.out.to hto;have HSND:=Hd (sound_tw htb9.tw);have HTB9:=Hd htb9;have HTT9:=Hd htt;have HQ5:=Hd (hq5.trans HQ4.out);have HPJ5:=Hd hpj5;clear hto htb9 hq5 htt hpj5;gi_wp2_with fail;refine ⟨trivial,?_⟩;refine (callsIn_wide.2 HSND.out).mono ?_;rintro e wa ⟨rfl,htw,hta⟩;have htba:=HTB9.out.read htw hta;have hS:=HS.out;have hno4 : ∀ k,w5.heap.size ≤ k → ¬ PJ F p f4 k:=fun k hk e=>by have:=HPJ.out k e;omega
  have hno5 : ∀ k,w5.heap.size ≤ k → k < W.heap.size → ¬ PJ F p f5 k:=fun k hk hk2 e=>by
   rcases HPJ5.out k e with e | e
   ·exact hno4 k hk e
   ·omega
  have na:=keepB hta (hno5 _ (Nat.le_refl _) (by omega)) (keepB HTT9.out (hno4 _ (Nat.le_refl _)) HN8.out);have hDl : D < W.heap.size:=lt_of_heap HK.out;have ka:=keepB hta (hno5 _ (by omega) hDl) (keepB HTT9.out (hno4 _ (by omega)) HK.out);have ra:=(htba.below.block _ (by have:=HS1.out;omega)).trans HR1.out;have hLEFT:=left_tw htba.tw;have hPGS:=pages_tw htba.tw;rw [HQ5.out] at hLEFT hPGS;have HLEFT:=Hd hLEFT;have HPGS:=Hd hPGS;have HTBA:=Hd htba;have cna:=(cell_of_row _ _ 0 _ _ _ na).trans rfl;have cra:=(cell_of_row _ _ 0 _ _ _ ra).trans rfl;have fra:=frozen_p ra 0;have ht9:=turned_one wa w.heap.size 0 (.bool true);have hwD : w.heap.size ≠ D:=by have:=HTB5.out.base;have:=HS1.out;omega
  have HK6 : Hid ((wa.setCell ⟨w.heap.size,0,none⟩ (.bool true)).heap[D]? = some (.deferred (some []))):=Hd (keepB ht9 (fun e=>hwD e.symm) ka);have HR6 : Hid ((wa.setCell ⟨w.heap.size,0,none⟩ (.bool true)).heap[w.heap.size]? = some (bolO true)):=Hd (head_setCell ra _);have HE : Hid (∀ o,Below w.heap.size w ((wa.setCell ⟨w.heap.size,0,none⟩ (.bool true)).putObj D o)):=Hd fun o=>by have h1 : Below w.heap.size w wa:=HB1.out.trans (htba.below.mono HB1.out.size);have h2 : Turned (fun k=>k = w.heap.size ∨ k = D) wa ((wa.setCell ⟨w.heap.size,0,none⟩ (.bool true)).putObj D o):=(ht9.mono fun k _ e=>.inl e).trans (turned_put _ D o (.inr rfl));refine h1.trans (h2.below h1.size fun k e=>?_);have:=HTB5.out.base;have:=HS1.out;omega
  clear htw hta htba hS hno4 hno5 na hDl ka ra hLEFT hPGS ht9;gi_wp2_with fail;refine ⟨trivial,?_⟩;refine (callsIn_wide.2 HLEFT.out).mono ?_;rintro e wb ⟨left,rfl,eb,_,hlt,_⟩;obtain rfl : wa = wb:=eb.symm;have hl12 : left < 12:=hlt (by simp)
  clear hlt;gi_wp2_with fail;refine ⟨trivial,?_⟩;refine (callsIn_wide.2 HPGS.out).mono ?_;rintro e wb ⟨rfl,eb⟩;obtain rfl : wa = wb:=eb.symm;have hd : decide ((left : Int) < ((12 : Nat) : Int)) = true:=decide_eq_true (by omega)
  have hd2 : decide ((left : Int) < 12) = true:=decide_eq_true (by omega);have hd3 : decide (left < 12) = true:=decide_eq_true hl12;gi_wp2_with fail;refine ⟨by simp,.inl ⟨_,_,rfl,run_takeDeferred HK6.out,?_⟩⟩;exact ⟨_,results_cell1 rfl rfl (load_bool ((World.putObj_heap_other hwD).trans HR6.out)),rfl,HE.out _⟩
end
section
def hiOf (high : List UInt8) : List En → List UInt8
 | []=>high
 | y :: _=>y.key
def Between (lo hi : List UInt8) (l : List KV) : Prop:=∀ x ∈ l,¬ x.1 < lo∧(hi = [] ∨ x.1 < hi)
section
variable {low high : List UInt8} {rec : Int → List UInt8 → List UInt8 → SoS → Int × SoS}
theorem soundRow_hi (leaf : Bool) (i : Nat) (x : En) (r : List En) (s : SoS) : soundRow leaf low high rec i (x :: r) s =
  if (leaf = true ∨ 0 < i)∧(x.key < low ∨ (high ≠ []∧¬ x.key < high)) then (103,s)
  else if leaf then soundRow leaf low high rec (i + 1) r s
  else if (rec x.kid (if 0 < i then x.key else low) (hiOf high r) s).1 ≠ 0 then rec x.kid (if 0 < i then x.key else low) (hiOf high r) s
  else soundRow leaf low high rec (i + 1) r (rec x.kid (if 0 < i then x.key else low) (hiOf high r) s).2:=by cases r <;> rfl
theorem soundRow_on {leaf : Bool} {i : Nat} {x : En} {r : List En} {s : SoS} (h : (soundRow leaf low high rec i (x :: r) s).1 = 0) :
  ((leaf = true ∨ 0 < i) → ¬ x.key < low∧(high = [] ∨ x.key < high)) ∧
  (leaf = true → (soundRow leaf low high rec (i + 1) r s).1 = 0) ∧
  (leaf = false → (rec x.kid (if 0 < i then x.key else low) (hiOf high r) s).1 = 0∧(soundRow leaf low high rec (i + 1) r (rec x.kid (if 0 < i then x.key else low) (hiOf high r) s).2).1 = 0):=by
 rw [soundRow_hi] at h;split at h
 ·exact absurd h (by decide : (103 : Int) ≠ 0)
 ·rename_i hc
  refine ⟨fun hl=>⟨fun hlt=>hc ⟨hl,.inl hlt⟩,?_⟩,fun hl=>?_,fun hl=>?_⟩
  ·by_cases hh : high = []
   ·exact .inl hh
   ·exact .inr (Classical.byContradiction fun hk=>hc ⟨hl,.inr ⟨hh,hk⟩⟩)
  ·rw [if_pos hl] at h;exact h
  ·rw [if_neg (fun e=>by rw [hl] at e;cases e)] at h
   obtain ⟨X,hX⟩ : ∃ X,X = rec x.kid (if 0 < i then x.key else low) (hiOf high r) s:=⟨_,rfl⟩
   rw [← hX] at h ⊢;by_cases hr : X.1 = 0
   ·rw [if_neg (fun e=>e hr)] at h;exact ⟨hr,h⟩
   ·rw [if_pos hr] at h;exact absurd h hr
theorem soundRow_in {i : Nat} : ∀ (l : List En) {s : SoS},(soundRow true low high rec i l s).1 = 0 → Between low high (l.map enKV)
 | [],_,_=>fun x hx=>by cases hx
 | e :: r,s,h=>by
  obtain ⟨h1,h2,_⟩:=soundRow_on h;intro x hx;rcases List.mem_cons.1 hx with rfl | hx
  ·exact h1 (.inl rfl)
  ·exact soundRow_in r (h2 rfl) x hx
theorem row_between {wrec : Int → Int → (List KV × Bool) × Int} (hrec : ∀ kid lo hi s,(rec kid lo hi s).1 = 0 → ∀ left,Rise (wrec kid left).1.1∧Between lo hi (wrec kid left).1.1) :
  ∀ (r : List En) (x : En) (i : Nat) (s : SoS) (left : Int),(∀ y ∈ r,y.key ≠ []) → (r.map (·.key)).Pairwise (· < ·) → (0 < i → ∀ y ∈ r,x.key < y.key) → (soundRow false low high rec i (x :: r) s).1 = 0 →
  Rise (rowN false [] wrec (x :: r) left).1.1∧Between (if 0 < i then x.key else low) high (rowN false [] wrec (x :: r) left).1.1
 | [],x,i,s,left,_,_,_,h=>by
  obtain ⟨_,_,h3⟩:=soundRow_on h;obtain ⟨h4,_⟩:=h3 rfl;obtain ⟨a,b⟩:=hrec _ _ _ _ h4 left;rw [rowN,if_neg (fun e=>by cases e)];split
  ·exact ⟨a,b⟩
  ·simp only [rowN,List.append_nil];exact ⟨a,b⟩
 | y :: r,x,i,s,left,hne,hp,hx,h=>by
  obtain ⟨_,_,h3⟩:=soundRow_on h;obtain ⟨h4,h5⟩:=h3 rfl;obtain ⟨a,b⟩:=hrec _ _ _ _ h4 left;obtain ⟨h6,_,_⟩:=soundRow_on h5;obtain ⟨h7,h8⟩:=h6 (.inr (Nat.succ_pos i));rw [List.map_cons] at hp;obtain ⟨hp1,hp2⟩:=List.pairwise_cons.1 hp;obtain ⟨c,d⟩:=row_between hrec r y (i + 1) _ (wrec x.kid left).2 (fun z hz=>hne z (List.mem_cons_of_mem _ hz)) hp2 (fun _ z hz=>hp1 _ (List.mem_map_of_mem hz)) h5;rw [if_pos (Nat.succ_pos i)] at d;have hA : ∀ z ∈ (wrec x.kid left).1.1,¬ z.1 < (if 0 < i then x.key else low)∧z.1 < y.key:=fun z hz=>⟨(b z hz).1,(b z hz).2.resolve_left (hne y (List.mem_cons_self ..))⟩
  have hA2 : Between (if 0 < i then x.key else low) high (wrec x.kid left).1.1:=fun z hz=>⟨(hA z hz).1,h8.imp id fun e=>List.lt_trans (hA z hz).2 e⟩
  rw [rowN,if_neg (fun e=>by cases e)];split
  ·exact ⟨a,hA2⟩
  ·refine ⟨List.pairwise_append.2 ⟨a,c,fun z hz z2 hz2=>kv_lt_of_lt_of_not (hA z hz).2 (d z2 hz2).1⟩,fun z hz=>?_⟩
   rcases List.mem_append.1 hz with hz | hz
   ·exact hA2 z hz
   ·refine ⟨fun hlt=>?_,(d z hz).2⟩
    by_cases hi : 0 < i
    ·rw [if_pos hi] at hlt;exact (d z hz).1 (List.lt_trans hlt (hx hi y (List.mem_cons_self ..)))
    ·rw [if_neg hi] at hlt;exact (d z hz).1 (kv_lt_of_lt_of_not hlt h7)
theorem soundRow_kid {i : Nat} (hm : ∀ kid lo hi (s : SoS),s.met ≤ (rec kid lo hi s).2.met) : ∀ (l : List En) {s : SoS},(soundRow false low high rec i l s).1 = 0 → ∀ x ∈ l,∃ lo hi s',(rec x.kid lo hi s').1 = 0∧s.met ≤ s'.met
 | [],_,_,x,hx=>by cases hx
 | e :: r,s,h,x,hx=>by
  obtain ⟨_,_,h3⟩:=soundRow_on h;obtain ⟨h4,h5⟩:=h3 rfl;rcases List.mem_cons.1 hx with rfl | hx
  ·exact ⟨_,_,_,h4,Int.le_refl _⟩
  ·obtain ⟨lo,hi,s',a,b⟩:=soundRow_kid hm r h5 x hx;exact ⟨lo,hi,s',a,Int.le_trans (hm _ _ _ _) b⟩
theorem soundRow_met {leaf : Bool} (hm : ∀ kid lo hi (s : SoS),s.met ≤ (rec kid lo hi s).2.met) : ∀ (l : List En) (i : Nat) (s : SoS),s.met ≤ (soundRow leaf low high rec i l s).2.met
 | [],_,s=>Int.le_refl _
 | e :: r,i,s=>by
  rw [soundRow_hi];obtain ⟨X,hX⟩ : ∃ X,X = rec e.kid (if 0 < i then e.key else low) (hiOf high r) s:=⟨_,rfl⟩
  have h1 : s.met ≤ X.2.met:=by rw [hX];exact hm _ _ _ _
  rw [← hX];split
  ·exact Int.le_refl _
  ·split
   ·exact soundRow_met hm r _ _
   ·split
    ·exact h1
    ·exact Int.le_trans h1 (soundRow_met hm r _ _)
end
theorem rngL_nil (l : List KV) : rngL [] [] l = l:=by
 unfold rngL;rw [List.filter_eq_self];intro x _;have : ¬ x.1 < []:=List.not_lt_nil _
 simp [this]
theorem nil_lt {k : List UInt8} (h : k ≠ []) : [] < k:=by
 cases k with
 | nil=>exact absurd rfl h
 | cons a r=>exact List.nil_lt_cons ..
theorem lt_ne {a k : List UInt8} (h : a < k) : k ≠ []:=fun e=>by rw [e] at h;exact absurd h (List.not_lt_nil _)
section
variable {R : Rp}
theorem Rp.soundN_met : ∀ (g : Nat) (page : Int) (low high : List UInt8) (top : Bool) (s : SoS),s.met ≤ (R.soundN g page low high top s).2.met
 | 0,_,_,_,_,s=>Int.le_refl _
 | g + 1,page,low,high,top,s=>by
  rw [Rp.soundN];split
  ·exact Int.le_refl _
  ·split
   ·dsimp only;omega
   ·split
    ·dsimp only;omega
    ·exact Int.le_trans (by dsimp only;omega) (soundRow_met (fun kid lo hi s=>Rp.soundN_met g kid lo hi false s) _ _ _)
theorem Rp.soundN_step {g : Nat} {page : Int} {low high : List UInt8} {top : Bool} {s : SoS} (h : (R.soundN g page low high top s).1 = 0) :
  ∃ k n,g = k + 1∧(R.load page).1 = some n∧s.met + 1 ≤ (R.pages.length : Int)∧(n.leaf = false → 2 ≤ n.l.length)∧∃ bt,(soundRow n.leaf low high (fun kid lo hi s=>R.soundN k kid lo hi false s) 0 n.l ⟨s.met + 1,bt⟩).1 = 0:=by
 cases g with
 | zero=>exact absurd h (by rw [Rp.soundN];exact (by decide : (103 : Int) ≠ 0))
 | succ k =>
  rw [Rp.soundN] at h;obtain ⟨o,e⟩ : ∃ o,o = R.load page:=⟨_,rfl⟩;rw [← e] at h;rcases o with ⟨_ | n,e2⟩
  ·have e3 : e2 = 0:=h
   exfalso;unfold Rp.load at e;split at e
   ·rename_i hr;injection e with _ e;rw [e3] at e;exact hr e.symm
   ·split at e
    ·injection e with _ e;rw [e3] at e;exact absurd e (by decide)
    ·injection e with e _;cases e
  ·dsimp only at h
   split at h
   ·exact absurd h (by decide : (103 : Int) ≠ 0)
   ·rename_i hc
    split at h
    ·exact absurd h (by decide : (103 : Int) ≠ 0)
    ·exact ⟨k,n,rfl,by rw [← e],by omega,fun hl=>by
      apply Classical.byContradiction;intro hk
      exact hc (.inr (.inr (.inr ⟨hl,by omega⟩))),_,h⟩
theorem load_some {page : Int} {n : Nd} (h : (R.load page).1 = some n) : R.load page = (some n,(R.load page).2):=by rw [← h]
theorem Rp.sound_walk (hg : R.good) : ∀ (g : Nat) {page : Int} {low high : List UInt8} {top : Bool} {s : SoS} (left : Int),(R.soundN g page low high top s).1 = 0 → Rise (R.walkN [] [] g page left).1.1∧Between low high (R.walkN [] [] g page left).1.1
 | 0,page,low,high,top,s,left,h=>absurd h (by rw [Rp.soundN];exact (by decide : (103 : Int) ≠ 0))
 | g + 1,page,low,high,top,s,left,h=>by
  obtain ⟨k,n,hk,hl,_,h2,bt,hs⟩:=Rp.soundN_step h;obtain rfl : g = k:=by omega
  have hn : ∀ (b : Bool) (z : Int),Rise ((([],b),z) : (List KV × Bool) × Int).1.1∧Between low high ((([],b),z) : (List KV × Bool) × Int).1.1:=fun _ _=>⟨List.Pairwise.nil,fun x hx=>by cases hx⟩;have hfit : n.fit:=hg.load hl;rw [Rp.walkN,load_some hl];dsimp only;split
  ·exact hn _ _
  ·obtain ⟨leaf,l⟩:=n
   cases leaf with
   | true =>
    have h0 : (Nd.behind ⟨true,l⟩ []).1 = 0:=by
     unfold Nd.behind;rw [if_pos rfl]
     cases l with
     | nil=>rfl
     | cons x r =>
      rw [List.takeWhile_cons,if_neg (by simp [List.not_lt_nil])];rfl
    rw [h0,List.drop_zero];have hw:=leaf_walk (from_:=[]) (to_:=[]) (Rp.walkN R [] [] g) (left - 1) l (rise_keys.2 (fit_rise hfit rfl)) (fun x _=>List.not_lt_nil _)
    rw [hw.eq,rngL_nil];exact ⟨rise_keys.2 (fit_rise hfit rfl),soundRow_in l hs⟩
   | false =>
    have hsrt:=hfit.srt;unfold Srt at hsrt;rw [if_neg (fun e=>by cases e)] at hsrt;have hrec : ∀ kid lo hi s,(R.soundN g kid lo hi false s).1 = 0 → ∀ left,Rise (R.walkN [] [] g kid left).1.1∧Between lo hi (R.walkN [] [] g kid left).1.1:=fun kid lo hi s h left=>Rp.sound_walk hg g left h;have h2:=h2 rfl;rcases l with _ | ⟨x,_ | ⟨y,r⟩⟩
    ·simp at h2
    ·simp at h2
    ·dsimp only [List.tail_cons] at hsrt
     rw [List.map_cons] at hsrt;obtain ⟨p1,p2⟩:=List.pairwise_cons.1 hsrt;have hr : ∀ z ∈ r,z.key ≠ []:=fun z hz=>lt_ne (p1 _ (List.mem_map_of_mem hz))
     by_cases hy : y.key = []
     ·have h0 : (Nd.behind ⟨false,x :: y :: r⟩ []).1 = 1:=by
       unfold Nd.behind;rw [if_neg (fun e=>by cases e)];dsimp only [List.tail_cons];rw [List.takeWhile_cons,if_pos (by rw [hy];decide)]
       cases r with
       | nil=>rfl
       | cons z r =>
        rw [List.takeWhile_cons,if_neg (by simp [nil_lt (hr z (List.mem_cons_self ..))])];rfl
      rw [h0];obtain ⟨_,_,h3⟩:=soundRow_on hs;obtain ⟨_,h5⟩:=h3 rfl;obtain ⟨h6,_,_⟩:=soundRow_on h5;obtain ⟨h7,_⟩:=h6 (.inr (by decide));obtain ⟨a,b⟩:=row_between hrec r y 1 _ (left - 1) hr p2 (fun _ z hz=>p1 _ (List.mem_map_of_mem hz)) h5;refine ⟨a,fun z hz=>⟨fun hlt=>h7 ?_,(b z hz).2⟩⟩;rw [hy];exact nil_lt (lt_ne hlt)
     ·have h0 : (Nd.behind ⟨false,x :: y :: r⟩ []).1 = 0:=by
       unfold Nd.behind;rw [if_neg (fun e=>by cases e)];dsimp only [List.tail_cons];rw [List.takeWhile_cons,if_neg (by simp [nil_lt hy])];rfl
      rw [h0,List.drop_zero];exact row_between hrec (y :: r) x 0 _ (left - 1) (fun z hz=>(List.mem_cons.1 hz).elim (fun e=>by rw [e];exact hy) (hr z)) (by rw [List.map_cons];exact hsrt) (fun h=>absurd h (by decide)) hs
theorem Rp.sound_get (key : List UInt8) : ∀ (f g : Nat) {page : Int} {low high : List UInt8} {top : Bool} {s : SoS},(R.soundN g page low high top s).1 = 0 → (R.pages.length : Int) ≤ s.met + f → (R.getN key f page).2 = 0
 | 0,g,page,low,high,top,s,h,hf=>by obtain ⟨k,n,hk,hl,h1,_⟩:=Rp.soundN_step h;omega
 | f + 1,g,page,low,high,top,s,h,hf=>by
  obtain ⟨k,n,hk,hl,h1,h2,bt,hs⟩:=Rp.soundN_step h;rw [Rp.getN];split
  ·rfl
  ·rw [load_some hl]
   dsimp only
   cases hleaf : n.leaf with
   | true =>
    rw [if_pos rfl]
    split <;> rfl
   | false =>
    rw [if_neg (fun e=>by cases e)];rw [hleaf] at hs;have hb:=behind_lt (n:=n) (fun e=>by have:=h2 hleaf;rw [e] at this;simp at this) hleaf key
    obtain ⟨lo,hi,s',a,b⟩:=soundRow_kid (fun kid lo hi s=>Rp.soundN_met k kid lo hi false s) n.l hs _ (List.getElem_mem hb);have e : kidAt n.l (n.behind key).1 = (n.l[(n.behind key).1]).kid:=by unfold kidAt;rw [List.getElem?_eq_getElem hb];rfl
    rw [e];dsimp only at b;exact Rp.sound_get key f k a (by omega)
theorem Rp.getN_none (key : List UInt8) : ∀ (f : Nat) (page : Int),(R.getN key f page).1.2 = false → (R.getN key f page).1.1 = []
 | 0,_,_=>rfl
 | f + 1,page,h=>by
  rw [Rp.getN] at h ⊢;by_cases hp : page < 0
  ·rw [if_pos hp]
  ·rw [if_neg hp] at h ⊢
   obtain ⟨o,e⟩ : ∃ o,o = R.load page:=⟨_,rfl⟩;rw [← e] at h ⊢;rcases o with ⟨_ | n,e2⟩
   ·rfl
   ·dsimp only at h ⊢
    by_cases hl : n.leaf = true
    ·rw [if_pos hl] at h ⊢
     by_cases hb : (n.behind key).2 = true
     ·rw [if_pos hb] at h;cases h
     ·rw [if_neg hb]
    ·rw [if_neg hl] at h ⊢;exact Rp.getN_none key f _ h
theorem Rp.sound_ok (hg : R.good) (hm : R.pages.length ≤ 40) (h : R.sound = 0) : Rise (R.rangeN [] [])∧∀ key,key.length ≤ 80 → (R.get key).2 = 0:=by
 unfold Rp.rangeN Rp.get;by_cases hr : 0 ≤ R.root
 ·have hs : (R.soundN 42 R.root [] [] true ⟨0,-1⟩).1 = 0:=by
   unfold Rp.sound at h;rw [if_pos hr] at h;split at h
   ·rename_i hc;exact absurd h hc
   ·rename_i hc;exact Decidable.not_not.1 hc
  rw [if_pos hr];exact ⟨(Rp.sound_walk hg 42 _ hs).1,fun key hk=>by rw [if_neg (by omega)];exact Rp.sound_get key 40 42 hs (by dsimp only;omega)⟩
 ·rw [if_neg hr];exact ⟨List.Pairwise.nil,fun key hk=>by rw [if_neg (by omega),Rp.getN,if_pos (by omega)]⟩
theorem Rp.get_none (key : List UInt8) (h : (R.get key).1.2 = false) : (R.get key).1.1 = []:=by
 unfold Rp.get at h ⊢;split
 ·rfl
 ·rename_i hk;rw [if_neg hk] at h;exact Rp.getN_none key 40 _ h
end
end
end Go.Proofs.YtofibccplbnaiaaDoor
