/- The card CardBtreeRaw: for every input the law answers true, and what came in reads as it did; with what it needs ahead. -/
import Derived.Test.YtofibccplbnaiaaDoorR22
import Derived.Test.YtofibccplbnaiaaDoorR21
import Derived.Test.YtofibccplbnaiaaDoorR1
import Derived.Test.YtofibccplbnaiaaDoorR4
import Derived.Deep.Cut
import Derived.Deep.DeepCutAuto
import Derived.Deep.CutBlock
import Derived.Deep.CutRange
import Derived.Test.YtofibccplbnaiaaDoorCards
import Derived.Test.YtofibccplbnaiaaDoorTie
set_option linter.unusedVariables false
set_option linter.unusedSimpArgs false
set_option maxRecDepth 100000
namespace Go.Proofs.YtofibccplbnaiaaDoor
section
open Go.RowKit Go.Shelf Go.Lib
attribute [local go_sem] Oper.semAt_some
def rdBytes : Rd (List UInt8):=rdByte.slice (by decide) 32 Tryd.underlying32 (by kernel_rfl)
abbrev ernO (s : Int) : Obj:=.cells #[.int .i64 s] 29 (0,0)
structure RB (N : Nat) (w0 : World) (F : Ft) (p : Nat) (R : Rp) (w : World) (f : Pf) (tb : Nat) : Prop where
 ex : ∃ n J seq B,Tr n J seq B w F p f R tb
 own : ∀ k,PJ F p f k → N ≤ k
 tbN : N ≤ tb
 below : Below N w0 w
 base : N ≤ w.heap.size
section
variable {N : Nat} {w0 w w' : World} {F : Ft} {p : Nat} {R R' : Rp} {f : Pf} {tb : Nat}
theorem RB.step (h : RB N w0 F p R w f tb) (hb : Below w.heap.size w w') : RB N w0 F p R w' f tb:=by obtain ⟨n,J,seq,B,t⟩:=h.ex;exact ⟨⟨n,J,seq,B,t.step hb⟩,h.own,h.tbN,h.below.trans (hb.mono h.base),Nat.le_trans h.base hb.size⟩
theorem RB.to {n : Nat} {J : Jn} {seq : Int} {B : List (List UInt8)} (h : RB N w0 F p R w f tb) (h2 : TrTo n J seq B w F p f w' R' tb) : ∃ f',f'.q = f.q∧RB N w0 F p R' w' f' tb:=by
 obtain ⟨f',a,b,c,d⟩:=h2;refine ⟨f',b,⟨n,J,seq,B,a⟩,fun k hk=>?_,h.tbN,h.below.trans (d.below h.base h.own),Nat.le_trans h.base d.size⟩;rcases hk with e | e
 ·exact h.own k (.inl e)
 ·rcases c k e with e | e
  ·exact h.own k (.inr e)
  ·exact Nat.le_trans h.base e
theorem RB.read {n : Nat} {J : Jn} {seq : Int} {B : List (List UInt8)} (h : RB N w0 F p R w f tb) (h2 : Tr n J seq B w' F p f R tb) (d : Turned (PJ F p f) w w') : RB N w0 F p R w' f tb :=
 ⟨⟨n,J,seq,B,h2⟩,h.own,h.tbN,h.below.trans (d.below h.base h.own),Nat.le_trans h.base d.size⟩
def Raws (k : Nat) (R : Rp) : Prop:=R.pages.length = 18∧freeRN R.pages + k = 18
theorem alloc_rb (h : RB N w0 F p R w f tb) {k : Nat} (hk : Raws k R) (hlt : k < 18) : Calls Tryd.prog 7 #[qptr f.q] w fun e w'=>∃ pg : Int,e = .returned (.tuple #[.int .i64 pg,.int .i64 0])∧∃ f' R1,f'.q = f.q∧RB N w0 F p R1 w' f' tb ∧
  (-9223372036854775808 ≤ pg∧pg ≤ 9223372036854775807)∧∀ b : List UInt8,b.length = 896 → (R1.write pg b).1 = 0∧Raws (k + 1) (R1.write pg b).2:=by
 obtain ⟨n,J,seq,B,t⟩:=h.ex;have hg:=t.lp.good
 have hle:=Rp.alloc_le2 (R:=R) hg.few;refine (lp_alloc t.lp).mono ?_;rintro e w' ⟨rfl,ht⟩;obtain ⟨f',a,b⟩:=h.to (t.to ht);obtain ⟨pg,e1,_⟩:=fr_put hg (by have:=hk.2;omega) z896 z896_length;refine ⟨pg,by rw [e1],f',_,a,b,by rw [e1] at hle;dsimp only at hle;omega,fun c hc=>?_⟩;obtain ⟨pg2,e2,e3,e4,_⟩:=fr_put hg (by have:=hk.2;omega) c hc;obtain rfl : pg = pg2:=by rw [e1] at e2;exact congrArg Prod.fst e2
 have h1:=e4.count;have h2:=e4.len;simp only [List.length_singleton,List.length_nil] at h1;exact ⟨e3,h2.trans hk.1,by have:=hk.2;omega⟩
theorem write_rb (h : RB N w0 F p R w f tb) {pg : Int} (hp : -9223372036854775808 ≤ pg∧pg ≤ 9223372036854775807) {v : Value} {b : List UInt8} (hv : IsB w v b) (he : (R.write pg b).1 = 0) :
  Calls Tryd.prog 8 #[qptr f.q,.int .i64 pg,v] w fun e w'=>e = .returned (.int .i64 0)∧∃ f',f'.q = f.q∧RB N w0 F p (R.write pg b).2 w' f' tb:=by
 obtain ⟨n,J,seq,B,t⟩:=h.ex;refine (lp_write t.lp pg hp.1 hp.2 v b hv).mono ?_;rintro e w' ⟨rfl,ht⟩;exact ⟨by rw [he],h.to (t.to ht)⟩
theorem pages_rb (h : RB N w0 F p R w f tb) {k : Nat} (hk : Raws k R) : Calls Tryd.prog 6 #[qptr f.q] w fun e w'=>e = .returned (.int .i64 18)∧w' = w:=by obtain ⟨n,J,seq,B,t⟩:=h.ex;refine (lp_pages t.lp).mono ?_;rintro e w' ⟨rfl,rfl⟩;exact ⟨by rw [hk.1];rfl,rfl⟩
theorem setroot_rb (h : RB N w0 F p R w f tb) (root : Int) (hr : -9223372036854775808 ≤ root∧root ≤ 9223372036854775807) : Calls Tryd.prog 9 #[qptr f.q,.int .i64 root] w fun e w'=>(∃ z : Int,e = .returned (.int .i64 z))∧∃ f',f'.q = f.q∧RB N w0 F p (R.setRoot root).2 w' f' tb:=by obtain ⟨n,J,seq,B,t⟩:=h.ex;refine (lp_setRoot t.lp root hr.1 hr.2).mono ?_;rintro e w' ⟨rfl,ht⟩;exact ⟨⟨_,rfl⟩,h.to (t.to ht)⟩
theorem setRoot_len (R : Rp) (x : Int) : (R.setRoot x).2.pages.length = R.pages.length:=by unfold Rp.setRoot;split <;> rfl
def Cells2 (r D : Nat) (F : Ft) (p : Nat) (f : Pf) (W : World) : Prop:=W.heap[r]? = some (bolO false)∧W.heap[D]? = some (.deferred (some []))∧¬ PJ F p f r∧¬ PJ F p f D
theorem Cells2.to {r D : Nat} {f' : Pf} (h : Cells2 r D F p f w) (ht : Turned (PJ F p f) w w') (hk : ∀ k,PT f' k → PT f k ∨ w.heap.size ≤ k) : Cells2 r D F p f' w':=by
 obtain ⟨h1,h2,h3,h4⟩:=h;have hx : ∀ k,¬ PJ F p f k → k < w.heap.size → ¬ PJ F p f' k:=fun k a b e=>e.elim (fun e=>a (.inl e)) fun e=>(hk k e).elim (fun e=>a (.inr e)) fun e=>by omega
 exact ⟨keepB ht h3 h1,keepB ht h4 h2,hx _ h3 (lt_of_heap h1),hx _ h4 (lt_of_heap h2)⟩
theorem RB.to2 {n : Nat} {J : Jn} {seq : Int} {B : List (List UInt8)} {r D : Nat} (h : RB N w0 F p R w f tb) (hc : Cells2 r D F p f w) (h2 : TrTo n J seq B w F p f w' R' tb) : ∃ f',f'.q = f.q∧RB N w0 F p R' w' f' tb∧Cells2 r D F p f' w':=by
 obtain ⟨f1,a,b,c,d⟩:=id h2;obtain ⟨f',e,g⟩:=h.to ⟨f1,a,b,c,d⟩;refine ⟨f1,b,⟨⟨n,J,seq,B,a⟩,fun k hk=>?_,h.tbN,h.below.trans (d.below h.base h.own),Nat.le_trans h.base d.size⟩,hc.to d c⟩;rcases hk with e | e
 ·exact h.own k (.inl e)
 ·rcases c k e with e | e
  ·exact h.own k (.inr e)
  ·exact Nat.le_trans h.base e
def lastK (l : List KV) : List UInt8:=(l.getLast?.map (·.1)).getD []
theorem lastK_snoc (l : List KV) (x : KV) : lastK (l ++ [x]) = x.1:=by unfold lastK;simp
theorem lastK_lt {l xs : List KV} {x : KV} (hr : Rise xs) (hp : l ++ [x] <+: xs) (h0 : l ≠ []) : lastK l < x.1:=by
 obtain ⟨t,rfl⟩:=hp;have hr2:=(List.pairwise_append.1 (List.pairwise_append.1 hr).1).2.2
 have e : lastK l = (l.getLast h0).1:=by unfold lastK;rw [List.getLast?_eq_some_getLast h0];rfl
 rw [e];exact hr2 _ (List.getLast_mem h0) x (by simp)
end
set_option maxHeartbeats 32000000 in
theorem braw_walk (w : World) (hn : Nib w) (v : Value) (ps : List (List UInt8)) (hv : IsBs w v ps) (root : Int) (hr1 : -9223372036854775808 ≤ root) (hr2 : root ≤ 9223372036854775807) (key : List UInt8) (hkl : key.length ≤ 9223372036854775807) :
  Calls Tryd.prog 3 #[v,.int .i64 root,.string ⟨key.toArray⟩] w fun e w'=>e = .returned (.bool true)∧Below w.heap.size w w':=by
 obtain ⟨a,cap,rfl,hl1,hl2⟩:=hv.form;unfold maxLen at hl2;obtain ⟨W0,hW0⟩ : ∃ x,x = w.alloc (bolO false):=⟨_,rfl⟩;have hb0 : Below w.heap.size w W0:=by rw [hW0];exact nodeAlloc w _
 have hs0 : W0.heap.size = w.heap.size + 1:=by rw [hW0];simp
 have r0 : W0.heap[w.heap.size]? = some (bolO false):=by rw [hW0];exact heap_alloc_new w _
 have HSH:=Hd (shown10_any W0 (hn.below hb0));have HV:=Hd (hv.below hb0);have HN:=Hd (hn.below hb0);have HW0:=Hd hW0;have HB0:=Hd hb0;have HS0:=Hd hs0;have HR0:=Hd r0;have HRT:=Hd (And.intro hr1 hr2);have HKL:=Hd hkl;clear hv hn hW0 hb0 hs0 r0 hr1 hr2 hkl;refine callsIn_wide (n:=3).1 ?_;refine callsIn_of_wp_marks Tryd.func3 rfl trivial ?_ rfl;simp only [Tryd.ntmps3,List.size_toArray,List.length_cons,List.length_nil,Nat.reduceAdd,Nat.reduceSub,Array.replicate_succ,Array.replicate_zero,List.push_toArray,List.append_toArray,List.nil_append,List.cons_append];refine wpIn_wide.2 ?_;go_wp2_with fail;rw [← HW0.out];refine HSH.out.mono ?_;rintro e w1 ⟨rfl,hb1⟩;have HBG:=Hd (begun10_any w1 (HN.out.below hb1) 300 (by omega) (by omega));have HB1:=Hd hb1;clear hb1;go_wp2_with fail;refine HBG.out.mono ?_;rintro e w2 ⟨F,p,f,tb,J,seq,B,rfl,hT,hb2,ho2,htb2,_,_,_⟩;have HT0 : Hid (RB W0.heap.size W0 F p (Rp.begun ((300 - 2) / 2)) w2 f tb):=Hd ⟨⟨_,_,_,_,hT⟩,fun k hk=>Nat.le_trans HB1.out.size (ho2 k hk),Nat.le_trans HB1.out.size htb2,HB1.out.trans (hb2.mono HB1.out.size),Nat.le_trans HB1.out.size hb2.size⟩;have HRW : Hid (Raws 0 (Rp.begun ((300 - 2) / 2))∧(Rp.begun ((300 - 2) / 2)).root = -1):=Hd ⟨⟨by decide,by decide⟩,rfl⟩;generalize Rp.begun ((300 - 2) / 2) = R0 at *;clear hT hb2 ho2 htb2;go_upto_block 0 with fail
 go_cut [] from 10 to 66 (fun wx=>∃ (f' : Pf) (R : Rp),f'.q = f.q∧R.pages.length = 18∧RB W0.heap.size W0 F p R wx f' tb)
 case first =>
  go_wp2_with fail;go_loopw [10] (fun i wr=>∃ (k : Nat) (f' : Pf) (R : Rp),k ≤ ps.length∧k ≤ 18∧i = .int .i64 (k : Int)∧f'.q = f.q∧Raws k R∧RB W0.heap.size W0 F p R wr f' tb) (fun i _=>ps.length - (intOf i).toNat)
  case atStart=>exact ⟨0,f,R0,Nat.zero_le _,Nat.zero_le _,rfl,rfl,HRW.out.1,HT0.out⟩
  case round =>
   obtain ⟨k,f',R,hk,hk2,rfl,hq,hrw,hrb⟩:=hrel;have HQ:=Hd hq
   have HRK:=Hd hrw;have HRB:=Hd hrb;clear hq hrw hrb HT0 HRW;by_cases hlt : k < ps.length
   ·have hd : decide ((k : Int) < (ps.length : Int)) = true:=decide_eq_true (by omega)
    have hdn : decide (k < ps.length) = true:=decide_eq_true hlt;have hpg:=pages_rb HRB.out HRK.out;rw [HQ.out] at hpg;have HPG:=Hd hpg;clear hpg;go_wp2_with fail;refine HPG.out.mono ?_;rintro e w3 ⟨rfl,e3⟩;obtain rfl : wr = w3:=e3.symm;by_cases h18 : k < 18
    ·have hd2 : decide ((k : Int) < 18) = true:=decide_eq_true (by omega)
     have hd3 : decide (k < 18) = true:=decide_eq_true h18;have hal:=alloc_rb HRB.out HRK.out h18;rw [HQ.out] at hal;have HAL:=Hd hal;clear hal;go_wp2_with fail;refine HAL.out.mono ?_;rintro e w4 ⟨pg,rfl,f2,R1,hq2,hrb,hpg,hwr⟩;obtain ⟨b,o,u,rfl,cu,hu⟩:=isBs_at (HV.out.below hrb.below) k hlt;have hi0 : (0 : Int) ≤ (k : Int):=by omega
     have hi1 : (k : Int) < (ps.length : Int):=by omega
     have hmk:=run_make896 w4;have hb5 : Below w4.heap.size w4 (w4.alloc (.cells (bv z896).toArray 5)):=nodeAlloc w4 _;have hr5 : RowB (w4.alloc (.cells (bv z896).toArray 5)) w4.heap.size 5 z896:=RowB.alloc _ _ _;have cu5:=cells_below hb5 _ _ cu;have hu5:=hu.below hb5;have hul : ps[k].length ≤ 9223372036854775807:=by obtain ⟨a',c',_,h1,h2,_⟩:=hu;unfold maxLen at h2;omega
     have hcp:=run_copy_row (P:=Tryd.prog) hr5 0 896 896 (by rw [z896_length];omega) hu5 32 5 3 Tryd.underlying32 info_byte' hul;have hlt9 : (ps[k].take 896).length ≤ 896:=by rw [List.length_take];omega
     have hr6:=hr5.lay 0 (ps[k].take 896) (by rw [z896_length];omega);have hb6 : Below w4.heap.size w4 ((w4.alloc (.cells (bv z896).toArray 5)).setCells w4.heap.size 0 (bv (ps[k].take 896))):=hb5.trans ((turned_cells _ _ _ _).below (B:=w4.heap.size) hb5.size fun k e=>by omega);obtain ⟨C,hC⟩ : ∃ C,C = layB z896 0 (ps[k].take 896):=⟨_,rfl⟩;rw [← hC] at hr6;have hCl : C.length = 896:=by rw [hC];exact (layB_length (by rw [z896_length];omega)).trans z896_length
     have hib:=hr6.isB 0 896 896 (by omega) (Nat.le_refl _) (by simp [maxLen]);have e9 : (C.drop 0).take 896 = C:=by rw [List.drop_zero];exact List.take_of_length_le (by omega)
     rw [e9] at hib;obtain ⟨he,hrn⟩:=hwr C hCl;have hrb6:=hrb.step hb6
     have hwt:=write_rb hrb6 hpg hib he;rw [hq2] at hwt;have HWT:=Hd hwt;have HRN:=Hd hrn;have hwr1 : IntKind.i64.wrap ((k : Int) + 1) = (k : Int) + 1:=IntWalk.i64_in _ (by omega);generalize (w4.alloc (.cells (bv z896).toArray 5)).setCells w4.heap.size 0 (bv (ps[k].take 896)) = w6 at *;clear e9 hrb hb5 hr5 hu hu5 hul hlt9 hr6 hb6 hC hCl hib he hrn hrb6 hwt hwr hq2 cu hpg HAL HPG;go_wp2_with fail;refine HWT.out.mono ?_;rintro e w7 ⟨rfl,f3,hq3,hrb7⟩;have HR7:=Hd (And.intro hrb7 hq3);clear hrb7 hq3;go_wp2_with fail;go_roundw
     case rel=>exact ⟨k + 1,f3,_,hlt,by omega,by go_num,HR7.out.2,HRN.out,HR7.out.1⟩
     case measure=>simp [intOf];omega
    ·have hd2 : decide ((k : Int) < 18) = false:=decide_eq_false (by omega);have hd3 : decide (k < 18) = false:=decide_eq_false h18;go_wp2_with fail;go_meet;exact ⟨f',R,HQ.out,HRK.out.1,HRB.out⟩
   ·have hd : decide ((k : Int) < (ps.length : Int)) = false:=decide_eq_false (by omega);have hdn : decide (k < ps.length) = false:=decide_eq_false hlt;go_wp2_with fail;go_meet;exact ⟨f',R,HQ.out,HRK.out.1,HRB.out⟩
 case rest =>
  obtain ⟨f1,R1,hq,hlen,hrb⟩:=hcut;have hsr:=setroot_rb hrb root HRT.out
  rw [hq] at hsr;have HSR:=Hd hsr
  have hl2:=(setRoot_len R1 root).trans hlen;obtain ⟨R2,hR2⟩ : ∃ R2,R2 = (R1.setRoot root).2:=⟨_,rfl⟩;rw [← hR2] at HSR hl2;have HLN:=Hd hl2;clear hq hlen hrb hsr hl2 hR2 HT0 HRW;go_wp2_with fail;refine HSR.out.mono ?_;rintro e w5 ⟨⟨z,rfl⟩,f2,hq2,hrb⟩;obtain ⟨n,J,seq,B,t⟩:=hrb.ex;have HSD:=Hd (tsound_any t);have HRB:=Hd hrb;have HQ:=Hd hq2;obtain ⟨s,hs⟩ : ∃ s,s = R2.sound:=⟨_,rfl⟩;rw [← hs] at HSD;have HSN:=Hd hs;clear t hrb hq2 hs HSR;go_wp2_with fail;refine HSD.out.mono ?_;rintro e w6 ⟨rfl,t,ht⟩;have hrb:=HRB.out.read t ht;obtain ⟨W7,hW7⟩ : ∃ x,x = ((w6.alloc (ernO s)).alloc (keyO [])).alloc (izO 0):=⟨_,rfl⟩;have hb7 : Below w6.heap.size w6 W7:=by rw [hW7];exact ((nodeAlloc w6 _).alloc (by simp) _).alloc (by simp;omega) _
  have hs7 : W7.heap.size = w6.heap.size + 3:=by rw [hW7];simp
  have e7 : W7.heap[w6.heap.size]? = some (ernO s):=by rw [hW7];exact (Below.heap_alloc _ _ _ (by simp;omega)).trans ((Below.heap_alloc _ _ _ (by simp)).trans (heap_alloc_new w6 _))
  have l7 : W7.heap[w6.heap.size + 1]? = some (keyO []):=by
   rw [hW7];have:=heap_alloc_new (w6.alloc (ernO s)) (keyO [])
   rw [World.size_alloc] at this;exact (Below.heap_alloc _ _ _ (by simp)).trans this
  have n7 : W7.heap[w6.heap.size + 2]? = some (izO 0):=by
   rw [hW7];have:=heap_alloc_new ((w6.alloc (ernO s)).alloc (keyO [])) (izO 0)
   rw [World.size_alloc,World.size_alloc] at this;exact this
  have t7:=t.step hb7;obtain ⟨w8,hw8⟩ : ∃ w8,w8 = ((W7.alloc (trpO tb)).alloc (keyO [])).alloc (keyO []):=⟨_,rfl⟩;obtain ⟨hb8,hs8,hl8,hlow8⟩:=range_begin t7 hw8
  have HRG : Hid (Calls Tryd.prog 11 #[trp tb,.string ⟨#[]⟩,.string ⟨#[]⟩] W7 fun e w'=>e = .returned (rngF W7.heap.size (W7.heap.size + 1) (W7.heap.size + 2))∧w' = w8):=Hd (by
   have:=trange_any W7 (trp tb) (.inr ⟨tb,rfl⟩) [] [];rw [← hw8] at this
   exact this)
  have HPJ : Hid (∀ k,PJ F p f2 k → k < w6.heap.size):=Hd fun k hk=>t.lp.lt hk;have HTN : Hid (tb < w6.heap.size∧¬ PJ F p f2 tb∧0 < w6.heap.size):=Hd ⟨lt_of_heap t.head,t.apart,t.lp.nib_lt⟩;have hr6:=(hrb.below.block _ (lt_of_heap HR0.out)).trans HR0.out;have HR6 : Hid (w.heap.size < w6.heap.size∧w8.heap[w.heap.size]? = some (bolO false)):=Hd ⟨lt_of_heap hr6,(hb8.block _ (by have:=lt_of_heap hr6;omega)).trans ((hb7.block _ (lt_of_heap hr6)).trans hr6)⟩;have HE8:=Hd ((hb8.block _ (lt_of_heap e7)).trans e7);have HL8:=Hd ((hb8.block _ (lt_of_heap l7)).trans l7);have HN8:=Hd ((hb8.block _ (lt_of_heap n7)).trans n7);have HB68 : Hid (Below w6.heap.size w6 w8):=Hd (hb7.trans (hb8.mono (by omega)));have HSS:=Hd (And.intro hs7 hs8);have HLR:=Hd hl8;have HLOW:=Hd hlow8;have HOWN:=Hd hrb.own;have HBW:=Hd hrb.below;have HW7:=Hd hW7;have HG:=Hd t.lp.good;clear hW7 hb7 hs7 e7 l7 n7 t7 hw8 hb8 hs8 hl8 hlow8 hr6 hrb t ht;go_wp2_with fail;rw [← HW7.out];refine HRG.out.mono ?_;rintro e w9 ⟨rfl,e9⟩;obtain rfl : w8 = w9:=e9.symm;go_upto_block 2 with fail;refine (wpIn_wide (n:=3)).1 ?_;gi_wp2_with fail;rename_i K hK0;have HKO:=Hd hK0;clear hK0
  have HFIN : Hid (∀ (D : Nat) (W : World) (a1 a2 : Value),w8.heap.size ≤ D → LiveR n J seq B F p f2 R2 tb W7.heap.size (W7.heap.size + 1) (W7.heap.size + 2) [] [] W → Turned (fun k=>PJ F p f2 k ∨ k = w6.heap.size + 1 ∨ k = w6.heap.size + 2) w8 W → W.heap[D]? = some (.deferred (some [])) → K { tmps:=#[.slice a ps.length cap,.int .i64 root,.string ⟨key.toArray⟩,undef,undef,undef,boxp w.heap.size,.bool true,qptr f.q,trp tb,u10,u11,u12,u13,u14,boxp w6.heap.size,boxp (w6.heap.size + 1),boxp (w6.heap.size + 1 + 1),u18,u19,u20,u21,u22,u23,u24,u25,u26,u27,u28,u29,u30,u31,u32,u33,u34,u35,u36,u37,u38,u39,u40,u41,u42,u43,u44,u45,u46,u47,u48,u49,u50,u51,u52,u53,u54,u55,u56,u57,u58,u59,u60,u61,u62,u63,u64,u65,u66,qptr f.q,.int .i64 root,.int .i64 z,trp tb,.int .i64 s,trp tb,rngF W7.heap.size (W7.heap.size + 1) (W7.heap.size + 2),a1,a2,undef,undef,undef,undef,undef,undef,undef,undef,undef,undef,undef,undef,undef,undef,undef,undef,undef,undef,undef,undef,undef,undef,undef,undef,undef,undef,undef,undef,undef,undef,undef,undef,undef,undef,undef,undef,undef,undef,undef,undef,undef,undef,undef,undef,undef,undef,undef,undef],defers:=[{ target:=.collected D,args:=#[] }] } W):=Hd (by
   intro D W a1 a2 hD i1 i4 hK;have hS:=HSS.out
   have hR:=HR6.out.1
   have hT4 : ∀ k,k < w6.heap.size + 1 → ¬ PJ F p f2 k → W.heap[k]? = w8.heap[k]?:=fun k h1 h2=>i4.block k (by omega) fun e=>by
    rcases e with e | e | e
    ·exact h2 e
    ·omega
    ·omega
   have hnr : ¬ PJ F p f2 w.heap.size:=fun e=>by have:=HOWN.out _ e;have:=HS0.out;omega
   have kr:=(hT4 _ (by omega) hnr).trans HR6.out.2;have ke:=(hT4 _ (by omega) (fun e=>by have:=HPJ.out _ e;omega)).trans HE8.out;have hc2 : Cells2 w.heap.size D F p f2 W:=⟨kr,hK,hnr,fun e=>by have:=HPJ.out _ e;omega⟩
   have hrb : RB W0.heap.size W0 F p R2 W f2 tb:=⟨⟨n,J,seq,B,i1.tr⟩,HOWN.out,HRB.out.tbN,HBW.out.trans ((HB68.out.mono HBW.out.size).trans (i4.below (Nat.le_trans HBW.out.size HB68.out.size) fun k e=>by
    have:=HBW.out.size;rcases e with e | e | e
    ·exact HOWN.out k e
    ·omega
    ·omega)),Nat.le_trans HBW.out.size (Nat.le_trans HB68.out.size i4.size)⟩
   have HGT:=Hd (tget_any i1.tr key HKL.out (by have:=i1.tr.lp.root_le;omega));have hne : ¬ PJ F p f2 w6.heap.size:=fun e=>by have:=HPJ.out _ e;omega
   have hcc : ((s == 0) = false ∨ ((s == 0) = true∧decide ((key.length : Int) ≤ 80) = false∧decide (key.length ≤ 80) = false) ∨ ((s == 0) = true∧decide ((key.length : Int) ≤ 80) = true∧decide (key.length ≤ 80) = true∧((R2.get key).2 != 0) = false))∧((R2.get key).1.2 = true ∨ ((R2.get key).1.2 = false∧(R2.get key).1.1 = [])):=by
    refine ⟨?_,?_⟩
    ·by_cases h0 : s = 0
     ·have h1 : (s == 0) = true:=by simpa using h0
      by_cases h8 : key.length ≤ 80
      ·have:=(Rp.sound_ok HG.out (by have:=HLN.out;omega) (HSN.out.symm.trans h0)).2 key h8;exact .inr (.inr ⟨h1,decide_eq_true (by omega),decide_eq_true h8,by rw [this];rfl⟩)
      ·exact .inr (.inl ⟨h1,decide_eq_false (by omega),decide_eq_false h8⟩)
     ·exact .inl (by simpa using h0)
    ·cases hb : (R2.get key).1.2 with
     | true=>exact .inl rfl
     | false=>exact .inr ⟨rfl,Rp.get_none key hb⟩
   obtain ⟨G,hG⟩ : ∃ G,G = R2.get key:=⟨_,rfl⟩;rw [← hG] at HGT hcc;obtain ⟨⟨g1,g2⟩,g3⟩:=G;have HC2:=Hd hc2
   have HRW2:=Hd hrb;have HKE:=Hd ke;have HNE:=Hd hne;have HD:=Hd hD;clear i1 i4 hK hS hR hT4 hnr kr ke hc2 hrb hne hG hD;dsimp only;refine HKO.out _ _ ?_;go_wp2_with fail;refine HGT.out.mono ?_;rintro e w12 ⟨rfl,t1,t2⟩;have hrb:=HRW2.out.read t1 t2;have hc2:=HC2.out.to t2 (fun k hk=>.inl hk);have ke:=keepB t2 HNE.out HKE.out;have ce:=(cell_of_row _ _ 0 _ _ _ ke).trans (Eq.refl (some (Value.int .i64 s)));have HDL:=Hd (tdel_any t1 key HKL.out);have HRB3:=Hd hrb;have HC3:=Hd hc2;clear t1 t2 hrb hc2 ke HGT HRW2 HC2 HKE HNE;dsimp only at hcc ⊢;obtain ⟨hcc,hgg⟩:=hcc;have HH : Hid (∀ (W : World),W = w12 → True):=Hd fun _ _=>trivial
   rcases hcc with c1 | ⟨c1,c2,c3⟩ | ⟨c1,c2,c3,c4⟩ <;> rcases hgg with rfl | ⟨rfl,rfl⟩
   all_goals
    go_wp2_with fail
    refine HDL.out.mono ?_
    rintro e w13 ⟨rfl,ht⟩
    obtain ⟨f3,hq3,hrb,hc3⟩:=HRB3.out.to2 HC3.out ht
    obtain ⟨n3,J3,seq3,B3,t3⟩:=id hrb.ex
    have HPT:=Hd (tput_any t3 key [120] HKL.out (by simp))
    have HRB4:=Hd hrb
    have HC4:=Hd hc3
    clear ht hrb hc3 t3
    go_wp2_with fail
    refine HPT.out.mono ?_
    rintro e w14 ⟨rfl,ht⟩
    obtain ⟨f4,hq4,hrb,hc4⟩:=HRB4.out.to2 HC4.out ht
    have cr:=(cell_of_row _ _ 0 _ _ _ hc4.1).trans (Eq.refl (some (Value.bool false)))
    have fr:=frozen_p hc4.1 0
    have ht6:=turned_one w14 w.heap.size 0 (.bool true)
    have hDr : w.heap.size ≠ D:=by have:=HD.out;have:=HR6.out.1;have:=HB68.out.size;omega
    have HK6:=Hd (keepB ht6 (fun e=>hDr e.symm) hc4.2.1)
    have HR6' : Hid ((w14.setCell ⟨w.heap.size,0,none⟩ (.bool true)).heap[w.heap.size]? = some (bolO true)):=Hd (head_setCell hc4.1 _)
    have hbb : Below w.heap.size w w14:=HB0.out.trans (hrb.below.mono HB0.out.size)
    have HE : Hid (∀ o,Below w.heap.size w ((w14.setCell ⟨w.heap.size,0,none⟩ (.bool true)).putObj D o)):=Hd fun o=>hbb.trans (((ht6.mono (T':=fun k=>k = w.heap.size ∨ k = D) fun k _ e=>.inl e).trans (turned_put _ D o (.inr rfl))).below hbb.size fun k e=>by
     rcases e with e | e
     ·omega
     ·have:=HD.out;have:=HR6.out.1;have:=HB68.out.size;omega)
    clear ht hrb hc4 ht6 hbb
    go_wp2_with fail
    refine ⟨by simp,.inl ⟨_,_,rfl,run_takeDeferred HK6.out,?_⟩⟩
    exact ⟨_,results_cell1 rfl rfl (load_bool ((World.putObj_heap_other hDr).trans HR6'.out)),rfl,HE.out _⟩)
  refine rangeT (F:=Fence.wide) rfl (by omega) (gf:=30) (lb:=#[boxp W7.heap.size,boxp (W7.heap.size + 1),boxp (W7.heap.size + 2)]) rfl trivial (enters_of Tryd.func30 (by kernel_rfl) rfl)
   (range_seq (n:=n) (J:=J) (seq:=seq) (B:=B) (F:=F) (p:=p) (f:=f2) (R:=R2) (tb:=tb) (bt:=W7.heap.size) (bf:=W7.heap.size + 1) (bq:=W7.heap.size + 2) (from_:=[]) (to_:=[]) 2 (by omega)) (fun _=>rfl)
   (fun pre W=>LiveR n J seq B F p f2 R2 tb W7.heap.size (W7.heap.size + 1) (W7.heap.size + 2) [] [] W∧W.heap[w6.heap.size + 1]? = some (keyO (lastK pre))∧W.heap[w6.heap.size + 2]? = some (izO (pre.length : Int))∧pre.length ≤ 100000∧Turned (fun k=>PJ F p f2 k ∨ k = w6.heap.size + 1 ∨ k = w6.heap.size + 2) w8 W)
   (fun c pre W=>c = .exit 2∧LiveR n J seq B F p f2 R2 tb W7.heap.size (W7.heap.size + 1) (W7.heap.size + 2) [] [] W∧Turned (fun k=>PJ F p f2 k ∨ k = w6.heap.size + 1 ∨ k = w6.heap.size + 2) w8 W) ?hG (fun s A h=>h.1) ?hLp ?hI ?hU ?hIx ?h0
   (fun x a' A=>a' = { tmps:=#[.slice a ps.length cap,.int .i64 root,.string ⟨key.toArray⟩,undef,undef,undef,boxp w.heap.size,.bool true,qptr f.q,trp tb,u10,u11,u12,u13,u14,boxp w6.heap.size,boxp (w6.heap.size + 1),boxp (w6.heap.size + 1 + 1),.string ⟨x.1.toArray⟩,u19,u20,u21,u22,u23,u24,u25,u26,u27,u28,u29,u30,u31,u32,u33,u34,u35,u36,u37,u38,u39,u40,u41,u42,u43,u44,u45,u46,u47,u48,u49,u50,u51,u52,u53,u54,u55,u56,u57,u58,u59,u60,u61,u62,u63,u64,u65,u66,qptr f.q,.int .i64 root,.int .i64 z,trp tb,.int .i64 s,trp tb,rngF W7.heap.size (W7.heap.size + 1) (W7.heap.size + 2),.string ⟨x.1.toArray⟩,.string ⟨x.2.toArray⟩,undef,undef,undef,undef,undef,undef,undef,undef,undef,undef,undef,undef,undef,undef,undef,undef,undef,undef,undef,undef,undef,undef,undef,undef,undef,undef,undef,undef,undef,undef,undef,undef,undef,undef,undef,undef,undef,undef,undef,undef,undef,undef,undef,undef,undef,undef,undef,undef],defers:=[] }) (fun _ _ _ _ h=>h) ?assign ?body ?done ?stop
  case hG =>
   intro W hb;exact ⟨HLR.out.far HLOW.out (Turned.of_below (T:=fun k=>w8.heap.size ≤ k) hb) fun k hk e=>by omega,HLOW.out.mono hb.size⟩
  case hLp=>exact fun A A' h ht=>h.far HLOW.out ht fun k hk e=>by omega
  case hI =>
   rintro s A A' ⟨i1,i2,i3,i5,i4⟩ ht hl;have hS:=HSS.out
   have hne : ∀ k,k = w6.heap.size + 1 ∨ k = w6.heap.size + 2 → ¬ PJ F p f2 k:=fun k hk e=>by have:=HPJ.out _ e;omega
   have hk1 : ∀ k,(k = w6.heap.size + 1 ∨ k = w6.heap.size + 2) → ¬ (PJ F p f2 k ∨ w8.heap.size ≤ k):=fun k hk e=>e.elim (hne k hk) fun e=>by omega
   refine ⟨hl,keepB ht (hk1 _ (.inl rfl)) i2,keepB ht (hk1 _ (.inr rfl)) i3,i5,i4.then ht fun i hi e=>?_⟩;rcases e with e | e
   ·exact .inl e
   ·omega
  case hU=>exact fun k hk=>by have:=HPJ.out k hk;have:=HSS.out;omega
  case hIx =>
   rintro c s A A' ⟨i0,i1,i4⟩ ht;exact ⟨i0,i1.far HLOW.out ht fun k hk e=>by omega,i4.then ht fun i hi e=>by omega⟩
  case h0=>exact ⟨HLR.out,HL8.out,HN8.out,Nat.zero_le _,Turned.refl _ _⟩
  case assign =>
   rintro L pre x W K1 hi hpx hsz hK1;have HI:=Hd hi
   clear hi hpx hsz;gi_wp2_with fail;exact hK1 _ _ (Turned.refl _ _) HI.out rfl
  case done =>
   rintro D W hD hsz ⟨i1,i2,i3,i5,i4⟩ hK;exact HFIN.out D W _ _ hD i1 i4 hK
  case stop =>
   rintro D c pre W hD hsz hpre ⟨rfl,i1,i4⟩ hK;have HF:=Hd (fun a1 a2=>HFIN.out D W a1 a2 hD i1 i4 hK)
   clear i1 i4 hK hpre;gi_wp2_with fail;exact HF.out _ _
  case body =>
   rintro L pre x a' W hl ⟨r,hr⟩ ⟨i1,i2,i3,i5,i4⟩ rfl hpx hsz;have hS:=HSS.out
   have ke:=(i4.block _ (by omega) (fun e=>by
    rcases e with e | e | e
    ·have:=HPJ.out _ e;omega
    ·omega
    ·omega)).trans HE8.out
   have ce:=(cell_of_row _ _ 0 _ _ _ ke).trans (Eq.refl (some (Value.int .i64 s)));have cl:=(cell_of_row _ _ 0 _ _ _ i2).trans (Eq.refl (some (Value.string ⟨(lastK pre).toArray⟩)));have cn:=(cell_of_row _ _ 0 _ _ _ i3).trans (Eq.refl (some (Value.int .i64 (pre.length : Int))));have fl:=frozen_p i2 0
   have hcc : (s == 0) = false ∨ ((s == 0) = true∧decide ((0 : Int) < (pre.length : Int)) = false∧decide (0 < pre.length) = false) ∨ ((s == 0) = true∧decide ((0 : Int) < (pre.length : Int)) = true∧decide (0 < pre.length) = true∧Op.bytesLess x.1 (lastK pre) = false∧(x.1 == lastK pre) = false):=by
    by_cases h0 : s = 0
    ·have h1 : (s == 0) = true:=by simpa using h0
     by_cases hp : pre = []
     ·exact .inr (.inl ⟨h1,by rw [hp];rfl,by rw [hp];rfl⟩)
     ·have hpl:=List.length_pos_iff.2 hp;have hlt:=lastK_lt (Rp.sound_ok HG.out (by have:=HLN.out;omega) (HSN.out.symm.trans h0)).1 hpx hp;refine .inr (.inr ⟨h1,decide_eq_true (by omega),decide_eq_true hpl,by rw [bytesLess_dec];exact decide_eq_false fun e=>List.lt_irrefl _ (List.lt_trans e hlt),?_⟩);apply beq_false_of_ne;intro e;rw [e] at hlt;exact List.lt_irrefl _ hlt
    ·exact .inl (by simpa using h0)
   have ht1:=turned_one W (w6.heap.size + 1) 0 (.string ⟨x.1.toArray⟩);have i2' : (W.setCell ⟨w6.heap.size + 1,0,none⟩ (.string ⟨x.1.toArray⟩)).heap[w6.heap.size + 1]? = some (keyO x.1):=head_setCell i2 _;have i3':=keepB ht1 (by omega) i3;have cn1:=(cell_of_row _ _ 0 _ _ _ i3').trans (Eq.refl (some (Value.int .i64 (pre.length : Int))));have fn1:=frozen_p i3' 0;have ht2:=turned_one (W.setCell ⟨w6.heap.size + 1,0,none⟩ (.string ⟨x.1.toArray⟩)) (w6.heap.size + 2) 0 (.int .i64 ((pre.length : Int) + 1));have i3'' : ((W.setCell ⟨w6.heap.size + 1,0,none⟩ (.string ⟨x.1.toArray⟩)).setCell ⟨w6.heap.size + 2,0,none⟩ (.int .i64 ((pre.length : Int) + 1))).heap[w6.heap.size + 2]? = some (izO ((pre ++ [x]).length : Int)):=by rw [List.length_append];exact head_setCell i3' _
   have cn2:=(cell_of_row _ _ 0 _ _ _ i3'').trans (Eq.refl (some (Value.int .i64 ((pre ++ [x]).length : Int))));rw [List.length_append,List.length_singleton] at cn2;have hwr : IntKind.i64.wrap ((pre.length : Int) + 1) = (pre.length : Int) + 1:=IntWalk.i64_in _ (by omega);have ht9 : Turned (fun k=>k = w6.heap.size + 1 ∨ k = w6.heap.size + 2) W ((W.setCell ⟨w6.heap.size + 1,0,none⟩ (.string ⟨x.1.toArray⟩)).setCell ⟨w6.heap.size + 2,0,none⟩ (.int .i64 ((pre.length : Int) + 1))):=(ht1.mono fun k _ e=>.inl e).trans (ht2.mono fun k _ e=>.inr e)
   have hL2 : LiveR n J seq B F p f2 R2 tb W7.heap.size (W7.heap.size + 1) (W7.heap.size + 2) [] [] ((W.setCell ⟨w6.heap.size + 1,0,none⟩ (.string ⟨x.1.toArray⟩)).setCell ⟨w6.heap.size + 2,0,none⟩ (.int .i64 ((pre.length : Int) + 1))):=⟨i1.tr.turned ht9 (fun k hk e=>by
    rcases hk with hk | hk
    ·have:=HPJ.out k hk;omega
    ·have:=HTN.out.2.2;omega) (fun e=>by have:=HTN.out.1;omega),keepB ht9 (by omega) i1.hbt,keepB ht9 (by omega) i1.hbf,keepB ht9 (by omega) i1.hbq⟩
   have HALL:=Hd (And.intro (ht9.mono (T':=fun k=>k < w8.heap.size) fun k _ e=>by omega) (And.intro hL2 (And.intro (keepB ht2 (by omega) i2') (And.intro i3'' (i4.then ht9 fun i hi e=>.inr e)))));clear i1 i2 i3 i4 hr hl hpx hsz ht1 ht2 ht9 i2' i3' i3'' hL2 ke hS;by_cases he : 100000 < pre.length + 1
   ·have hd : decide ((pre.length : Int) + 1 > 100000) = true:=decide_eq_true (by omega)
    have hd2 : decide (100000 < pre.length + 1) = true:=decide_eq_true he;rcases hcc with c1 | ⟨c1,c2,c3⟩ | ⟨c1,c2,c3,c4,c5⟩
    all_goals
     gi_wp2_with fail
     exact ⟨HALL.out.1,rfl,HALL.out.2.1,HALL.out.2.2.2.2⟩
   ·have hd : decide ((pre.length : Int) + 1 > 100000) = false:=decide_eq_false (by omega)
    have hd2 : decide (100000 < pre.length + 1) = false:=decide_eq_false he;rcases hcc with c1 | ⟨c1,c2,c3⟩ | ⟨c1,c2,c3,c4,c5⟩
    all_goals
     gi_wp2_with fail
     exact ⟨HALL.out.1,HALL.out.2.1,by rw [lastK_snoc];exact HALL.out.2.2.1,HALL.out.2.2.2.1,by rw [List.length_append,List.length_singleton];omega,HALL.out.2.2.2.2⟩
theorem braw_card (w : World) (hn : Nib w) (v : Value) (ps : List (List UInt8)) (hv : IsRow rdBytes w v ps) (root : Int) (hr1 : -9223372036854775808 ≤ root) (hr2 : root ≤ 9223372036854775807) (s : ByteArray) (hs : s.size ≤ maxLen) :
  Calls Tryd.prog 3 #[v,.int .i64 root,.string s] w fun e w'=>e = .returned (.bool true)∧Below w.heap.size w w':=by
 have h1 : s.data.toList.length = s.size:=Array.length_toList;have h2:=braw_walk w hn v ps (IsRow.isBs hv) root hr1 hr2 s.data.toList (by unfold maxLen at hs;omega);rw [show (⟨s.data.toList.toArray⟩ : ByteArray) = s from by rw [Array.toArray_toList]] at h2
 exact h2
end
end Go.Proofs.YtofibccplbnaiaaDoor
namespace Go.Proofs.YtofibccplbnaiaaDoor.cardBtreeRaw
open Go.ChangeShapes Go.WideShapes Go.ChangeAt Go.RowKit Go.Deep
open Go.ChangeMaps (open_string shut_string)
theorem gTab : Tryd.prog.globalNamed "usance/wire.nibbles" = some 0 := by kernel_rfl
theorem gTabType : (Tryd.prog.globals[0]?).map (·.type) = some 151 := by kernel_rfl
theorem cellsTab : Tryd.prog.cellsOf 151 = 16 := by kernel_rfl
theorem cellsU32 : Tryd.prog.cellsOf 130 = 1 := by kernel_rfl
theorem table {W : World} (h : laidMetH Tryd.prog Rows.btreeRawRow.laid W) : Nib W := by
  have ht : Lib.TabIs Tryd.prog W "usance/wire.nibbles" .u32 [0, 498536548, 997073096, 651767980, 1994146192, 1802195444, 1303535960, 1342533948, 3988292384, 4027552580, 3604390888, 3412177804, 2607071920, 2262029012, 2685067896, 3183342108] :=
    Lib.tabIs_of_head (rest := []) gTab gTabType Tryd.underlying151 Tryd.underlying130 cellsU32 cellsTab h
  intro i hi
  rw [ht.cell gTab i (by simpa using hi)]
  have e : ∀ i : Fin 16, ([0, 498536548, 997073096, 651767980, 1994146192, 1802195444, 1303535960, 1342533948, 3988292384, 4027552580, 3604390888, 3412177804, 2607071920, 2262029012, 2685067896, 3183342108] : List Int).getD i.val 0 = ((UsCrc.nib.getD i.val 0 : Nat) : Int) := by decide
  rw [e ⟨i, hi⟩]
theorem contract (H : Type) (enc : TypeId × Value → H) (W : World) (base : Nat) (args : Array Value) (ds gs : List (DataW H)) (before : List MemPlace)
    (hval : ∀ (j : Nat) t v, Tryd.f3.params[j]? = some t → args[j]? = some v → Value.okWide Tryd.prog W .any base t v)
    (hW : DataW.Whole enc Tryd.prog Tryd.f3.params.toList Rows.btreeRawSpec.vars false W args.toList ds gs before) (hL : laidMetH Tryd.prog Rows.btreeRawRow.laid W)
    (hsz : (DataW.weightsEach Tryd.prog (Tryd.f3.params.toList ++ (OpenSpec.ofChange Rows.btreeRawSpec).bare.plain.varTypes Tryd.prog) (ds ++ gs)).all (· ≤ reachBytes) = true) :
    Calls Tryd.prog 3 args W fun e W' => ∃ v, e = .returned v ∧ Rows.btreeRawSpec.post enc Tryd.prog Tryd.f3 false true false false W args v W' := by
  have hW' := hW
  obtain ⟨p, q, hA0, hV, rfl, hfz, hnd⟩ := hW
  have hA : DataW.TrodAll enc Tryd.prog W 0 (fun _ => true) true Tryd.f3.params.toList args.toList ds p := hA0
  rw [Tryd.params3] at hA hval hsz
  obtain ⟨v0, vs0, d0, ds0, p0, q0, hargs, rfl, rfl, h0, r0⟩ := trodAll_cons hA
  obtain ⟨v1, vs1, d1, ds1, p1, q1, rfl, rfl, rfl, h1, r1⟩ := trodAll_cons r0
  obtain ⟨v2, vs2, d2, ds2, p2, q2, rfl, rfl, rfl, h2, r2⟩ := trodAll_cons r1
  obtain ⟨rfl, rfl, rfl⟩ := trodAll_nil r2
  obtain rfl : args = #[v0, v1, v2] := by cases args; simp_all
  obtain ⟨rfl, rfl⟩ := trodVars_none hV
  have k0 := h0
  have lt0 : ∀ x ∈ p0, x.block < W.heap.size := by obtain ⟨m, hm⟩ := k0; exact DataW.trod_lt m _ _ _ hm
  have k1 := h1
  have lt1 : ∀ x ∈ p1, x.block < W.heap.size := by obtain ⟨m, hm⟩ := k1; exact DataW.trod_lt m _ _ _ hm
  have k2 := h2
  have lt2 : ∀ x ∈ p2, x.block < W.heap.size := by obtain ⟨m, hm⟩ := k2; exact DataW.trod_lt m _ _ _ hm
  simp only [List.append_nil, List.nil_append, List.cons_append] at hsz
  obtain ⟨xs0, ir0⟩ := open_row rdBytes (by decide) Tryd.underlying22 (hval 0 22 v0 rfl rfl) h0 (light_arg (j := 0) hsz rfl rfl)
  obtain ⟨x1, rfl, rfl, rfl, w1⟩ := open_int Tryd.underlying3 (hval 1 3 v1 rfl rfl) h1
  have b1 := wf_int64 w1
  have lg2 := light_arg (j := 2) hsz rfl rfl
  obtain ⟨s2, rfl, rfl, rfl, hs2⟩ := open_string Tryd.underlying9 (hval 2 9 v2 rfl rfl) h2
  have hnib := table hL
  clear hA0
  refine (braw_card W hnib v0 xs0 ir0 x1 b1.1 b1.2 s2 hs2).mono fun e W' ⟨he, bel⟩ => ?_
  subst he
  exact ⟨_, rfl, _, _, _, [], _, [], hW', trodAll_mk1 (shut_bool Tryd.underlying4 _), (trodAll_cons_mk (Below.trod laidOut (by kernel_rfl) (of_decide_eq_true (by kernel_rfl)) k0 bel lt0) (trodAll_cons_mk (Below.trod laidOut (by kernel_rfl) (of_decide_eq_true (by kernel_rfl)) k1 bel lt1) (trodAll_cons_mk (Below.trod laidOut (by kernel_rfl) (of_decide_eq_true (by kernel_rfl)) k2 bel lt2) trodAll_mk0))), rfl, bel.frame _, fun h => by cases h⟩
noncomputable def laidWorld (os : Os) : World :=
  { World.holding Tryd.prog os ⟨#[], #[], []⟩ with heap := (World.holding Tryd.prog os ⟨#[], #[], []⟩).heap.modify 0 fun
      | .cells _ t frozen => .cells #[.int .u32 0, .int .u32 498536548, .int .u32 997073096, .int .u32 651767980, .int .u32 1994146192, .int .u32 1802195444, .int .u32 1303535960, .int .u32 1342533948, .int .u32 3988292384, .int .u32 4027552580, .int .u32 3604390888, .int .u32 3412177804, .int .u32 2607071920, .int .u32 2262029012, .int .u32 2685067896, .int .u32 3183342108] t frozen
      | o => o }
theorem laid_met (os : Os) : laidMet Tryd.prog Rows.btreeRawRow.laid ((laidWorld os).forCall (fun _ _ => 0) ⟨#[], #[.slice none 0 0, .int .i64 0, .string ByteArray.empty], []⟩).memory :=
  laidMet_of_run' 8 (by kernel_rfl) (by kernel_rfl)
theorem reads (os : Os) {H : Type} (enc : TypeId × Value → H) : ∃ places, DataW.whole enc Tryd.prog ((laidWorld os).forCall (fun _ _ => 0) ⟨#[], #[.slice none 0 0, .int .i64 0, .string ByteArray.empty], []⟩).memory Tryd.f3.params.toList Rows.btreeRawSpec.vars false (#[.slice none 0 0, .int .i64 0, .string ByteArray.empty] : Array Value).toList 8 = some ([.nil, .lit (.int .i64 0), .lit (.string [])], [], places) :=
  ⟨[], by kernel_rfl⟩
theorem lifted (os : Os) (started : os.Started) (H : Type) (enc : TypeId × Value → H) (F : Stop.Interp) :
    ReturnsInHanded {} Tryd.checked os 3 .any ((OpenSpec.ofChange Rows.btreeRawSpec).preRow enc Tryd.prog Tryd.f3 Rows.btreeRawRow.domain false Rows.btreeRawRow.laid) (((OpenSpec.ofChange Rows.btreeRawSpec).at F).post enc Tryd.prog Tryd.f3 false true false false) := by
  obtain ⟨places, hx⟩ := reads os enc
  refine returnsInHanded_of_row (C := Tryd.checked) (s := OpenSpec.ofChange Rows.btreeRawSpec) own started (by kernel_rfl) Tryd.func3
    (witness_row_at (enc := enc) (C := Tryd.checked) false (laidWorld os) #[.slice none 0 0, .int .i64 0, .string ByteArray.empty] rfl (by kernel_rfl) (by kernel_rfl) (by kernel_rfl)
      (OpenSpec.preRow_of_cond 8 hx (by kernel_rfl) (fun k hk => by cases hk) (by kernel_rfl) (laid_met os))) ?_
  intro W base args ds gs before hval hW _ hcond hsz hL _ _
  exact contract H enc W base args ds gs before hval hW hL hsz
theorem said : Rows.BtreeRawSaid :=
  OpenClaim.holds_of_cond 3 Tryd.f3 rfl rfl rfl rfl rfl rfl rfl ⟨rfl, rfl, rfl, rfl, rfl⟩ rfl rfl rfl rfl rfl (by kernel_rfl) Tryd.func3 (by kernel_rfl)
    (of_decide_eq_true (by kernel_rfl)) (by unfold Func.isWrapper; first | (rw [if_pos (by decide +kernel)]; kernel_rfl) | (rw [if_neg (by decide +kernel)]; exact ⟨rfl, rfl⟩))
    (fun os started H enc _ F => by rw [OpenClaim.pre_eq_preRow]; exact lifted os started H enc F)
theorem plain (f : FuncId) (fn : Func) (hf : Tryd.pinned.checked.prog.funcNamed "usance/usancelaw10.BtreeRaw" = some f) (hfn : Tryd.pinned.checked.prog.funcs[f]? = some fn) :
    false = Tryd.pinned.checked.prog.looks [] ∧ ∀ (j : Nat) t, fn.params[j]? = some t → Tryd.pinned.checked.prog.wantsStandIn t = false := by
  obtain rfl : f = 3 := Option.some.inj ((show Tryd.prog.funcNamed "usance/usancelaw10.BtreeRaw" = some 3 by kernel_rfl).symm.trans hf) |>.symm
  obtain rfl : fn = Tryd.f3 := (Option.some.inj (Tryd.func3.symm.trans hfn)).symm
  refine ⟨by kernel_rfl, fun j t ht => ?_⟩
  rw [Tryd.params3] at ht
  have hm := Array.mem_of_getElem? ht
  simp only [List.mem_toArray, List.mem_cons, List.not_mem_nil, or_false] at hm
  rcases hm with rfl | rfl | rfl
  · exact (show Tryd.prog.wantsStandIn 22 = false by kernel_rfl)
  · exact (show Tryd.prog.wantsStandIn 3 = false by kernel_rfl)
  · exact (show Tryd.prog.wantsStandIn 9 = false by kernel_rfl)
theorem proved : Rows.BtreeRawCardSaid :=
  Claim7.holds_tied_plain_at .later [] _ _ _ _ said (fun _ h => by cases h) (by kernel_rfl) (fun _ h => by cases h) btreeRaw_row_tie rfl ⟨rfl, rfl⟩ (by kernel_rfl) rfl plain (by kernel_rfl)
#print axioms proved
end Go.Proofs.YtofibccplbnaiaaDoor.cardBtreeRaw
