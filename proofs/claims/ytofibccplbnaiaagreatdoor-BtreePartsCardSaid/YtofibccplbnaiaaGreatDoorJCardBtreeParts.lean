/- The card CardBtreeParts: for every input the law answers true, and what came in reads as it did; with what it needs ahead. -/
import Derived.Test.YtofibccplbnaiaaGreatDoorK23
import Derived.Laws.Concat
import Derived.Test.YtofibccplbnaiaaGreatDoorCards
import Derived.Test.YtofibccplbnaiaaGreatDoorTie
import Derived.Test.YtofibccplbnaiaaGreatDoorK22
set_option linter.unusedVariables false
set_option linter.unusedSimpArgs false
set_option maxRecDepth 100000
namespace Go.Proofs.YtofibccplbnaiaaGreatDoor
section
open Go.RowKit Go.Shelf Go.Lib
attribute [local go_sem] Oper.semAt_some
theorem rngL_parts {from_ midst to_ : List UInt8} : ∀ {l : List KV},Rise l → ¬ midst < from_ → (to_ = [] ∨ ¬ to_ < midst) → midst ≠ [] → rngL from_ midst l ++ rngL midst to_ l = rngL from_ to_ l
 | [],_,_,_,_=>rfl
 | x :: r,hr,h1,h2,h3=>by
  obtain ⟨hx,hr'⟩:=List.pairwise_cons.1 hr;have ih:=rngL_parts hr' h1 h2 h3
  have e : ∀ a b : List UInt8,rngL a b (x :: r) = (if !decide (x.1 < a) && (decide (b = []) || decide (x.1 < b)) then x :: rngL a b r else rngL a b r):=fun a b=>by unfold rngL;rw [List.filter_cons]
  by_cases hm : x.1 < midst
  ·have e1 : rngL midst to_ (x :: r) = rngL midst to_ r:=by rw [e,if_neg (by simp [hm])]
   rw [e1,e from_ midst,e from_ to_];by_cases hf : x.1 < from_
   ·rw [if_neg (by simp [hf]),if_neg (by simp [hf])];exact ih
   ·have ht : to_ = [] ∨ x.1 < to_:=by
     rcases h2 with h2 | h2
     ·exact .inl h2
     ·exact .inr (kv_lt_of_lt_of_not hm h2)
    rw [if_pos (by simp [hf,hm]),if_pos (by rcases ht with h | h <;> simp [hf,h]),List.cons_append,ih]
  ·have hm' : ∀ y ∈ x :: r,¬ y.1 < midst:=fun y hy=>by
    rcases List.mem_cons.1 hy with rfl | hy
    ·exact hm
    ·exact fun h=>hm (List.lt_trans (hx y hy) h)
   have e0 : rngL from_ midst (x :: r) = []:=rngL_high h3 hm';rw [e0,List.nil_append];unfold rngL;refine List.filter_congr fun y hy=>?_;have h4:=hm' y hy
   have h5 : ¬ y.1 < from_:=fun h=>h1 (by
    rcases Classical.em (midst < from_) with h6 | h6
    ·exact h6
    ·exact absurd (kv_lt_of_lt_of_not h h6) h4)
   simp [h4,h5]
theorem told_parts {from_ midst to_ : List UInt8} {l : List KV} (hr : Rise l) (h1 : ¬ midst < from_) (h2 : to_ = [] ∨ ¬ to_ < midst) (h3 : midst ≠ []) : toldL (rngL from_ midst l) ++ toldL (rngL midst to_ l) = toldL (rngL from_ to_ l):=by rw [← rngL_parts hr h1 h2 h3];unfold toldL;rw [List.flatMap_append]
theorem range_seqN {n : Nat} {J : Jn} {seq : Int} {B : List (List UInt8)} {F : Ft} {p : Nat} {f : Pf} {R : Rp} {tb bt bf bq : Nat} {from_ to_ : List UInt8} (L m : Nat) (hm : 1 ≤ m) : SeqT (Fence.wide.inRound L) m Tryz.prog 49 #[boxp bt,boxp bf,boxp bq] kvA (PJ F p f) (LiveR n J seq B F p f R tb bt bf bq from_ to_) (R.rangeN from_ to_) (fun W=>LiveR n J seq B F p f R tb bt bf bq from_ to_ W∧LowR F p f tb bt bf bq W.heap.size):=range_seq m hm
theorem part_le {xs pre2 : List KV} {x y : KV} (hr : Rise xs) (hx : x ∈ xs) (hp : pre2 ++ [y] <+: xs) (h : ∀ z ∈ pre2,z.1 < x.1) : ¬ x.1 < y.1:=by
 obtain ⟨t,rfl⟩:=hp;intro hlt;rcases List.mem_append.1 hx with hx | hx
 ·rcases List.mem_append.1 hx with hx | hx
  ·exact List.lt_irrefl _ (h x hx)
  ·obtain rfl : x = y:=by simpa using hx
   exact List.lt_irrefl _ hlt
 ·have h2 : y.1 < x.1:=(List.pairwise_append.1 hr).2.2 y (by simp) x hx;exact List.lt_irrefl _ (List.lt_trans hlt h2)
set_option maxHeartbeats 32000000 in
theorem bparts_walk (w : World) (hn : Nib w) (v : Value) (keys : List (List UInt8)) (hv : IsRow rdStr w v keys) (from_ midst to_ : List UInt8) :
  Calls Tryz.prog 4 #[v,.string ⟨from_.toArray⟩,.string ⟨midst.toArray⟩,.string ⟨to_.toArray⟩] w fun e w'=>e = .returned (.bool true)∧Below w.heap.size w w':=by
 have hform:=hv.form;obtain ⟨a,cap,rfl,hl1,hl2⟩:=hform;unfold maxLen at hl2;obtain ⟨W0,hW0⟩ : ∃ x,x = ((w.alloc (keyO from_)).alloc (keyO to_)).alloc (bolO false):=⟨_,rfl⟩;have hb0 : Below w.heap.size w W0:=by rw [hW0];exact ((nodeAlloc w _).alloc (by simp) _).alloc (by simp;omega) _
 have hs0 : W0.heap.size = w.heap.size + 3:=by rw [hW0];simp
 have f0 : W0.heap[w.heap.size]? = some (keyO from_):=by rw [hW0];exact (Below.heap_alloc _ _ _ (by simp;omega)).trans ((Below.heap_alloc _ _ _ (by simp)).trans (heap_alloc_new w _))
 have t0 : W0.heap[w.heap.size + 1]? = some (keyO to_):=by
  rw [hW0];have:=heap_alloc_new (w.alloc (keyO from_)) (keyO to_)
  rw [World.size_alloc] at this;exact (Below.heap_alloc _ _ _ (by simp)).trans this
 have r0 : W0.heap[w.heap.size + 2]? = some (bolO false):=by
  rw [hW0];have:=heap_alloc_new ((w.alloc (keyO from_)).alloc (keyO to_)) (bolO false)
  rw [World.size_alloc,World.size_alloc] at this;exact this
 have HSH:=Hd (shown10_any W0 (hn.below hb0));have HV:=Hd (hv.below hb0);have HN:=Hd (hn.below hb0);obtain ⟨l0,hl0⟩ : ∃ l0,l0 = fillL (keys.take 150) []:=⟨_,rfl⟩;obtain ⟨B1,B2,B3⟩:=fill_bounds (keys.take 150);have htl : (keys.take 150).length ≤ 150:=by rw [List.length_take];omega
 have hrise : Rise l0:=by rw [hl0];exact fillL_rise _ _ List.Pairwise.nil
 rw [← hl0] at B1 B2 B3;have HL0:=Hd hl0
 have HTW:=Hd B1;have HWG : Hid (wgtB l0 ≤ 24300∧l0.length ≤ 150):=Hd ⟨by omega,by omega⟩;have HRI:=Hd hrise;have HW0:=Hd hW0;have HB0:=Hd hb0;have HS0:=Hd hs0;have HF0:=Hd f0;have HT0:=Hd t0;have HR0:=Hd r0;clear hv hn hl0 B1 B2 B3 htl hrise hW0 hb0 hs0 f0 t0 r0;refine callsIn_wide (n:=9).1 ?_;refine callsIn_of_wp_marks Tryz.func4 rfl trivial ?_ rfl;simp only [Tryz.ntmps4,List.size_toArray,List.length_cons,List.length_nil,Nat.reduceAdd,Nat.reduceSub,Array.replicate_succ,Array.replicate_zero,List.push_toArray,List.append_toArray,List.nil_append,List.cons_append];gi_wp2_with fail;rw [← HW0.out];refine ⟨trivial,?_⟩;refine (callsIn_wide.2 HSH.out).mono ?_;rintro e w1 ⟨rfl,hb1⟩;have HFL:=Hd (filled_any w1 (HN.out.below hb1) _ keys (HV.out.below hb1));have HB1:=Hd hb1;rw [← HL0.out] at HFL;clear hb1;gi_wp2_with fail;refine ⟨trivial,?_⟩;refine (callsIn_wide.2 HFL.out).mono ?_;rintro e w2 ⟨F,p,f,tb,rfl,htb⟩;have hb02 : Below W0.heap.size W0 w2:=HB1.out.trans (htb.below.mono HB1.out.size);have f2:=(hb02.block _ (lt_of_heap HF0.out)).trans HF0.out;have t2:=(hb02.block _ (lt_of_heap HT0.out)).trans HT0.out;have r2:=(hb02.block _ (lt_of_heap HR0.out)).trans HR0.out;have cf2:=(cell_of_row _ _ 0 _ _ _ f2).trans (Eq.refl (some (Value.string ⟨from_.toArray⟩)));have ct2:=(cell_of_row _ _ 0 _ _ _ t2).trans (Eq.refl (some (Value.string ⟨to_.toArray⟩)))
 have cr2:=(cell_of_row _ _ 0 _ _ _ r2).trans (Eq.refl (some (Value.bool false)));have fr2:=frozen_p r2 0;have HTB:=Hd htb;have HB02:=Hd hb02;have HF2:=Hd f2;have HT2:=Hd t2;have HR2:=Hd r2;clear htb hb02 f2 t2 r2
 have hcc : (Op.bytesLess midst from_ = true ∨ (Op.bytesLess midst from_ = false∧to_.isEmpty = false∧Op.bytesLess to_ midst = true) ∨ (Op.bytesLess midst from_ = false∧to_.isEmpty = true∧midst.isEmpty = true) ∨ (Op.bytesLess midst from_ = false∧to_.isEmpty = false∧Op.bytesLess to_ midst = false∧midst.isEmpty = true)) ∨
   (Hid (¬ midst < from_∧(to_ = [] ∨ ¬ to_ < midst)∧midst ≠ [])∧Op.bytesLess midst from_ = false∧midst.isEmpty = false∧(to_.isEmpty = true ∨ (to_.isEmpty = false∧Op.bytesLess to_ midst = false))):=by
  rw [bytesLess_dec,bytesLess_dec]
  by_cases h1 : midst < from_
  ·exact .inl (.inl (decide_eq_true h1))
  ·have h1':=decide_eq_false h1
   by_cases h2 : to_ = []
   ·by_cases h3 : midst = []
    ·exact .inl (.inr (.inr (.inl ⟨h1',by rw [h2];rfl,by rw [h3];rfl⟩)))
    ·exact .inr ⟨Hd ⟨h1,.inl h2,h3⟩,h1',by simpa using h3,.inl (by rw [h2];rfl)⟩
   ·have h2' : to_.isEmpty = false:=by simpa using h2
    by_cases h4 : to_ < midst
    ·exact .inl (.inr (.inl ⟨h1',h2',decide_eq_true h4⟩))
    ·by_cases h3 : midst = []
     ·exact .inl (.inr (.inr (.inr ⟨h1',h2',decide_eq_false h4,by rw [h3];rfl⟩)))
     ·exact .inr ⟨Hd ⟨h1,.inr h4,h3⟩,h1',by simpa using h3,.inr ⟨h2',decide_eq_false h4⟩⟩
 rcases hcc with hcc | ⟨HC,c1,c2,hcc⟩
 ·have ht9:=turned_one w2 (w.heap.size + 2) 0 (.bool true)
  have HE : Hid (Below w.heap.size w (w2.setCell ⟨w.heap.size + 2,0,none⟩ (.bool true))∧(w2.setCell ⟨w.heap.size + 2,0,none⟩ (.bool true)).heap[w.heap.size + 2]? = some (bolO true)):=Hd ⟨(HB0.out.trans (HB02.out.mono HB0.out.size)).trans (ht9.below (by have:=HB0.out.size;have:=HB02.out.size;omega) fun k e=>by omega),head_setCell HR2.out _⟩;clear ht9;rcases hcc with c1 | ⟨c1,c2,c3⟩ | ⟨c1,c2,c3⟩ | ⟨c1,c2,c3,c4⟩
  all_goals
   gi_wp2_with fail
   exact ⟨_,results_cell1 rfl rfl (load_bool HE.out.2),rfl,HE.out.1⟩
 ·obtain ⟨n,J,seq,B,R,hT,hrg,htre,hRm,_,_⟩:=HTB.out.tw.live
  obtain ⟨w3,hw3⟩ : ∃ w3,w3 = ((w2.alloc (trpO tb)).alloc (keyO from_)).alloc (keyO to_):=⟨_,rfl⟩;obtain ⟨hb3,hs3,hl3,hlow3⟩:=range_begin hT hw3;have HRG:=Hd (trange_any w2 (trp tb) (.inr ⟨tb,rfl⟩) from_ to_)
  rw [← hw3] at HRG;obtain ⟨W5,hW5⟩ : ∃ x,x = (w3.alloc (.cells #[rngF w2.heap.size (w2.heap.size + 1) (w2.heap.size + 2)] 45)).alloc (izO 0):=⟨_,rfl⟩;have hb5 : Below w3.heap.size w3 W5:=by rw [hW5];exact (nodeAlloc w3 _).alloc (by simp) _
  have hs5 : W5.heap.size = w3.heap.size + 2:=by rw [hW5];simp
  have s5 : W5.heap[w3.heap.size]? = some (.cells #[rngF w2.heap.size (w2.heap.size + 1) (w2.heap.size + 2)] 45 (0,0)):=by rw [hW5];exact (Below.heap_alloc _ _ _ (by simp)).trans (heap_alloc_new w3 _)
  have n5 : W5.heap[w3.heap.size + 1]? = some (izO 0):=by
   rw [hW5];have:=heap_alloc_new (w3.alloc (.cells #[rngF w2.heap.size (w2.heap.size + 1) (w2.heap.size + 2)] 45)) (izO 0)
   rw [World.size_alloc] at this;exact this
  have hl5:=hl3.far hlow3 (Turned.of_below (T:=fun k=>w3.heap.size ≤ k) hb5) fun k hk e=>by omega
  have hb25 : Below w2.heap.size w2 W5:=hb3.trans (hb5.mono hb3.size);have cs5:=(cell_of_row _ _ 0 _ _ _ s5).trans (Eq.refl (some (rngF w2.heap.size (w2.heap.size + 1) (w2.heap.size + 2))));have HL5:=Hd hl5;have HLOW:=Hd (hlow3.mono hb5.size);have HS5:=Hd s5;have HN5:=Hd n5;have HW5:=Hd hW5;have HSS:=Hd (And.intro hs3 hs5);have HB25:=Hd hb25;have HPJ : Hid (∀ k,PJ F p f k → k < w2.heap.size):=Hd fun k hk=>hT.lp.lt hk;have HTL:=Hd HTB.out.tw.tlt;have HTRE:=Hd htre;have HRM:=Hd hRm;have HRN:=Hd (hrg from_ to_);rw [hW5] at cs5;have HFT : Hid (w.heap.size + 2 < w2.heap.size):=Hd (lt_of_heap HR2.out);have HF5:=Hd ((hb25.block _ (lt_of_heap HF2.out)).trans HF2.out);have HT5:=Hd ((hb25.block _ (lt_of_heap HT2.out)).trans HT2.out);have HR5:=Hd ((hb25.block _ (lt_of_heap HR2.out)).trans HR2.out);have HNP : Hid (∀ k,W0.heap.size ≤ k → k < w2.heap.size → True):=Hd fun _ _ _=>trivial;have HOWN:=Hd HTB.out.own;clear hT hrg htre hRm hw3 hb3 hs3 hl3 hlow3 hW5 hb5 hs5 s5 n5 hl5 hb25;rcases hcc with c3 | ⟨c3,c4⟩
  all_goals
   gi_wp2_with fail
   refine ⟨trivial,?_⟩
   refine (callsIn_wide.2 HRG.out).mono ?_
   rintro e w9 ⟨rfl,e9⟩
   obtain rfl : w3 = w9:=e9.symm
   have HC3:=Hd c3
   clear c1 c2 c3 cf2 ct2 cr2 fr2
   gi_wp2_with fail
   rw [← HW5.out]
   rename_i K hK0
   have HKK:=Hd hK0
   clear hK0
   have HDONE : Hid (∀ (D : Nat) (W : World) (q1 q2 u35 u36 u37 u38 u39 : Value),W5.heap.size ≤ D → LiveR n J seq B F p f R tb w2.heap.size (w2.heap.size + 1) (w2.heap.size + 2) from_ to_ W → Turned (fun k=>PJ F p f k ∨ k = w3.heap.size + 1) W5 W → W.heap[D]? = some (.deferred (some [])) → K { tmps:=#[.slice a keys.length cap,.string ⟨from_.toArray⟩,.string ⟨midst.toArray⟩,.string ⟨to_.toArray⟩,undef,boxp w.heap.size,undef,boxp (w.heap.size + 1),boxp (w.heap.size + 1 + 1),.bool true,qptr f.q,trp tb,.bool true,boxp w3.heap.size,boxp (w3.heap.size + 1),undef,undef,.bool true,.tuple #[qptr f.q,trp tb,.bool true],.slice a keys.length cap,.tuple #[qptr f.q,trp tb,.bool true],qptr f.q,trp tb,.bool true,.bool true,.bool false,.bool false,.bool true,.bool false,.bool false,.string ⟨midst.toArray⟩,.string ⟨from_.toArray⟩,.bool false,.bool false,.string ⟨to_.toArray⟩,u35,u36,u37,u38,u39,.bool false,.bool false,.bool false,.string ⟨midst.toArray⟩,.bool false,.bool false,trp tb,.string ⟨from_.toArray⟩,.string ⟨to_.toArray⟩,rngF w2.heap.size (w2.heap.size + 1) (w2.heap.size + 2),rngF w2.heap.size (w2.heap.size + 1) (w2.heap.size + 2),q1,q2,undef,undef,undef,undef,undef,undef,undef,undef,undef,undef,undef,undef,undef,undef,undef,undef,undef,undef,undef,undef,undef,undef,undef,undef,undef,undef,undef,undef,undef,undef,undef,undef,undef,undef,undef,undef,undef,undef,undef],defers:=[{ target:=.collected D,args:=#[] }] } W):=Hd (by
    intro D W q1 q2 u35 u36 u37 u38 u39 hD i1 i4 hdf;have hsb:=HSS.out
    have hft:=HFT.out;have hown:=HOWN.out;have hpj:=HPJ.out;have hs0:=HS0.out;have hb1:=HB1.out.size
    have hW : ∀ k,k < w2.heap.size → k < w1.heap.size → W.heap[k]? = W5.heap[k]?:=fun k h1 h2=>i4.block k (by omega) fun e=>by
     rcases e with e | e
     ·have:=hown k e;omega
     ·omega
    have kf:=(hW _ (by omega) (by omega)).trans HF5.out;have kt:=(hW _ (by omega) (by omega)).trans HT5.out;have kr:=(hW _ (by omega) (by omega)).trans HR5.out;have hTW : TW W 255 F p f tb l0:=i1.tw HTRE.out HRM.out (by omega) (by omega);have hTWd : TW W.drew 255 F p f tb l0:=hTW.turned (T:=fun _=>False) (Turned.refl _ W).drew (fun _ _ e=>e) (fun e=>e);have HTOLD : Hid (∀ (W' : World) (x y : List UInt8),TW W' 255 F p f tb l0 → Calls Tryz.prog 20 #[trp tb,.string ⟨x.toArray⟩,.string ⟨y.toArray⟩] W' fun e w'=>e = .returned (.string ⟨(toldL (rngL x y l0)).toArray⟩)∧TW w' 255 F p f tb l0∧Turned (PJ F p f) W' w'):=Hd fun W' x y h=>btold_any (from_:=x) (to_:=y) h HTW.out.eq HTW.out.few (by have:=HWG.out;omega);have hsep : ∀ k,k < w.heap.size + 3 → ¬ PJ F p f k:=fun k hk e=>by have:=hown k e;omega
    have hS0 : W.cell? ⟨w.heap.size,0,none⟩ = some (.string ⟨from_.toArray⟩)∧W.cell? ⟨w.heap.size + 1,0,none⟩ = some (.string ⟨to_.toArray⟩):=⟨(cell_of_row _ _ 0 _ _ _ kf).trans rfl,(cell_of_row _ _ 0 _ _ _ kt).trans rfl⟩;have hkl : ∀ x y : List UInt8,(toldL (rngL x y l0)).length ≤ 81 * 150:=fun x y=>by have h3 : (rngL x y l0).length ≤ l0.length:=List.length_filter_le _ _;have h4:=toldL_len (l:=rngL x y l0) fun z hz=>HTW.out.few z (List.mem_filter.1 hz).1;have:=HWG.out.2;omega
    have hp1 : ¬ (9223372036854775807 < (toldL (rngL from_ midst l0)).length + (toldL (rngL midst to_ l0)).length):=by have:=hkl from_ midst;have:=hkl midst to_;omega
    have hcat : (ByteArray.mk (toldL (rngL from_ midst l0)).toArray ++ ByteArray.mk (toldL (rngL midst to_ l0)).toArray) = ⟨(toldL (rngL from_ to_ l0)).toArray⟩:=by rw [ByteArray.mk_append_mk,told_parts HRI.out HC.out.1 HC.out.2.1 HC.out.2.2]
    have HKS : Hid (∀ A B : World,Turned (PJ F p f) A B → (fun W : World=>W.cell? ⟨w.heap.size,0,none⟩ = some (.string ⟨from_.toArray⟩)∧W.cell? ⟨w.heap.size + 1,0,none⟩ = some (.string ⟨to_.toArray⟩)) A → (fun W : World=>W.cell? ⟨w.heap.size,0,none⟩ = some (.string ⟨from_.toArray⟩)∧W.cell? ⟨w.heap.size + 1,0,none⟩ = some (.string ⟨to_.toArray⟩)) B):=Hd fun A B ht h=>⟨(World.cell?_of_block (ht.block _ (World.block_lt_of_cell? A _ h.1) (hsep _ (by show w.heap.size < _;omega)))).trans h.1,(World.cell?_of_block (ht.block _ (World.block_lt_of_cell? A _ h.2) (hsep _ (by show w.heap.size + 1 < _;omega)))).trans h.2⟩
    have HCAT:=Hd (told_parts HRI.out HC.out.1 HC.out.2.1 HC.out.2.2)
    have hbw : Below w.heap.size w W:=((HB0.out.trans (HB02.out.mono HB0.out.size)).trans (HB25.out.mono (by omega))).trans (i4.below (by have:=HB0.out.size;omega) fun k e=>by
     rcases e with e | e
     ·have:=hown k e;omega
     ·omega)
    have HS:=Hd (And.intro hTWd (And.intro kr (And.intro hdf hbw)));have HSEP:=Hd hsep;have HOW : Hid (∀ k,PJ F p f k → w.heap.size ≤ k):=Hd fun k e=>by have:=hown k e;omega
    have hDn : D ≠ w.heap.size + 2:=by omega
    have HDN:=Hd hDn;clear hW kf kt kr hTW hTWd hsb hft hown hpj hs0 hb1 i1 i4 hdf hbw hsep hkl hDn;dsimp only;refine HKK.out _ _ ?_;refine wpIn_wide.2 ?_;go_upto_region 20 with fail;refine rgA (S:=(fun W : World=>W.cell? ⟨w.heap.size,0,none⟩ = some (.string ⟨from_.toArray⟩)∧W.cell? ⟨w.heap.size + 1,0,none⟩ = some (.string ⟨to_.toArray⟩))) hS0 (fun hH=>?_);refine tkB 0 rfl (v:=?_) ?_ hH ?_;rotate_left
    ·intro w hSw;obtain ⟨q0,q1⟩:=hSw;go_simp;try with_reducible rfl
    try simp only [Act.put,zA,zB,zC]
    refine tkB 1 rfl (v:=?_) ?_ hH ?_;rotate_left
    ·intro w hSw;obtain ⟨q0,q1⟩:=hSw;go_simp;try with_reducible rfl
    try simp only [Act.put,zA,zB,zC]
    refine tkB 2 rfl (v:=?_) ?_ hH ?_;rotate_left
    ·intro w hSw;obtain ⟨q0,q1⟩:=hSw;go_simp;try with_reducible rfl
    try simp only [Act.put,zA,zB,zC]
    refine tkB 4 rfl (v:=?_) ?_ hH ?_;rotate_left
    ·intro w hSw;obtain ⟨q0,q1⟩:=hSw;go_simp;try with_reducible rfl
    try simp only [Act.put,zA,zB,zC]
    refine tkB 5 rfl (v:=?_) ?_ hH ?_;rotate_left
    ·intro w hSw;obtain ⟨q0,q1⟩:=hSw;go_simp;try with_reducible rfl
    try simp only [Act.put,zA,zB,zC]
    refine tkB 6 rfl (v:=?_) ?_ hH ?_;rotate_left
    ·intro w hSw;obtain ⟨q0,q1⟩:=hSw;go_simp;try with_reducible rfl
    try simp only [Act.put,zA,zB,zC]
    refine tkB 9 rfl (v:=?_) ?_ hH ?_;rotate_left
    ·intro w hSw;obtain ⟨q0,q1⟩:=hSw;go_simp;try with_reducible rfl
    try simp only [Act.put,zA,zB,zC]
    refine tkB 10 rfl (v:=?_) ?_ hH ?_;rotate_left
    ·intro w hSw;obtain ⟨q0,q1⟩:=hSw;go_simp;try with_reducible rfl
    try simp only [Act.put,zA,zB,zC]
    refine tkB 11 rfl (v:=?_) ?_ hH ?_;rotate_left
    ·intro w hSw;obtain ⟨q0,q1⟩:=hSw;go_simp;try with_reducible rfl
    try simp only [Act.put,zA,zB,zC]
    refine rdA 3 rfl (fun K hK=>?_);go_simp;refine (HTOLD.out _ from_ midst HS.out.1).mono ?_;rintro e w3 ⟨rfl,htw,htt⟩;have hS3:=HKS.out _ _ htt hH
    have HT3:=Hd (And.intro htw htt);clear htw htt hH;go_wp2_with fail;refine hK.out _ _ hS3 (fun hH=>?_);clear hK K;try simp only [Act.put,zA,zB,zC]
    refine rdA 7 rfl (fun K hK=>?_);go_simp;refine (HTOLD.out _ midst to_ HT3.out.1).mono ?_;rintro e w7 ⟨rfl,htw,htt⟩;have hS7:=HKS.out _ _ htt hH
    have HT7:=Hd (And.intro htw (HT3.out.2.trans htt));clear htw htt hH;go_wp2_with fail;refine hK.out _ _ hS7 (fun hH=>?_);clear hK K;try simp only [Act.put,zA,zB,zC]
    refine tkB 8 rfl (v:=.string ⟨(toldL (rngL from_ to_ l0)).toArray⟩) ?_ hH ?_
    ·intro w hSw;go_simp;try rw [hcat];try with_reducible rfl
    try simp only [Act.put,zA,zB,zC]
    try simp only [Act.put,zA,zB,zC]
    refine rdA 12 rfl (fun K hK=>?_);go_simp;refine (HTOLD.out _ from_ to_ HT7.out.1).mono ?_;rintro e w12 ⟨rfl,htw,htt⟩;have hS12:=HKS.out _ _ htt hH
    have HT12:=Hd (And.intro htw (HT7.out.2.trans htt));have kr9:=keepB HT12.out.2 (HSEP.out _ (by omega)) (show W.drew.heap[w.heap.size + 2]? = some (bolO false) from HS.out.2.1)
    have cr9:=(cell_of_row _ _ 0 _ _ _ kr9).trans (Eq.refl (some (Value.bool false)));have fr9:=frozen_p kr9 0;have ht9:=turned_one w12 (w.heap.size + 2) 0 (.bool true)
    have HE : Hid ((w12.setCell ⟨w.heap.size + 2,0,none⟩ (.bool true)).heap[w.heap.size + 2]? = some (bolO true)∧Below w.heap.size w (w12.setCell ⟨w.heap.size + 2,0,none⟩ (.bool true))∧(w12.setCell ⟨w.heap.size + 2,0,none⟩ (.bool true)).heap[D]? = some (.deferred (some []))):=Hd (by
     have hbw:=HS.out.2.2.2;have hsz:=hbw.size;have hd1:=keepB HT12.out.2 (fun e=>by have:=HPJ.out _ e;have:=HSS.out;omega) (show W.drew.heap[D]? = some (.deferred (some [])) from HS.out.2.2.1)
     refine ⟨head_setCell kr9 _,(hbw.trans ((Turned.below (B:=w.heap.size) HT12.out.2.undrew hsz HOW.out))).trans (ht9.below (by have:=HT12.out.2.size;exact Nat.le_trans hsz this) fun k e=>by omega),keepB ht9 HDN.out hd1⟩)
    clear ht9 kr9;clear htw htt hH;go_wp2_with fail;refine hK.out _ _ hS12 (fun hH=>?_);clear hK K;try simp only [Act.put,zA,zB,zC]
    refine tkB 13 rfl (v:=?_) ?_ hH ?_;rotate_left
    ·intro w hSw;obtain ⟨q0,q1⟩:=hSw;go_simp;try with_reducible rfl
    try simp only [Act.put,zA,zB,zC]
    refine rdA 14 rfl (fun K hK=>?_);go_simp;have hS14 : (fun W : World=>W.cell? ⟨w.heap.size,0,none⟩ = some (.string ⟨from_.toArray⟩)∧W.cell? ⟨w.heap.size + 1,0,none⟩ = some (.string ⟨to_.toArray⟩)) (w12.setCell ⟨w.heap.size + 2,0,none⟩ (.bool true)):=⟨(World.cell?_of_block (Below.heap_setCell _ _ _ _ (by show w.heap.size ≠ w.heap.size + 2;omega))).trans hH.1,(World.cell?_of_block (Below.heap_setCell _ _ _ _ (by show w.heap.size + 1 ≠ w.heap.size + 2;omega))).trans hH.2⟩
    refine hK.out _ _ hS14 (fun hH=>?_);clear hK K;try simp only [Act.put,zA,zB,zC]
    refine dnA ?_;clear hH cr9 fr9;go_wp2_with fail;refine ⟨by simp,.inl ⟨_,_,rfl,run_takeDeferred HE.out.2.2,?_⟩⟩
    exact ⟨_,results_cell1 rfl rfl (load_bool ((World.putObj_heap_other (Ne.symm HDN.out)).trans HE.out.1)),rfl,HE.out.2.1.trans ((turned_put (T:=fun k=>k = D) _ _ _ rfl).below (Nat.le_trans HS.out.2.2.2.size (Nat.le_trans HT12.out.2.size (by simp))) fun k e=>by have:=HB0.out.size;have:=HB02.out.size;have:=HB25.out.size;omega)⟩)
   refine rangeT (F:=Fence.wide) rfl (by omega) (gf:=49) (lb:=#[boxp w2.heap.size,boxp (w2.heap.size + 1),boxp (w2.heap.size + 2)]) rfl trivial (enters_of Tryz.func49 (by kernel_rfl) rfl)
    (range_seq (n:=n) (J:=J) (seq:=seq) (B:=B) (F:=F) (p:=p) (f:=f) (R:=R) (tb:=tb) (bt:=w2.heap.size) (bf:=w2.heap.size + 1) (bq:=w2.heap.size + 2) (from_:=from_) (to_:=to_) 8 (by omega)) (fun _=>rfl)
    (fun pre W=>LiveR n J seq B F p f R tb w2.heap.size (w2.heap.size + 1) (w2.heap.size + 2) from_ to_ W∧W.heap[w3.heap.size + 1]? = some (izO (pre.length : Int))∧pre.length ≤ 20∧Turned (fun k=>PJ F p f k ∨ k = w3.heap.size + 1) W5 W)
    (fun c _ W=>c = .exit 0∧LiveR n J seq B F p f R tb w2.heap.size (w2.heap.size + 1) (w2.heap.size + 2) from_ to_ W∧Turned (fun k=>PJ F p f k ∨ k = w3.heap.size + 1) W5 W) ?hG (fun s A h=>h.1) ?hLp ?hI ?hU ?hIx ?h0
    (fun x a' A=>∃ b u35 u36 u37 u38 u39,W5.heap.size + 2 ≤ b∧A.heap[b]? = some (keyO x.1)∧a' = { tmps:=#[.slice a keys.length cap,.string ⟨from_.toArray⟩,.string ⟨midst.toArray⟩,.string ⟨to_.toArray⟩,undef,boxp w.heap.size,undef,boxp (w.heap.size + 1),boxp (w.heap.size + 1 + 1),.bool true,qptr f.q,trp tb,.bool true,boxp w3.heap.size,boxp (w3.heap.size + 1),boxp b,undef,.bool true,.tuple #[qptr f.q,trp tb,.bool true],.slice a keys.length cap,.tuple #[qptr f.q,trp tb,.bool true],qptr f.q,trp tb,.bool true,.bool true,.bool false,.bool false,.bool true,.bool false,.bool false,.string ⟨midst.toArray⟩,.string ⟨from_.toArray⟩,.bool false,.bool false,.string ⟨to_.toArray⟩,u35,u36,u37,u38,u39,.bool false,.bool false,.bool false,.string ⟨midst.toArray⟩,.bool false,.bool false,trp tb,.string ⟨from_.toArray⟩,.string ⟨to_.toArray⟩,rngF w2.heap.size (w2.heap.size + 1) (w2.heap.size + 2),rngF w2.heap.size (w2.heap.size + 1) (w2.heap.size + 2),.string ⟨x.1.toArray⟩,.string ⟨x.2.toArray⟩,undef,undef,undef,undef,undef,undef,undef,undef,undef,undef,undef,undef,undef,undef,undef,undef,undef,undef,undef,undef,undef,undef,undef,undef,undef,undef,undef,undef,undef,undef,undef,undef,undef,undef,undef,undef,undef,undef,undef],defers:=[] }) ?hAx ?assign ?body ?done ?stop
   case hAx =>
    rintro x a' A o ⟨b,u1,u2,u3,u4,u5,hb,hbx,e⟩;exact ⟨b,u1,u2,u3,u4,u5,hb,(World.putObj_heap_other (by omega)).trans hbx,e⟩
   case hG =>
    intro W hb;exact ⟨HL5.out.far HLOW.out (Turned.of_below (T:=fun k=>W5.heap.size ≤ k) hb) fun k hk e=>by omega,HLOW.out.mono hb.size⟩
   case hLp=>exact fun A A' h ht=>h.far HLOW.out ht fun k hk e=>by omega
   case hI =>
    rintro s A A' ⟨i1,i2,i3,i4⟩ ht hl;have hS:=HSS.out
    refine ⟨hl,keepB ht (fun e=>?_) i2,i3,i4.then ht fun i hi e=>?_⟩
    ·rcases e with e | e
     ·have:=HPJ.out _ e;omega
     ·omega
    ·rcases e with e | e
     ·exact .inl e
     ·omega
   case hU=>exact fun k hk=>by have:=HPJ.out k hk;have:=HSS.out;omega
   case hIx =>
    rintro c s A A' ⟨i0,i1,i4⟩ ht;exact ⟨i0,i1.far HLOW.out ht fun k hk e=>by omega,i4.then ht fun i hi e=>by omega⟩
   case h0=>exact ⟨HL5.out,HN5.out,Nat.zero_le _,Turned.refl _ _⟩
   case assign =>
    rintro L pre x W K1 ⟨i1,i2,i3,i4⟩ hpx hsz hK1;have hb1:=nodeAlloc W (keyO x.1)
    have hi1 : LiveR n J seq B F p f R tb w2.heap.size (w2.heap.size + 1) (w2.heap.size + 2) from_ to_ (W.alloc (keyO x.1)):=i1.far HLOW.out (Turned.of_below (T:=fun k=>W5.heap.size ≤ k) hb1) fun k hk e=>by omega
    have hi2:=(hb1.block _ (lt_of_heap i2)).trans i2;have HAL : Hid (W.heap.size = W.heap.size):=Hd rfl;have HI:=Hd (And.intro hi1 (And.intro hi2 (And.intro i3 (i4.trans (Turned.of_below hb1)))));clear i1 i2 i3 i4 hpx hb1 hi1 hi2;gi_wp2_with fail;exact hK1 _ _ (turned_alloc _ W _) HI.out ⟨W.heap.size,_,_,_,_,_,hsz,heap_alloc_new W _,rfl⟩
   case done =>
    rintro D W hD hsz ⟨i1,i2,i3,i4⟩ hK;exact HDONE.out D W _ _ _ _ _ _ _ hD i1 i4 hK
   case stop =>
    rintro D c pre W hD hsz hpre ⟨rfl,i1,i4⟩ hK;have HF:=Hd (fun q1 q2 u35 u36 u37 u38 u39=>HDONE.out D W q1 q2 u35 u36 u37 u38 u39 hD i1 i4 hK)
    clear i1 i4 hK hpre;gi_wp2_with fail;exact HF.out _ _ _ _ _ _ _
   case body =>
    rintro L pre x a' W hl ⟨r,hr⟩ ⟨i1,i2,i3,i4⟩ ⟨b,u35,u36,u37,u38,u39,hb,hbx,rfl⟩ hpx hsz;dsimp only;have hrng:=HRN.out
    have hmem : x ∈ rngL from_ to_ l0:=by rw [← hrng];exact (hpx.sublist).mem (by simp)
    obtain ⟨_,hin⟩:=List.mem_filter.1 hmem;have hq1 : ¬ x.1 < from_:=by intro h;rw [decide_eq_true h] at hin;simp at hin
    have hq2 : to_ = [] ∨ x.1 < to_:=by
     rcases Classical.em (to_ = []) with h | h
     ·exact .inl h
     ·rw [decide_eq_false h] at hin
      rcases Classical.em (x.1 < to_) with h2 | h2
      ·exact .inr h2
      ·rw [decide_eq_false h2] at hin;simp at hin
    have d1 : Op.bytesLess x.1 from_ = false:=by rw [bytesLess_dec];exact decide_eq_false hq1
    have d2 : to_.isEmpty = true ∨ Op.bytesLess x.1 to_ = true:=by
     rcases hq2 with h | h
     ·exact .inl (by rw [h];rfl)
     ·exact .inr (by rw [bytesLess_dec];exact decide_eq_true h)
    have c3:=HC3.out;have d5 : to_.isEmpty = false → Op.bytesLess x.1 to_ = true:=fun h=>d2.resolve_left (by rw [h];simp)
    first | (replace d2:=d5 c3) | clear d2
    clear d5;have hW : ∀ k,k < W5.heap.size → ¬ PJ F p f k → k ≠ w3.heap.size + 1 → W.heap[k]? = W5.heap[k]?:=fun k h1 h2 h3=>i4.block k h1 fun e=>e.elim h2 h3
    have hsb:=HSS.out;have hft:=HFT.out;have hown:=HOWN.out;have hpj:=HPJ.out;have kf:=(hW _ (lt_of_heap HF5.out) (fun e=>by have:=hown _ e;have:=lt_of_heap HF5.out;have:=HS0.out;have:=HB1.out.size;omega) (by omega)).trans HF5.out;have kt:=(hW _ (lt_of_heap HT5.out) (fun e=>by have:=hown _ e;have:=HS0.out;have:=HB1.out.size;omega) (by omega)).trans HT5.out;have ks:=(hW _ (lt_of_heap HS5.out) (fun e=>by have:=hpj _ e;omega) (by omega)).trans HS5.out;have cb:=(cell_of_row _ _ 0 _ _ _ hbx).trans (Eq.refl (some (Value.string ⟨x.1.toArray⟩)));have cf:=(cell_of_row _ _ 0 _ _ _ kf).trans (Eq.refl (some (Value.string ⟨from_.toArray⟩)));have ct:=(cell_of_row _ _ 0 _ _ _ kt).trans (Eq.refl (some (Value.string ⟨to_.toArray⟩)));have cs:=(cell_of_row _ _ 0 _ _ _ ks).trans (Eq.refl (some (rngF w2.heap.size (w2.heap.size + 1) (w2.heap.size + 2))));have cn:=(cell_of_row _ _ 0 _ _ _ i2).trans (Eq.refl (some (Value.int .i64 (pre.length : Int))));have HI:=Hd (And.intro i1 (And.intro i2 (And.intro i3 i4)));have HR1:=Hd hr;have HX:=Hd (And.intro hb (And.intro hbx (And.intro hpx hsz)));have HRL:=Hd hrng;have HL:=Hd hl;have HB2:=Hd (And.intro hsb hft);clear hmem hin hq1 hq2 hW hsb hft hown hpj kf kt ks i1 i2 i3 i4 hr hb hbx hpx hsz hrng hl;gi_wp2_with fail;rename_i K2 hK0;have HK2:=Hd hK0;clear hK0;clear cf ct cs d1
    refine rangeTN (n:=7) (F:=Fence.wide.inRound L) (l₀:=L) rfl HR1.out (by omega) (gf:=49) (lb:=#[boxp w2.heap.size,boxp (w2.heap.size + 1),boxp (w2.heap.size + 2)]) rfl trivial (enters_of Tryz.func49 (by kernel_rfl) rfl)
     (range_seqN (n:=n) (J:=J) (seq:=seq) (B:=B) (F:=F) (p:=p) (f:=f) (R:=R) (tb:=tb) (bt:=w2.heap.size) (bf:=w2.heap.size + 1) (bq:=w2.heap.size + 2) (from_:=from_) (to_:=to_) L 6 (by omega)) (fun _=>rfl)
     (fun pre2 W'=>LiveR n J seq B F p f R tb w2.heap.size (w2.heap.size + 1) (w2.heap.size + 2) from_ to_ W'∧(∀ z ∈ pre2,z.1 < x.1)∧Turned (PJ F p f) W W')
     (fun c _ W'=>c = .exit 2∧LiveR n J seq B F p f R tb w2.heap.size (w2.heap.size + 1) (w2.heap.size + 2) from_ to_ W'∧Turned (PJ F p f) W W') ?hG (fun s A h=>h.1) ?hLp ?hI ?hU ?hIx ?h0
     (fun y a' A=>∃ z58 z59 z60 z61 z62,a' = { tmps:=#[.slice a keys.length cap,.string ⟨from_.toArray⟩,.string ⟨midst.toArray⟩,.string ⟨to_.toArray⟩,undef,boxp w.heap.size,undef,boxp (w.heap.size + 1),boxp (w.heap.size + 1 + 1),.bool true,qptr f.q,trp tb,.bool true,boxp w3.heap.size,boxp (w3.heap.size + 1),boxp b,.string ⟨y.1.toArray⟩,.bool true,.tuple #[qptr f.q,trp tb,.bool true],.slice a keys.length cap,.tuple #[qptr f.q,trp tb,.bool true],qptr f.q,trp tb,.bool true,.bool true,.bool false,.bool false,.bool true,.bool false,.bool false,.string ⟨midst.toArray⟩,.string ⟨from_.toArray⟩,.bool false,.bool false,.string ⟨to_.toArray⟩,u35,u36,u37,u38,u39,.bool false,.bool false,.bool false,.string ⟨midst.toArray⟩,.bool false,.bool false,trp tb,.string ⟨from_.toArray⟩,.string ⟨to_.toArray⟩,rngF w2.heap.size (w2.heap.size + 1) (w2.heap.size + 2),rngF w2.heap.size (w2.heap.size + 1) (w2.heap.size + 2),.string ⟨x.1.toArray⟩,.string ⟨x.2.toArray⟩,.string ⟨x.1.toArray⟩,.string ⟨from_.toArray⟩,.bool false,.bool false,.string ⟨to_.toArray⟩,z58,z59,z60,z61,z62,.bool false,.bool false,rngF w2.heap.size (w2.heap.size + 1) (w2.heap.size + 2),.string ⟨y.1.toArray⟩,.string ⟨y.2.toArray⟩,undef,undef,undef,undef,undef,undef,undef,undef,undef,undef,undef,undef,undef,undef,undef,undef,undef,undef,undef,undef,undef,undef,undef,undef],defers:=[] }) (fun _ _ _ _ e=>e) ?assign ?body ?done ?stop
    case hG =>
     intro W' hb;have hsz:=HX.out.2.2.2
     exact ⟨HI.out.1.far HLOW.out (Turned.of_below (T:=fun k=>W.heap.size ≤ k) hb) fun k hk e=>by omega,HLOW.out.mono (by have:=hb.size;omega)⟩
    case hLp=>exact fun A A' h ht=>h.far HLOW.out ht fun k hk e=>by have:=HX.out.2.2.2;omega
    case hI =>
     rintro s A A' ⟨j1,j2,j3⟩ ht hl;exact ⟨hl,j2,j3.then ht fun i hi e=>e.elim id fun e=>by omega⟩
    case hU=>exact fun k hk=>by have:=HPJ.out k hk;have:=HSS.out;have:=HX.out.2.2.2;omega
    case hIx =>
     rintro c s A A' ⟨i0,i1,i4⟩ ht;exact ⟨i0,i1.far HLOW.out ht fun k hk e=>by have:=HX.out.2.2.2;omega,i4.then ht fun i hi e=>by omega⟩
    case h0=>exact ⟨HI.out.1,fun z hz=>(by simp at hz),Turned.refl _ _⟩
    case assign =>
     rintro L2 pre2 y W' K3 hj hpy hsz2 hK3;have HJ:=Hd hj
     clear hj hpy hsz2;gi_wp2_with fail;exact hK3 _ _ (Turned.refl _ _) HJ.out ⟨_,_,_,_,_,rfl⟩
    case done =>
     rintro W' hsz2 ⟨j1,j2,j3⟩;exact absurd (j2 x ((HX.out.2.2.1.sublist).mem (by simp))) (List.lt_irrefl _)
    case stop =>
     rintro c pre2 W' hsz2 hpre ⟨rfl,j1,j3⟩;have hhx:=HX.out
     have hi:=HI.out;have hb2:=HB2.out;have k2:=keepB j3 (fun e=>by have:=HPJ.out _ e;omega) hi.2.1;have cn2:=(cell_of_row _ _ 0 _ _ _ k2).trans (Eq.refl (some (Value.int .i64 (pre.length : Int))));have fn2:=frozen_p k2 0;have hwr : IntKind.i64.wrap ((pre.length : Int) + 1) = (pre.length : Int) + 1:=IntWalk.i64_in _ (by have:=hi.2.2.1;omega);have ht9:=turned_one W' (w3.heap.size + 1) 0 (.int .i64 ((pre.length : Int) + 1));have hn9 : (W'.setCell ⟨w3.heap.size + 1,0,none⟩ (.int .i64 ((pre.length : Int) + 1))).heap[w3.heap.size + 1]? = some (izO ((pre ++ [x]).length : Int)):=by rw [List.length_append];exact head_setCell k2 _
     have cn3:=(cell_of_row _ _ 0 _ _ _ hn9).trans (Eq.refl (some (Value.int .i64 ((pre ++ [x]).length : Int))));rw [List.length_append,List.length_singleton] at cn3
     have hLR : LiveR n J seq B F p f R tb w2.heap.size (w2.heap.size + 1) (w2.heap.size + 2) from_ to_ (W'.setCell ⟨w3.heap.size + 1,0,none⟩ (.int .i64 ((pre.length : Int) + 1))):=⟨j1.tr.turned ht9 (fun k hk e=>by
      rcases hk with hk | hk
      ·have:=HPJ.out k hk;omega
      ·have:=HTL.out.2.2;omega) (fun e=>by have:=HTL.out.1;omega),keepB ht9 (by omega) j1.hbt,keepB ht9 (by omega) j1.hbf,keepB ht9 (by omega) j1.hbq⟩
     have hT5 : Turned (fun k=>PJ F p f k ∨ k = w3.heap.size + 1) W5 (W'.setCell ⟨w3.heap.size + 1,0,none⟩ (.int .i64 ((pre.length : Int) + 1))):=(hi.2.2.2.then j3 fun i hi e=>.inl e).then ht9 fun i hi e=>.inr e;have hTW : Turned (fun k=>k < W5.heap.size) W (W'.setCell ⟨w3.heap.size + 1,0,none⟩ (.int .i64 ((pre.length : Int) + 1))):=(j3.mono fun k _ e=>by have:=HPJ.out k e;omega).then ht9 fun i hi e=>by omega
     have HALL:=Hd (And.intro hLR (And.intro hn9 (And.intro hT5 hTW)));have h20:=hi.2.2.1
     have hcase : (pre.length = 20∧decide ((20 : Int) < (pre.length : Int) + 1) = true) ∨ (pre.length < 20∧decide ((20 : Int) < (pre.length : Int) + 1) = false):=by
      rcases Nat.lt_or_ge pre.length 20 with h | h
      ·exact .inr ⟨h,by simp;omega⟩
      ·exact .inl ⟨by omega,by simp;omega⟩
     clear hhx hi hb2 k2 ht9 hn9 hLR hT5 hTW h20 j1 j3 hpre cb cn;rcases hcase with ⟨hd,hc⟩ | ⟨hd,hc⟩
     ·have HD:=Hd hd;clear hd;gi_wp2_with fail;refine HK2.out _ _ ?_;gi_wp2_with fail;exact ⟨HALL.out.2.2.2,rfl,HALL.out.1,HALL.out.2.2.1⟩
     ·have HD:=Hd hd;clear hd;gi_wp2_with fail;refine HK2.out _ _ ?_;gi_wp2_with fail;exact ⟨HALL.out.2.2.2,HALL.out.1,HALL.out.2.1,by have:=HD.out;simp;omega,HALL.out.2.2.1⟩
    case body =>
     rintro L2 pre2 y a'' W' hl2 ⟨r2,hr2⟩ ⟨j1,j2,j3⟩ ⟨z58,z59,z60,z61,z62,rfl⟩ hpy hsz2;dsimp only;have hhx:=HX.out
     have hrise : Rise (R.rangeN from_ to_):=by rw [HRN.out];exact HRI.out.sublist List.filter_sublist
     have hle:=part_le hrise ((hhx.2.2.1.sublist).mem (by simp)) hpy j2;have d3 : Op.bytesLess x.1 y.1 = false:=by rw [bytesLess_dec];exact decide_eq_false hle
     have kb:=keepB j3 (fun e=>by have:=HPJ.out _ e;have:=HB2.out;omega) hhx.2.1;have cb2:=(cell_of_row _ _ 0 _ _ _ kb).trans (Eq.refl (some (Value.string ⟨x.1.toArray⟩)));have HJ:=Hd (And.intro j1 (And.intro j2 j3));clear hhx hrise j1 j2 j3 hr2 hpy kb;by_cases e : y.1 = x.1
     ·have HE:=Hd e
      have q1 : (y.1 == x.1) = true:=by rw [e];exact beq_self_eq_true _
      clear hle e;gi_wp2_with fail;exact ⟨Turned.refl _ _,rfl,HJ.out.1,HJ.out.2.2⟩
     ·have hlt : y.1 < x.1:=Classical.byContradiction fun h=>e (List.le_antisymm (List.not_lt.1 hle) (List.not_lt.1 h))
      have HLE:=Hd hlt;have q1 : (y.1 == x.1) = false:=beq_false_of_ne e;have d4 : Op.bytesLess y.1 x.1 = true:=by rw [bytesLess_dec];exact decide_eq_true hlt
      clear hle e hlt;gi_wp2_with fail;refine ⟨Turned.refl _ _,HJ.out.1,fun z hz=>?_,HJ.out.2.2⟩;rcases List.mem_append.1 hz with hz | hz
      ·exact HJ.out.2.1 z hz
      ·obtain rfl : z = y:=by simpa using hz
       exact HLE.out
theorem bparts_card (w : World) (hn : Nib w) (v : Value) (keys : List (List UInt8)) (hv : IsRow rdStr w v keys) (s1 : ByteArray) (h1 : s1.size ≤ maxLen) (s2 : ByteArray) (h2 : s2.size ≤ maxLen) (s3 : ByteArray) (h3 : s3.size ≤ maxLen) :
  Calls Tryz.prog 4 #[v,.string s1,.string s2,.string s3] w fun e w'=>e = .returned (.bool true)∧Below w.heap.size w w':=by
 have h4:=bparts_walk w hn v keys hv s1.data.toList s2.data.toList s3.data.toList;rw [show (⟨s1.data.toList.toArray⟩ : ByteArray) = s1 from by rw [Array.toArray_toList],show (⟨s2.data.toList.toArray⟩ : ByteArray) = s2 from by rw [Array.toArray_toList],show (⟨s3.data.toList.toArray⟩ : ByteArray) = s3 from by rw [Array.toArray_toList]] at h4
 exact h4
end
end Go.Proofs.YtofibccplbnaiaaGreatDoor
namespace Go.Proofs.YtofibccplbnaiaaGreatDoor.cardBtreeParts
open Go.ChangeShapes Go.WideShapes Go.ChangeAt Go.RowKit Go.Deep
open Go.ChangeMaps (open_string shut_string)
theorem gTab : Tryz.prog.globalNamed "usance/wire.nibbles" = some 0 := by kernel_rfl
theorem gTabType : (Tryz.prog.globals[0]?).map (·.type) = some 180 := by kernel_rfl
theorem cellsTab : Tryz.prog.cellsOf 180 = 16 := by kernel_rfl
theorem cellsU32 : Tryz.prog.cellsOf 162 = 1 := by kernel_rfl
theorem table {W : World} (h : laidMetH Tryz.prog Rows.btreePartsRow.laid W) : Nib W := by
  have ht : Lib.TabIs Tryz.prog W "usance/wire.nibbles" .u32 [0, 498536548, 997073096, 651767980, 1994146192, 1802195444, 1303535960, 1342533948, 3988292384, 4027552580, 3604390888, 3412177804, 2607071920, 2262029012, 2685067896, 3183342108] :=
    Lib.tabIs_of_head (rest := []) gTab gTabType Tryz.underlying180 Tryz.underlying162 cellsU32 cellsTab h
  intro i hi
  rw [ht.cell gTab i (by simpa using hi)]
  have e : ∀ i : Fin 16, ([0, 498536548, 997073096, 651767980, 1994146192, 1802195444, 1303535960, 1342533948, 3988292384, 4027552580, 3604390888, 3412177804, 2607071920, 2262029012, 2685067896, 3183342108] : List Int).getD i.val 0 = ((UsCrc.nib.getD i.val 0 : Nat) : Int) := by decide
  rw [e ⟨i, hi⟩]
theorem contract (H : Type) (enc : TypeId × Value → H) (W : World) (base : Nat) (args : Array Value) (ds gs : List (DataW H)) (before : List MemPlace)
    (hval : ∀ (j : Nat) t v, Tryz.f4.params[j]? = some t → args[j]? = some v → Value.okWide Tryz.prog W .any base t v)
    (hW : DataW.Whole enc Tryz.prog Tryz.f4.params.toList Rows.btreePartsSpec.vars false W args.toList ds gs before) (hL : laidMetH Tryz.prog Rows.btreePartsRow.laid W)
    (hsz : (DataW.weightsEach Tryz.prog (Tryz.f4.params.toList ++ (OpenSpec.ofChange Rows.btreePartsSpec).bare.plain.varTypes Tryz.prog) (ds ++ gs)).all (· ≤ reachBytes) = true) :
    Calls Tryz.prog 4 args W fun e W' => ∃ v, e = .returned v ∧ Rows.btreePartsSpec.post enc Tryz.prog Tryz.f4 false true false false W args v W' := by
  have hW' := hW
  obtain ⟨p, q, hA0, hV, rfl, hfz, hnd⟩ := hW
  have hA : DataW.TrodAll enc Tryz.prog W 0 (fun _ => true) true Tryz.f4.params.toList args.toList ds p := hA0
  rw [Tryz.params4] at hA hval hsz
  obtain ⟨v0, vs0, d0, ds0, p0, q0, hargs, rfl, rfl, h0, r0⟩ := trodAll_cons hA
  obtain ⟨v1, vs1, d1, ds1, p1, q1, rfl, rfl, rfl, h1, r1⟩ := trodAll_cons r0
  obtain ⟨v2, vs2, d2, ds2, p2, q2, rfl, rfl, rfl, h2, r2⟩ := trodAll_cons r1
  obtain ⟨v3, vs3, d3, ds3, p3, q3, rfl, rfl, rfl, h3, r3⟩ := trodAll_cons r2
  obtain ⟨rfl, rfl, rfl⟩ := trodAll_nil r3
  obtain rfl : args = #[v0, v1, v2, v3] := by cases args; simp_all
  obtain ⟨rfl, rfl⟩ := trodVars_none hV
  have k0 := h0
  have lt0 : ∀ x ∈ p0, x.block < W.heap.size := by obtain ⟨m, hm⟩ := k0; exact DataW.trod_lt m _ _ _ hm
  have k1 := h1
  have lt1 : ∀ x ∈ p1, x.block < W.heap.size := by obtain ⟨m, hm⟩ := k1; exact DataW.trod_lt m _ _ _ hm
  have k2 := h2
  have lt2 : ∀ x ∈ p2, x.block < W.heap.size := by obtain ⟨m, hm⟩ := k2; exact DataW.trod_lt m _ _ _ hm
  have k3 := h3
  have lt3 : ∀ x ∈ p3, x.block < W.heap.size := by obtain ⟨m, hm⟩ := k3; exact DataW.trod_lt m _ _ _ hm
  simp only [List.append_nil, List.nil_append, List.cons_append] at hsz
  obtain ⟨xs0, ir0⟩ := open_row rdStr (by decide) Tryz.underlying22 (hval 0 22 v0 rfl rfl) h0 (light_arg (j := 0) hsz rfl rfl)
  have lg1 := light_arg (j := 1) hsz rfl rfl
  obtain ⟨s1, rfl, rfl, rfl, hs1⟩ := open_string Tryz.underlying9 (hval 1 9 v1 rfl rfl) h1
  have lg2 := light_arg (j := 2) hsz rfl rfl
  obtain ⟨s2, rfl, rfl, rfl, hs2⟩ := open_string Tryz.underlying9 (hval 2 9 v2 rfl rfl) h2
  have lg3 := light_arg (j := 3) hsz rfl rfl
  obtain ⟨s3, rfl, rfl, rfl, hs3⟩ := open_string Tryz.underlying9 (hval 3 9 v3 rfl rfl) h3
  have hnib := table hL
  clear hA0
  refine (bparts_card W hnib v0 xs0 ir0 s1 hs1 s2 hs2 s3 hs3).mono fun e W' ⟨he, bel⟩ => ?_
  subst he
  exact ⟨_, rfl, _, _, _, [], _, [], hW', trodAll_mk1 (shut_bool Tryz.underlying4 _), (trodAll_cons_mk (Below.trod laidOut (by kernel_rfl) (of_decide_eq_true (by kernel_rfl)) k0 bel lt0) (trodAll_cons_mk (Below.trod laidOut (by kernel_rfl) (of_decide_eq_true (by kernel_rfl)) k1 bel lt1) (trodAll_cons_mk (Below.trod laidOut (by kernel_rfl) (of_decide_eq_true (by kernel_rfl)) k2 bel lt2) (trodAll_cons_mk (Below.trod laidOut (by kernel_rfl) (of_decide_eq_true (by kernel_rfl)) k3 bel lt3) trodAll_mk0)))), rfl, bel.frame _, fun h => by cases h⟩
noncomputable def laidWorld (os : Os) : World :=
  { World.holding Tryz.prog os ⟨#[], #[], []⟩ with heap := (World.holding Tryz.prog os ⟨#[], #[], []⟩).heap.modify 0 fun
      | .cells _ t frozen => .cells #[.int .u32 0, .int .u32 498536548, .int .u32 997073096, .int .u32 651767980, .int .u32 1994146192, .int .u32 1802195444, .int .u32 1303535960, .int .u32 1342533948, .int .u32 3988292384, .int .u32 4027552580, .int .u32 3604390888, .int .u32 3412177804, .int .u32 2607071920, .int .u32 2262029012, .int .u32 2685067896, .int .u32 3183342108] t frozen
      | o => o }
theorem laid_met (os : Os) : laidMet Tryz.prog Rows.btreePartsRow.laid ((laidWorld os).forCall (fun _ _ => 0) ⟨#[], #[.slice none 0 0, .string ByteArray.empty, .string ByteArray.empty, .string ByteArray.empty], []⟩).memory :=
  laidMet_of_run' 8 (by kernel_rfl) (by kernel_rfl)
theorem reads (os : Os) {H : Type} (enc : TypeId × Value → H) : ∃ places, DataW.whole enc Tryz.prog ((laidWorld os).forCall (fun _ _ => 0) ⟨#[], #[.slice none 0 0, .string ByteArray.empty, .string ByteArray.empty, .string ByteArray.empty], []⟩).memory Tryz.f4.params.toList Rows.btreePartsSpec.vars false (#[.slice none 0 0, .string ByteArray.empty, .string ByteArray.empty, .string ByteArray.empty] : Array Value).toList 8 = some ([.nil, .lit (.string []), .lit (.string []), .lit (.string [])], [], places) :=
  ⟨[], by kernel_rfl⟩
theorem lifted (os : Os) (started : os.Started) (H : Type) (enc : TypeId × Value → H) (F : Stop.Interp) :
    ReturnsInHanded {} Tryz.checked os 4 .any ((OpenSpec.ofChange Rows.btreePartsSpec).preRow enc Tryz.prog Tryz.f4 Rows.btreePartsRow.domain false Rows.btreePartsRow.laid) (((OpenSpec.ofChange Rows.btreePartsSpec).at F).post enc Tryz.prog Tryz.f4 false true false false) := by
  obtain ⟨places, hx⟩ := reads os enc
  refine returnsInHanded_of_row (C := Tryz.checked) (s := OpenSpec.ofChange Rows.btreePartsSpec) own started (by kernel_rfl) Tryz.func4
    (witness_row_at (enc := enc) (C := Tryz.checked) false (laidWorld os) #[.slice none 0 0, .string ByteArray.empty, .string ByteArray.empty, .string ByteArray.empty] rfl (by kernel_rfl) (by kernel_rfl) (by kernel_rfl)
      (OpenSpec.preRow_of_cond 8 hx (by kernel_rfl) (fun k hk => by cases hk) (by kernel_rfl) (laid_met os))) ?_
  intro W base args ds gs before hval hW _ hcond hsz hL _ _
  exact contract H enc W base args ds gs before hval hW hL hsz
theorem said : Rows.BtreePartsSaid :=
  OpenClaim.holds_of_cond 4 Tryz.f4 rfl rfl rfl rfl rfl rfl rfl ⟨rfl, rfl, rfl, rfl, rfl⟩ rfl rfl rfl rfl rfl (by kernel_rfl) Tryz.func4 (by kernel_rfl)
    (of_decide_eq_true (by kernel_rfl)) (by unfold Func.isWrapper; first | (rw [if_pos (by decide +kernel)]; kernel_rfl) | (rw [if_neg (by decide +kernel)]; exact ⟨rfl, rfl⟩))
    (fun os started H enc _ F => by rw [OpenClaim.pre_eq_preRow]; exact lifted os started H enc F)
theorem plain (f : FuncId) (fn : Func) (hf : Tryz.pinned.checked.prog.funcNamed "usance/usancelaw10.BtreeParts" = some f) (hfn : Tryz.pinned.checked.prog.funcs[f]? = some fn) :
    false = Tryz.pinned.checked.prog.looks [] ∧ ∀ (j : Nat) t, fn.params[j]? = some t → Tryz.pinned.checked.prog.wantsStandIn t = false := by
  obtain rfl : f = 4 := Option.some.inj ((show Tryz.prog.funcNamed "usance/usancelaw10.BtreeParts" = some 4 by kernel_rfl).symm.trans hf) |>.symm
  obtain rfl : fn = Tryz.f4 := (Option.some.inj (Tryz.func4.symm.trans hfn)).symm
  refine ⟨by kernel_rfl, fun j t ht => ?_⟩
  rw [Tryz.params4] at ht
  have hm := Array.mem_of_getElem? ht
  simp only [List.mem_toArray, List.mem_cons, List.not_mem_nil, or_false] at hm
  rcases hm with rfl | rfl | rfl | rfl
  · exact (show Tryz.prog.wantsStandIn 22 = false by kernel_rfl)
  · exact (show Tryz.prog.wantsStandIn 9 = false by kernel_rfl)
  · exact (show Tryz.prog.wantsStandIn 9 = false by kernel_rfl)
  · exact (show Tryz.prog.wantsStandIn 9 = false by kernel_rfl)
theorem proved : Rows.BtreePartsCardSaid :=
  Claim7.holds_tied_plain_at .later [] _ _ _ _ said (fun _ h => by cases h) (by kernel_rfl) (fun _ h => by cases h) btreeParts_row_tie rfl ⟨rfl, rfl⟩ (by kernel_rfl) rfl plain (by kernel_rfl)
#print axioms proved
end Go.Proofs.YtofibccplbnaiaaGreatDoor.cardBtreeParts
