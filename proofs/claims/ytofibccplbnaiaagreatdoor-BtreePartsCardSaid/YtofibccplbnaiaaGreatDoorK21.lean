/- Contracts of the functions that the statements of this seat reach, part 21: each says what the call answers and what it leaves of the memory. -/
import Derived.Test.YtofibccplbnaiaaGreatDoorK20
import Derived.Laws.Concat
set_option linter.unusedVariables false
set_option linter.unusedSimpArgs false
set_option maxRecDepth 100000
namespace Go.Proofs.YtofibccplbnaiaaGreatDoor
section
open Go.RowKit Go.Shelf Go.Lib
attribute [local go_sem] Oper.semAt_some
def toldL (l : List KV) : List UInt8:=l.flatMap fun x=>UInt8.ofNat x.1.length :: x.1
theorem toldL_snoc (l : List KV) (x : KV) : toldL (l ++ [x]) = toldL l ++ (UInt8.ofNat x.1.length :: x.1):=by simp [toldL]
theorem toldL_len {l : List KV} (h : ∀ x ∈ l,x.1.length ≤ 80) : (toldL l).length ≤ 81 * l.length:=by
 induction l with
 | nil=>simp [toldL]
 | cons x r ih =>
  have h1:=h x (List.mem_cons_self ..);have h2:=ih fun y hy=>h y (List.mem_cons_of_mem _ hy);have e : toldL (x :: r) = (UInt8.ofNat x.1.length :: x.1) ++ toldL r:=rfl;rw [e,List.length_append,List.length_cons,List.length_cons];omega
theorem load_str {w : World} {g : Nat} {b : List UInt8} (h : w.heap[g]? = some (keyO b)) : (loadVar 9 ⟨g,0,none⟩).run Tryz.prog w = .ok (.string ⟨b.toArray⟩) w:=by
 have hc : w.cell? ⟨g,0,none⟩ = some (.string ⟨b.toArray⟩):=by rw [cell_of_row _ _ _ _ _ _ h];rfl
 have hagg : (isAgg 9).run Tryz.prog w = .ok false w:=by unfold isAgg;rw [Sem.run_bind,run_underlying Tryz.underlying9 w];rfl
 simp [loadVar,Sem.run_bind,hagg,go_sem,hc,Result.andThen]
section
variable {m : Nat} {F : Ft} {p : Nat} {f : Pf} {tb : Nat} {l : List KV} {from_ to_ : List UInt8}
theorem LowR.mono {N N' bt bf bq : Nat} (h : LowR F p f tb bt bf bq N) (hN : N ≤ N') : LowR F p f tb bt bf bq N' :=
 ⟨fun k hk=>Nat.lt_of_lt_of_le (h.pj k hk) hN,Nat.lt_of_lt_of_le h.nib hN,Nat.lt_of_lt_of_le h.htb hN,Nat.lt_of_lt_of_le h.hbt hN,Nat.lt_of_lt_of_le h.hbf hN,Nat.lt_of_lt_of_le h.hbq hN,h.at_,h.af,h.aq⟩
theorem LiveR.tw {n : Nat} {J : Jn} {seq : Int} {B : List (List UInt8)} {R : Rp} {bt bf bq : Nat} {W : World} (h : LiveR n J seq B F p f R tb bt bf bq from_ to_ W) (h2 : Tre R l) (h3 : R.pages.length = m) (h4 : 4 ≤ m) (h5 : m ≤ 255) : TW W m F p f tb l:=⟨⟨n,J,seq,B,R,h.tr,h2,h3⟩,h4,h5⟩
theorem range_begin {n : Nat} {J : Jn} {seq : Int} {B : List (List UInt8)} {R : Rp} {w w2 : World} (h : Tr n J seq B w F p f R tb) (he : w2 = ((w.alloc (trpO tb)).alloc (keyO from_)).alloc (keyO to_)) :
  Below w.heap.size w w2∧w2.heap.size = w.heap.size + 3∧LiveR n J seq B F p f R tb w.heap.size (w.heap.size + 1) (w.heap.size + 2) from_ to_ w2∧LowR F p f tb w.heap.size (w.heap.size + 1) (w.heap.size + 2) w2.heap.size:=by
 have hs : w2.heap.size = w.heap.size + 3:=by rw [he];simp
 have hb : Below w.heap.size w w2:=by rw [he];exact ((nodeAlloc w _).alloc (by simp) _).alloc (by simp;omega) _
 have h0 : w2.heap[w.heap.size]? = some (trpO tb):=by rw [he];exact (Below.heap_alloc _ _ _ (by simp;omega)).trans ((Below.heap_alloc _ _ _ (by simp)).trans (heap_alloc_new w _))
 have h1 : w2.heap[w.heap.size + 1]? = some (keyO from_):=by
  rw [he];have:=heap_alloc_new (w.alloc (trpO tb)) (keyO from_)
  rw [World.size_alloc] at this;exact (Below.heap_alloc _ _ _ (by simp)).trans this
 have h2 : w2.heap[w.heap.size + 2]? = some (keyO to_):=by
  rw [he];have:=heap_alloc_new ((w.alloc (trpO tb)).alloc (keyO from_)) (keyO to_)
  rw [World.size_alloc,World.size_alloc] at this;exact this
 refine ⟨hb,hs,⟨h.step hb,h0,h1,h2⟩,⟨fun k hk=>by have:=h.lp.lt hk;omega,by have:=h.lp.nib_lt;omega,by have:=lt_of_heap h.head;omega,by omega,by omega,by omega,fun e=>by have:=h.lp.lt e;omega,fun e=>by have:=h.lp.lt e;omega,fun e=>by have:=h.lp.lt e;omega⟩⟩
set_option maxHeartbeats 8000000 in
theorem btold_any {w : World} (h : TW w m F p f tb l) (hkv : ∀ x ∈ l,x.1 = x.2) (hkl : ∀ x ∈ l,x.1.length ≤ 80) (hll : l.length ≤ 100000) :
  Calls Tryz.prog 20 #[trp tb,.string ⟨from_.toArray⟩,.string ⟨to_.toArray⟩] w fun e w'=>e = .returned (.string ⟨(toldL (rngL from_ to_ l)).toArray⟩)∧TW w' m F p f tb l∧Turned (PJ F p f) w w':=by
 obtain ⟨⟨n,J,seq,B,R,h1,h2,h3⟩,h4,h5⟩:=h;have hrg : R.rangeN from_ to_ = rngL from_ to_ l:=h2.range h1.lp.good (TreH.low39 h1.lp.good (by omega)) from_ to_
 obtain ⟨W1,hW1⟩ : ∃ x,x = (w.alloc (keyO [])).alloc (keyO []):=⟨_,rfl⟩;have hb1 : Below w.heap.size w W1:=by rw [hW1];exact (nodeAlloc w _).alloc (by simp) _
 have hs1 : W1.heap.size = w.heap.size + 2:=by rw [hW1];simp
 have r1 : W1.heap[w.heap.size]? = some (keyO []):=by rw [hW1];exact (Below.heap_alloc _ _ _ (by simp)).trans (heap_alloc_new w _)
 have o1 : W1.heap[w.heap.size + 1]? = some (keyO []):=by
  rw [hW1];have:=heap_alloc_new (w.alloc (keyO [])) (keyO [])
  rw [World.size_alloc] at this;exact this
 have hT1:=h1.step hb1;obtain ⟨w2,hw2⟩ : ∃ w2,w2 = ((W1.alloc (trpO tb)).alloc (keyO from_)).alloc (keyO to_):=⟨_,rfl⟩;obtain ⟨hb2,hs2,hl2,hlow2⟩:=range_begin hT1 hw2;have r2:=(hb2.block _ (lt_of_heap r1)).trans r1;have o2:=(hb2.block _ (lt_of_heap o1)).trans o1;have hpj : ∀ k,PJ F p f k → k < w.heap.size:=fun k hk=>h1.lp.lt hk;have htl:=lt_of_heap h1.head;have hnl:=h1.lp.nib_lt;have HRG:=Hd (trange_any W1 (trp tb) (.inr ⟨tb,rfl⟩) from_ to_);rw [← hw2] at HRG;have HL2:=Hd hl2;have HLOW:=Hd hlow2;have HR2:=Hd r2;have HO2:=Hd o2;have HW1:=Hd hW1;have HS:=Hd (And.intro hs1 hs2);have HPJ:=Hd hpj;have HTRE:=Hd h2;have HM:=Hd h3;have HBB : Hid (Below w.heap.size w w2):=Hd (hb1.trans (hb2.mono (by omega)));have HRN:=Hd hrg;have HB2:=Hd hb2;have HTN:=Hd (And.intro htl hnl);clear h1 h2 h3 hrg hW1 hb1 hs1 r1 o1 hT1 hw2 hb2 hs2 hl2 hlow2 r2 o2 hpj htl hnl;refine callsIn_wide (n:=3).1 ?_;refine callsIn_of_wp_marks Tryz.func20 rfl trivial ?_ rfl;simp only [Tryz.ntmps20,List.size_toArray,List.length_cons,List.length_nil,Nat.reduceAdd,Nat.reduceSub,Array.replicate_succ,Array.replicate_zero,List.push_toArray,List.append_toArray,List.nil_append,List.cons_append];gi_wp2_with fail;rw [← HW1.out];refine ⟨trivial,?_⟩;refine (callsIn_wide.2 HRG.out).mono ?_;rintro e w5 ⟨rfl,e5⟩;obtain rfl : w2 = w5:=e5.symm;gi_wp2_with fail
 refine rangeT (F:=Fence.wide) rfl (by omega) (gf:=49) (lb:=#[boxp W1.heap.size,boxp (W1.heap.size + 1),boxp (W1.heap.size + 2)]) rfl trivial (enters_of Tryz.func49 (by kernel_rfl) rfl)
  (range_seq (n:=n) (J:=J) (seq:=seq) (B:=B) (F:=F) (p:=p) (f:=f) (R:=R) (tb:=tb) (bt:=W1.heap.size) (bf:=W1.heap.size + 1) (bq:=W1.heap.size + 2) (from_:=from_) (to_:=to_) 2 (by omega)) (fun _=>rfl)
  (fun pre W=>LiveR n J seq B F p f R tb W1.heap.size (W1.heap.size + 1) (W1.heap.size + 2) from_ to_ W∧W.heap[w.heap.size + 1]? = some (keyO (toldL pre))∧Turned (fun k=>PJ F p f k ∨ k = w.heap.size + 1) w2 W)
  (fun _ _ _=>False) ?hG (fun s A h=>h.1) ?hLp ?hI ?hU (fun _ _ _ _ h=>h.elim) ?h0 (fun x a' A=>a' = { tmps:=#[trp tb,.string ⟨from_.toArray⟩,.string ⟨to_.toArray⟩,undef,undef,undef,boxp w.heap.size,boxp (w.heap.size + 1),.string ⟨x.1.toArray⟩,.string ⟨x.2.toArray⟩,trp tb,.string ⟨from_.toArray⟩,.string ⟨to_.toArray⟩,rngF W1.heap.size (W1.heap.size + 1) (W1.heap.size + 2),.string ⟨x.1.toArray⟩,.string ⟨x.2.toArray⟩,undef,undef,undef,undef,undef,undef,undef,undef,undef,undef,undef,undef,undef],defers:=[] }) (fun _ _ _ _ h=>h) ?assign ?body ?done (fun _ _ _ _ _ _ _ h=>h.elim)
 case assign =>
  rintro L pre x W K hi hpx hsz hK;gi_wp2_with fail;exact hK _ _ (Turned.refl _ _) hi rfl
 case hG =>
  intro W hb;have hl:=HL2.out.far HLOW.out (Turned.of_below (T:=fun k=>w2.heap.size ≤ k) hb) fun k hk e=>by omega
  exact ⟨hl,HLOW.out.mono hb.size⟩
 case hLp=>exact fun A A' h ht=>h.far HLOW.out ht fun k hk e=>by omega
 case hI =>
  rintro s A A' ⟨i1,i2,i3⟩ ht hl;have hS:=HS.out
  refine ⟨hl,keepB ht (fun e=>?_) i2,i3.then ht fun i hi e=>?_⟩
  ·rcases e with e | e
   ·have:=HPJ.out _ e;omega
   ·omega
  ·rcases e with e | e
   ·exact .inl e
   ·omega
 case hU=>exact fun k hk=>by have:=HPJ.out k hk;have:=HS.out;omega
 case h0=>exact ⟨HL2.out,HO2.out,Turned.refl _ _⟩
 case done =>
  rintro D W hD hsz ⟨i1,i2,i3⟩ hK;rw [HRN.out] at i2;have hS:=HS.out
  have hr:=keepB i3 (fun e=>by
   rcases e with e | e
   ·have:=HPJ.out _ e;omega
   ·omega) HR2.out
  have c1:=(cell_of_row _ _ 0 _ _ _ i2).trans rfl;have c0:=(cell_of_row _ _ 0 _ _ _ hr).trans rfl;have f0:=frozen_p hr 0;have ht6:=turned_one W w.heap.size 0 (.string ⟨(toldL (rngL from_ to_ l)).toArray⟩);have hK6:=keepB ht6 (by omega) hK;have hr6 : (W.setCell ⟨w.heap.size,0,none⟩ (.string ⟨(toldL (rngL from_ to_ l)).toArray⟩)).heap[w.heap.size]? = some (keyO (toldL (rngL from_ to_ l))):=head_setCell hr _;have ht7 : ∀ o,Turned (fun k=>k = w.heap.size ∨ k = D) W ((W.setCell ⟨w.heap.size,0,none⟩ (.string ⟨(toldL (rngL from_ to_ l)).toArray⟩)).putObj D o):=fun o=>(ht6.mono fun k _ e=>.inl e).trans (turned_put _ D o (.inr rfl));have hne : ∀ k,k < w.heap.size → ¬ (k = w.heap.size ∨ k = D):=fun k hk e=>by omega
  have HE : Hid (∀ o,TW ((W.setCell ⟨w.heap.size,0,none⟩ (.string ⟨(toldL (rngL from_ to_ l)).toArray⟩)).putObj D o) m F p f tb l∧Turned (PJ F p f) w ((W.setCell ⟨w.heap.size,0,none⟩ (.string ⟨(toldL (rngL from_ to_ l)).toArray⟩)).putObj D o)):=Hd fun o=>by
   have hTW : TW W m F p f tb l:=i1.tw HTRE.out HM.out h4 h5;refine ⟨hTW.turned (ht7 o) (fun k hk=>hne k ?_) (hne _ HTN.out.1),(((Turned.of_below HBB.out).then i3 fun i hi e=>?_)).then (ht7 o) fun i hi e=>absurd e (hne i hi)⟩
   ·rcases hk with e | e
    ·exact HPJ.out k e
    ·rw [e];exact HTN.out.2
   ·rcases e with e | e
    ·exact e
    ·omega
  have HK6:=Hd hK6;have HR6:=Hd hr6;have hDr : w.heap.size ≠ D:=by omega
  clear i1 i2 i3 hr ht6 ht7 hK6 hr6 hK hne hS;gi_wp2_with fail;refine ⟨by simp,.inl ⟨_,_,rfl,run_takeDeferred HK6.out,?_⟩⟩;exact ⟨_,results_cell1 rfl rfl (load_str ((World.putObj_heap_other hDr).trans HR6.out)),rfl,HE.out _⟩
 case body =>
  rintro L pre x a' W hl ⟨r,hr⟩ ⟨i1,i2,i3⟩ rfl hpx hsz
  have hxl : x ∈ l:=by
   rw [HRN.out] at hpx;have h1 : x ∈ rngL from_ to_ l:=(hpx.sublist).mem (by simp)
   exact (List.mem_filter.1 h1).1
  have e1:=hkv x hxl;have e2:=hkl x hxl;have e3 : (toldL pre).length ≤ 81 * 100000:=by have h2 : pre <+: R.rangeN from_ to_:=(List.prefix_append pre [x]).trans hpx;rw [HRN.out] at h2;have h3 : pre.length ≤ l.length:=Nat.le_trans h2.length_le (List.length_filter_le _ _);have h4:=toldL_len (l:=pre) fun y hy=>hkl y (List.mem_filter.1 (h2.sublist.mem hy)).1;omega
  have co:=(cell_of_row _ _ 0 _ _ _ i2).trans rfl;have fo:=frozen_p i2 0;obtain ⟨k,v⟩:=x;dsimp only at e1 e2;subst e1;have HI1:=Hd i1;have HI2:=Hd i2;have HI3:=Hd i3;have hby:=isB_byte W 5 (k.length : Int) (UInt8.ofNat k.length) (by rw [UInt8.toNat_ofNat'];omega);have hcv:=run_str (P:=Tryz.prog) hby 106 9 5 Tryz.underlying106 Tryz.underlying5 Tryz.underlying9;have hp1 : ¬ (9223372036854775807 < (toldL pre).length + [UInt8.ofNat k.length].length):=by simp;omega
  have hp2 : ¬ (9223372036854775807 < (toldL pre ++ [UInt8.ofNat k.length]).length + k.length):=by simp;omega
  have hp3 : ¬ (9223372036854775807 < (toldL pre).length + 1):=by omega
  have hp4 : ¬ (9223372036854775807 < (toldL pre).length + 1 + k.length):=by omega
  have co1 : (W.alloc (.cells #[.int .u8 (k.length : Int)] 5)).cell? ⟨w.heap.size + 1,0,none⟩ = some (.string ⟨(toldL pre).toArray⟩):=((nodeAlloc W _).cell (p:=⟨w.heap.size + 1,0,none⟩) (World.block_lt_of_cell? W _ co)).trans co;have fo1 : (W.alloc (.cells #[.int .u8 (k.length : Int)] 5)).frozen? ⟨w.heap.size + 1,0,none⟩ = false:=frozen_p ((Below.heap_alloc W _ _ (lt_of_heap i2)).trans i2) 0;clear i1 i2 i3 hpx hby;have hcat : (ByteArray.mk (toldL pre).toArray ++ ByteArray.mk #[UInt8.ofNat k.length] ++ ByteArray.mk k.toArray) = ⟨(toldL (pre ++ [(k,k)])).toArray⟩:=by have h1 : (#[UInt8.ofNat k.length] : Array UInt8) = [UInt8.ofNat k.length].toArray:=rfl;rw [h1,ByteArray.mk_append_mk,ByteArray.mk_append_mk,toldL_snoc,List.append_assoc];rfl
  have HCAT:=Hd hcat;clear hcat;gi_wp2_with fail;rw [HCAT.out];have hb8:=nodeAlloc W (.cells #[.int .u8 (k.length : Int)] 5);have o8:=(hb8.block _ (lt_of_heap HI2.out)).trans HI2.out;have ht9:=turned_one (W.alloc (.cells #[.int .u8 (k.length : Int)] 5)) (w.heap.size + 1) 0 (.string ⟨(toldL (pre ++ [(k,k)])).toArray⟩);have ht8 : Turned (fun k=>k = w.heap.size + 1) W ((W.alloc (.cells #[.int .u8 (k.length : Int)] 5)).setCell ⟨w.heap.size + 1,0,none⟩ (.string ⟨(toldL (pre ++ [(k,k)])).toArray⟩)):=(Turned.of_below hb8).trans ht9;have hS:=HS.out;refine ⟨ht8.mono fun j _ e=>by omega,?_,head_setCell o8 _,HI3.out.trans (ht8.mono fun j _ e=>.inr e)⟩;have hl:=HI1.out;refine ⟨hl.tr.turned ht8 (fun j hj e=>?_) (fun e=>by have:=HTN.out.1;omega),keepB ht8 (by omega) hl.hbt,keepB ht8 (by omega) hl.hbf,keepB ht8 (by omega) hl.hbq⟩;rcases hj with hj | hj
  ·have:=HPJ.out j hj;omega
  ·have:=HTN.out.2;omega
end
end
end Go.Proofs.YtofibccplbnaiaaGreatDoor
