/- Contracts of the functions that the statements of this seat reach, part 5: each says what the call answers and what it leaves of the memory. -/
import Derived.Test.YtofibccplbnaiaaDoorR4
import Derived.Test.YtofibccplbnaiaaDoorR3
import Derived.Test.YtofibccplbnaiaaDoorR2
import Derived.LoopTactic
import Derived.StillTailTactics
import Derived.IntWalk
import Derived.Deep.OwnRows
import Derived.Deep.Onto
set_option linter.unusedVariables false
set_option linter.unusedSimpArgs false
set_option maxRecDepth 100000
namespace Go.Proofs.YtofibccplbnaiaaDoor
section
open Go.RowKit
def ElB (w : World) : List Value → List (List UInt8) → Prop
 | [],[]=>True
 | u :: us,l :: ls=>IsB w u l∧ElB w us ls
 | _,_=>False
theorem ElB.len {w : World} : ∀ {us : List Value} {ls : List (List UInt8)},ElB w us ls → us.length = ls.length
 | [],[],_=>rfl
 | [],_ :: _,h=>h.elim
 | _ :: _,[],h=>h.elim
 | _ :: _,_ :: _,h=>by simp [ElB.len h.2]
theorem ElB.get {w : World} : ∀ {us : List Value} {ls : List (List UInt8)},ElB w us ls → ∀ i (h1 : i < us.length) (h2 : i < ls.length),IsB w us[i] ls[i]
 | [],[],_,i,h1,_=>by simp at h1
 | [],_ :: _,h,_,_,_=>h.elim
 | _ :: _,[],h,_,_,_=>h.elim
 | u :: us,l :: ls,h,0,_,_=>h.1
 | u :: us,l :: ls,h,i + 1,h1,h2=>ElB.get h.2 i (by simpa using h1) (by simpa using h2)
theorem RowV.elB {B : Nat} {w : World} {v : Value} {us : List Value} (h : RowV B w v us) {ls : List (List UInt8)} (he : ElB w us ls) : IsBs w v ls:=h.isBs he.len he.get
theorem IsB.part {w : World} {g N c : Nat} {b : List UInt8} (h : IsB w (.slice (some ⟨g,0,none⟩) N c) b) (i n : Nat) (hn : i + n ≤ b.length) : IsB w (.slice (some ⟨g,i,none⟩) n n) ((b.drop i).take n):=by
 obtain ⟨a,cap,hv,h1,h2,h3,h4⟩:=h;simp only [Value.slice.injEq] at hv;obtain ⟨rfl,hN,rfl⟩:=hv;obtain ⟨_,hc⟩:=h4 _ rfl;have hl : ((b.drop i).take n).length = n:=by simp;omega
 refine ⟨some ⟨g,i,none⟩,n,by rw [hl],by rw [hl];exact Nat.le_refl _,by omega,fun e=>(by cases e),fun x hx=>?_⟩;obtain rfl:=Option.some.inj hx;refine ⟨fun _=>rfl,fun j hj=>?_⟩;rw [hl] at hj;have:=hc (i + j) (by omega)
 simp only [Nat.zero_add] at this;rw [this];simp
theorem chunks_eq : ∀ (m : Nat) (b : List UInt8),chunks m b = (List.range m).map fun i=>(b.drop (112 * i)).take 112
 | 0,b=>rfl
 | m + 1,b=>by rw [chunks,chunks_eq m,List.range_succ_eq_map,List.map_cons,List.map_map];congr 1;apply List.map_congr_left;intro i _;simp only [Function.comp,List.drop_drop];congr 2;omega
theorem chunks_length (m : Nat) (b : List UInt8) : (chunks m b).length = m:=by simp [chunks_eq]
theorem chunk_elB {w : World} {g N c : Nat} {b : List UInt8} (h : IsB w (.slice (some ⟨g,0,none⟩) N c) b) (l : List Nat) (hl : ∀ i ∈ l,112 * i + 112 ≤ b.length) : ElB w (chunkVals g l) (l.map fun i=>(b.drop (112 * i)).take 112):=by
 induction l with
 | nil=>trivial
 | cons x r ih=>exact ⟨h.part (112 * x) 112 (hl x (by simp)),ih fun i hi=>hl i (by simp [hi])⟩
theorem chunks_elB {w : World} {g N c : Nat} {b : List UInt8} (h : IsB w (.slice (some ⟨g,0,none⟩) N c) b) (m : Nat) (hm : 112 * m ≤ b.length) : ElB w (chunkVals g (List.range m)) (chunks m b):=by rw [chunks_eq];exact chunk_elB h _ fun i hi=>by have:=List.mem_range.1 hi;omega
theorem Mine.slice {e : TypeId} {B : Nat} {w : World} {v : Value} {b : List UInt8} (h : Mine e B w v b) (h0 : 0 < b.length) : ∃ g c,v = .slice (some ⟨g,0,none⟩) b.length c∧B ≤ g∧b.length ≤ c∧g < w.heap.size:=by
 rcases h.2 with ⟨rfl,hn⟩ | ⟨g,cap,cur,rfl,hb,hg,hnc,hcm,hcs,htake⟩
 ·omega
 ·exact ⟨g,cap,rfl,hb,hnc,lt_of_heap hg⟩
theorem oLook_mem {o : List (Int × List UInt8)} {k : Int} (h : k ∈ o.map (·.1)) : oLook o k ≠ none:=by obtain ⟨y,hy,rfl⟩:=List.mem_map.1 h;intro e;simp only [oLook,Option.map_eq_none_iff,List.find?_eq_none] at e;simpa using e y hy
end
section
open Go.RowKit
theorem Live.blocks {n : Nat} {J : Jn} {seq : Int} {B : List (List UInt8)} {ok : Nat → Prop} (h : Live n J seq B ok) : J.D.blocks = (n - 2) / 2:=by rw [Dk.blocks,h.hn]
theorem updB_nil (B : List (List UInt8)) (ls : List (List UInt8)) : updB B [] ls = B:=by rw [updB]
theorem write_nil {n : Nat} {J : Jn} {seq : Int} {B : List (List UInt8)} {ok : Nat → Prop} (h : Live n J seq B ok) {ls : List (List UInt8)} (hr : rightW ((n - 2) / 2) [] ls = true) : J.write [] ls = (0,J):=by rw [Jn.write,if_neg (by simp [h.off]),h.blocks,if_neg (by simp [hr]),if_pos List.length_nil]
theorem write_yes {n : Nat} {J : Jn} {seq : Int} {B : List (List UInt8)} {ok : Nat → Prop} (h : Live n J seq B ok) {zs : List Int} {ls : List (List UInt8)} (hr : rightW ((n - 2) / 2) zs ls = true) (h0 : zs.length ≠ 0) : J.write zs ls = ((J.writes zs ls).off,J.writes zs ls):=by rw [Jn.write,if_neg (by simp [h.off]),h.blocks,if_neg (by simp [hr]),if_neg h0]
structure WroteOk (n : Nat) (J : Jn) (seq : Int) (B : List (List UInt8)) (zs : List Int) (ls : List (List UInt8)) : Prop where
 err : (J.write zs ls).1 = 0
 live : Live n (J.write zs ls).2 (if zs.length = 0 then seq else seq + 1) (updB B zs ls) AllOk
 last : (J.write zs ls).2.last ≤ J.last + 1
 cut : (J.write zs ls).2.D.cut = J.D.cut
 ops : (J.write zs ls).2.D.ops ≤ J.D.ops + (2 * zs.length + 4)
 same : zs.length = 0 → (J.write zs ls).2 = J
theorem write_ok {n : Nat} {J : Jn} {seq : Int} {B : List (List UInt8)} {zs : List Int} {ls : List (List UInt8)} (h : Live n J seq B AllOk) (hcut : J.D.cut < 0) (hr : rightW ((n - 2) / 2) zs ls = true) (ht : J.last + 1 < 4611686018427387904) (hb : J.D.ops + (2 * zs.length + 4) ≤ 1048576) : WroteOk n J seq B zs ls:=by
 by_cases h0 : zs.length = 0
 ·obtain rfl : zs = []:=List.eq_nil_of_length_eq_zero h0
  have e:=write_nil h hr;refine ⟨by rw [e],?_,by rw [e];show J.last ≤ _;omega,by rw [e],by rw [e];show J.D.ops ≤ _;omega,fun _=>by rw [e]⟩
  rw [e,if_pos List.length_nil,updB_nil];exact h
 ·have e:=write_yes h hr h0
  have w:=writes_live h hr ht hb;rcases w.ends with ⟨a1,a2⟩ | ⟨_,a2,_⟩
  ·refine ⟨by rw [e];exact a1,?_,by rw [e];exact Nat.le_of_eq w.last,by rw [e];exact w.cut,by rw [e];exact w.ops,fun h=>absurd h h0⟩;rw [e,if_neg h0];exact a2
  ·omega
end
section
open Go.RowKit
def blocksAt (B : List (List UInt8)) (from_ m : Nat) : List UInt8:=(List.range m).flatMap fun i=>B.getD (from_ + i) []
theorem placesFrom_cons (f m : Nat) : placesFrom (f : Int) (m + 1) = (f : Int) :: placesFrom ((f + 1 : Nat) : Int) m:=by
 rw [placesFrom,List.range_succ_eq_map,List.map_cons,List.map_map,placesFrom];have e : ((fun (i : Nat)=>(f : Int) + (i : Int)) ∘ Nat.succ) = fun (i : Nat)=>((f + 1 : Nat) : Int) + (i : Int):=by funext i;simp only [Function.comp];omega
 rw [e];simp
theorem updB_run : ∀ (m f : Nat) (b : List UInt8) (B : List (List UInt8)) (i : Nat),f + m ≤ B.length → (updB B (placesFrom (f : Int) m) (chunks m b))[i]? = if f ≤ i∧i < f + m then some ((b.drop (112 * (i - f))).take 112) else B[i]?
 | 0,f,b,B,i,_=>by rw [if_neg (by omega)];simp [placesFrom,chunks,updB]
 | m + 1,f,b,B,i,h=>by
  rw [placesFrom_cons,chunks,updB,updB_run m (f + 1) (b.drop 112) _ i (by simp;omega),Int.toNat_natCast,List.drop_drop,List.getElem?_set];by_cases h1 : f + 1 ≤ i∧i < f + 1 + m
  ·rw [if_pos h1,if_pos (by omega)];congr 3;omega
  ·rw [if_neg h1]
   by_cases h2 : f = i
   ·subst h2;rw [if_pos rfl,if_pos (by omega),if_pos (by omega),Nat.sub_self];rfl
   ·rw [if_neg h2,if_neg (by omega)]
theorem chunks_flat : ∀ (m : Nat) (b : List UInt8),b.length = 112 * m → ((List.range m).flatMap fun i=>(b.drop (112 * i)).take 112) = b
 | 0,b,h=>by have : b = []:=List.eq_nil_of_length_eq_zero (by omega);simp [this]
 | m + 1,b,h=>by
  have ih:=chunks_flat m (b.drop 112) (by rw [List.length_drop];omega);rw [List.range_succ_eq_map,List.flatMap_cons,List.flatMap_map];simp only [Nat.mul_zero,List.drop_zero];have e : ((List.range m).flatMap fun i=>(b.drop (112 * (i + 1))).take 112) = b.drop 112:=by rw [← ih];simp only [List.drop_drop];congr 1;funext i;congr 2;omega
  show b.take 112 ++ ((List.range m).flatMap fun i=>(b.drop (112 * (i + 1))).take 112) = b
  rw [e,List.take_append_drop]
theorem flatMap_congr' {α β : Type} {l : List α} {f g : α → List β} (h : ∀ x ∈ l,f x = g x) : l.flatMap f = l.flatMap g:=by
 induction l with
 | nil=>rfl
 | cons x r ih=>rw [List.flatMap_cons,List.flatMap_cons,h x (by simp),ih fun y hy=>h y (by simp [hy])]
theorem blocksAt_run {m f : Nat} {b : List UInt8} {B : List (List UInt8)} (h : f + m ≤ B.length) (hb : b.length = 112 * m) : blocksAt (updB B (placesFrom (f : Int) m) (chunks m b)) f m = b:=by
 rw [blocksAt]
 conv=>rhs;rw [← chunks_flat m b hb]
 refine flatMap_congr' fun i hi=>?_;have:=List.mem_range.1 hi
 rw [List.getD_eq_getElem?_getD,updB_run m f b B (f + i) h,if_pos (by omega),Option.getD_some,Nat.add_sub_cancel_left]
abbrev pageAt (B : List (List UInt8)) (k : Nat) : List UInt8:=blocksAt B (2 + 8 * k) 8
theorem page_place (k : Nat) : (2 + (k : Int) * 8) = ((2 + 8 * k : Nat) : Int):=by omega
end
section
open Go.RowKit
structure Rp where
 pages : List (Option (List UInt8))
 root : Int
 was : List (Option (List UInt8))
 wroot : Int
 change : Bool
def Rp.taken (R : Rp) (page : Int) : Bool:=decide (0 ≤ page) && (decide (page < (R.pages.length : Int)) && (R.pages.getD page.toNat none).isSome)
def Rp.lay (R : Rp) (k : Nat) (b : List UInt8) : Rp:={ R with pages:=R.pages.set k (some b),change:=true }
def freeR (l : List (Option (List UInt8))) : Option Nat:=l.findIdx? fun x=>x.isNone
def Rp.alloc (R : Rp) : (Int × Int) × Rp:=match freeR R.pages with | some k=>(((k : Int),0),R.lay k z896) | none=>((0,80),R)
def Rp.free (R : Rp) (page : Int) : Int × Rp:=if R.taken page = false then (81,R) else if R.root = page then (2,R) else (0,{ R with pages:=R.pages.set page.toNat none,change:=true })
def Rp.read (R : Rp) (page : Int) : List UInt8 × Int:=if R.taken page = false then ([],81) else ((R.pages.getD page.toNat none).getD [],0)
def Rp.write (R : Rp) (page : Int) (b : List UInt8) : Int × Rp:=if R.taken page = false then (81,R) else if b.length ≠ 896 then (2,R) else (0,R.lay page.toNat b)
def Rp.setRoot (R : Rp) (page : Int) : Int × Rp:=if R.taken page = false∧page ≠ -1 then (81,R) else (0,{ R with root:=page,change:=true })
def Rp.abort (R : Rp) : Rp:={ R with pages:=R.was,root:=R.wroot,change:=false }
def Rp.begun (blocks : Nat) : Rp:=⟨List.replicate ((blocks - 2) / 8) none,-1,List.replicate ((blocks - 2) / 8) none,-1,false⟩
end
section
open Go.RowKit
theorem oLook_cons (x : Int × List UInt8) (r : List (Int × List UInt8)) (n : Int) : oLook (x :: r) n = if x.1 = n then some x.2 else oLook r n:=by
 by_cases h : x.1 = n
 ·simp [oLook,List.find?_cons,h]
 ·simp [oLook,List.find?_cons,h]
theorem oLook_app (a b : List (Int × List UInt8)) (n : Int) : oLook (a ++ b) n = (oLook a n).or (oLook b n):=by
 induction a with
 | nil=>rfl
 | cons x a ih=>rw [List.cons_append,oLook_cons,oLook_cons,ih];split <;> simp
theorem oLook_over (k : Int) (b : List UInt8) (j : Int) : ∀ (o : List (Int × List UInt8)),(oLook o k).isSome → oLook (o.map fun x=>if x.1 = k then (k,b) else x) j = if j = k then some b else oLook o j
 | [],h=>by simp [oLook] at h
 | x :: r,h=>by
  rw [oLook_cons] at h;rw [List.map_cons,oLook_cons,oLook_cons];by_cases hx : x.1 = k
  ·rw [if_pos hx]
   by_cases hj : j = k
   ·simp [hj]
   ·have hk : ¬ k = j:=fun e=>hj e.symm
    rw [if_neg hk,if_neg hj,if_neg (by rw [hx];exact hk)]
    have hr : ∀ r : List (Int × List UInt8),oLook (r.map fun x=>if x.1 = k then (k,b) else x) j = oLook r j:=by
     intro r
     induction r with
     | nil=>rfl
     | cons y r ih =>
      rw [List.map_cons,oLook_cons,oLook_cons,ih];by_cases hy : y.1 = k
      ·rw [if_pos hy,if_neg hk,if_neg (by rw [hy];exact hk)]
      ·rw [if_neg hy]
    exact hr r
  ·rw [if_neg hx] at h ⊢
   rw [oLook_over k b j r h];by_cases hj : j = k
   ·have : ¬ x.1 = j:=fun e=>hx (e.trans hj);rw [if_neg this,if_pos hj,if_pos hj]
   ·rw [if_neg hj,if_neg hj]
theorem oLook_put (o : List (Int × List UInt8)) (k : Int) (b : List UInt8) (j : Int) : oLook (oPut o k b) j = if j = k then some b else oLook o j:=by
 unfold oPut;split
 ·rename_i h;exact oLook_over k b j o h
 ·rename_i h
  have hn : oLook o k = none:=by simpa using h
  rw [oLook_app,oLook_cons];by_cases hj : j = k
  ·subst hj;simp [hn]
  ·have : ¬ k = j:=fun e=>hj e.symm;simp [hj,this,oLook]
theorem oLook_del (o : List (Int × List UInt8)) (k j : Int) : oLook (oDel o k) j = if j = k then none else oLook o j:=by
 induction o with
 | nil=>simp [oDel,oLook]
 | cons x r ih =>
  unfold oDel at ih ⊢;rw [List.filter_cons];by_cases hx : x.1 = k
  ·rw [if_neg (by simpa using hx),ih,oLook_cons]
   by_cases hj : j = k
   ·rw [if_pos hj,if_pos hj]
   ·rw [if_neg hj,if_neg hj,if_neg (by rw [hx];exact fun e=>hj e.symm)]
  ·rw [if_pos (by simpa using hx),oLook_cons,oLook_cons,ih]
   by_cases hj : j = k
   ·rw [if_neg (by rw [hj];exact hx),if_pos hj,if_pos hj]
   ·rw [if_neg hj,if_neg hj]
theorem oPut_nodup {o : List (Int × List UInt8)} (h : (o.map (·.1)).Nodup) (k : Int) (b : List UInt8) : ((oPut o k b).map (·.1)).Nodup:=by
 unfold oPut;split
 ·have e : (o.map fun x=>if x.1 = k then (k,b) else x).map (·.1) = o.map (·.1):=by
   rw [List.map_map];apply List.map_congr_left;intro x _;simp only [Function.comp];split
   ·rename_i hx;exact hx.symm
   ·rfl
  rw [e];exact h
 ·rename_i hk
  rw [List.map_append,List.map_cons,List.map_nil];refine List.nodup_append.2 ⟨h,by simp,fun a ha c hc e=>?_⟩;rw [List.mem_singleton.1 hc] at e;subst e;have:=oLook_mem ha
  exact hk (Option.isSome_iff_ne_none.2 this)
theorem oDel_nodup {o : List (Int × List UInt8)} (h : (o.map (·.1)).Nodup) (k : Int) : ((oDel o k).map (·.1)).Nodup:=h.sublist (List.filter_sublist.map _)
structure Sim (n : Nat) (P : Pg) (R : Rp) (seq : Int) (B : List (List UInt8)) : Prop where
 live : Live n P.J seq B AllOk
 off : P.off = 0
 now : P.now = R.pages.map (·.isSome)
 was : P.was = R.was.map (·.isSome)
 root : P.root = R.root
 wroot : P.wroot = R.wroot
 len : R.pages.length = ((n - 2) / 2 - 2) / 8
 lenw : R.was.length = R.pages.length
 plan : blocksAt B 0 2 = planB P.was P.wroot
 rok : RootOk P.now P.root
 wok : RootOk P.was P.wroot
 pagew : ∀ (k : Nat) b,R.was[k]? = some (some b) → b.length = 896∧pageAt B k = b
 pagen : ∀ (k : Nat) b,R.pages[k]? = some (some b) → b.length = 896∧(oLook P.own k = some b ∨ (oLook P.own k = none∧R.was[k]? = some (some b)))
 free : ∀ (k : Int) b,oLook P.own k = some b → 0 ≤ k∧R.pages[k.toNat]? = some (some b)
 nodup : (P.own.map (·.1)).Nodup
 clean : P.change = false → P.own = []∧R.pages = R.was∧R.root = R.wroot
section
variable {n : Nat} {P : Pg} {R : Rp} {seq : Int} {B : List (List UInt8)}
theorem Sim.nlen (h : Sim n P R seq B) : P.now.length = R.pages.length:=by rw [h.now,List.length_map]
theorem Sim.at (h : Sim n P R seq B) (k : Nat) : P.now.getD k false = (R.pages.getD k none).isSome:=by
 rw [h.now,List.getD_eq_getElem?_getD,List.getElem?_map,List.getD_eq_getElem?_getD]
 cases R.pages[k]? <;> rfl
theorem taken_iff {R : Rp} {page : Int} : R.taken page = true ↔ 0 ≤ page∧page < (R.pages.length : Int)∧(R.pages.getD page.toNat none).isSome = true:=by simp only [Rp.taken,Bool.and_eq_true,decide_eq_true_eq]
theorem Sim.fails (h : Sim n P R seq B) (page : Int) : P.fails page = if R.taken page = false∧page ≠ -1 then 81 else 0:=by
 rw [Pg.fails,if_neg (by simp [h.off]),h.nlen,h.at]
 cases ht : R.taken page with
 | true =>
  obtain ⟨a,b,c⟩:=taken_iff.1 ht
  rw [if_neg (by
   rintro (e | e | ⟨_,e⟩)
   ·omega
   ·omega
   ·rw [c] at e;cases e),if_neg (by simp)]
 | false =>
  by_cases hp : page = -1
  ·rw [if_neg (by rintro (e | e | ⟨e,_⟩) <;> omega),if_neg (fun e=>e.2 hp)]
  ·have hL : (R.pages.length : Int) ≤ page ∨ page < -1 ∨ 0 ≤ page∧(R.pages.getD page.toNat none).isSome = false:=by
    refine Decidable.byContradiction fun hno=>?_;have h1 : ¬ (R.pages.length : Int) ≤ page:=fun e=>hno (.inl e)
    have h2 : ¬ page < -1:=fun e=>hno (.inr (.inl e))
    have h3 : R.taken page = true:=taken_iff.2 ⟨by omega,by omega,by
     cases hx : (R.pages.getD page.toNat none).isSome with
     | true=>rfl
     | false=>exact absurd (.inr (.inr ⟨by omega,hx⟩)) hno⟩
    rw [ht] at h3;cases h3
   rw [if_pos hL,if_pos ⟨rfl,hp⟩]
theorem Sim.must (h : Sim n P R seq B) (page : Int) : P.must page = if R.taken page = false then 81 else 0:=by
 rw [Pg.must,h.fails];by_cases h2 : page = -1
 ·subst h2
  have : R.taken (-1) = false:=by simp [Rp.taken]
  simp [this]
 ·cases hx : R.taken page <;> simp [h2]
theorem Sim.fails1 (h : Sim n P R seq B) : P.fails (-1) = 0:=by rw [h.fails,if_neg (by simp)]
theorem Sim.freeAt (h : Sim n P R seq B) : freeAt P.now = freeR R.pages:=by
 rw [Go.Proofs.YtofibccplbnaiaaDoor.freeAt,h.now,List.findIdx?_map,freeR];congr 1;funext x
 cases x <;> rfl
theorem set_map_some (l : List (Option (List UInt8))) (k : Nat) (x : Option (List UInt8)) : (l.set k x).map (·.isSome) = (l.map (·.isSome)).set k x.isSome:=by rw [List.map_set]
theorem Sim.lay (h : Sim n P R seq B) (k : Nat) (b : List UInt8) (hk : k < R.pages.length) (hb : b.length = 896) (now' : List Bool) (hnow : now' = P.now.set k true) : Sim n { P with now:=now',own:=oPut P.own k b,change:=true } (R.lay k b) seq B:=by
 have hl : (R.pages.set k (some b)).length = R.pages.length:=by simp
 refine ⟨h.live,h.off,by rw [hnow,Rp.lay,set_map_some,← h.now];rfl,h.was,h.root,h.wroot,hl.trans h.len,h.lenw.trans hl.symm,h.plan,?_,h.wok,h.pagew,fun j c hj=>?_,fun j c hj=>?_,oPut_nodup h.nodup _ _,fun e=>by cases e⟩
 ·obtain ⟨a1,a2,a3⟩:=h.rok
  refine ⟨a1,by rw [hnow];simpa using a2,a3.imp id fun a=>?_⟩;show now'.getD P.root.toNat false = true
  rw [hnow,List.getD_eq_getElem?_getD,List.getElem?_set];split
  ·split <;> rename_i h1 h2
   ·rfl
   ·rw [h.nlen] at h2;exact absurd hk h2
  ·rw [← List.getD_eq_getElem?_getD];exact a
 ·simp only [Rp.lay] at hj
  rw [List.getElem?_set] at hj;show c.length = 896∧(oLook (oPut P.own k b) j = some c ∨ _)
  rw [oLook_put];by_cases e : k = j
  ·subst e;rw [if_pos rfl,if_pos hk] at hj;cases hj;exact ⟨hb,.inl (by rw [if_pos rfl])⟩
  ·rw [if_neg e] at hj
   have e2 : ¬ (j : Int) = (k : Int):=by omega
   rw [if_neg e2];exact h.pagen j c hj
 ·simp only [Rp.lay]
  replace hj : oLook (oPut P.own k b) j = some c:=hj;rw [oLook_put] at hj;by_cases e : j = (k : Int)
  ·subst e;rw [if_pos rfl] at hj;cases hj;exact ⟨by omega,by rw [Int.toNat_natCast,List.getElem?_set,if_pos rfl,if_pos hk]⟩
  ·rw [if_neg e] at hj;obtain ⟨a1,a2⟩:=h.free j c hj;exact ⟨a1,by rw [List.getElem?_set,if_neg (by omega)];exact a2⟩
theorem Sim.alloc (h : Sim n P R seq B) : P.alloc.1 = R.alloc.1∧Sim n P.alloc.2 R.alloc.2 seq B:=by
 have hf:=h.freeAt
 cases hx : freeR R.pages with
 | none =>
  rw [Pg.alloc,if_neg (by simp [h.fails1]),hf,hx,Rp.alloc,hx];exact ⟨rfl,h⟩
 | some k =>
  rw [Pg.alloc,if_neg (by simp [h.fails1]),hf,hx,Rp.alloc,hx];have hk : k < R.pages.length:=(List.findIdx?_eq_some_iff_getElem.1 hx).1
  exact ⟨rfl,h.lay k z896 hk z896_length _ rfl⟩
theorem taken_get {R : Rp} {page : Int} (h : R.taken page = true) : 0 ≤ page∧page.toNat < R.pages.length∧∃ b,R.pages[page.toNat]? = some (some b):=by
 simp only [Rp.taken,Bool.and_eq_true,decide_eq_true_eq] at h;obtain ⟨h1,h2,h3⟩:=h;have h4 : page.toNat < R.pages.length:=by omega
 refine ⟨h1,h4,?_⟩;rw [List.getD_eq_getElem?_getD,List.getElem?_eq_getElem h4] at h3;rw [List.getElem?_eq_getElem h4];simp only [Option.getD_some] at h3;exact ⟨_,congrArg some (Option.some_get h3).symm⟩
theorem Sim.write (h : Sim n P R seq B) (page : Int) (b : List UInt8) : (P.write page b).1 = (R.write page b).1∧Sim n (P.write page b).2 (R.write page b).2 seq B:=by
 cases ht : R.taken page with
 | false=>rw [Pg.write,Rp.write,h.must,ht];exact ⟨rfl,h⟩
 | true =>
  rw [Pg.write,Rp.write,h.must,ht];simp only [Bool.true_eq_false,if_false,ne_eq,not_true_eq_false];by_cases hb : b.length = 896
  ·rw [if_neg (by simp [hb]),if_neg (by simp [hb])]
   obtain ⟨a1,a2,c,a3⟩:=taken_get ht;have e : page = ((page.toNat : Nat) : Int):=by omega
   refine ⟨rfl,?_⟩
   have hs : P.now = P.now.set page.toNat true:=by
    have h1 : P.now[page.toNat]? = some true:=by rw [h.now,List.getElem?_map,a3];rfl
    have h2 : page.toNat < P.now.length:=by rw [h.nlen];exact a2
    rw [List.getElem?_eq_getElem h2] at h1;rw [← Option.some.inj h1,List.set_getElem_self]
   have:=h.lay page.toNat b a2 hb P.now hs;rw [← e] at this;exact this
  ·rw [if_pos (by simp [hb]),if_pos (by simp [hb])];exact ⟨rfl,h⟩
theorem Sim.freed (h : Sim n P R seq B) (page : Int) : (P.free page).1 = (R.free page).1∧Sim n (P.free page).2 (R.free page).2 seq B:=by
 cases ht : R.taken page with
 | false=>rw [Pg.free,Rp.free,h.must,ht];exact ⟨rfl,h⟩
 | true =>
  rw [Pg.free,Rp.free,h.must,ht];simp only [Bool.true_eq_false,if_false,ne_eq,not_true_eq_false];by_cases hr : R.root = page
  ·rw [if_pos (h.root.trans hr).symm,if_pos hr];exact ⟨rfl,h⟩
  ·rw [if_neg (fun e=>hr (h.root.symm.trans e.symm)),if_neg hr]
   obtain ⟨a1,a2,c,a3⟩:=taken_get ht;have hl : (R.pages.set page.toNat none).length = R.pages.length:=by simp
   refine ⟨rfl,h.live,h.off,by simp only;rw [set_map_some,← h.now];rfl,h.was,h.root,h.wroot,hl.trans h.len,h.lenw.trans hl.symm,h.plan,?_,h.wok,h.pagew,fun j d hj=>?_,fun j d hj=>?_,oDel_nodup h.nodup _,fun e=>by cases e⟩
   ·obtain ⟨b1,b2,b3⟩:=h.rok
    refine ⟨b1,by simpa using b2,?_⟩;by_cases hneg : P.root < 0
    ·exact .inl hneg
    ·refine .inr ?_
     have a:=b3.resolve_left hneg;show (P.now.set page.toNat false).getD P.root.toNat false = true
     rw [List.getD_eq_getElem?_getD,List.getElem?_set,if_neg (by have:=h.root;omega),← List.getD_eq_getElem?_getD];exact a
   ·simp only at hj
    rw [List.getElem?_set] at hj;by_cases e : page.toNat = j
    ·rw [if_pos e] at hj
     split at hj <;> cases hj
    ·rw [if_neg e] at hj
     show d.length = 896∧(oLook (oDel P.own page) j = some d ∨ (oLook (oDel P.own page) j = none∧_))
     rw [oLook_del,if_neg (by omega)];exact h.pagen j d hj
   ·simp only
    replace hj : oLook (oDel P.own page) j = some d:=hj;rw [oLook_del] at hj;by_cases e : j = page
    ·rw [if_pos e] at hj;cases hj
    ·rw [if_neg e] at hj;obtain ⟨c1,c2⟩:=h.free j d hj;exact ⟨c1,by rw [List.getElem?_set,if_neg (by omega)];exact c2⟩
end
end
section
open Go.RowKit
section
variable {n : Nat} {P : Pg} {R : Rp} {seq : Int} {B : List (List UInt8)}
theorem live_rows {J : Jn} {ok : Nat → Prop} (h : Live n J seq B ok) : B.length = (n - 2) / 2∧∀ b ∈ B,b.length = 112:=by obtain ⟨w,pl,him⟩:=h.im;exact ⟨him.rows,him.each⟩
theorem blocksAt_succ (B : List (List UInt8)) (f m : Nat) : blocksAt B f (m + 1) = blocksAt B f m ++ B.getD (f + m) []:=by rw [blocksAt,List.range_succ,List.flatMap_append,blocksAt];simp
theorem reads_live {J : Jn} (h : Live n J seq B AllOk) (f : Nat) : ∀ (m : Nat),f + m ≤ (n - 2) / 2 → J.reads (f : Int) m = (blocksAt B f m,0,J)
 | 0,_=>by simp [Jn.reads,blocksAt]
 | m + 1,hm=>by
  have ih:=reads_live h f m (by omega);have hl:=(live_rows h).1;have hi : f + m < B.length:=by omega
  have hr:=read_live h (i:=f + m) (by omega) trivial (List.getElem?_eq_getElem hi);have e : ((f : Int) + (m : Int)) = ((f + m : Nat) : Int):=by omega
  rw [blocksAt_succ,List.getD_eq_getElem?_getD,List.getElem?_eq_getElem hi,Option.getD_some];have h0 : (J.reads (f : Int) m).2.1 = 0:=by rw [ih]
  have h1 : (J.read ((f : Int) + (m : Int))).2.1 = 0:=by rw [e,hr]
  rw [Jn.reads_next h0 h1,ih,e,hr]
theorem Sim.pagesn (h : Sim n P R seq B) {k : Nat} (hk : k < R.pages.length) : 2 + 8 * k + 8 ≤ (n - 2) / 2:=by have:=h.len;omega
theorem Sim.read (h : Sim n P R seq B) (page : Int) : P.read page = ((R.read page).1,(R.read page).2,P):=by
 cases ht : R.taken page with
 | false=>rw [Pg.read,Rp.read,h.must,ht];rfl
 | true =>
  obtain ⟨a1,a2,b,a3⟩:=taken_get ht;have e : page = ((page.toNat : Nat) : Int):=by omega
  obtain ⟨k,hk⟩ : ∃ k,k = page.toNat:=⟨_,rfl⟩;rw [← hk] at a2 a3 e;have er : R.read page = (b,0):=by rw [Rp.read,if_neg (by simp [ht]),← hk,List.getD_eq_getElem?_getD,a3];rfl
  rw [er,Pg.read,h.must,ht];simp only [Bool.true_eq_false,if_false,ne_eq,not_true_eq_false];obtain ⟨c1,c2 | ⟨c2,c3⟩⟩:=h.pagen k b a3
  ·rw [e,c2]
  ·rw [e,c2]
   obtain ⟨d1,d2⟩:=h.pagew k b c3;have hp:=h.pagesn a2
   simp only;rw [page_place,reads_live h.live (2 + 8 * k) 8 (by omega)];simp only [not_true_eq_false,if_false];have : blocksAt B (2 + 8 * k) 8 = b:=d2
   rw [this]
theorem Sim.setRoot (h : Sim n P R seq B) (page : Int) : (P.setRoot page).1 = (R.setRoot page).1∧Sim n (P.setRoot page).2 (R.setRoot page).2 seq B:=by
 rw [Pg.setRoot,Rp.setRoot,h.fails];by_cases hc : R.taken page = false∧page ≠ -1
 ·rw [if_pos hc,if_pos (by decide),if_pos hc];exact ⟨rfl,h⟩
 ·rw [if_neg hc,if_neg (by decide),if_neg hc]
  refine ⟨rfl,h.live,h.off,h.now,h.was,rfl,h.wroot,h.len,h.lenw,h.plan,?_,h.wok,h.pagew,h.pagen,h.free,h.nodup,fun e=>by cases e⟩;by_cases hp : page = -1
  ·subst hp;exact ⟨Int.le_refl (-1),by show (-1 : Int) < _;omega,.inl (by show (-1 : Int) < 0;omega)⟩
  ·have ht : R.taken page = true:=by
    cases hx : R.taken page with
    | true=>rfl
    | false=>exact absurd ⟨hx,hp⟩ hc
   obtain ⟨a,b,c⟩:=taken_iff.1 ht;refine ⟨by show -1 ≤ page;omega,?_,.inr ?_⟩
   ·show page < (P.now.length : Int)
    rw [h.nlen];exact b
   ·show P.now.getD page.toNat false = true
    rw [h.at];exact c
theorem Sim.opened (h : Sim n P R seq B) {P' : Pg} (e : P' = { P with now:=P.was,root:=P.wroot,own:=[],change:=false }) : Sim n P' R.abort seq B:=by subst e;refine ⟨h.live,h.off,h.was,h.was,h.wroot,h.wroot,h.lenw.trans h.len,rfl,h.plan,h.wok,h.wok,h.pagew,fun k b hk=>⟨(h.pagew k b hk).1,.inr ⟨rfl,hk⟩⟩,fun k b hk=>(by cases hk),List.nodup_nil,fun _=>⟨rfl,rfl,rfl⟩⟩
theorem Sim.popen (h : Sim n P R seq B) (h1 : R.pages.length ≤ 1023) (hn : 6 ≤ n) : ∃ P',P.J.popen = (0,P.J,some P')∧P'.J = P.J∧Sim n P' R.abort seq B:=by
 have hr:=reads_live h.live 0 2 (by omega);rw [h.plan] at hr;have hpg : P.J.pages = P.was.length:=by rw [Jn.pages,Dk.blocks,h.live.hn,h.was,List.length_map,h.lenw,h.len]
 have hl : P.was.length ≤ 1728:=by rw [h.was,List.length_map,h.lenw];omega
 have hro : rootOf (planB P.was P.wroot) = P.wroot:=rootOf_planB _ _ h.wok.1 (by have:=h.wok.2.1;omega);refine ⟨⟨P.J,P.was,P.wroot,P.was,P.wroot,[],false,0⟩,?_,rfl,h.opened (by rw [← h.off])⟩;have hr' : P.J.reads 0 2 = (planB P.was P.wroot,0,P.J):=hr;unfold Jn.popen;simp only [hr',hpg,planOk_planB hl h.wok,takenOf_planB _ _ hl,hro];simp
theorem placesFrom_nodup (f : Int) (m : Nat) : (placesFrom f m).Nodup:=by rw [placesFrom,List.Nodup,List.pairwise_map];exact (List.nodup_range (n:=m)).imp fun hne e=>hne (by omega)
theorem rightGo_of8 {nb : Nat} : ∀ (zs : List Int) (ls : List (List UInt8)) (met : List Int),(∀ z ∈ zs,0 ≤ z∧z < (nb : Int)) → zs.Nodup → (∀ z ∈ zs,z ∉ met) → (∀ l ∈ ls,l.length = 112) → rightGo nb met zs ls = true
 | [],_,_,_,_,_,_=>by simp [rightGo]
 | _ :: _,[],_,_,_,_,_=>by simp [rightGo]
 | z :: zs,l :: ls,met,h1,h2,h3,h4=>by
  rw [List.nodup_cons] at h2;have a:=h1 z (List.mem_cons_self ..)
  have ih:=rightGo_of8 zs ls (met ++ [z]) (fun y hy=>h1 y (List.mem_cons_of_mem _ hy)) h2.2 (fun y hy hm=>by
   rcases List.mem_append.1 hm with hm | hm
   ·exact h3 y (List.mem_cons_of_mem _ hy) hm
   ·rw [List.mem_singleton.1 hm] at hy
    exact h2.1 hy) (fun y hy=>h4 y (List.mem_cons_of_mem _ hy))
  simp only [rightGo,ih,Bool.and_true,Bool.and_eq_true,decide_eq_true_eq,Bool.not_eq_true',decide_eq_false_iff_not];exact ⟨⟨⟨a.1,a.2⟩,h3 z (List.mem_cons_self ..)⟩,h4 l (List.mem_cons_self ..)⟩
theorem chunks_bytes {m : Nat} {b : List UInt8} (h : b.length = 112 * m) : ∀ l ∈ chunks m b,l.length = 112:=by
 intro l hl;rw [chunks_eq] at hl;obtain ⟨i,hi,rfl⟩:=List.mem_map.1 hl;have:=List.mem_range.1 hi
 simp;omega
end
end
section
open Go.RowKit
theorem planHead_split (n r : Nat) : planHead n r = ((((layB (List.replicate 224 0) 0 [85,80,71,49]).set 4 (UInt8.ofNat n)).set 5 (UInt8.ofNat (n / 256))).set 6 (UInt8.ofNat r)).set 7 (UInt8.ofNat (r / 256)):=by simp [planHead,layB,List.replicate]
def headTo (n r : Nat) : Nat → List UInt8
 | 0=>layB (List.replicate 224 0) 0 [85,80,71,49]
 | 1=>((layB (List.replicate 224 0) 0 [85,80,71,49]).set 4 (UInt8.ofNat n)).set 5 (UInt8.ofNat (n / 256))
 | _=>planHead n r
theorem headTo_length (n r k : Nat) : (headTo n r k).length = 224:=by
 match k with
 | 0=>simp [headTo,layB]
 | 1=>simp [headTo,layB]
 | _ + 2=>simp [headTo,planHead]
theorem byte_of (n : Nat) : (n : Int) % 256 = (((UInt8.ofNat n).toNat : Nat) : Int):=by rw [UInt8.toNat_ofNat'];omega
theorem run_shl1 (j : Nat) (hj : j < 8) (W : World) : Sem.run Tryd.prog (Op.shift .shl .u8 1 .i64 ((j : Nat) : Int)) W = .ok (.int .u8 ((2 ^ j : Nat) : Int)) W:=by
 rcases (show j = 0 ∨ j = 1 ∨ j = 2 ∨ j = 3 ∨ j = 4 ∨ j = 5 ∨ j = 6 ∨ j = 7 by omega) with rfl | rfl | rfl | rfl | rfl | rfl | rfl | rfl <;> kernel_rfl
theorem tmod8 (k : Nat) : (k : Int).tmod 8 = ((k % 8 : Nat) : Int):=by rw [Int.tmod_eq_emod_of_nonneg (by omega)];omega
theorem or_bit (x : UInt8) (j : Nat) (hj : j < 8) : bits .or .u8 ((x.toNat : Nat) : Int) ((2 ^ j : Nat) : Int) = (((x ||| UInt8.ofNat (2 ^ j)).toNat : Nat) : Int):=by
 have hp : (2 : Nat) ^ j < 256:=by have:=Nat.pow_lt_pow_right (a:=2) (by omega) hj;omega
 rw [u8_or_nat _ _ x.toNat_lt hp,UInt8.toNat_or,UInt8.toNat_ofNat',Nat.mod_eq_of_lt (by omega)]
theorem byte_of8' (n : Nat) (h : n < 65536) : (n : Int) / 256 = (((UInt8.ofNat (n / 256)).toNat : Nat) : Int):=by rw [UInt8.toNat_ofNat'];omega
theorem headTo_one (n r : Nat) : ((headTo n r 0).set 4 (UInt8.ofNat n)).set 5 (UInt8.ofNat (n / 256)) = headTo n r 1:=rfl
theorem headTo_two (n r : Nat) : ((headTo n r 1).set 6 (UInt8.ofNat r)).set 7 (UInt8.ofNat (r / 256)) = headTo n r 2:=(planHead_split n r).symm
set_option maxHeartbeats 8000000 in
theorem planB_any (w : World) (B : Nat) (v : Value) (t : List Bool) (r : Int) (hv : MineO B w v t) (ht : t.length ≤ 1023) (h1 : -1 ≤ r) (h2 : r < 65535) :
  Calls Tryd.prog 57 #[.agg #[v,.int .i64 r]] w fun e w'=>∃ u,e = .returned u∧Mine 5 w.heap.size w' u (planB t r)∧Below w.heap.size w w':=by
 obtain ⟨a,c,rfl,hc1,hc2⟩:=hv.form;have HV:=Hd hv
 obtain ⟨rn,hrn⟩ : ∃ rn : Nat,r + 1 = (rn : Int):=⟨(r + 1).toNat,by omega⟩;have hrn2 : rn < 65536:=by omega
 obtain ⟨tn,htn⟩ : ∃ tn,tn = t.length:=⟨_,rfl⟩;obtain ⟨N1,hN1⟩ : ∃ N1,N1 = headTo tn rn 1:=⟨_,rfl⟩;obtain ⟨N2,hN2⟩ : ∃ N2,N2 = planHead tn rn:=⟨_,rfl⟩;have HP : Hid (planB t r = planTo t (planHead tn rn) tn):=Hd (by rw [planB,htn,hrn,Int.toNat_natCast])
 obtain ⟨R,hR⟩ : ∃ R,R = List.replicate 224 (0 : UInt8):=⟨_,rfl⟩;have hmk:=run_make224
 rw [← hR] at hmk;obtain ⟨W1,hW1⟩ : ∃ W1,W1 = w.alloc (.cells #[.slice a t.length c,.int .i64 r] 59):=⟨_,rfl⟩;have hp1 : W1.heap[w.heap.size]? = some (.cells #[.slice a t.length c,.int .i64 r] 59 (0,0)):=by rw [hW1];exact heap_alloc_new w _
 have hb1 : Below w.heap.size w W1:=by rw [hW1];exact (Below.refl _ _).alloc (Nat.le_refl _) _
 have hs1 : W1.heap.size = w.heap.size + 1:=by rw [hW1];simp
 obtain ⟨W2,hW2⟩ : ∃ W2,W2 = W1.alloc (.cells (bv R).toArray 5):=⟨_,rfl⟩;have hr2 : RowB W2 W1.heap.size 5 R:=by rw [hW2];exact RowB.alloc W1 _ _
 have hb2 : Below W1.heap.size W1 W2:=by rw [hW2];exact (Below.refl _ _).alloc (Nat.le_refl _) _
 have hcp:=run_copy_word hr2 (by rw [hR];simp) 3;have hr3:=hr2.lay 0 [85,80,71,49] (by rw [hR];simp);have ht3:=turned_cells W2 W1.heap.size 0 (bv [85,80,71,49]);have hr3' : RowB (W2.setCells W1.heap.size 0 (bv [85,80,71,49])) W1.heap.size 5 (headTo tn rn 0):=by rw [headTo,← hR];exact hr3
 have hp3 : (W2.setCells W1.heap.size 0 (bv [85,80,71,49])).heap[w.heap.size]? = some (.cells #[.slice a t.length c,.int .i64 r] 59 (0,0)) :=
  (ht3.block w.heap.size (by have:=hb2.size;omega) (by omega)).trans ((hb2.block w.heap.size (by omega)).trans hp1)
 have hb3 : Below w.heap.size w (W2.setCells W1.heap.size 0 (bv [85,80,71,49])):=(hb1.trans (hb2.mono (by omega))).trans (ht3.below (by have:=hb2.size;omega) (fun k hk=>by omega));have hg3 : W1.heap.size < (W2.setCells W1.heap.size 0 (bv [85,80,71,49])).heap.size:=Nat.lt_of_lt_of_le hr2.lt ht3.size;have hgG : w.heap.size < W1.heap.size:=by omega
 have HW1:=Hd hW1;have HW2:=Hd hW2;have HR:=Hd hR;have Htn:=Hd htn;have Hrn:=Hd hrn;clear hv hr2 hr3 ht3 hb1 hb2 hp1 hs1 hR hW1 hW2 hN1 hN2 N1 N2 hrn;rw [← htn] at hc1 hp3 ht ⊢;rw [← htn] at HV HW1;clear htn;go_enter Tryd.func57,Tryd.ntmps57;go_upto_region 1 with fail;rw [← HW1.out];go_upto_region 2 with fail;rw [← HW2.out];generalize W1.heap.size = G at *;go_upto_region 3 with fail;generalize W2.setCells G 0 (bv [85,80,71,49]) = W3 at *;clear hcp HW1 HW2 HR;have c0 : W3.cell? ⟨w.heap.size,0,none⟩ = some (.slice a tn c):=by rw [cell_of_row _ _ _ _ _ _ hp3];rfl
 have c1 : W3.cell? ⟨w.heap.size,1,none⟩ = some (.int .i64 r):=by rw [cell_of_row _ _ _ _ _ _ hp3];rfl
 have hba : Below W3.heap.size W3 (W3.alloc (.cells #[.int .i64 (tn : Int),.int .i64 (r + 1)] 3)):=(Below.refl _ _).alloc (Nat.le_refl _) _;have hl4 : (W3.alloc (.cells #[.int .i64 (tn : Int),.int .i64 (r + 1)] 3)).heap[W3.heap.size]? = some (.cells #[.int .i64 (tn : Int),.int .i64 (r + 1)] 3 (0,0)):=heap_alloc_new W3 _;have hr4:=hr3'.below hba;have hp4:=(hba.block w.heap.size (lt_of_heap hp3)).trans hp3;have hb4:=hb3.trans (hba.mono hb3.size);have hrr : -1 ≤ r∧r ≤ 65535:=by omega
 obtain ⟨hrr1,hrr2⟩:=hrr;go_wp2_with fail;generalize hg5 : W3.heap.size = g5 at *;have hg5n : g5 ≠ G:=by omega
 clear hg5;generalize W3.alloc (.cells #[.int .i64 (tn : Int),.int .i64 (r + 1)] 3) = W4 at *;clear c0 c1 hba hr3' hp3 hb3 hg3;rw [Hrn.out] at hl4 ⊢;go_loopw [19] (fun x wr=>∃ k : Nat,k ≤ 2∧x = .int .i64 (k : Int)∧RowB wr G 5 (headTo tn rn k)∧wr.heap[g5]? = some (.cells #[.int .i64 (tn : Int),.int .i64 (rn : Int)] 3 (0,0))∧wr.heap[w.heap.size]? = some (.cells #[.slice a tn c,.int .i64 r] 59 (0,0))∧Below w.heap.size w wr) (fun x _=>2 - (intOf x).toNat)
 case atStart=>exact ⟨0,by omega,rfl,hr4,hl4,hp4,hb4⟩
 case round =>
  clear hr4 hl4 hp4 hb4;obtain ⟨k,hk,rfl,hr,hl,hp,hb⟩:=hrel;by_cases hk0 : k = 0
  ·subst hk0
   have c0 : wr.cell? ⟨g5,0,none⟩ = some (.int .i64 (tn : Int)):=by rw [cell_of_row _ _ _ _ _ _ hl];rfl
   have hL:=headTo_length tn rn 0;have b4:=hr.cell 4 (by omega);have b5:=hr.cell 5 (by omega);have f4:=hr.frozen 4;have f5:=hr.frozen 5;have htn2 : tn ≤ 1023:=ht;have hr':=(hr.set 4 (UInt8.ofNat tn)).set 5 (UInt8.ofNat (tn / 256));have ht1:=(turned_one wr G 4 (.int .u8 ((UInt8.ofNat tn).toNat : Int))).trans (turned_one _ G 5 (.int .u8 ((UInt8.ofNat (tn / 256)).toNat : Int)));rw [headTo_one] at hr';rw [← byte_of tn,← byte_of8' tn (by omega)] at hr' ht1;have HF:=Hd (And.intro hr' (And.intro ((ht1.block g5 (lt_of_heap hl) (by omega)).trans hl) (And.intro ((ht1.block w.heap.size (lt_of_heap hp) (by omega)).trans hp) (hb.trans (ht1.below hb.size (fun k hk=>by omega))))));clear hr' ht1 hr hl hp hb;go_wp2_with fail;go_roundw
   case rel=>exact ⟨1,by omega,by go_num,HF.out⟩
   case measure=>simp [intOf]
  by_cases hk1 : k = 1
  ·subst hk1
   have c0 : wr.cell? ⟨g5,1,none⟩ = some (.int .i64 (rn : Int)):=by rw [cell_of_row _ _ _ _ _ _ hl];rfl
   have hL:=headTo_length tn rn 1;have b4:=hr.cell 6 (by omega);have b5:=hr.cell 7 (by omega);have f4:=hr.frozen 6;have f5:=hr.frozen 7;have hr':=(hr.set 6 (UInt8.ofNat rn)).set 7 (UInt8.ofNat (rn / 256));have ht1:=(turned_one wr G 6 (.int .u8 ((UInt8.ofNat rn).toNat : Int))).trans (turned_one _ G 7 (.int .u8 ((UInt8.ofNat (rn / 256)).toNat : Int)));rw [headTo_two] at hr';rw [← byte_of rn,← byte_of8' rn (by omega)] at hr' ht1;have HF:=Hd (And.intro hr' (And.intro ((ht1.block g5 (lt_of_heap hl) (by omega)).trans hl) (And.intro ((ht1.block w.heap.size (lt_of_heap hp) (by omega)).trans hp) (hb.trans (ht1.below hb.size (fun k hk=>by omega))))));clear hr' ht1 hr hl hp hb;go_wp2_with fail;go_roundw
   case rel=>exact ⟨2,by omega,by go_num,HF.out⟩
   case measure=>simp [intOf]
  ·obtain rfl : k = 2:=by omega
   have c0 : wr.cell? ⟨w.heap.size,0,none⟩ = some (.slice a tn c):=by rw [cell_of_row _ _ _ _ _ _ hp];rfl
   clear hk0 hk1 hl;rw [show ((2 : Nat) : Int) = 2 from rfl]
   go_wp2_with fail;have hr0 : RowB wr G 5 (planTo t (planHead tn rn) 0):=hr
   clear hr hp c0;go_loopw [43] (fun x wr=>∃ k : Nat,k ≤ tn∧x = .int .i64 (k : Int)∧RowB wr G 5 (planTo t (planHead tn rn) k)∧Below w.heap.size w wr) (fun x _=>tn - (intOf x).toNat)
   case atStart=>exact ⟨0,Nat.zero_le _,rfl,hr0,hb⟩
   case round =>
    clear hr0 hb;obtain ⟨k,hk,rfl,hr,hb⟩:=hrel;have hL : (planTo t (planHead tn rn) k).length = 224:=by rw [planTo_length,planHead_length]
    by_cases hlt : k < tn
    case neg =>
     obtain rfl : k = tn:=by omega
     have hm:=hr;have hdz : decide ((k : Int) < (k : Int)) = false:=by simp
     go_wp2_with fail;go_ret;refine ⟨_,rfl,?_,hb⟩;rw [HP.out]
     have hrow : wr.ownsRow w.heap.size 5 1 (.slice (some ⟨G,0,none⟩) 224 224) 224 (bv (planTo t (planHead k rn) k)) :=
      ⟨by rw [bv_length,hL],.inr ⟨G,224,_,rfl,by omega,hm,Nat.le_refl _,by simp [maxLen],by simp [bv_length,hL],by simp [List.take_of_length_le,bv_length,hL]⟩⟩
     unfold Mine;rw [hL];exact hrow
    have hkt : k < t.length:=by rw [← Htn.out];exact hlt
    obtain ⟨g0,cc,hv,_,_,hcs⟩:=HV.out.cell (fun e=>by rw [e] at hkt;simp at hkt);simp only [Value.slice.injEq] at hv;have hav:=hv.1
    clear hv;subst hav;have hc:=cells_below hb _ _ (hcs k hkt)
    have hd : decide ((k : Int) < (tn : Int)) = true:=decide_eq_true (by omega);have hget : t.getD k false = t[k]:=by rw [List.getD_eq_getElem?_getD,List.getElem?_eq_getElem hkt];rfl
    have hstep : planTo t (planHead tn rn) (k + 1) = if t[k] then setBit (planTo t (planHead tn rn) k) k else planTo t (planHead tn rn) k:=by rw [planTo,hget]
    have Hstep:=Hd hstep;clear hcs hget hstep;generalize t[k] = tk at *;generalize planTo t (planHead tn rn) k = L at *
    cases tk with
    | false =>
     go_wp2_with fail;go_roundw
     case rel=>exact ⟨k + 1,by omega,by go_num,by rw [Hstep.out];exact hr,hb⟩
     case measure=>simp [intOf];omega
    | true =>
     have hk8 : k / 8 < 216:=by omega
     have bc:=hr.cell (8 + k / 8) (by omega);have fc:=hr.frozen (8 + k / 8);replace bc : wr.drew.cell? _ = _:=bc;replace fc : wr.drew.frozen? _ = _:=fc;have hw1 : IntKind.i64.wrap ((k : Int) / 8) = (k : Int) / 8:=IntWalk.i64_in _ (by omega);have hw2 : IntKind.i64.wrap (8 + (k : Int) / 8) = 8 + (k : Int) / 8:=IntWalk.i64_in _ (by omega);have hw3 : (0 : Int) ≤ 8 + (k : Int) / 8:=by omega
     have hw4 : 8 + (k : Int) / 8 < 224:=by omega
     have hsh : ∀ W,Sem.run Tryd.prog (Op.shift .shl .u8 1 .i64 ((k : Int).tmod 8)) W = .ok (.int .u8 ((2 ^ (k % 8) : Nat) : Int)) W:=fun W=>by rw [tmod8];exact run_shl1 _ (by omega) W
     have hor:=or_bit L[8 + k / 8] (k % 8) (by omega);rw [show ((2 ^ (k % 8) : Nat) : Int) = (2 : Int) ^ (k % 8) by simp] at hor
     have hrd : RowB wr.drew G 5 L:=hr;have hs:=hrd.set (8 + k / 8) (L[8 + k / 8] ||| UInt8.ofNat (2 ^ (k % 8)));have hts:=turned_one wr.drew G (8 + k / 8) (.int .u8 ((L[8 + k / 8] ||| UInt8.ofNat (2 ^ (k % 8))).toNat : Int));have hsb : L.set (8 + k / 8) (L[8 + k / 8] ||| UInt8.ofNat (2 ^ (k % 8))) = setBit L k:=by rw [setBit,List.getD_eq_getElem?_getD,List.getElem?_eq_getElem (by omega),Option.getD_some]
     rw [hsb] at hs;rw [← hor] at hs hts;have HF:=Hd (And.intro hs (hb.drew.trans (hts.below (B:=w.heap.size) (by have:=hb.size;exact this) (fun k hk=>by omega))))
     clear hor hrd hs hts hsb hb hr;have hw5 : (8 + (k : Int) / 8).toNat = 8 + k / 8:=by omega
     go_wp2_with fail;refine wp_region_still_tail 11 (by kernel_rfl) (by kernel_rfl) ?_;simp only [List.take_succ_cons,List.take_zero,List.drop_succ_cons,List.drop_zero];change wpStill _ _ wr.drew (fun a'=>wpList _ _ _ _ a' wr.drew) _ _;generalize wr.drew = W5 at *;iterate 11 still_step
     refine wpStill_nil ?_;go_wp2_with fail;go_roundw
     case rel=>exact ⟨k + 1,by omega,by go_num,by rw [Hstep.out];exact HF.out.1,HF.out.2⟩
     case measure=>simp [intOf];omega
end
section
open Go.RowKit
end
section
open Go.RowKit
theorem pagesOf_any (w : World) (F : Ft) (p : Nat) (J : Jn) (h : JAt w F p J) (h2 : 6 ≤ J.D.n) : Calls Tryd.prog 56 #[jptr p] w fun e w'=>e = .returned (.int .i64 (J.pages : Int))∧w = w':=by
 have hB:=Hd (blocks_any w F p J h (by omega));have hn:=h.disk.ok.nm;have hb : 2 ≤ J.D.blocks:=by unfold Dk.blocks;omega
 have hb2 : J.D.blocks ≤ 1000000000:=by unfold Dk.blocks;omega
 have e1 : (J.pages : Int) = ((J.D.blocks : Int) - 2) / 8:=by unfold Jn.pages;omega
 rw [e1];clear e1 h;go_enter Tryd.func56,Tryd.ntmps56;go_wp2_with (go_at_call 42;refine hB.out.mono ?_;rintro e w2 ⟨rfl,rfl⟩);go_ret;refine ⟨?_,rfl⟩;go_num
end
section
open Go.RowKit
theorem cell_alloc (w : World) (o : Obj) {a : Addr} {v : Value} (h : w.cell? a = some v) : (w.alloc o).cell? a = some v:=by
 have hl : a.block < w.heap.size:=by
  rcases Nat.lt_or_ge a.block w.heap.size with hl | hl
  ·exact hl
  ·have:=Array.getElem?_eq_none (xs:=w.heap) hl;simp [World.cell?,this] at h
 rw [((Below.refl w.heap.size w).alloc (Nat.le_refl _) o).cell hl];exact h
def RowO (w : World) (g : Nat) (t : List Bool) : Prop:=w.heap[g]? = some (.cells (bov t).toArray 4 (0,0))
theorem and_bit (x : UInt8) (j : Nat) (hj : j < 8) : (bits .and .u8 ((x.toNat : Nat) : Int) ((2 ^ j : Nat) : Int) != 0) = x.toNat.testBit j:=by
 have hp : (2 : Nat) ^ j < 256:=by have:=Nat.pow_lt_pow_right (a:=2) (by omega) hj;omega
 have e : x.toNat &&& 2 ^ j = if x.toNat.testBit j then 2 ^ j else 0:=by
  apply Nat.eq_of_testBit_eq;intro i;rw [Nat.testBit_and,Nat.testBit_two_pow];by_cases h : j = i
  ·subst h
   cases hb : x.toNat.testBit j <;> simp
  ·cases hb : x.toNat.testBit j <;> simp [h,Nat.testBit_two_pow]
 rw [u8_and_nat _ _ x.toNat_lt hp,e];have h0 : (2 : Nat) ^ j ≠ 0:=by have:=Nat.two_pow_pos j;omega
 cases x.toNat.testBit j with
 | false=>simp
 | true =>
  rw [if_pos rfl,bne_iff_ne];intro q;exact h0 (by exact_mod_cast q)
def takenK (b : List UInt8) (n k : Nat) : List Bool:=takenOf b k ++ List.replicate (n - k) false
theorem takenK_length (b : List UInt8) (n k : Nat) (h : k ≤ n) : (takenK b n k).length = n:=by simp [takenK,takenOf_length];omega
theorem takenK_set (b : List UInt8) (n k : Nat) (h : k < n) : (takenK b n k).set k (bitAt b k) = takenK b n (k + 1):=by
 have hl : (takenOf b k).length = k:=takenOf_length b k;have e1 : n - k = (n - (k + 1)) + 1:=by omega
 have e2 : takenOf b (k + 1) = takenOf b k ++ [bitAt b k]:=by simp [takenOf,List.range_succ]
 rw [takenK,takenK,e2,e1,List.replicate_succ,List.set_append_right _ _ (by omega),hl,Nat.sub_self,List.set_cons_zero,List.append_assoc];rfl
theorem RowO.cell {w : World} {g : Nat} {t : List Bool} (h : RowO w g t) (i : Nat) (hi : i < t.length) : w.cell? ⟨g,i,none⟩ = some (.bool t[i]):=by rw [cell_of_row _ _ _ _ _ _ h];simp [bov,hi]
theorem RowO.set {w : World} {g : Nat} {t : List Bool} (h : RowO w g t) (i : Nat) (b : Bool) : RowO (w.setCell ⟨g,i,none⟩ (.bool b)) g (t.set i b):=by have:=head_setCell h (i:=i) (.bool b);rw [RowO,this];simp [bov,List.map_set]
theorem results_cell_tmp {P : Program} {fn : Func} {tmps : Array Value} {a : Tmp} {t : TypeId} {p : Addr} {v : Value} {w : World} {b : Tmp} (hr : fn.results = #[.cell a t,.tmp b]) (ha : tmps.getD a undef = .pointer (some p)) (hv : (loadVar t p).run P w = .ok v w) :
  (results fn tmps).run P w = .ok (.tuple #[v,tmps.getD b undef]) w:=by
 unfold results;simp only [hr,List.mapM_toArray,List.mapM_cons,List.mapM_nil,ha,asAddr,Sem.run_bind,Sem.run_pure,Result.andThen_ok,hv,bind_assoc,pure_bind,Sem.run_map];rfl
theorem two_blocks (W : World) (o1 o2 : Obj) : ((W.alloc o1).alloc o2).heap[W.heap.size]? = some o1∧((W.alloc o1).alloc o2).heap[W.heap.size + 1]? = some o2∧Below W.heap.size W ((W.alloc o1).alloc o2):=by
 have h1:=heap_alloc_new W o1;have h2:=heap_alloc_new (W.alloc o1) o2;have hs : (W.alloc o1).heap.size = W.heap.size + 1:=by simp
 rw [hs] at h2;have hb:=(Below.refl (W.alloc o1).heap.size (W.alloc o1)).alloc (Nat.le_refl _) o2
 refine ⟨(hb.block _ (by omega)).trans h1,h2,((Below.refl _ _).alloc (Nat.le_refl _) o1).alloc (by omega) o2⟩
theorem run_makeO (n : Nat) (hn : n ≤ 1000000) (w : World) : (Instr.makeSlice 57 (.int .i64 (n : Int)) (.int .i64 (n : Int))).run Tryd.prog w = .ok (.slice (some ⟨w.heap.size,0,none⟩) n n) (w.alloc (.cells (bov (List.replicate n false)).toArray 4)):=by
 rw [run_make_row' (P:=Tryd.prog) 57 4 (.bool false) 1 Tryd.underlying57 info_bool rfl .i64 .i64 n (by omega) (by omega) w];congr 3;simp only [madeCells,bov,List.map_replicate,List.size_toArray,List.toArray_replicate];apply Array.ext
 ·simp
 ·intro i h1 h2;simp [Nat.mod_one]
set_option maxHeartbeats 8000000 in
theorem planned_any (w : World) (v : Value) (b : List UInt8) (n : Nat) (hv : IsB w v b) (hb : b.length = 224) (hn : n ≤ 1023) :
  Calls Tryd.prog 59 #[v,.int .i64 (n : Int)] w fun e w'=>∃ u,e = .returned (.tuple #[.agg #[u,.int .i64 (rootOf b)],.bool (planOk b n)])∧MineO w.heap.size w' u (takenOf b n)∧Below w.heap.size w w':=by
 obtain ⟨a,c,rfl,hc1,hc2⟩:=hv.form;have hmk:=run_makeO n (by omega)
 obtain ⟨vb,vo,rfl,h6⟩:=isB_at hv 6 (by omega);obtain ⟨vb',vo',hh,h7⟩:=isB_at hv 7 (by omega);obtain ⟨rfl,rfl⟩ : vb = vb'∧vo = vo':=by simpa using hh
 clear hh;obtain ⟨x6,hx6⟩ : ∃ x,x = (b[6]'(by omega)).toNat:=⟨_,rfl⟩;obtain ⟨x7,hx7⟩ : ∃ x,x = (b[7]'(by omega)).toNat:=⟨_,rfl⟩;rw [← hx6] at h6;rw [← hx7] at h7;have l6 : x6 < 256:=by rw [hx6];exact UInt8.toNat_lt _
 have l7 : x7 < 256:=by rw [hx7];exact UInt8.toNat_lt _
 have HR : Hid (rootOf b = (x6 : Int) + 256 * (x7 : Int) - 1):=Hd (by
  rw [hx6,hx7,rootOf,List.getD_eq_getElem?_getD,List.getElem?_eq_getElem (by omega),List.getD_eq_getElem?_getD,List.getElem?_eq_getElem (by omega)]
  rfl)
 have w6 : IntKind.i64.wrap (x6 : Int) = (x6 : Int):=IntWalk.i64_in _ (by omega);have w7 : IntKind.i64.wrap (x7 : Int) = (x7 : Int):=IntWalk.i64_in _ (by omega);have wa : IntKind.i64.wrap ((x7 : Int) * 256) = (x7 : Int) * 256:=IntWalk.i64_in _ (by omega);have wb : IntKind.i64.wrap ((x6 : Int) + (x7 : Int) * 256) = (x6 : Int) + (x7 : Int) * 256:=IntWalk.i64_in _ (by omega);have wc : IntKind.i64.wrap ((x6 : Int) + (x7 : Int) * 256 - 1) = rootOf b:=by rw [HR.out,IntWalk.i64_in _ (by omega)];omega
 have hr1 : -1 ≤ rootOf b:=by rw [HR.out];omega
 have hr2 : rootOf b < 65535:=by rw [HR.out];omega
 obtain ⟨R,hR⟩ : ∃ R,R = rootOf b:=⟨_,rfl⟩;rw [← hR] at wc hr1 hr2 ⊢;have HRb:=Hd hR
 clear hx6 hx7 hR;have HV:=Hd hv
 obtain ⟨W1,hW1⟩ : ∃ W1,W1 = w.alloc (.cells #[.slice none 0 0,.int .i64 0] 59):=⟨_,rfl⟩;have hq1 : W1.heap[w.heap.size]? = some (planRow (.slice none 0 0) 0):=by rw [hW1];exact heap_alloc_new w _
 have hb1 : Below w.heap.size w W1:=by rw [hW1];exact (Below.refl _ _).alloc (Nat.le_refl _) _
 have hs1 : W1.heap.size = w.heap.size + 1:=by rw [hW1];simp
 have h61 : W1.cell? ⟨vb,vo + 6,none⟩ = some (.int .u8 (x6 : Int)):=by rw [hW1];exact cell_alloc w _ h6
 have h71 : W1.cell? ⟨vb,vo + 7,none⟩ = some (.int .u8 (x7 : Int)):=by rw [hW1];exact cell_alloc w _ h7
 have HW1:=Hd hW1;clear h6 h7 hW1 hv;go_enter Tryd.func59,Tryd.ntmps59;go_upto_region 1 with fail;rw [← HW1.out];clear HW1;have hS0 : (fun W : World=>W.cell? ⟨vb,vo + 6,none⟩ = some (.int .u8 (x6 : Int))∧W.cell? ⟨vb,vo + 7,none⟩ = some (.int .u8 (x7 : Int))) W1.drew:=⟨h61,h71⟩;refine rgA (S:=(fun W : World=>W.cell? ⟨vb,vo + 6,none⟩ = some (.int .u8 (x6 : Int))∧W.cell? ⟨vb,vo + 7,none⟩ = some (.int .u8 (x7 : Int)))) hS0 (fun hH=>?_);refine tkB 0 rfl (v:=?_) ?_ hH ?_;rotate_left
 ·intro w hSw;obtain ⟨q0,q1⟩:=hSw;go_simp;try with_reducible rfl
 try simp only [Act.put,zA,zB,zC]
 refine tkB 2 rfl (v:=?_) ?_ hH ?_;rotate_left
 ·intro w hSw;obtain ⟨q0,q1⟩:=hSw;go_simp;try with_reducible rfl
 try simp only [Act.put,zA,zB,zC]
 refine tkB 3 rfl (v:=?_) ?_ hH ?_;rotate_left
 ·intro w hSw;obtain ⟨q0,q1⟩:=hSw;go_simp;try with_reducible rfl
 try simp only [Act.put,zA,zB,zC]
 refine tkB 4 rfl (v:=?_) ?_ hH ?_;rotate_left
 ·intro w hSw;obtain ⟨q0,q1⟩:=hSw;go_simp;try with_reducible rfl
 try simp only [Act.put,zA,zB,zC]
 refine tkB 5 rfl (v:=?_) ?_ hH ?_;rotate_left
 ·intro w hSw;obtain ⟨q0,q1⟩:=hSw;go_simp;try with_reducible rfl
 try simp only [Act.put,zA,zB,zC]
 refine tkB 6 rfl (v:=?_) ?_ hH ?_;rotate_left
 ·intro w hSw;obtain ⟨q0,q1⟩:=hSw;go_simp;try with_reducible rfl
 try simp only [Act.put,zA,zB,zC]
 refine tkB 7 rfl (v:=?_) ?_ hH ?_;rotate_left
 ·intro w hSw;obtain ⟨q0,q1⟩:=hSw;go_simp;try with_reducible rfl
 try simp only [Act.put,zA,zB,zC]
 refine tkB 8 rfl (v:=?_) ?_ hH ?_;rotate_left
 ·intro w hSw;obtain ⟨q0,q1⟩:=hSw;go_simp;try with_reducible rfl
 try simp only [Act.put,zA,zB,zC]
 refine tkB 9 rfl (v:=?_) ?_ hH ?_;rotate_left
 ·intro w hSw;obtain ⟨q0,q1⟩:=hSw;go_simp;try with_reducible rfl
 try simp only [Act.put,zA,zB,zC]
 refine tkB 10 rfl (v:=?_) ?_ hH ?_;rotate_left
 ·intro w hSw;obtain ⟨q0,q1⟩:=hSw;go_simp;try with_reducible rfl
 try simp only [Act.put,zA,zB,zC]
 refine tkB 11 rfl (v:=?_) ?_ hH ?_;rotate_left
 ·intro w hSw;obtain ⟨q0,q1⟩:=hSw;go_simp;try with_reducible rfl
 try simp only [Act.put,zA,zB,zC]
 refine tkB 12 rfl (v:=?_) ?_ hH ?_;rotate_left
 ·intro w hSw;obtain ⟨q0,q1⟩:=hSw;go_simp;try with_reducible rfl
 try simp only [Act.put,zA,zB,zC]
 refine wpAnyH_ready (rs:=[1,14]) (by kernel_rfl) (by simp) ?_;refine ready_at rfl (fun K hK=>?_) ?_
 ·go_simp
  go_wp2_with fail;refine hK.out _ _ ⟨cell_alloc _ _ hH.1,cell_alloc _ _ hH.2⟩ (fun hH=>?_);clear hK K;try simp only [Act.put,zA,zB,zC]
  refine tkB 13 rfl (v:=?_) ?_ hH ?_;rotate_left
  ·intro w hSw;obtain ⟨q0,q1⟩:=hSw;go_simp;try with_reducible rfl
  try simp only [Act.put,zA,zB,zC]
  refine rdA 14 rfl (fun K hK=>?_);go_simp;go_wp2_with fail;refine hK.out _ _ ⟨cell_alloc _ _ hH.1,cell_alloc _ _ hH.2⟩ (fun hH=>?_);clear hK K;try simp only [Act.put,zA,zB,zC]
  refine rdA 15 rfl (fun K hK=>?_);go_simp;obtain ⟨hrow,hpl,hbn⟩:=two_blocks W1 (.cells (bov (List.replicate n false)).toArray 4) (.cells #[.slice (some ⟨w.heap.size + 1,0,none⟩) n n,.int .i64 R] 59);have h64:=cell_alloc _ (.cells #[.slice (some ⟨w.heap.size + 1,0,none⟩) n n,.int .i64 R] 59) (cell_alloc _ (.cells (bov (List.replicate n false)).toArray 4) h61)
  have h74:=cell_alloc _ (.cells #[.slice (some ⟨w.heap.size + 1,0,none⟩) n n,.int .i64 R] 59) (cell_alloc _ (.cells (bov (List.replicate n false)).toArray 4) h71);rw [hs1] at hrow hpl hbn;clear h61 h71 hH;generalize (W1.alloc (.cells (bov (List.replicate n false)).toArray 4)).alloc (.cells #[.slice (some ⟨w.heap.size + 1,0,none⟩) n n,.int .i64 R] 59) = W4 at *;generalize hpb : w.heap.size + 1 + 1 = pb at *;generalize hrb : w.heap.size + 1 = rb at *;refine hK.out _ _ ⟨h64,h74⟩ (fun hH=>?_);clear h64 h74 hH;clear hK K;try simp only [Act.put,zA,zB,zC]
  refine dnA ?_;have hres:=(hbn.block _ (by omega)).trans hq1
  have hbw : Below w.heap.size w W4.drew:=(hb1.trans (hbn.mono (by omega))).drew
  have hrow5 : RowO W4.drew rb (takenK b n 0):=by
   rw [show takenK b n 0 = List.replicate n false from rfl]
   exact hrow
  replace hpl : W4.drew.heap[pb]? = some (planRow (.slice (some ⟨rb,0,none⟩) n n) R):=hpl;replace hres : W4.drew.heap[w.heap.size]? = some (planRow (.slice none 0 0) 0):=hres;have hne1 : rb ≠ pb:=by omega
  have hne2 : w.heap.size < rb:=by omega
  have hne3 : w.heap.size < pb:=by omega
  clear hrow hbn hq1 hb1 hs1 hpb hrb hmk;generalize W4.drew = W5 at *;go_wp2_with fail;go_loopw [24] (fun x wr=>∃ k : Nat,k ≤ n∧x = .int .i64 (k : Int)∧RowO wr rb (takenK b n k)∧wr.heap[pb]? = some (planRow (.slice (some ⟨rb,0,none⟩) n n) R)∧wr.heap[w.heap.size]? = some (planRow (.slice none 0 0) 0)∧Below w.heap.size w wr) (fun x _=>n - (intOf x).toNat)
  case atStart=>exact ⟨0,Nat.zero_le _,rfl,hrow5,hpl,hres,hbw⟩
  case round =>
   clear hrow5 hpl hres hbw;obtain ⟨k,hk,rfl,hrow,hpl,hres,hbw⟩:=hrel;by_cases hlt : k < n
   ·have hd : decide ((k : Int) < (n : Int)) = true:=decide_eq_true (by omega)
    have hk8 : k / 8 < 216:=by omega
    obtain ⟨b',o',ha,hc⟩:=isB_at (HV.out.below hbw) (8 + k / 8) (by omega);obtain ⟨rfl,rfl⟩ : vb = b'∧vo = o':=by simpa using ha
    clear ha;have hTl:=takenK_length b n k hk
    have hfz:=frozen_p hrow k;have hcp : wr.cell? ⟨pb,0,none⟩ = some (.slice (some ⟨rb,0,none⟩) n n):=(plan_cells hpl).1;obtain ⟨tk,hcr⟩ : ∃ u,wr.cell? ⟨rb,k,none⟩ = some u:=⟨_,hrow.cell k (by omega)⟩;replace hc : wr.drew.cell? _ = _:=hc;replace hfz : wr.drew.frozen? _ = _:=hfz;replace hcp : wr.drew.cell? _ = _:=hcp;replace hcr : wr.drew.cell? _ = _:=hcr;have hw1 : IntKind.i64.wrap ((k : Int) / 8) = (k : Int) / 8:=IntWalk.i64_in _ (by omega);have hw2 : IntKind.i64.wrap (8 + (k : Int) / 8) = 8 + (k : Int) / 8:=IntWalk.i64_in _ (by omega);have hw3 : (0 : Int) ≤ 8 + (k : Int) / 8:=by omega
    have hw4 : 8 + (k : Int) / 8 < 224:=by omega
    have hw5 : (8 + (k : Int) / 8).toNat = 8 + k / 8:=by omega
    have hsh : ∀ W,Sem.run Tryd.prog (Op.shift .shl .u8 1 .i64 ((k : Int).tmod 8)) W = .ok (.int .u8 ((2 ^ (k % 8) : Nat) : Int)) W:=fun W=>by rw [tmod8];exact run_shl1 _ (by omega) W
    have hand:=and_bit b[8 + k / 8] (k % 8) (by omega);rw [show ((2 ^ (k % 8) : Nat) : Int) = (2 : Int) ^ (k % 8) by simp] at hand
    have hbit : b[8 + k / 8].toNat.testBit (k % 8) = bitAt b k:=by rw [bitAt,List.getD_eq_getElem?_getD,List.getElem?_eq_getElem (by omega)];rfl
    rw [hbit] at hand;have hrd : RowO wr.drew rb (takenK b n k):=hrow
    have hs:=hrd.set k (bitAt b k);rw [takenK_set b n k hlt] at hs;have hts:=turned_one wr.drew rb k (.bool (bitAt b k));have HF:=Hd (And.intro hs (And.intro ((hts.block pb (lt_of_heap hpl) (by omega)).trans hpl) (And.intro ((hts.block w.heap.size (lt_of_heap hres) (by omega)).trans hres) (hbw.drew.trans (hts.below (B:=w.heap.size) (by have:=hbw.size;exact this) (fun k hk=>by omega))))));clear hrow hpl hres hbw hrd hs hts hbit hTl;generalize bitAt b k = bk at *;go_wp2_with fail;refine wp_region_still_tail 15 (by kernel_rfl) (by kernel_rfl) ?_;simp only [List.take_succ_cons,List.take_zero,List.drop_succ_cons,List.drop_zero];change wpStill _ _ wr.drew (fun a'=>wpList _ _ _ _ a' wr.drew) _ _;generalize wr.drew = W6 at *;iterate 15 still_step
    refine wpStill_nil ?_;go_wp2_with fail;go_roundw
    case rel=>exact ⟨k + 1,by omega,by go_num,HF.out.1,HF.out.2.1,HF.out.2.2.1,HF.out.2.2.2⟩
    case measure=>simp [intOf];omega
   ·obtain rfl : k = n:=by omega
    have hdz : decide ((k : Int) < (k : Int)) = false:=by simp
    have e0 : takenK b k k = takenOf b k:=by simp [takenK]
    rw [e0] at hrow;have hTl:=takenOf_length b k
    obtain ⟨T,hT⟩ : ∃ T,T = takenOf b k:=⟨_,rfl⟩;have HOK : Hid (planOk b k = (decide (R < (k : Int)) && (decide (R < 0) || T.getD R.toNat false) && (planB T R == b))):=Hd (by rw [planOk,HRb.out,hT])
    rw [← hT] at hrow hTl;have hm : MineO w.heap.size wr (.slice (some ⟨rb,0,none⟩) k k) T:=by unfold MineO;rw [hTl];exact ⟨by simp [bov_length,hTl],.inr ⟨rb,k,_,rfl,by omega,hrow,Nat.le_refl _,by simp [maxLen];omega,by simp [bov_length,hTl],by simp [List.take_of_length_le,bov_length,hTl]⟩⟩
    have HT:=Hd hT;obtain ⟨g00,g01⟩:=plan_cells hpl;obtain ⟨s00,s01⟩:=plan_cells hres;have f0:=frozen_p hres 0;have f1:=frozen_p hres 1;clear hT e0;replace hm : MineO (w.heap.size + 1) wr (.slice (some ⟨rb,0,none⟩) k k) T:=by unfold MineO;rw [hTl];exact ⟨by simp [bov_length,hTl],.inr ⟨rb,k,_,rfl,by omega,hrow,Nat.le_refl _,by simp [maxLen];omega,by simp [bov_length,hTl],by simp [List.take_of_length_le,bov_length,hTl]⟩⟩
    by_cases hA : R < (k : Int)
    case neg =>
     have d1 : decide (R < (k : Int)) = false:=decide_eq_false hA;go_wp2_with fail;have hq4:=head_setCell (head_setCell hres (i:=0) (.slice (some ⟨rb,0,none⟩) k k)) (i:=1) (.int .i64 R);have ht4:=(turned_one wr w.heap.size 0 (.slice (some ⟨rb,0,none⟩) k k)).trans (turned_one _ w.heap.size 1 (.int .i64 R));have hv:=run_loadVar_row (P:=Tryd.prog) _ w.heap.size 59 59 _ (0,0) _ hq4 Tryd.underlying59 rfl (by rw [info_plan];rfl);refine bodyPost_ret (results_cell_tmp Tryd.results59 rfl hv) rfl ⟨.slice (some ⟨rb,0,none⟩) k k,?_,?_,?_⟩
     ·rw [HOK.out,d1];rfl
     ·rw [← HT.out];exact World.ownsRow.mono (hm.keep fun j h1 h2=>ht4.block j h2 (by omega)) (by omega)
     ·exact hbw.trans (ht4.below (B:=w.heap.size) hbw.size fun j hj=>by omega)
    have d1 : decide (R < (k : Int)) = true:=decide_eq_true hA;have HPB:=Hd (planB_any wr (w.heap.size + 1) _ T R hm (by omega) hr1 hr2);by_cases hB : R < 0
    ·have d2 : decide (R < 0) = true:=decide_eq_true hB
     go_wp2_with fail;refine HPB.out.mono ?_;rintro e w2 ⟨u,rfl,hu,hb2⟩;have hu2:=hu.isB
     obtain ⟨ua,uc,rfl,_,_⟩:=hu2.form;have HE:=Hd (equalB_any w2 _ _ _ _ hu2 ((HV.out.below hbw).below hb2) (by rw [planB_length];omega))
     rw [hb,planB_length] at HE;simp only [planB_length];have hres2:=(hb2.block _ (lt_of_heap hres)).trans hres
     have hpl2:=(hb2.block _ (lt_of_heap hpl)).trans hpl;have hm2:=hm.below hb2;have hbw2:=hbw.trans (hb2.mono hbw.size);clear hres hpl hm hbw hb2 hu hu2 g00 g01 s00 s01 f0 f1;go_wp2_with fail;refine HE.out.mono ?_;rintro e w3 ⟨rfl,hb3⟩;have hres3:=(hb3.block _ (lt_of_heap hres2)).trans hres2;have hpl3:=(hb3.block _ (lt_of_heap hpl2)).trans hpl2;have hm3:=hm2.below hb3;have hbw3:=hbw2.trans (hb3.mono hbw2.size);obtain ⟨t00,t01⟩:=plan_cells hpl3;obtain ⟨u00,u01⟩:=plan_cells hres3;have t0:=frozen_p hres3 0;have t1:=frozen_p hres3 1;clear hres2 hpl2 hm2 hbw2 hb3;go_wp2_with fail;have hq4:=head_setCell (head_setCell hres3 (i:=0) (.slice (some ⟨rb,0,none⟩) k k)) (i:=1) (.int .i64 R);have ht4:=(turned_one w3 w.heap.size 0 (.slice (some ⟨rb,0,none⟩) k k)).trans (turned_one _ w.heap.size 1 (.int .i64 R));have hv:=run_loadVar_row (P:=Tryd.prog) _ w.heap.size 59 59 _ (0,0) _ hq4 Tryd.underlying59 rfl (by rw [info_plan];rfl);refine bodyPost_ret (results_cell_tmp Tryd.results59 rfl hv) rfl ⟨.slice (some ⟨rb,0,none⟩) k k,?_,?_,?_⟩
     ·rw [HOK.out,d1,d2];rfl
     ·rw [← HT.out];exact World.ownsRow.mono (hm3.keep fun j h1 h2=>ht4.block j h2 (by omega)) (by omega)
     ·exact hbw3.trans (ht4.below (B:=w.heap.size) hbw3.size fun j hj=>by omega)
    ·have d2 : decide (R < 0) = false:=decide_eq_false hB
     have hRl : R.toNat < T.length:=by omega
     have hRk : R.toNat < k:=by omega
     have hR0 : (0 : Int) ≤ R:=by omega
     have hcr:=hrow.cell R.toNat hRl;obtain ⟨tr,htr⟩ : ∃ x,x = T[R.toNat]:=⟨_,rfl⟩;have hTR : T.getD R.toNat false = tr:=by rw [htr,List.getD_eq_getElem?_getD,List.getElem?_eq_getElem hRl];rfl
     rw [← htr] at hcr;have HTR:=Hd hTR
     clear htr hTR
     cases tr with
     | false =>
      go_wp2_with fail;have hq4:=head_setCell (head_setCell hres (i:=0) (.slice (some ⟨rb,0,none⟩) k k)) (i:=1) (.int .i64 R)
      have ht4:=(turned_one wr w.heap.size 0 (.slice (some ⟨rb,0,none⟩) k k)).trans (turned_one _ w.heap.size 1 (.int .i64 R));have hv:=run_loadVar_row (P:=Tryd.prog) _ w.heap.size 59 59 _ (0,0) _ hq4 Tryd.underlying59 rfl (by rw [info_plan];rfl);refine bodyPost_ret (results_cell_tmp Tryd.results59 rfl hv) rfl ⟨.slice (some ⟨rb,0,none⟩) k k,?_,?_,?_⟩
      ·rw [HOK.out,d1,d2,HTR.out];rfl
      ·rw [← HT.out];exact World.ownsRow.mono (hm.keep fun j h1 h2=>ht4.block j h2 (by omega)) (by omega)
      ·exact hbw.trans (ht4.below (B:=w.heap.size) hbw.size fun j hj=>by omega)
     | true =>
      go_wp2_with fail;refine HPB.out.mono ?_;rintro e w2 ⟨u,rfl,hu,hb2⟩;have hu2:=hu.isB
      obtain ⟨ua,uc,rfl,_,_⟩:=hu2.form;have HE:=Hd (equalB_any w2 _ _ _ _ hu2 ((HV.out.below hbw).below hb2) (by rw [planB_length];omega))
      rw [hb,planB_length] at HE;simp only [planB_length];have hres2:=(hb2.block _ (lt_of_heap hres)).trans hres
      have hpl2:=(hb2.block _ (lt_of_heap hpl)).trans hpl;have hm2:=hm.below hb2;have hbw2:=hbw.trans (hb2.mono hbw.size);clear hres hpl hm hbw hb2 hu hu2 g00 g01 s00 s01 f0 f1;go_wp2_with fail;refine HE.out.mono ?_;rintro e w3 ⟨rfl,hb3⟩;have hres3:=(hb3.block _ (lt_of_heap hres2)).trans hres2;have hpl3:=(hb3.block _ (lt_of_heap hpl2)).trans hpl2;have hm3:=hm2.below hb3;have hbw3:=hbw2.trans (hb3.mono hbw2.size);obtain ⟨t00,t01⟩:=plan_cells hpl3;obtain ⟨u00,u01⟩:=plan_cells hres3;have t0:=frozen_p hres3 0;have t1:=frozen_p hres3 1;clear hres2 hpl2 hm2 hbw2 hb3;go_wp2_with fail;have hq4:=head_setCell (head_setCell hres3 (i:=0) (.slice (some ⟨rb,0,none⟩) k k)) (i:=1) (.int .i64 R);have ht4:=(turned_one w3 w.heap.size 0 (.slice (some ⟨rb,0,none⟩) k k)).trans (turned_one _ w.heap.size 1 (.int .i64 R));have hv:=run_loadVar_row (P:=Tryd.prog) _ w.heap.size 59 59 _ (0,0) _ hq4 Tryd.underlying59 rfl (by rw [info_plan];rfl);refine bodyPost_ret (results_cell_tmp Tryd.results59 rfl hv) rfl ⟨.slice (some ⟨rb,0,none⟩) k k,?_,?_,?_⟩
      ·rw [HOK.out,d1,d2,HTR.out];rfl
      ·rw [← HT.out];exact World.ownsRow.mono (hm3.keep fun j h1 h2=>ht4.block j h2 (by omega)) (by omega)
      ·exact hbw3.trans (ht4.below (B:=w.heap.size) hbw3.size fun j hj=>by omega)
 refine ready_at rfl (fun K hK=>?_) ?_
 ·go_simp
  go_wp2_with fail;refine hK.out _ _ ⟨cell_alloc _ _ hH.1,cell_alloc _ _ hH.2⟩ (fun hH=>?_);clear hK K;try simp only [Act.put,zA,zB,zC]
  refine rdA 1 rfl (fun K hK=>?_);go_simp;go_wp2_with fail;refine hK.out _ _ ⟨cell_alloc _ _ hH.1,cell_alloc _ _ hH.2⟩ (fun hH=>?_);clear hK K;try simp only [Act.put,zA,zB,zC]
  refine tkB 13 rfl (v:=?_) ?_ hH ?_;rotate_left
  ·intro w hSw;obtain ⟨q0,q1⟩:=hSw;go_simp;try with_reducible rfl
  try simp only [Act.put,zA,zB,zC]
  refine rdA 15 rfl (fun K hK=>?_);go_simp;obtain ⟨hpl,hrow,hbn⟩:=two_blocks W1 (.cells #[.slice (some ⟨w.heap.size + 1 + 1,0,none⟩) n n,.int .i64 R] 59) (.cells (bov (List.replicate n false)).toArray 4);have h64:=cell_alloc _ (.cells (bov (List.replicate n false)).toArray 4) (cell_alloc _ (.cells #[.slice (some ⟨w.heap.size + 1 + 1,0,none⟩) n n,.int .i64 R] 59) h61)
  have h74:=cell_alloc _ (.cells (bov (List.replicate n false)).toArray 4) (cell_alloc _ (.cells #[.slice (some ⟨w.heap.size + 1 + 1,0,none⟩) n n,.int .i64 R] 59) h71);rw [hs1] at hpl hrow hbn;clear h61 h71 hH;generalize (W1.alloc (.cells #[.slice (some ⟨w.heap.size + 1 + 1,0,none⟩) n n,.int .i64 R] 59)).alloc (.cells (bov (List.replicate n false)).toArray 4) = W4 at *;generalize hrb : w.heap.size + 1 + 1 = rb at *;generalize hpb : w.heap.size + 1 = pb at *;refine hK.out _ _ ⟨h64,h74⟩ (fun hH=>?_);clear h64 h74 hH;clear hK K;try simp only [Act.put,zA,zB,zC]
  refine dnA ?_;have hres:=(hbn.block _ (by omega)).trans hq1
  have hbw : Below w.heap.size w W4.drew:=(hb1.trans (hbn.mono (by omega))).drew
  have hrow5 : RowO W4.drew rb (takenK b n 0):=by
   rw [show takenK b n 0 = List.replicate n false from rfl]
   exact hrow
  replace hpl : W4.drew.heap[pb]? = some (planRow (.slice (some ⟨rb,0,none⟩) n n) R):=hpl;replace hres : W4.drew.heap[w.heap.size]? = some (planRow (.slice none 0 0) 0):=hres;have hne1 : rb ≠ pb:=by omega
  have hne2 : w.heap.size < rb:=by omega
  have hne3 : w.heap.size < pb:=by omega
  clear hrow hbn hq1 hb1 hs1 hpb hrb hmk;generalize W4.drew = W5 at *;go_wp2_with fail;go_loopw [24] (fun x wr=>∃ k : Nat,k ≤ n∧x = .int .i64 (k : Int)∧RowO wr rb (takenK b n k)∧wr.heap[pb]? = some (planRow (.slice (some ⟨rb,0,none⟩) n n) R)∧wr.heap[w.heap.size]? = some (planRow (.slice none 0 0) 0)∧Below w.heap.size w wr) (fun x _=>n - (intOf x).toNat)
  case atStart=>exact ⟨0,Nat.zero_le _,rfl,hrow5,hpl,hres,hbw⟩
  case round =>
   clear hrow5 hpl hres hbw;obtain ⟨k,hk,rfl,hrow,hpl,hres,hbw⟩:=hrel;by_cases hlt : k < n
   ·have hd : decide ((k : Int) < (n : Int)) = true:=decide_eq_true (by omega)
    have hk8 : k / 8 < 216:=by omega
    obtain ⟨b',o',ha,hc⟩:=isB_at (HV.out.below hbw) (8 + k / 8) (by omega);obtain ⟨rfl,rfl⟩ : vb = b'∧vo = o':=by simpa using ha
    clear ha;have hTl:=takenK_length b n k hk
    have hfz:=frozen_p hrow k;have hcp : wr.cell? ⟨pb,0,none⟩ = some (.slice (some ⟨rb,0,none⟩) n n):=(plan_cells hpl).1;obtain ⟨tk,hcr⟩ : ∃ u,wr.cell? ⟨rb,k,none⟩ = some u:=⟨_,hrow.cell k (by omega)⟩;replace hc : wr.drew.cell? _ = _:=hc;replace hfz : wr.drew.frozen? _ = _:=hfz;replace hcp : wr.drew.cell? _ = _:=hcp;replace hcr : wr.drew.cell? _ = _:=hcr;have hw1 : IntKind.i64.wrap ((k : Int) / 8) = (k : Int) / 8:=IntWalk.i64_in _ (by omega);have hw2 : IntKind.i64.wrap (8 + (k : Int) / 8) = 8 + (k : Int) / 8:=IntWalk.i64_in _ (by omega);have hw3 : (0 : Int) ≤ 8 + (k : Int) / 8:=by omega
    have hw4 : 8 + (k : Int) / 8 < 224:=by omega
    have hw5 : (8 + (k : Int) / 8).toNat = 8 + k / 8:=by omega
    have hsh : ∀ W,Sem.run Tryd.prog (Op.shift .shl .u8 1 .i64 ((k : Int).tmod 8)) W = .ok (.int .u8 ((2 ^ (k % 8) : Nat) : Int)) W:=fun W=>by rw [tmod8];exact run_shl1 _ (by omega) W
    have hand:=and_bit b[8 + k / 8] (k % 8) (by omega);rw [show ((2 ^ (k % 8) : Nat) : Int) = (2 : Int) ^ (k % 8) by simp] at hand
    have hbit : b[8 + k / 8].toNat.testBit (k % 8) = bitAt b k:=by rw [bitAt,List.getD_eq_getElem?_getD,List.getElem?_eq_getElem (by omega)];rfl
    rw [hbit] at hand;have hrd : RowO wr.drew rb (takenK b n k):=hrow
    have hs:=hrd.set k (bitAt b k);rw [takenK_set b n k hlt] at hs;have hts:=turned_one wr.drew rb k (.bool (bitAt b k));have HF:=Hd (And.intro hs (And.intro ((hts.block pb (lt_of_heap hpl) (by omega)).trans hpl) (And.intro ((hts.block w.heap.size (lt_of_heap hres) (by omega)).trans hres) (hbw.drew.trans (hts.below (B:=w.heap.size) (by have:=hbw.size;exact this) (fun k hk=>by omega))))));clear hrow hpl hres hbw hrd hs hts hbit hTl;generalize bitAt b k = bk at *;go_wp2_with fail;refine wp_region_still_tail 15 (by kernel_rfl) (by kernel_rfl) ?_;simp only [List.take_succ_cons,List.take_zero,List.drop_succ_cons,List.drop_zero];change wpStill _ _ wr.drew (fun a'=>wpList _ _ _ _ a' wr.drew) _ _;generalize wr.drew = W6 at *;iterate 15 still_step
    refine wpStill_nil ?_;go_wp2_with fail;go_roundw
    case rel=>exact ⟨k + 1,by omega,by go_num,HF.out.1,HF.out.2.1,HF.out.2.2.1,HF.out.2.2.2⟩
    case measure=>simp [intOf];omega
   ·obtain rfl : k = n:=by omega
    have hdz : decide ((k : Int) < (k : Int)) = false:=by simp
    have e0 : takenK b k k = takenOf b k:=by simp [takenK]
    rw [e0] at hrow;have hTl:=takenOf_length b k
    obtain ⟨T,hT⟩ : ∃ T,T = takenOf b k:=⟨_,rfl⟩;have HOK : Hid (planOk b k = (decide (R < (k : Int)) && (decide (R < 0) || T.getD R.toNat false) && (planB T R == b))):=Hd (by rw [planOk,HRb.out,hT])
    rw [← hT] at hrow hTl;have hm : MineO w.heap.size wr (.slice (some ⟨rb,0,none⟩) k k) T:=by unfold MineO;rw [hTl];exact ⟨by simp [bov_length,hTl],.inr ⟨rb,k,_,rfl,by omega,hrow,Nat.le_refl _,by simp [maxLen];omega,by simp [bov_length,hTl],by simp [List.take_of_length_le,bov_length,hTl]⟩⟩
    have HT:=Hd hT;obtain ⟨g00,g01⟩:=plan_cells hpl;obtain ⟨s00,s01⟩:=plan_cells hres;have f0:=frozen_p hres 0;have f1:=frozen_p hres 1;clear hT e0;replace hm : MineO (w.heap.size + 1) wr (.slice (some ⟨rb,0,none⟩) k k) T:=by unfold MineO;rw [hTl];exact ⟨by simp [bov_length,hTl],.inr ⟨rb,k,_,rfl,by omega,hrow,Nat.le_refl _,by simp [maxLen];omega,by simp [bov_length,hTl],by simp [List.take_of_length_le,bov_length,hTl]⟩⟩
    by_cases hA : R < (k : Int)
    case neg =>
     have d1 : decide (R < (k : Int)) = false:=decide_eq_false hA;go_wp2_with fail;have hq4:=head_setCell (head_setCell hres (i:=0) (.slice (some ⟨rb,0,none⟩) k k)) (i:=1) (.int .i64 R);have ht4:=(turned_one wr w.heap.size 0 (.slice (some ⟨rb,0,none⟩) k k)).trans (turned_one _ w.heap.size 1 (.int .i64 R));have hv:=run_loadVar_row (P:=Tryd.prog) _ w.heap.size 59 59 _ (0,0) _ hq4 Tryd.underlying59 rfl (by rw [info_plan];rfl);refine bodyPost_ret (results_cell_tmp Tryd.results59 rfl hv) rfl ⟨.slice (some ⟨rb,0,none⟩) k k,?_,?_,?_⟩
     ·rw [HOK.out,d1];rfl
     ·rw [← HT.out];exact World.ownsRow.mono (hm.keep fun j h1 h2=>ht4.block j h2 (by omega)) (by omega)
     ·exact hbw.trans (ht4.below (B:=w.heap.size) hbw.size fun j hj=>by omega)
    have d1 : decide (R < (k : Int)) = true:=decide_eq_true hA;have HPB:=Hd (planB_any wr (w.heap.size + 1) _ T R hm (by omega) hr1 hr2);by_cases hB : R < 0
    ·have d2 : decide (R < 0) = true:=decide_eq_true hB
     go_wp2_with fail;refine HPB.out.mono ?_;rintro e w2 ⟨u,rfl,hu,hb2⟩;have hu2:=hu.isB
     obtain ⟨ua,uc,rfl,_,_⟩:=hu2.form;have HE:=Hd (equalB_any w2 _ _ _ _ hu2 ((HV.out.below hbw).below hb2) (by rw [planB_length];omega))
     rw [hb,planB_length] at HE;simp only [planB_length];have hres2:=(hb2.block _ (lt_of_heap hres)).trans hres
     have hpl2:=(hb2.block _ (lt_of_heap hpl)).trans hpl;have hm2:=hm.below hb2;have hbw2:=hbw.trans (hb2.mono hbw.size);clear hres hpl hm hbw hb2 hu hu2 g00 g01 s00 s01 f0 f1;go_wp2_with fail;refine HE.out.mono ?_;rintro e w3 ⟨rfl,hb3⟩;have hres3:=(hb3.block _ (lt_of_heap hres2)).trans hres2;have hpl3:=(hb3.block _ (lt_of_heap hpl2)).trans hpl2;have hm3:=hm2.below hb3;have hbw3:=hbw2.trans (hb3.mono hbw2.size);obtain ⟨t00,t01⟩:=plan_cells hpl3;obtain ⟨u00,u01⟩:=plan_cells hres3;have t0:=frozen_p hres3 0;have t1:=frozen_p hres3 1;clear hres2 hpl2 hm2 hbw2 hb3;go_wp2_with fail;have hq4:=head_setCell (head_setCell hres3 (i:=0) (.slice (some ⟨rb,0,none⟩) k k)) (i:=1) (.int .i64 R);have ht4:=(turned_one w3 w.heap.size 0 (.slice (some ⟨rb,0,none⟩) k k)).trans (turned_one _ w.heap.size 1 (.int .i64 R));have hv:=run_loadVar_row (P:=Tryd.prog) _ w.heap.size 59 59 _ (0,0) _ hq4 Tryd.underlying59 rfl (by rw [info_plan];rfl);refine bodyPost_ret (results_cell_tmp Tryd.results59 rfl hv) rfl ⟨.slice (some ⟨rb,0,none⟩) k k,?_,?_,?_⟩
     ·rw [HOK.out,d1,d2];rfl
     ·rw [← HT.out];exact World.ownsRow.mono (hm3.keep fun j h1 h2=>ht4.block j h2 (by omega)) (by omega)
     ·exact hbw3.trans (ht4.below (B:=w.heap.size) hbw3.size fun j hj=>by omega)
    ·have d2 : decide (R < 0) = false:=decide_eq_false hB
     have hRl : R.toNat < T.length:=by omega
     have hRk : R.toNat < k:=by omega
     have hR0 : (0 : Int) ≤ R:=by omega
     have hcr:=hrow.cell R.toNat hRl;obtain ⟨tr,htr⟩ : ∃ x,x = T[R.toNat]:=⟨_,rfl⟩;have hTR : T.getD R.toNat false = tr:=by rw [htr,List.getD_eq_getElem?_getD,List.getElem?_eq_getElem hRl];rfl
     rw [← htr] at hcr;have HTR:=Hd hTR
     clear htr hTR
     cases tr with
     | false =>
      go_wp2_with fail;have hq4:=head_setCell (head_setCell hres (i:=0) (.slice (some ⟨rb,0,none⟩) k k)) (i:=1) (.int .i64 R)
      have ht4:=(turned_one wr w.heap.size 0 (.slice (some ⟨rb,0,none⟩) k k)).trans (turned_one _ w.heap.size 1 (.int .i64 R));have hv:=run_loadVar_row (P:=Tryd.prog) _ w.heap.size 59 59 _ (0,0) _ hq4 Tryd.underlying59 rfl (by rw [info_plan];rfl);refine bodyPost_ret (results_cell_tmp Tryd.results59 rfl hv) rfl ⟨.slice (some ⟨rb,0,none⟩) k k,?_,?_,?_⟩
      ·rw [HOK.out,d1,d2,HTR.out];rfl
      ·rw [← HT.out];exact World.ownsRow.mono (hm.keep fun j h1 h2=>ht4.block j h2 (by omega)) (by omega)
      ·exact hbw.trans (ht4.below (B:=w.heap.size) hbw.size fun j hj=>by omega)
     | true =>
      go_wp2_with fail;refine HPB.out.mono ?_;rintro e w2 ⟨u,rfl,hu,hb2⟩;have hu2:=hu.isB
      obtain ⟨ua,uc,rfl,_,_⟩:=hu2.form;have HE:=Hd (equalB_any w2 _ _ _ _ hu2 ((HV.out.below hbw).below hb2) (by rw [planB_length];omega))
      rw [hb,planB_length] at HE;simp only [planB_length];have hres2:=(hb2.block _ (lt_of_heap hres)).trans hres
      have hpl2:=(hb2.block _ (lt_of_heap hpl)).trans hpl;have hm2:=hm.below hb2;have hbw2:=hbw.trans (hb2.mono hbw.size);clear hres hpl hm hbw hb2 hu hu2 g00 g01 s00 s01 f0 f1;go_wp2_with fail;refine HE.out.mono ?_;rintro e w3 ⟨rfl,hb3⟩;have hres3:=(hb3.block _ (lt_of_heap hres2)).trans hres2;have hpl3:=(hb3.block _ (lt_of_heap hpl2)).trans hpl2;have hm3:=hm2.below hb3;have hbw3:=hbw2.trans (hb3.mono hbw2.size);obtain ⟨t00,t01⟩:=plan_cells hpl3;obtain ⟨u00,u01⟩:=plan_cells hres3;have t0:=frozen_p hres3 0;have t1:=frozen_p hres3 1;clear hres2 hpl2 hm2 hbw2 hb3;go_wp2_with fail;have hq4:=head_setCell (head_setCell hres3 (i:=0) (.slice (some ⟨rb,0,none⟩) k k)) (i:=1) (.int .i64 R);have ht4:=(turned_one w3 w.heap.size 0 (.slice (some ⟨rb,0,none⟩) k k)).trans (turned_one _ w.heap.size 1 (.int .i64 R));have hv:=run_loadVar_row (P:=Tryd.prog) _ w.heap.size 59 59 _ (0,0) _ hq4 Tryd.underlying59 rfl (by rw [info_plan];rfl);refine bodyPost_ret (results_cell_tmp Tryd.results59 rfl hv) rfl ⟨.slice (some ⟨rb,0,none⟩) k k,?_,?_,?_⟩
      ·rw [HOK.out,d1,d2,HTR.out];rfl
      ·rw [← HT.out];exact World.ownsRow.mono (hm3.keep fun j h1 h2=>ht4.block j h2 (by omega)) (by omega)
      ·exact hbw3.trans (ht4.below (B:=w.heap.size) hbw3.size fun j hj=>by omega)
 exact AllReadyH.nil
end
section
open Go.RowKit
theorem run_build_plan (w : World) (a : Option Addr) (n c : Nat) (r : Int) : (Instr.build 59 #[(0,.slice a n c),(1,.int .i64 r)]).run Tryd.prog w = .ok (.agg #[.slice a n c,.int .i64 r]) w:=by kernel_rfl
theorem JAt.pages_le {w : World} {F : Ft} {p : Nat} {J : Jn} (h : JAt w F p J) : J.pages ≤ 1023:=by have:=h.disk.ok.nm;unfold Jn.pages Dk.blocks;omega
set_option maxHeartbeats 8000000 in
theorem pformat_any (w : World) (F : Ft) (p : Nat) (J : Jn) (h : JAt w F p J) (hn : Nib w) (h6 : 6 ≤ J.D.n) (hlast : J.last + 1 < 18446744073709551616) (hsq1 : -9223372036854775808 ≤ J.seq) (hsq2 : J.seq < 9223372036854775807) :
  Calls Tryd.prog 19 #[jptr p] w fun e w'=>e = .returned (.int .i64 J.pformat.1)∧JAt w' F p J.pformat.2∧Turned (JT F p) w w':=by
 have HPO:=Hd (pagesOf_any w F p J h h6);have hpl:=h.pages_le;obtain ⟨n,hN⟩ : ∃ n,n = J.pages:=⟨_,rfl⟩;have HE : Hid (J.pformat = J.write (placesFrom 0 2) (chunks 2 (planB (List.replicate n false) (-1)))):=Hd (by rw [Jn.pformat,hN]);rw [← hN] at HPO hpl;have hmk:=run_makeO n (by omega);have hbp:=fun w a=>run_build_plan w a n n (-1);obtain ⟨W1,hW1⟩ : ∃ W1,W1 = w.alloc (.cells (bov (List.replicate n false)).toArray 4):=⟨_,rfl⟩;have hb1 : Below w.heap.size w W1:=by rw [hW1];exact (Below.refl _ _).alloc (Nat.le_refl _) _
 have hm1 : MineO w.heap.size W1 (.slice (some ⟨w.heap.size,0,none⟩) n n) (List.replicate n false):=by
  have hb : BoR W1 w.heap.size n (List.replicate n false):=by rw [hW1];exact ⟨_,heap_alloc_new w _,by simp,by simp [maxLen];omega,by simp [bov],by simp [bov]⟩
  have:=hb.mine w.heap.size (Nat.le_refl _);rw [List.length_replicate] at this;exact this
 have HPB:=Hd (planB_any W1 w.heap.size _ (List.replicate n false) (-1) hm1 (by simp;omega) (by omega) (by omega));obtain ⟨L1,hL1⟩ : ∃ L,L = planB (List.replicate n false) (-1):=⟨_,rfl⟩;have hlen : L1.length = 224:=by rw [hL1,planB_length]
 rw [← hL1] at HPB HE;have HLN:=Hd hlen
 have HH:=Hd h;have HNB:=Hd hn;have HB1:=Hd hb1;clear h hN hn hb1 hm1 hL1 hlen;go_enter Tryd.func19,Tryd.ntmps19;go_wp2_with (go_at_call 56;refine HPO.out.mono ?_;rintro e w9 ⟨rfl,hw9⟩;rw [← hw9];clear hw9 w9);rw [← hW1];refine HPB.out.mono ?_;rintro e w2 ⟨u,rfl,hu,hb2⟩;obtain ⟨gu,cu,rfl,hgu,hcu,hgl⟩:=hu.slice (by have:=HLN.out;omega);rw [HLN.out] at hcu hu ⊢;have HP1:=Hd (parts_any w2 0 gu cu 2 224 rfl hcu (by omega) (by omega) (by omega));have hb2':=HB1.out.trans (hb2.mono HB1.out.size);have hs2:=hb2'.size;have HU:=Hd hu;clear hu hb2;go_wp2_with fail;refine HP1.out.mono ?_;rintro e w3 ⟨ua,ul,rfl,ha3,hl3,hb3⟩;have hbw:=hb2'.trans (hb3.mono hs2);have h3:=HH.out.below hbw;have hn3:=HNB.out.below hbw;have hnj : ∀ k,JT F p k → ¬ W1.heap.size ≤ k:=fun k e h=>by have:=HH.out.lt e;have:=HB1.out.size;omega
 have hu3:=HU.out.below hb3;have hs12:=HB1.out.size
 have HW:=Hd (jwrite_any w3 F p J h3 hn3 (by omega) ua (placesFrom 0 2) (fun w' ht=>(ha3.keep fun k h1 h2=>ht.block k h2 fun e=>hnj k e (by omega)).isI) ul (chunks 2 L1)
  (fun w' ht=>(hl3.keep fun k h1 h2=>ht.block k h2 fun e=>hnj k e (by omega)).elB (chunks_elB (hu3.keep fun k h1 h2=>ht.block k h2 fun e=>hnj k e (by omega)).isB 2 (by rw [HLN.out];omega)))
  (fun n hn=>by
   obtain ⟨i,hi,rfl⟩:=List.mem_map.1 hn;have:=List.mem_range.1 hi
   omega) hlast hsq1 hsq2)
 obtain ⟨aa,ac,rfl,_,_⟩:=ha3.form;obtain ⟨la,lc,rfl,_,_⟩:=hl3.form;have HT3:=Hd (Turned.of_below (T:=JT F p) hbw)
 clear ha3 hl3 hb3 h3 hn3 hnj hu3 hbw hb2';go_wp2_with fail;refine HW.out.mono ?_;rintro e w4 ⟨rfl,hj4,ht4⟩;have HX:=Hd (And.intro hj4 (HT3.out.trans ht4))
 clear hj4 ht4;go_wp2_with fail;go_ret;rw [HE.out];exact ⟨rfl,HX.out⟩
end
section
open Go.RowKit
theorem run_build_pager (w : World) (p g n c M : Nat) (a2 : Option Addr) (n2 c2 : Nat) (r r2 : Int) : (Instr.build 63 #[(0,jptr p),(1,.agg #[.slice (some ⟨g,0,none⟩) n c,.int .i64 r]),(2,.agg #[.slice a2 n2 c2,.int .i64 r2]),(3,.map (some M))]).run Tryd.prog w =
  .ok (.agg #[jptr p,.slice (some ⟨g,0,none⟩) n c,.int .i64 r,.slice a2 n2 c2,.int .i64 r2,.map (some M),.bool false,.int .i64 0]) w:=by kernel_rfl
theorem Jn.read_len2 {w : World} {F : Ft} {p : Nat} {J : Jn} (h : JAt w F p J) {a : Int} (h0 : (J.read a).2.1 = 0) : (J.read a).1.length = 112:=by
 have hf : ∀ k,k < J.D.n → (fbytes (sec J.D.now k)).length = 112:=fun k hk=>by have:=sec_length h.disk.ok.now hk;simp [fbytes,this]
 unfold Jn.read at h0 ⊢;split at h0
 ·rename_i h1;exact absurd h0 h1
 ·rename_i h1
  rw [if_neg h1];split at h0
  ·cases h0
  ·rename_i h2
   rw [if_neg h2];split at h0
   ·cases h0
   ·rename_i h3
    rw [if_neg h3];split at h0
    ·rename_i h4;rw [if_pos h4];exact hf _ (Dk.home_lt (by omega))
    ·cases h0
theorem Jn.reads_len2 {w : World} {F : Ft} {p : Nat} {J : Jn} (h : JAt w F p J) {a : Int} : ∀ {k : Nat},(J.reads a k).2.1 = 0 → (J.reads a k).1.length = 112 * k
 | 0,_=>rfl
 | k + 1,h0=>by
  have h1 : (J.reads a k).2.1 = 0:=by refine Decidable.byContradiction fun e=>?_;rw [Jn.reads_err e (k + 1) (by omega)] at h0;exact e h0
  have h2 : (J.read (a + k)).2.1 = 0:=by refine Decidable.byContradiction fun e=>?_;rw [Jn.reads_stop h1 e] at h0;exact e h0
  have ih:=Jn.reads_len2 h h1;have h3:=Jn.read_len2 h h2;rw [Jn.reads_next h1 h2,List.length_append,ih,h3];omega
def POpenEnd (w : World) (F : Ft) (p : Nat) (J : Jn) (e : Ending) (w' : World) : Prop :=
 (∀ c J',J.popen = (c,J',none) → e = .returned (.tuple #[.pointer none,.int .i64 c])∧JAt w' F p J') ∧
 (∀ c J' P,J.popen = (c,J',some P) → ∃ f,e = .returned (.tuple #[qptr f.q,.int .i64 c])∧PgAt w' F p f P∧(∀ k,PT f k → w.heap.size ≤ k))∧Turned (JT F p) w w'
theorem POpenEnd.bad {w : World} {F : Ft} {p : Nat} {J J' : Jn} {c : Int} {w' : World} (h : J.popen = (c,J',none)) (hj : JAt w' F p J') (ht : Turned (JT F p) w w') : POpenEnd w F p J (.returned (.tuple #[.pointer none,.int .i64 c])) w' :=
 ⟨fun c2 J2 e=>by rw [h] at e;cases e;exact ⟨rfl,hj⟩,fun c2 J2 P e=>(by rw [h] at e;cases e),ht⟩
theorem POpenEnd.good {w : World} {F : Ft} {p : Nat} {J J' : Jn} {P : Pg} {f : Pf} {c : Int} {w' : World} (h : J.popen = (c,J',some P)) (hp : PgAt w' F p f P) (hf : ∀ k,PT f k → w.heap.size ≤ k) (ht : Turned (JT F p) w w') : POpenEnd w F p J (.returned (.tuple #[qptr f.q,.int .i64 c])) w' :=
 ⟨fun c2 J2 e=>(by rw [h] at e;cases e),fun c2 J2 P e=>(by rw [h] at e;cases e;exact ⟨f,rfl,hp,hf⟩),ht⟩
theorem PgAt.opened {w W : World} {F : Ft} {p : Nat} {f : Pf} {P : Pg} (hj : JAt w F p P.J) (hn : Nib w) (hb : Below w.heap.size w W) (hkv : f.kv = []) (hown : P.own = []) (hco : P.off = P.off) (head : W.heap[f.q]? = some (pgRow p f P)) (now : BoR W f.gn f.cn P.now) (was : BoR W f.gw f.cw P.was) (tab : OTab W f.M []) (ok : Pok P)
  (h1 : w.heap.size ≤ f.q) (h2 : w.heap.size ≤ f.gn) (h3 : w.heap.size ≤ f.gw) (h4 : w.heap.size ≤ f.M) (sep : f.gn ≠ f.gw) : PgAt W F p f P∧∀ k,PT f k → w.heap.size ≤ k:=by
 have hPT : ∀ k,PT f k → w.heap.size ≤ k∧k < W.heap.size:=by
  rintro k (e | e | e | e | ⟨x,hx,_⟩)
  ·rw [e];exact ⟨h1,lt_of_heap head⟩
  ·rw [e];exact ⟨h2,now.lt⟩
  ·rw [e];exact ⟨h3,was.lt⟩
  ·rw [e];exact ⟨h4,tab.lt⟩
  ·rw [hkv] at hx;cases hx
 refine ⟨⟨hj.below hb,hn.below hb,head,now,was,by rw [hkv];exact tab,by rw [hkv,hown];trivial,ok,fun k hk=>?_,sep⟩,fun k hk=>(hPT k hk).1⟩;have:=hPT k hk
 refine ⟨fun e=>?_,fun e=>?_,this.2⟩
 ·have:=hj.lt e;omega
 ·have:=nib_lt hn;omega
theorem planOk_spec {b : List UInt8} {n : Nat} (h : planOk b n = true) : rootOf b < (n : Int):=by simp only [planOk,Bool.and_eq_true,decide_eq_true_eq] at h;exact h.1.1
theorem rootOf_ge (b : List UInt8) : -1 ≤ rootOf b:=by unfold rootOf;omega
set_option maxHeartbeats 16000000 in
theorem popen_any (w : World) (F : Ft) (p : Nat) (J : Jn) (h : JAt w F p J) (hn : Nib w) (h22 : 22 ≤ J.D.n) : Calls Tryd.prog 20 #[jptr p] w (POpenEnd w F p J):=by
 have HE:=Hd (show J.popen = if (J.reads 0 2).2.1 ≠ 0 then ((J.reads 0 2).2.1,(J.reads 0 2).2.2,none) else if planOk (J.reads 0 2).1 (J.reads 0 2).2.2.pages = false then (82,(J.reads 0 2).2.2,none)
  else (0,(J.reads 0 2).2.2,some ⟨(J.reads 0 2).2.2,takenOf (J.reads 0 2).1 (J.reads 0 2).2.2.pages,rootOf (J.reads 0 2).1,takenOf (J.reads 0 2).1 (J.reads 0 2).2.2.pages,rootOf (J.reads 0 2).1,[],false,0⟩) from rfl)
 have HH:=Hd h;have HN:=Hd hn;clear h hn;go_enter Tryd.func20,Tryd.ntmps20;go_wp2_with fail;go_loopw [4,12] (fun b x wr=>∃ k : Nat,k ≤ 2∧x = .int .i64 (k : Int)∧(J.reads 0 k).2.1 = 0∧Mine 5 w.heap.size wr b (J.reads 0 k).1∧JAt wr F p J∧Nib wr∧Turned (JT F p) w wr) (fun _ x _=>2 - (intOf x).toNat)
 case atStart=>exact ⟨0,Nat.zero_le _,rfl,rfl,Mine.nil _ _ _,HH.out,HN.out,Turned.refl _ _⟩
 case round =>
  obtain ⟨k,hk,rfl,hok,hm,hj,hnb,ht⟩:=hrel;obtain ⟨a,c,rfl,_,_⟩:=hm.isB.form;have hsz:=ht.size
  by_cases hlt : k < 2
  ·have hd : decide ((k : Int) < 2) = true:=decide_eq_true (by omega)
   have HJ:=Hd (jread_any wr F p J hj hnb (by omega) (k : Int) (by omega) (by omega));have HM:=Hd hm;have HT:=Hd ht;have HNB:=Hd hnb;have HJJ:=Hd hj;have HOK:=Hd hok;have hlen:=Jn.reads_len J 0 k;clear hj hnb ht hm hok;go_wp2_with fail;refine HJ.out.mono ?_;rintro e w4 ⟨v,rfl,hv,hj4,ht4⟩;have hm4:=HM.out.keep (w':=w4) fun k h1 h2=>ht4.block k h2 fun e=>by have:=HH.out.lt e;omega
   obtain ⟨va,vc,rfl,_,_⟩:=hv.now.form;have hlen2:=Jn.read_len J (k : Int)
   have hk0 : (0 : Int) + (k : Int) = (k : Int):=by omega
   by_cases hz : (J.read (k : Int)).2.1 = 0
   ·have hd2 : ((J.read (k : Int)).2.1 != 0) = false:=by simpa using hz
    have HN2:=Hd (Jn.reads_next HOK.out (by rw [hk0];exact hz));rw [hk0] at HN2;have HJ4 : Hid (JAt w4 F p J):=Hd (by rw [Jn.read_ok hz] at hj4;exact hj4);have HNB4:=Hd (HNB.out.turned HJJ.out ht4);have HT4:=Hd (HT.out.trans ht4);have HB:=Hd hv.now;have HM4:=Hd hm4;clear hj4 ht4 hv hm4 hz hk0;generalize (J.read (k : Int)) = R at *;generalize (J.reads 0 k) = L at *;have hsz4:=HT4.out.size;go_wp2_with (at_builtin;refine wpList_bytes rfl (.tmp 24) (.tmp 25) 32 rfl w.heap.size 5 info_byte Tryd.underlying32 _ L.1 rfl HM4.out _ R.1 rfl HB.out (by omega) hsz4 ?_);intro v' w6 hm6 _ hb6 _ _;obtain ⟨a6,c6,rfl,_,_⟩:=hm6.isB.form;have HM6:=Hd hm6;clear hm6;go_wp2_with fail;go_roundw
    case rel=>exact ⟨k + 1,by omega,by go_num,by rw [HN2.out],by rw [HN2.out];exact HM6.out,HJ4.out.keep fun k hk=>hb6.block k (HH.out.lt hk),HNB4.out.of_turned (T:=fun k=>¬ k < w.heap.size) ⟨hb6.os,hb6.tape,hb6.output,hb6.size,fun k _ hn=>hb6.block k (Decidable.not_not.1 hn)⟩ (fun e=>e (nib_lt HN.out)),HT4.out.on hb6⟩
    case measure=>simp [intOf];omega
   ·have hd2 : ((J.read (k : Int)).2.1 != 0) = true:=by simpa using hz
    have HN2:=Hd (Jn.reads_stop HOK.out (by rw [hk0];exact hz));rw [hk0] at HN2
    have HX : Hid (J.popen = ((J.read (k : Int)).2.1,(J.read (k : Int)).2.2,none)):=Hd (by
     have h8:=Jn.reads_err (J:=J) (a:=0) (k:=k + 1) (by rw [HN2.out];exact hz) 2 (by omega)
     rw [HE.out,h8,HN2.out,if_pos hz])
    have HT4:=Hd (HT.out.trans ht4);have HJ4:=Hd hj4;clear hj4 ht4 hv hm4 hz hk0;generalize (J.read (k : Int)) = R at *;go_wp2_with fail;go_ret2;exact POpenEnd.bad HX.out HJ4.out HT4.out
  ·obtain rfl : k = 2:=by omega
   have hl:=Jn.reads_len2 hj hok;have hpl:=hj.pages_le;have hpn : 0 < J.pages:=by unfold Jn.pages Dk.blocks;omega
   obtain ⟨n,hN⟩ : ∃ n,n = J.pages:=⟨_,rfl⟩;obtain ⟨L,hL⟩ : ∃ L,L = (J.reads 0 2).1:=⟨_,rfl⟩;have HX1 : Hid (planOk L n = false → J.popen = (82,J,none)):=Hd fun e=>by rw [HE.out,if_neg (by simp [hok]),Jn.reads_ok hok,← hL,← hN,if_pos e]
   have HX2 : Hid (planOk L n = true → J.popen = (0,J,some ⟨J,takenOf L n,rootOf L,takenOf L n,rootOf L,[],false,0⟩)):=Hd fun e=>by rw [HE.out,if_neg (by simp [hok]),Jn.reads_ok hok,← hL,← hN,if_neg (by simp [e])]
   have HPO:=Hd (pagesOf_any wr F p J hj (by omega));rw [← hL] at hm hl ⊢;rw [← hN] at HPO hpl hpn;have hl2 : L.length = 224:=hl;have HPD:=Hd (planned_any wr _ L n hm.isB hl2 hpl);have HNE:=Hd hN;have HJ:=Hd hj;have HNB:=Hd hnb;have HT:=Hd ht;rw [hok] at *;clear hj hnb ht hm hl hl2 hok hN hL;go_wp2_with (first | (go_at_call 56;refine HPO.out.mono ?_;rintro e w9 ⟨rfl,hw9⟩;rw [← hw9];clear hw9 w9));refine HPD.out.mono ?_;rintro e w5 ⟨u,rfl,hu,hb5⟩;have htl:=takenOf_length L n;obtain ⟨g,c2,rfl,hg,hbo⟩:=hu.boR (by rw [htl];exact hpn);rw [htl] at *;have HBO:=Hd hbo;have HB5:=Hd hb5;have HTL:=Hd htl;obtain ⟨R,hR⟩ : ∃ R,R = rootOf L:=⟨_,rfl⟩;rw [← hR];have HR:=Hd hR;clear hu hbo hb5 htl hR
   cases hpo : planOk L n with
   | false =>
    have HX:=Hd (HX1.out hpo);go_wp2_with fail;go_ret2;have hb6 : Below wr.heap.size wr (w5.alloc (.cells #[.slice (some ⟨g,0,none⟩) n c2,.int .i64 R] 59)):=HB5.out.trans ((Below.refl _ _).alloc HB5.out.size _);exact POpenEnd.bad HX.out (HJ.out.below hb6) (HT.out.trans (Turned.of_below hb6))
   | true =>
    have HX:=Hd (HX2.out hpo);have HSP:=Hd (planOk_spec hpo);clear hpo;have hmm:=fun w=>run_makeMap (P:=Tryd.prog) 61 w;have hbu:=fun w g' c' M=>run_build_pager w p g' n c' M (some ⟨g,0,none⟩) n c2 R R;obtain ⟨W5,hW5⟩ : ∃ W5,W5 = w5.alloc (.cells #[.slice (some ⟨g,0,none⟩) n c2,.int .i64 R] 59):=⟨_,rfl⟩;have hpl5 : W5.heap[w5.heap.size]? = some (planRow (.slice (some ⟨g,0,none⟩) n c2) R):=by rw [hW5];exact heap_alloc_new w5 _
    have hb55 : Below w5.heap.size w5 W5:=by rw [hW5];exact (Below.refl _ _).alloc (Nat.le_refl _) _
    have HCL : Hid (∀ W,Below W5.heap.size W5 W → Calls Tryd.prog 60 #[.agg #[.slice (some ⟨g,0,none⟩) n c2,.int .i64 R]] W fun e w'=>∃ u,e = .returned (.agg #[u,.int .i64 R])∧MineO W.heap.size w' u (takenOf L n)∧Below W.heap.size W w'):=Hd fun W hW=>by have hb:=(HBO.out.keep (hb55.block _ HBO.out.lt)).keep (hW.block _ (Nat.lt_of_lt_of_le HBO.out.lt hb55.size));have:=hb.mine 0 (Nat.zero_le _);rw [takenOf_length] at this;exact pclone_any W 0 _ (takenOf L n) R this (by rw [takenOf_length];omega)
    have HB55:=Hd hb55;have HW5:=Hd hW5;clear hb55 hW5;go_upto_region 15 with fail;rw [← HW5.out];clear HW5;have hS0 : (fun W : World=>W.heap[w5.heap.size]? = some (planRow (.slice (some ⟨g,0,none⟩) n c2) R)) W5.drew:=hpl5;have hbW:=(Below.refl W5.heap.size W5).drew;refine rgA (S:=(fun W : World=>W.heap[w5.heap.size]? = some (planRow (.slice (some ⟨g,0,none⟩) n c2) R))) hS0 (fun hH=>?_);generalize W5.drew = W5d at *;refine tkB 0 rfl (v:=?_) ?_ hH ?_;rotate_left
    ·intro w hSw;have hpc:=plan_cells hSw;obtain ⟨q0,q1⟩:=hpc;go_simp;try with_reducible rfl
    try simp only [Act.put,zA,zB,zC]
    refine tkB 1 rfl (v:=?_) ?_ hH ?_;rotate_left
    ·intro w hSw;have hpc:=plan_cells hSw;obtain ⟨q0,q1⟩:=hpc;go_simp;try with_reducible rfl
    try simp only [Act.put,zA,zB,zC]
    refine tkB 3 rfl (v:=?_) ?_ hH ?_;rotate_left
    ·intro w hSw;have hpc:=plan_cells hSw;obtain ⟨q0,q1⟩:=hpc;go_simp;try with_reducible rfl
    try simp only [Act.put,zA,zB,zC]
    refine wpAnyH_ready (rs:=[2,4]) (by kernel_rfl) (by simp) ?_;refine ready_at rfl (fun K hK=>?_) ?_
    ·go_simp
     refine (HCL.out W5d hbW).mono ?_;rintro e W3 ⟨u3,rfl,hm3,hb3⟩;obtain ⟨g3,c3,rfl,hg3,hbo3⟩:=hm3.boR (by rw [takenOf_length];exact hpn);rw [takenOf_length];have hHn:=(hb3.block _ (lt_of_heap hH)).trans hH
     have hs3:=hbW.size;replace hbW:=hbW.trans (hb3.mono hbW.size);clear hH hm3 hb3;go_wp2_with fail;refine hK.out _ _ hHn (fun hH=>?_);clear hHn;clear hK K;try simp only [Act.put,zA,zB,zC]
     refine rdA 4 rfl (fun K hK=>?_);go_simp;have hb4 : Below W3.heap.size W3 (W3.alloc (.map #[] 0)):=(Below.refl _ _).alloc (Nat.le_refl _) _
     have htab:=OTab.made W3;have hs4 : W3.heap.size < (W3.alloc (.map #[] 0)).heap.size:=by simp
     have hHn:=(hb4.block _ (lt_of_heap hH)).trans hH;have hs5:=hbW.size;replace hbW:=hbW.trans (hb4.mono hbW.size);have hg3n : g3 < W3.heap.size:=hbo3.lt;replace hbo3:=hbo3.keep (hb4.block _ hbo3.lt);clear hH hb4;go_wp2_with fail;generalize W3.alloc (.map #[] 0) = W4 at *;generalize hM4 : W3.heap.size = M4 at *;refine hK.out _ _ hHn (fun hH=>?_);clear hHn;clear hK K;try simp only [Act.put,zA,zB,zC]
     refine tkB 5 rfl (v:=?_) ?_ hH ?_;rotate_left
     ·intro w hSw;have hpc:=plan_cells hSw;obtain ⟨q0,q1⟩:=hpc;go_simp;try with_reducible rfl
     try simp only [Act.put,zA,zB,zC]
     refine rdA 6 rfl (fun K hK=>?_);go_simp;have hb6 : Below W4.heap.size W4 (W4.alloc (.cells #[jptr p,.slice (some ⟨g3,0,none⟩) n c3,.int .i64 R,.slice (some ⟨g,0,none⟩) n c2,.int .i64 R,.map (some M4),.bool false,.int .i64 0] 63)):=(Below.refl _ _).alloc (Nat.le_refl _) _
     have hq6:=heap_alloc_new W4 (.cells #[jptr p,.slice (some ⟨g3,0,none⟩) n c3,.int .i64 R,.slice (some ⟨g,0,none⟩) n c2,.int .i64 R,.map (some M4),.bool false,.int .i64 0] 63);have hs6 : W4.heap.size < (W4.alloc (.cells #[jptr p,.slice (some ⟨g3,0,none⟩) n c3,.int .i64 R,.slice (some ⟨g,0,none⟩) n c2,.int .i64 R,.map (some M4),.bool false,.int .i64 0] 63)).heap.size:=by simp
     have hHn:=(hb6.block _ (lt_of_heap hH)).trans hH;have hlM : M4 < W4.heap.size:=htab.lt;have hl3 : g3 < W4.heap.size:=hbo3.lt;have hs7:=hbW.size;replace htab:=htab.keep (hb6.block _ htab.lt);replace hbo3:=hbo3.keep (hb6.block _ hbo3.lt);replace hbW:=hbW.trans (hb6.mono hbW.size);have hne3 : g3 ≠ M4:=by omega
     clear hH hb6;go_wp2_with fail;generalize W4.alloc (.cells #[jptr p,.slice (some ⟨g3,0,none⟩) n c3,.int .i64 R,.slice (some ⟨g,0,none⟩) n c2,.int .i64 R,.map (some M4),.bool false,.int .i64 0] 63) = W6 at *;generalize hq : W4.heap.size = q at *;refine hK.out _ _ hHn (fun hH=>?_);clear hHn;clear hK K;try simp only [Act.put,zA,zB,zC]
     refine tkB 7 rfl (v:=?_) ?_ hH ?_;rotate_left
     ·intro w hSw;have hpc:=plan_cells hSw;obtain ⟨q0,q1⟩:=hpc;go_simp;try with_reducible rfl
     try simp only [Act.put,zA,zB,zC]
     refine tkB 8 rfl (v:=?_) ?_ hH ?_;rotate_left
     ·intro w hSw;have hpc:=plan_cells hSw;obtain ⟨q0,q1⟩:=hpc;go_simp;try with_reducible rfl
     try simp only [Act.put,zA,zB,zC]
     refine dnA ?_;clear hH;have hgl:=HBO.out.lt
     have hw1:=HB5.out.size;have hw2:=HB55.out.size;have hbo5:=(HBO.out.keep (HB55.out.block _ hgl)).keep (hbW.block _ (by omega));have hbb:=HB5.out.trans ((HB55.out.trans (hbW.mono hw2)).mono hw1);have HPA:=Hd (PgAt.opened (f:=⟨q,g3,c3,g,c2,M4,[]⟩) (P:=⟨J,takenOf L n,rootOf L,takenOf L n,rootOf L,[],false,0⟩) HJ.out HNB.out hbb rfl rfl rfl (by simp only [pgRow,takenOf_length,← HR.out];exact hq6) hbo3 hbo5 htab ⟨by simp only [takenOf_length];exact hpn,by simp only [takenOf_length];exact hpl,rfl,rootOf_ge L,by simp only [takenOf_length];exact HSP.out,rootOf_ge L,by simp only [takenOf_length];exact HSP.out,fun x hx=>(by cases hx),by simp only [takenOf_length];exact HNE.out⟩ (by dsimp only;omega) (by dsimp only;omega) (by dsimp only;omega) (by dsimp only;omega) (by dsimp only;omega));have HT6:=Hd (HT.out.trans (Turned.of_below hbb));clear hbo3 hbo5 htab hbW hbb hq6;go_wp2_with fail;go_ret2;exact POpenEnd.good HX.out HPA.out.1 (fun k hk=>Nat.le_trans hsz (HPA.out.2 k hk)) HT6.out
    refine ready_at rfl (fun K hK=>?_) ?_
    ·go_simp
     have hb4 : Below W5d.heap.size W5d (W5d.alloc (.map #[] 0)):=(Below.refl _ _).alloc (Nat.le_refl _) _;have htab:=OTab.made W5d;have hs4 : W5d.heap.size < (W5d.alloc (.map #[] 0)).heap.size:=by simp
     have hHn:=(hb4.block _ (lt_of_heap hH)).trans hH;have hs5:=hbW.size;replace hbW:=hbW.trans (hb4.mono hbW.size);clear hH hb4;go_wp2_with fail;generalize W5d.alloc (.map #[] 0) = W4 at *;generalize hM4 : W5d.heap.size = M4 at *;refine hK.out _ _ hHn (fun hH=>?_);clear hHn;clear hK K;try simp only [Act.put,zA,zB,zC]
     refine rdA 2 rfl (fun K hK=>?_);go_simp;refine (HCL.out W4 hbW).mono ?_;rintro e W3 ⟨u3,rfl,hm3,hb3⟩;obtain ⟨g3,c3,rfl,hg3,hbo3⟩:=hm3.boR (by rw [takenOf_length];exact hpn);rw [takenOf_length];have hHn:=(hb3.block _ (lt_of_heap hH)).trans hH
     have hs3:=hbW.size;replace hbW:=hbW.trans (hb3.mono hbW.size);replace htab:=htab.keep (hb3.block _ htab.lt);have hg3n : g3 ≠ M4:=by omega
     have hM4n:=hM4;clear hH hm3 hb3;go_wp2_with fail;refine hK.out _ _ hHn (fun hH=>?_);clear hHn;clear hK K;try simp only [Act.put,zA,zB,zC]
     refine tkB 5 rfl (v:=?_) ?_ hH ?_;rotate_left
     ·intro w hSw;have hpc:=plan_cells hSw;obtain ⟨q0,q1⟩:=hpc;go_simp;try with_reducible rfl
     try simp only [Act.put,zA,zB,zC]
     refine rdA 6 rfl (fun K hK=>?_);go_simp;have hb6 : Below W3.heap.size W3 (W3.alloc (.cells #[jptr p,.slice (some ⟨g3,0,none⟩) n c3,.int .i64 R,.slice (some ⟨g,0,none⟩) n c2,.int .i64 R,.map (some M4),.bool false,.int .i64 0] 63)):=(Below.refl _ _).alloc (Nat.le_refl _) _
     have hq6:=heap_alloc_new W3 (.cells #[jptr p,.slice (some ⟨g3,0,none⟩) n c3,.int .i64 R,.slice (some ⟨g,0,none⟩) n c2,.int .i64 R,.map (some M4),.bool false,.int .i64 0] 63);have hs6 : W3.heap.size < (W3.alloc (.cells #[jptr p,.slice (some ⟨g3,0,none⟩) n c3,.int .i64 R,.slice (some ⟨g,0,none⟩) n c2,.int .i64 R,.map (some M4),.bool false,.int .i64 0] 63)).heap.size:=by simp
     have hHn:=(hb6.block _ (lt_of_heap hH)).trans hH;have hlM : M4 < W3.heap.size:=htab.lt;have hl3 : g3 < W3.heap.size:=hbo3.lt;have hs7:=hbW.size;replace htab:=htab.keep (hb6.block _ htab.lt);replace hbo3:=hbo3.keep (hb6.block _ hbo3.lt);replace hbW:=hbW.trans (hb6.mono hbW.size);have hne3 : g3 ≠ M4:=by omega
     clear hH hb6;go_wp2_with fail;generalize W3.alloc (.cells #[jptr p,.slice (some ⟨g3,0,none⟩) n c3,.int .i64 R,.slice (some ⟨g,0,none⟩) n c2,.int .i64 R,.map (some M4),.bool false,.int .i64 0] 63) = W6 at *;generalize hq : W3.heap.size = q at *;refine hK.out _ _ hHn (fun hH=>?_);clear hHn;clear hK K;try simp only [Act.put,zA,zB,zC]
     refine tkB 7 rfl (v:=?_) ?_ hH ?_;rotate_left
     ·intro w hSw;have hpc:=plan_cells hSw;obtain ⟨q0,q1⟩:=hpc;go_simp;try with_reducible rfl
     try simp only [Act.put,zA,zB,zC]
     refine tkB 8 rfl (v:=?_) ?_ hH ?_;rotate_left
     ·intro w hSw;have hpc:=plan_cells hSw;obtain ⟨q0,q1⟩:=hpc;go_simp;try with_reducible rfl
     try simp only [Act.put,zA,zB,zC]
     refine dnA ?_;clear hH;have hgl:=HBO.out.lt
     have hw1:=HB5.out.size;have hw2:=HB55.out.size;have hbo5:=(HBO.out.keep (HB55.out.block _ hgl)).keep (hbW.block _ (by omega));have hbb:=HB5.out.trans ((HB55.out.trans (hbW.mono hw2)).mono hw1);have HPA:=Hd (PgAt.opened (f:=⟨q,g3,c3,g,c2,M4,[]⟩) (P:=⟨J,takenOf L n,rootOf L,takenOf L n,rootOf L,[],false,0⟩) HJ.out HNB.out hbb rfl rfl rfl (by simp only [pgRow,takenOf_length,← HR.out];exact hq6) hbo3 hbo5 htab ⟨by simp only [takenOf_length];exact hpn,by simp only [takenOf_length];exact hpl,rfl,rootOf_ge L,by simp only [takenOf_length];exact HSP.out,rootOf_ge L,by simp only [takenOf_length];exact HSP.out,fun x hx=>(by cases hx),by simp only [takenOf_length];exact HNE.out⟩ (by dsimp only;omega) (by dsimp only;omega) (by dsimp only;omega) (by dsimp only;omega) (by dsimp only;omega));have HT6:=Hd (HT.out.trans (Turned.of_below hbb));clear hbo3 hbo5 htab hbW hbb hq6;go_wp2_with fail;go_ret2;exact POpenEnd.good HX.out HPA.out.1 (fun k hk=>Nat.le_trans hsz (HPA.out.2 k hk)) HT6.out
    exact AllReadyH.nil
end
section
open Go.RowKit
structure Fresh (n : Nat) (J J' : Jn) (P : Pg) (seq : Int) (B : List (List UInt8)) : Prop where
 fmt : J.pformat = (0,J')
 opn : J'.popen = (0,J',some P)
 pj : P.J = J'
 sim : Sim n P (Rp.begun ((n - 2) / 2)) seq B
 last : J'.last ≤ J.last + 1
 cut : J'.D.cut = J.D.cut
 ops : J'.D.ops ≤ J.D.ops + 8
theorem pformat_live {n : Nat} {J : Jn} {seq : Int} {B : List (List UInt8)} (h : Live n J seq B AllOk) (h1 : 22 ≤ n) (h2 : n ≤ 16384) (hcut : J.D.cut < 0) (ht : J.last + 1 < 4611686018427387904) (hb : J.D.ops + 8 ≤ 1048576) : ∃ J' P B',Fresh n J J' P (seq + 1) B':=by
 have hpg : J.pages = ((n - 2) / 2 - 2) / 8:=by rw [Jn.pages,Dk.blocks,h.hn]
 obtain ⟨m,hm⟩ : ∃ m,m = ((n - 2) / 2 - 2) / 8:=⟨_,rfl⟩;rw [← hm] at hpg
 have hr : rightW ((n - 2) / 2) (placesFrom 0 2) (chunks 2 (planB (List.replicate m false) (-1))) = true:=by
  rw [rightW,rightGo_of8 _ _ [] (fun z hz=>?_) (placesFrom_nodup _ _) (fun _ _ h=>by cases h) (chunks_bytes (by rw [planB_length])),placesFrom_length,chunks_length]
  ·simp
  ·obtain ⟨i,hi,rfl⟩:=List.mem_map.1 hz;have:=List.mem_range.1 hi;omega
 have hw:=write_ok h hcut hr ht (by rw [placesFrom_length];omega);have hl:=hw.live;rw [if_neg (by rw [placesFrom_length];omega)] at hl;have hrow:=(live_rows h).1;have hpl : blocksAt (updB B (placesFrom 0 2) (chunks 2 (planB (List.replicate m false) (-1)))) 0 2 = planB (List.replicate m false) (-1):=by have e0 : (0 : Int) = ((0 : Nat) : Int):=rfl;rw [e0];exact blocksAt_run (by omega) (by rw [planB_length])
 have e : J.pformat = (0,(J.write (placesFrom 0 2) (chunks 2 (planB (List.replicate m false) (-1)))).2):=by rw [Jn.pformat,hpg];exact Prod.ext hw.err rfl
 have hops:=hw.ops;have hlast:=hw.last;have hcut2:=hw.cut;rw [placesFrom_length] at hops;generalize (J.write (placesFrom 0 2) (chunks 2 (planB (List.replicate m false) (-1)))).2 = J' at *;generalize updB B (placesFrom 0 2) (chunks 2 (planB (List.replicate m false) (-1))) = B' at *;have hmap : (List.replicate m false) = (List.replicate m (none : Option (List UInt8))).map (·.isSome):=by simp
 have hbe : Rp.begun ((n - 2) / 2) = ⟨List.replicate m none,-1,List.replicate m none,-1,false⟩:=by rw [Rp.begun,hm]
 have hro : RootOk (List.replicate m false) (-1):=⟨Int.le_refl _,by omega,.inl (by omega)⟩
 have hs0 : Sim n ⟨J',List.replicate m false,-1,List.replicate m false,-1,[],false,0⟩ (Rp.begun ((n - 2) / 2)) (seq + 1) B':=by
  rw [hbe]
  have hno : ∀ (k : Nat) (b : List UInt8),(List.replicate m (none : Option (List UInt8)))[k]? ≠ some (some b):=fun k b e=>by
   rw [List.getElem?_replicate] at e
   split at e <;> simp at e
  exact ⟨hl,rfl,hmap,hmap,rfl,rfl,by simp [hm],rfl,hpl,hro,hro,fun k b hk=>absurd hk (hno k b),fun k b hk=>absurd hk (hno k b),fun k b hk=>(by cases hk),List.nodup_nil,fun _=>⟨rfl,rfl,rfl⟩⟩
 have hlen : (Rp.begun ((n - 2) / 2)).pages.length ≤ 1023:=by rw [hbe];simp only [List.length_replicate];omega
 obtain ⟨P,p1,p2,p3⟩:=hs0.popen hlen (by omega);have hab : (Rp.begun ((n - 2) / 2)).abort = Rp.begun ((n - 2) / 2):=by rw [hbe];rfl
 rw [hab] at p3;exact ⟨J',P,B',e,p1,p2,p3,hlast,hcut2,by omega⟩
end
section
structure En where
 key : List UInt8
 val : List UInt8
 kid : Int
structure Nd where
 leaf : Bool
 l : List En
def En.size (leaf : Bool) (i : Nat) (e : En) : Nat:=if leaf then 2 + e.key.length + e.val.length else if i = 0 then 2 else 3 + e.key.length
def sumFrom (leaf : Bool) : Nat → List En → Nat
 | _,[]=>0
 | i,e :: r=>e.size leaf i + sumFrom leaf (i + 1) r
def Nd.sum (n : Nd) : Nat:=sumFrom n.leaf 0 n.l
def lowB (n : Int) : UInt8:=UInt8.ofNat (n % 256).toNat
def En.bytes (leaf : Bool) (i : Nat) (e : En) : List UInt8:=(if leaf || decide (0 < i) then UInt8.ofNat e.key.length :: e.key else []) ++ if leaf then UInt8.ofNat e.val.length :: e.val else [lowB e.kid,lowB (e.kid / 256)]
def bytesFrom (leaf : Bool) : Nat → List En → List UInt8
 | _,[]=>[]
 | i,e :: r=>e.bytes leaf i ++ bytesFrom leaf (i + 1) r
def Nd.head (n : Nd) : List UInt8:=[if n.leaf then 1 else 2,UInt8.ofNat n.l.length,UInt8.ofNat (n.l.length / 256)]
def Nd.bytes (n : Nd) : List UInt8:=(n.head ++ bytesFrom n.leaf 0 n.l ++ List.replicate 896 0).take 896
def textB (b : List UInt8) (at_ most : Nat) : Option (List UInt8 × Nat) :=
 if b.length ≤ at_ then none else if most < (b.getD at_ 0).toNat then none else if b.length < at_ + 1 + (b.getD at_ 0).toNat then none else some ((b.drop (at_ + 1)).take (b.getD at_ 0).toNat,at_ + 1 + (b.getD at_ 0).toNat)
def readK (leaf : Bool) (b : List UInt8) (i at_ : Nat) : Option (List UInt8 × Nat):=if leaf || decide (0 < i) then textB b at_ 80 else some ([],at_)
def readV (leaf : Bool) (b : List UInt8) (key : List UInt8) (at_ : Nat) : Option (En × Nat) :=
 if leaf then (textB b at_ 200).map fun x=>(⟨key,x.1,0⟩,x.2) else if b.length < at_ + 2 then none else some (⟨key,[],((b.getD at_ 0).toNat : Int) + ((b.getD (at_ + 1) 0).toNat : Int) * 256⟩,at_ + 2)
def readE (leaf : Bool) (b : List UInt8) (i at_ : Nat) : Option (En × Nat):=(readK leaf b i at_).bind fun x=>readV leaf b x.1 x.2
def fitsE (leaf : Bool) (l : List En) (e : En) : Bool:=match l.getLast? with
 | none=>true
 | some x=>!(leaf || decide (1 < l.length)) || decide (x.key < e.key)
def readGo (leaf : Bool) (b : List UInt8) : Nat → Nat → List En → Option (List En)
 | 0,_,l=>some l
 | k + 1,at_,l=>match readE leaf b l.length at_ with
  | none=>none
  | some (e,a)=>if fitsE leaf l e then readGo leaf b k a (l ++ [e]) else none
def readM (b : List UInt8) : Nat:=(b.getD 1 0).toNat + (b.getD 2 0).toNat * 256
def readN (b : List UInt8) : Option Nd :=
 if (b.getD 0 0 ≠ 1∧b.getD 0 0 ≠ 2) ∨ readM b = 0 then none else (readGo (b.getD 0 0 == 1) b (readM b) 3 []).map (Nd.mk (b.getD 0 0 == 1))
def Rp.load (R : Rp) (page : Int) : Option Nd × Int:=if (R.read page).2 ≠ 0 then (none,(R.read page).2) else match readN (R.read page).1 with
 | none=>(none,103)
 | some n=>(some n,0)
def Srt (n : Nd) : Prop:=if n.leaf then (n.l.map (·.key)).Pairwise (· < ·) else (n.l.tail.map (·.key)).Pairwise (· < ·)
def Nd.behind (n : Nd) (key : List UInt8) : Nat × Bool :=
 if n.leaf then ((n.l.takeWhile fun e=>decide (e.key < key)).length,decide (((n.l.dropWhile fun e=>decide (e.key < key)).head?).map (·.key) = some key))
 else ((n.l.tail.takeWhile fun e=>!decide (key < e.key)).length,true)
end
section
theorem En.bytes_length (leaf : Bool) (i : Nat) (e : En) : (e.bytes leaf i).length = e.size leaf i:=by
 unfold En.bytes En.size
 cases leaf with
 | true=>simp;omega
 | false =>
  by_cases h : i = 0
  ·subst h;simp
  ·have : 0 < i:=by omega
   simp [h,this];omega
theorem bytesFrom_length (leaf : Bool) : ∀ (i : Nat) (l : List En),(bytesFrom leaf i l).length = sumFrom leaf i l
 | _,[]=>rfl
 | i,e :: r=>by rw [bytesFrom,sumFrom,List.length_append,En.bytes_length,bytesFrom_length leaf (i + 1) r]
theorem getD_mid {pre post : List UInt8} {x : UInt8} : (pre ++ x :: post).getD pre.length 0 = x:=by simp [List.getD_eq_getElem?_getD]
theorem textB_at (pre k post : List UInt8) (most : Nat) (h : k.length ≤ most) (h2 : most ≤ 255) : textB (pre ++ (UInt8.ofNat k.length :: k) ++ post) pre.length most = some (k,pre.length + 1 + k.length):=by
 have e1 : (pre ++ (UInt8.ofNat k.length :: k) ++ post).getD pre.length 0 = UInt8.ofNat k.length:=by rw [List.append_assoc];exact getD_mid
 have e2 : (UInt8.ofNat k.length).toNat = k.length:=by simp;omega
 have hl : (pre ++ (UInt8.ofNat k.length :: k) ++ post).length = pre.length + 1 + k.length + post.length:=by simp;omega
 unfold textB;rw [e1,e2,if_neg (by omega),if_neg (by omega),if_neg (by omega)];congr 2;rw [show pre ++ (UInt8.ofNat k.length :: k) ++ post = (pre ++ [UInt8.ofNat k.length]) ++ (k ++ post) by simp,List.drop_append_of_le_length (by simp)]
 rw [List.drop_eq_nil_of_le (by simp)];simp
structure En.ok (leaf : Bool) (e : En) : Prop where
 key : e.key.length ≤ 80
 val : if leaf then e.val.length ≤ 200∧e.kid = 0 else e.val = []∧0 ≤ e.kid∧e.kid < 65536
def En.norm (leaf : Bool) (i : Nat) (e : En) : En:=if leaf || decide (0 < i) then e else { e with key:=[] }
theorem lowB_two (k : Int) (h : 0 ≤ k) (h2 : k < 65536) : ((lowB k).toNat : Int) + ((lowB (k / 256)).toNat : Int) * 256 = k:=by
 unfold lowB;have a : (UInt8.ofNat (k % 256).toNat).toNat = (k % 256).toNat:=by simp;omega
 have b : (UInt8.ofNat (k / 256 % 256).toNat).toNat = (k / 256 % 256).toNat:=by simp;omega
 rw [a,b];omega
theorem readE_at (leaf : Bool) (pre post : List UInt8) (i : Nat) (e : En) (h : e.ok leaf) : readE leaf (pre ++ e.bytes leaf i ++ post) i pre.length = some (e.norm leaf i,pre.length + e.size leaf i):=by
 have hk:=h.key;have hv:=h.val;unfold readE readK En.bytes En.norm En.size
 cases leaf with
 | true =>
  simp only [if_true] at hv;obtain ⟨hv1,hv2⟩:=hv;simp only [Bool.true_or,if_true];have e1 : pre ++ (UInt8.ofNat e.key.length :: e.key ++ UInt8.ofNat e.val.length :: e.val) ++ post = pre ++ (UInt8.ofNat e.key.length :: e.key) ++ (UInt8.ofNat e.val.length :: e.val ++ post):=by simp
  have e2 : pre ++ (UInt8.ofNat e.key.length :: e.key ++ UInt8.ofNat e.val.length :: e.val) ++ post = (pre ++ (UInt8.ofNat e.key.length :: e.key)) ++ (UInt8.ofNat e.val.length :: e.val) ++ post:=by simp
  have t1:=textB_at pre e.key (UInt8.ofNat e.val.length :: e.val ++ post) 80 hk (by omega);rw [← e1] at t1;have t2:=textB_at (pre ++ (UInt8.ofNat e.key.length :: e.key)) e.val post 200 hv1 (by omega);rw [← e2] at t2;rw [t1];simp only [Option.bind_some,readV,if_true];rw [show pre.length + 1 + e.key.length = (pre ++ (UInt8.ofNat e.key.length :: e.key)).length by simp;omega,t2]
  simp only [Option.map_some,Option.some.injEq,Prod.mk.injEq];refine ⟨by cases e;simp_all,?_⟩;simp;omega
 | false =>
  simp only [Bool.false_eq_true,if_false] at hv;obtain ⟨hv1,hv2,hv3⟩:=hv;by_cases h0 : i = 0
  ·subst h0
   simp only [Bool.false_or,Nat.lt_irrefl,decide_false,Bool.false_eq_true,if_false,List.nil_append,Option.bind_some,readV,if_true];have g0 : (pre ++ [lowB e.kid,lowB (e.kid / 256)] ++ post).getD pre.length 0 = lowB e.kid:=by rw [List.append_assoc];exact getD_mid
   have g1 : (pre ++ [lowB e.kid,lowB (e.kid / 256)] ++ post).getD (pre.length + 1) 0 = lowB (e.kid / 256):=by
    rw [show pre ++ [lowB e.kid,lowB (e.kid / 256)] ++ post = (pre ++ [lowB e.kid]) ++ lowB (e.kid / 256) :: post by simp,show pre.length + 1 = (pre ++ [lowB e.kid]).length by simp]
    exact getD_mid
   rw [if_neg (by simp),g0,g1,lowB_two _ hv2 hv3];cases e;simp_all
  ·have hp : 0 < i:=by omega
   simp only [Bool.false_or,hp,decide_true,if_true,Bool.false_eq_true,if_false,if_neg h0];have e1 : pre ++ (UInt8.ofNat e.key.length :: e.key ++ [lowB e.kid,lowB (e.kid / 256)]) ++ post = pre ++ (UInt8.ofNat e.key.length :: e.key) ++ ([lowB e.kid,lowB (e.kid / 256)] ++ post):=by simp
   have t1:=textB_at pre e.key ([lowB e.kid,lowB (e.kid / 256)] ++ post) 80 hk (by omega);rw [← e1] at t1;rw [t1];simp only [Option.bind_some,readV,Bool.false_eq_true,if_false];have hl : (pre ++ (UInt8.ofNat e.key.length :: e.key)).length = pre.length + 1 + e.key.length:=by simp;omega
   have g0 : (pre ++ (UInt8.ofNat e.key.length :: e.key ++ [lowB e.kid,lowB (e.kid / 256)]) ++ post).getD (pre.length + 1 + e.key.length) 0 = lowB e.kid:=by rw [e1,← hl];exact getD_mid
   have g1 : (pre ++ (UInt8.ofNat e.key.length :: e.key ++ [lowB e.kid,lowB (e.kid / 256)]) ++ post).getD (pre.length + 1 + e.key.length + 1) 0 = lowB (e.kid / 256):=by
    rw [show pre ++ (UInt8.ofNat e.key.length :: e.key ++ [lowB e.kid,lowB (e.kid / 256)]) ++ post = (pre ++ (UInt8.ofNat e.key.length :: e.key) ++ [lowB e.kid]) ++ lowB (e.kid / 256) :: post by simp,show pre.length + 1 + e.key.length + 1 = (pre ++ (UInt8.ofNat e.key.length :: e.key) ++ [lowB e.kid]).length by simp;omega]
    exact getD_mid
   rw [if_neg (by simp;omega),g0,g1,lowB_two _ hv2 hv3];simp only [Option.some.injEq,Prod.mk.injEq];exact ⟨by cases e;simp_all,by omega⟩
def normFrom (leaf : Bool) : Nat → List En → List En
 | _,[]=>[]
 | i,e :: r=>e.norm leaf i :: normFrom leaf (i + 1) r
def rises (leaf : Bool) : Nat → Option (List UInt8) → List En → Prop
 | _,_,[]=>True
 | i,pv,e :: r=>(∀ k,pv = some k → k < e.key)∧rises leaf (i + 1) (if leaf || decide (0 < i) then some e.key else none) r
theorem norm_key (leaf : Bool) (i : Nat) (e : En) (h : (leaf || decide (0 < i)) = true) : e.norm leaf i = e:=by rw [En.norm,if_pos h]
theorem readGo_at (leaf : Bool) : ∀ (es acc : List En) (pre post : List UInt8) (pv : Option (List UInt8)),(∀ e ∈ es,e.ok leaf) → rises leaf acc.length pv es → (∀ x,acc.getLast? = some x → (leaf || decide (1 < acc.length)) = true → pv = some x.key) →
  readGo leaf (pre ++ bytesFrom leaf acc.length es ++ post) es.length pre.length acc = some (acc ++ normFrom leaf acc.length es)
 | [],acc,pre,post,pv,_,_,_=>by simp [readGo,normFrom]
 | e :: r,acc,pre,post,pv,hok,hr,hl=>by
  obtain ⟨hr1,hr2⟩:=hr;have e0 : pre ++ bytesFrom leaf acc.length (e :: r) ++ post = pre ++ e.bytes leaf acc.length ++ (bytesFrom leaf (acc.length + 1) r ++ post):=by simp [bytesFrom]
  have h1:=readE_at leaf pre (bytesFrom leaf (acc.length + 1) r ++ post) acc.length e (hok e (List.mem_cons_self ..))
  have hfit : fitsE leaf acc (e.norm leaf acc.length) = true:=by
   unfold fitsE
   cases hx : acc.getLast? with
   | none=>rfl
   | some x =>
    simp only [Bool.or_eq_true,Bool.not_eq_true',decide_eq_true_eq]
    cases hc : (leaf || decide (1 < acc.length)) with
    | false=>exact .inl rfl
    | true =>
     right;have h2:=hr1 _ (hl x hx hc)
     rw [norm_key]
     ·exact h2
     ·cases leaf with
      | true=>rfl
      | false =>
       have : acc ≠ []:=fun e=>by rw [e] at hx;simp at hx
       have:=List.length_pos_iff.2 this;simpa using this
  have hlen : (acc ++ [e.norm leaf acc.length]).length = acc.length + 1:=by simp
  have ih:=readGo_at leaf r (acc ++ [e.norm leaf acc.length]) (pre ++ e.bytes leaf acc.length) post (if leaf || decide (0 < acc.length) then some e.key else none) (fun x hx=>hok x (List.mem_cons_of_mem _ hx)) (by rw [hlen];exact hr2) (fun x hx hc=>by
   have hx : e.norm leaf acc.length = x:=by simpa using hx
   subst hx;rw [hlen] at hc
   have hc2 : (leaf || decide (0 < acc.length)) = true:=by
    cases leaf with
    | true=>rfl
    | false=>simpa using hc
   rw [if_pos hc2,norm_key leaf _ e hc2])
  rw [hlen] at ih;rw [e0,List.length_cons,readGo,h1];simp only;rw [if_pos hfit];rw [show pre ++ e.bytes leaf acc.length ++ (bytesFrom leaf (acc.length + 1) r ++ post) = pre ++ e.bytes leaf acc.length ++ bytesFrom leaf (acc.length + 1) r ++ post by simp]
  rw [List.length_append,En.bytes_length] at ih;rw [ih];simp [normFrom]
theorem rises_of_pair (leaf : Bool) : ∀ (l : List En) (i : Nat) (pv : Option (List UInt8)),(leaf = true ∨ 0 < i) → (l.map (·.key)).Pairwise (· < ·) → (∀ k,pv = some k → ∀ e ∈ l,k < e.key) → rises leaf i pv l
 | [],_,_,_,_,_=>trivial
 | e :: r,i,pv,hi,hp,hv=>by
  rw [List.map_cons,List.pairwise_cons] at hp;refine ⟨fun k hk=>hv k hk e (List.mem_cons_self ..),?_⟩
  have hc : (leaf || decide (0 < i)) = true:=by
   rcases hi with h | h
   ·rw [h];rfl
   ·simp [h]
  rw [if_pos hc];refine rises_of_pair leaf r (i + 1) _ (.inr (by omega)) hp.2 fun k hk x hx=>?_;simp only [Option.some.injEq] at hk;rw [← hk];exact hp.1 _ (List.mem_map.2 ⟨x,hx,rfl⟩)
theorem Srt.rises {n : Nd} (h : Srt n) : rises n.leaf 0 none n.l:=by
 unfold Srt at h;obtain ⟨leaf,l⟩:=n
 cases leaf with
 | true=>exact rises_of_pair true l 0 none (.inl rfl) h fun k hk=>by cases hk
 | false =>
  cases l with
  | nil=>trivial
  | cons e r=>exact ⟨fun k hk=>(by cases hk),rises_of_pair false r 1 none (.inr (by omega)) h fun k hk=>(by cases hk)⟩
structure Nd.ok (n : Nd) : Prop where
 ne : n.l ≠ []
 len : n.l.length < 65536
 each : ∀ e ∈ n.l,e.ok n.leaf
 srt : Srt n
 sum : n.sum ≤ 893
def Nd.norm (n : Nd) : Nd:=⟨n.leaf,normFrom n.leaf 0 n.l⟩
theorem Nd.bytes_eq {n : Nd} (h : n.sum ≤ 893) : n.bytes = n.head ++ bytesFrom n.leaf 0 n.l ++ List.replicate (893 - n.sum) 0:=by have hb : (bytesFrom n.leaf 0 n.l).length = n.sum:=bytesFrom_length _ _ _;have hh : n.head.length = 3:=rfl;unfold Nd.bytes;rw [List.take_append,List.take_of_length_le (by rw [List.length_append];omega),List.take_replicate,List.length_append,hb,hh];congr 2;omega
theorem Nd.bytes_length (n : Nd) : n.bytes.length = 896:=by unfold Nd.bytes;rw [List.length_take,List.length_append,List.length_replicate];omega
theorem read_bytes {n : Nd} (h : n.ok) : readN n.bytes = some n.norm:=by
 have e:=Nd.bytes_eq h.sum;have h1:=readGo_at n.leaf n.l [] n.head (List.replicate (893 - n.sum) 0) none h.each h.srt.rises (fun x hx=>by simp at hx);rw [List.length_nil,List.nil_append,← e] at h1;have hne:=List.length_pos_iff.2 h.ne;have g0 : n.bytes.getD 0 0 = if n.leaf then 1 else 2:=by rw [e];rfl
 have g1 : n.bytes.getD 1 0 = UInt8.ofNat n.l.length:=by rw [e];rfl
 have g2 : n.bytes.getD 2 0 = UInt8.ofNat (n.l.length / 256):=by rw [e];rfl
 have hm : readM n.bytes = n.l.length:=by
  unfold readM;rw [g1,g2];have:=h.len
  have a : (UInt8.ofNat n.l.length).toNat = n.l.length % 256:=by simp
  have b : (UInt8.ofNat (n.l.length / 256)).toNat = n.l.length / 256 % 256:=by simp
  rw [a,b];omega
 have hlf : (n.bytes.getD 0 0 == 1) = n.leaf:=by rw [g0];cases n.leaf <;> rfl
 unfold readN;rw [hm,hlf,if_neg]
 ·rw [show (3 : Nat) = n.head.length from rfl,h1]
  rfl
 ·rw [g0]
  rintro (⟨a,b⟩ | a)
  ·cases hx : n.leaf <;> simp [hx] at a b
  ·omega
end
end Go.Proofs.YtofibccplbnaiaaDoor
