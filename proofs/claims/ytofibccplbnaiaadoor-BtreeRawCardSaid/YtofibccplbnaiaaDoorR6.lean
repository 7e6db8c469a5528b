/- Contracts of the functions that the statements of this seat reach, part 6: each says what the call answers and what it leaves of the memory. -/
import Derived.Test.YtofibccplbnaiaaDoorR5
import Derived.Test.YtofibccplbnaiaaDoorR3
import Derived.Test.YtofibccplbnaiaaDoorR2
import Derived.Test.YtofibccplbnaiaaDoorR1
import Derived.Deep.AppendSrc
import Derived.LoopTactic
import Derived.IntWalk
import Derived.Laws.Cover1
set_option linter.unusedVariables false
set_option linter.unusedSimpArgs false
set_option maxRecDepth 100000
namespace Go.Proofs.YtofibccplbnaiaaDoor
section
open Go.RowKit
theorem info_entry : (Tryd.prog.info? 75).map (fun i=>(i.zero,i.size,i.bytes)) = some (some (.agg #[.string ⟨#[]⟩,.string ⟨#[]⟩,.int .i64 0]),3,40):=by kernel_rfl
def enC (e : En) : List Value:=[.string ⟨e.key.toArray⟩,.string ⟨e.val.toArray⟩,.int .i64 e.kid]
def enV (l : List En) : List Value:=l.flatMap enC
theorem enV_length (l : List En) : (enV l).length = l.length * 3:=by
 induction l with
 | nil=>rfl
 | cons e r ih =>
  rw [enV,List.flatMap_cons,List.length_append,List.length_cons];rw [enV] at ih;rw [ih];show 3 + _ = _
  omega
theorem enV_append (a b : List En) : enV (a ++ b) = enV a ++ enV b:=by simp [enV]
theorem enV_one (e : En) : enV [e] = enC e:=by simp [enV]
theorem enV_get : ∀ (l : List En) (i : Nat) (hi : i < l.length) (j : Nat),j < 3 → (enV l)[i * 3 + j]? = (enC l[i])[j]?
 | e :: r,0,_,j,hj=>by rw [enV,List.flatMap_cons,Nat.zero_mul,Nat.zero_add,List.getElem?_append_left (by simpa [enC] using hj)];rfl
 | e :: r,i + 1,hi,j,hj=>by
  have ih:=enV_get r i (by simpa using hi) j hj;rw [enV,List.flatMap_cons,show (i + 1) * 3 + j = (enC e).length + (i * 3 + j) by show _ = 3 + _;omega,List.getElem?_append_right (by omega),Nat.add_sub_cancel_left]
  exact ih
theorem enV_oneCell (l : List En) : ∀ v ∈ enV l,v.oneCell' = true:=by
 intro v hv;obtain ⟨e,_,hv⟩:=List.mem_flatMap.1 hv;simp only [enC,List.mem_cons,List.not_mem_nil,or_false] at hv
 rcases hv with rfl | rfl | rfl <;> rfl
structure En.few (e : En) : Prop where
 key : e.key.length ≤ 80
 val : e.val.length ≤ 200
 k0 : 0 ≤ e.kid
 k1 : e.kid < 65536
def IsE (w : World) (v : Value) (l : List En) : Prop :=
 ∃ a cap,v = .slice a l.length cap∧l.length ≤ cap∧cap ≤ maxLen∧(a = none → cap = 0) ∧
  ∀ x,a = some x → (0 < l.length → x.spot = none)∧∀ i,(h : i < l.length) → w.cell? ⟨x.block,x.off + i * 3,none⟩ = some (.string ⟨l[i].key.toArray⟩)∧w.cell? ⟨x.block,x.off + i * 3 + 1,none⟩ = some (.string ⟨l[i].val.toArray⟩)∧w.cell? ⟨x.block,x.off + i * 3 + 2,none⟩ = some (.int .i64 l[i].kid)
theorem IsE.nil (w : World) : IsE w (.slice none 0 0) []:=⟨none,0,rfl,Nat.le_refl _,by simp [maxLen],fun _=>rfl,fun x h=>by cases h⟩
theorem IsE.of_cells {w w' : World} {v : Value} {l : List En} (h : IsE w v l) (hw : ∀ a u,w.cell? a = some u → w'.cell? a = some u) : IsE w' v l:=by obtain ⟨a,cap,hv,hl,hm,hn,hc⟩:=h;exact ⟨a,cap,hv,hl,hm,hn,fun x hx=>⟨(hc x hx).1,fun i hi=>⟨hw _ _ ((hc x hx).2 i hi).1,hw _ _ ((hc x hx).2 i hi).2.1,hw _ _ ((hc x hx).2 i hi).2.2⟩⟩⟩
theorem IsE.below {w w' : World} {v : Value} {l : List En} (h : IsE w v l) (hb : Below w.heap.size w w') : IsE w' v l:=h.of_cells (cells_below hb)
theorem IsE.drew {w : World} {v : Value} {l : List En} (h : IsE w v l) : IsE w.drew v l:=h
theorem IsE.form {w : World} {v : Value} {l : List En} (h : IsE w v l) : ∃ a cap,v = .slice a l.length cap∧l.length ≤ cap∧cap ≤ maxLen:=by obtain ⟨a,cap,hv,hl,hm,_⟩:=h;exact ⟨a,cap,hv,hl,hm⟩
theorem IsE.at {w : World} {a : Option Addr} {n cap : Nat} {l : List En} (h : IsE w (.slice a n cap) l) (i : Nat) (hi : i < l.length) : ∃ b o,a = some ⟨b,o,none⟩ ∧
  w.cell? ⟨b,o + i * 3,none⟩ = some (.string ⟨l[i].key.toArray⟩)∧w.cell? ⟨b,o + i * 3 + 1,none⟩ = some (.string ⟨l[i].val.toArray⟩)∧w.cell? ⟨b,o + i * 3 + 2,none⟩ = some (.int .i64 l[i].kid):=by
 obtain ⟨a',cap',hv,hl,hm,hn,hc⟩:=h;simp only [Value.slice.injEq] at hv;obtain ⟨rfl,_,rfl⟩:=hv
 cases a with
 | none=>have:=hn rfl;omega
 | some x =>
  obtain ⟨b,o,s⟩:=x;obtain ⟨hs,hc⟩:=hc _ rfl;obtain rfl : s = none:=hs (by omega);exact ⟨b,o,rfl,hc i hi⟩
def MineN (B : Nat) (w : World) (v : Value) (l : List En) : Prop:=w.ownsRow B 75 3 v l.length (enV l)
theorem MineN.nil (B : Nat) (w : World) : MineN B w (.slice none 0 0) []:=World.ownsRow_nil w B 75 3
theorem MineN.keep {B : Nat} {w w' : World} {v : Value} {l : List En} (h : MineN B w v l) (hw : ∀ k,B ≤ k → k < w.heap.size → w'.heap[k]? = w.heap[k]?) : MineN B w' v l:=own_keep h hw
theorem MineN.keep1 {B : Nat} {w w' : World} {v : Value} {l : List En} (h : MineN B w v l) (hw : ∀ k,v.ownBlock = some k → w'.heap[k]? = w.heap[k]?) : MineN B w' v l:=by
 obtain ⟨h1,h2⟩:=h;refine ⟨h1,?_⟩;rcases h2 with h2 | ⟨g,cap,cur,hv,hb,hh,r⟩
 ·exact .inl h2
 ·exact .inr ⟨g,cap,cur,hv,hb,(hw g (by rw [hv];rfl)).trans hh,r⟩
theorem MineN.below {B : Nat} {w w' : World} {v : Value} {l : List En} (h : MineN B w v l) (hb : Below w.heap.size w w') : MineN B w' v l:=h.keep fun k _ hl=>hb.block k hl
theorem MineN.lt {B : Nat} {w : World} {v : Value} {l : List En} (h : MineN B w v l) {k : Nat} (hk : v.ownBlock = some k) : B ≤ k∧k < w.heap.size:=by obtain ⟨h1,c,hc⟩:=own_lt h hk.symm;exact ⟨h1,lt_of_heap hc⟩
theorem MineN.form {B : Nat} {w : World} {v : Value} {l : List En} (h : MineN B w v l) : (v = .slice none 0 0∧l = []) ∨ ∃ g cap,v = .slice (some ⟨g,0,none⟩) l.length cap∧l.length ≤ cap∧cap ≤ maxLen∧B ≤ g∧g < w.heap.size:=by
 rcases h.2 with ⟨rfl,hn⟩ | ⟨g,cap,cur,rfl,hb,hg,hnc,hcm,_⟩
 ·exact .inl ⟨rfl,List.eq_nil_of_length_eq_zero hn⟩
 ·exact .inr ⟨g,cap,rfl,hnc,hcm,hb,lt_of_heap hg⟩
theorem MineN.isE {B : Nat} {w : World} {v : Value} {l : List En} (h : MineN B w v l) : IsE w v l:=by
 rcases h.2 with ⟨rfl,hn⟩ | ⟨g,cap,cur,rfl,hb,hg,hnc,hcm,hcs,htake⟩
 ·obtain rfl:=List.eq_nil_of_length_eq_zero hn;exact IsE.nil w
 ·refine ⟨_,cap,rfl,hnc,hcm,fun e=>(by cases e),fun x hx=>?_⟩
  simp only [Option.some.injEq] at hx;subst hx;refine ⟨fun _=>rfl,fun i hi=>?_⟩
  have key : ∀ j,j < 3 → w.cell? ⟨g,i * 3 + j,none⟩ = (enC l[i])[j]?:=fun j hj=>by
   rw [cell_of_row _ _ _ _ _ _ hg];have e:=enV_get l i hi j hj
   rw [← htake,List.getElem?_take,if_pos (by omega)] at e;simpa using e
  dsimp only;rw [Nat.zero_add];exact ⟨key 0 (by omega),key 1 (by omega),key 2 (by omega)⟩
theorem IsE.firsts {w : World} {v : Value} {l : List En} (h : IsE w v l) : ∀ w',w'.heap = w.heap → (Builtin.firstCells 3 l.length v).run Tryd.prog w' = .ok (enV l).toArray w':=by
 intro w' hw;obtain ⟨a,cap,rfl,hl,hm,hn,hc⟩:=h;by_cases h0 : l.length = 0
 ·obtain rfl:=List.eq_nil_of_length_eq_zero h0
  cases a with
  | none=>simp [Builtin.firstCells,enV]
  | some x=>simp [Builtin.firstCells,loadCells,loadCellsFrom,enV]
 ·cases a with
  | none=>have:=hn rfl;omega
  | some x =>
   obtain ⟨b,o,s⟩:=x;obtain ⟨hs,hc⟩:=hc _ rfl;obtain rfl : s = none:=hs (by omega);refine run_firstCells_some (P:=Tryd.prog) w' 3 l.length _ _ _ (enV l) (by rw [enV_length]) ?_;intro j u hj;have hlt : j < l.length * 3:=by have:=(List.getElem?_eq_some_iff.1 hj).1;rwa [enV_length] at this
   obtain ⟨i,r,rfl,hr⟩ : ∃ i r,j = i * 3 + r∧r < 3:=⟨j / 3,j % 3,by omega,Nat.mod_lt _ (by omega)⟩;have hi : i < l.length:=by omega
   rw [enV_get l i hi r hr] at hj;rw [Addr.add_mid];have hcell : ∀ c,w'.cell? ⟨b,c,none⟩ = w.cell? ⟨b,c,none⟩:=fun c=>by unfold World.cell?;rw [hw]
   rw [hcell];obtain ⟨c0,c1,c2⟩:=hc i hi;rcases (show r = 0 ∨ r = 1 ∨ r = 2 by omega) with rfl | rfl | rfl
   ·rw [← hj];exact c0
   ·rw [← hj];exact c1
   ·rw [← hj];exact c2
theorem MineN.app {B : Nat} {w : World} {v u : Value} {l m : List En} (h : MineN B w v l) (hu : IsE w u m) (hB : B ≤ w.heap.size) (hL : l.length + m.length ≤ 1000000) :
  ∃ v' w',(Builtin.append_ #[67,67] 67 #[v,u]).run Tryd.prog w = .ok v' w'∧MineN B w' v' (l ++ m)∧w.grownBy w' v.ownBlock∧(v'.ownBlock = v.ownBlock ∨ v'.ownBlock = some w.heap.size):=by
 obtain ⟨i,hi,hz,hs,hb⟩:=info_parts (P:=Tryd.prog) (e:=75) info_entry;have hf:=hu.firsts
 obtain ⟨a,cap,rfl,hc1,hc2⟩:=hu.form
 obtain ⟨v',w',hr,ho,hgr,_,h5⟩:=run_app (P:=Tryd.prog) w B 67 67 67 75 i _ 3 40 _ Tryd.underlying67 Tryd.underlying67 (.inl rfl) hi hz hs hb rfl (by decide) v l.length (enV l) h
  (.slice a m.length cap) m.length (enV m) (fun w'=>rfl) (by rw [enV_length]) hf (enV_oneCell m) (by simp [maxLen];omega) (by omega) hB
 refine ⟨v',w',hr,?_,hgr,h5⟩;unfold MineN;rw [enV_append,List.length_append];exact ho
theorem IsE.take {w : World} {a : Option Addr} {n cap : Nat} {l : List En} (h : IsE w (.slice a n cap) l) (k : Nat) (hk : k ≤ l.length) : IsE w (.slice a k cap) (l.take k):=by
 obtain ⟨a',cap',hv,hl,hm,hn,hc⟩:=h;simp only [Value.slice.injEq] at hv;obtain ⟨rfl,_,rfl⟩:=hv;have hlk : (l.take k).length = k:=by rw [List.length_take];omega
 refine ⟨a,cap,by rw [hlk],by omega,hm,hn,fun x hx=>⟨fun hp=>(hc x hx).1 (by omega),fun i hi=>?_⟩⟩;rw [hlk] at hi;have:=(hc x hx).2 i (by omega)
 simpa using this
theorem IsE.drop {w : World} {b o n cap : Nat} {l : List En} (h : IsE w (.slice (some ⟨b,o,none⟩) n cap) l) (k : Nat) (hk : k ≤ l.length) : IsE w (.slice (some ⟨b,o + k * 3,none⟩) (l.length - k) (cap - k)) (l.drop k):=by
 obtain ⟨a',cap',hv,hl,hm,hn,hc⟩:=h;simp only [Value.slice.injEq] at hv;obtain ⟨rfl,_,rfl⟩:=hv;refine ⟨_,_,by rw [List.length_drop],by rw [List.length_drop];omega,by omega,fun e=>(by cases e),fun x hx=>?_⟩;simp only [Option.some.injEq] at hx;subst hx;refine ⟨fun _=>rfl,fun i hi=>?_⟩;rw [List.length_drop] at hi;have h2:=(hc _ rfl).2 (k + i) (by omega)
 have e : o + k * 3 + i * 3 = o + (k + i) * 3:=by omega
 simp only [List.getElem_drop];rw [e];exact h2
end
section
open Go.RowKit Go.Deep
def pad (A : List UInt8) : List UInt8:=A ++ List.replicate (896 - A.length) 0
theorem pad_length {A : List UInt8} (h : A.length ≤ 896) : (pad A).length = 896:=by simp [pad];omega
theorem pad_lay {A v : List UInt8} (h : A.length + v.length ≤ 896) : layB (pad A) A.length v = pad (A ++ v):=by
 unfold layB pad;rw [List.take_append_of_le_length (Nat.le_refl _),List.take_length];have e1 : (A ++ List.replicate (896 - A.length) 0).drop (A.length + v.length) = List.replicate (896 - (A.length + v.length)) (0 : UInt8):=by rw [List.drop_append,List.drop_eq_nil_of_le (by omega),List.nil_append,List.drop_replicate];congr 1;omega
 rw [e1];simp
theorem byteCells_bv (k : List UInt8) : byteCells ⟨k.toArray⟩ = bv k:=by simp [byteCells,bv]
structure PageB (w : World) (g : Nat) (A : List UInt8) : Prop where
 row : RowB w g 5 (pad A)
 le : A.length ≤ 896
section
variable {w w' : World} {g : Nat} {A : List UInt8}
theorem PageB.keep (h : PageB w g A) (hw : w'.heap[g]? = w.heap[g]?) : PageB w' g A:=⟨h.row.keep hw,h.le⟩
theorem PageB.below (h : PageB w g A) (hb : Below w.heap.size w w') : PageB w' g A:=⟨h.row.below hb,h.le⟩
theorem PageB.lay (h : PageB w g A) (v : List UInt8) (hv : A.length + v.length ≤ 896) : PageB (w.setCells g A.length (bv v)) g (A ++ v):=by have h1:=h.row.lay A.length v (by rw [pad_length h.le];exact hv);rw [pad_lay hv] at h1;exact ⟨h1,by rw [List.length_append];exact hv⟩
theorem PageB.room (h : PageB w g A) (v : List UInt8) (hv : A.length + v.length ≤ 896) : (∀ j,j < (bv v).length → (w.cell? ⟨g,0 + A.length * 1 + j,none⟩).isSome = true)∧∀ j,j < (bv v).length → w.frozen? ⟨g,0 + A.length * 1 + j,none⟩ = false:=by refine ⟨fun j hj=>?_,fun j hj=>frozen_p h.row _⟩;rw [bv_length] at hj;rw [Nat.zero_add,Nat.mul_one,h.row.cell (A.length + j) (by rw [pad_length h.le];omega)];rfl
theorem info_u8 : (Tryd.prog.info? 5).map (fun i=>(i.zero,i.size,i.bytes)) = some (some (.int .u8 0),1,1):=by kernel_rfl
theorem PageB.app_str (h : PageB w g A) (k : List UInt8) (hk : A.length + k.length ≤ 896) (ty : TypeId) :
  (Builtin.append_ #[32,9] ty #[.slice (some ⟨g,0,none⟩) A.length 896,.string ⟨k.toArray⟩]).run Tryd.prog w = .ok (.slice (some ⟨g,0,none⟩) (A ++ k).length 896) (w.setCells g A.length (bv k)):=by
 obtain ⟨i,hi,hz,hs,hb⟩:=info_parts (P:=Tryd.prog) (e:=5) info_u8;have hsrc:=Src.ofString (P:=Tryd.prog) w (tx:=9) Tryd.underlying9 ⟨k.toArray⟩
 rw [byteCells_bv,show (⟨k.toArray⟩ : ByteArray).size = k.length by simp [ByteArray.size]] at hsrc
 obtain ⟨r1,r2⟩:=h.room k hk;have:=run_append_room_src w 32 9 ty 5 i Tryd.underlying32 hi g 0 A.length 896 (.string ⟨k.toArray⟩) k.length (bv k) (by rw [hs];exact hsrc) hk (by rw [hs];exact r1) (by rw [hs];exact r2)
 rw [hs,Nat.zero_add,Nat.mul_one,← List.length_append] at this;exact this
theorem PageB.app_row (h : PageB w g A) (u : Nat) (k : List UInt8) (hu : RowB w u 5 k) (hk : A.length + k.length ≤ 896) (ty : TypeId) :
  (Builtin.append_ #[32,32] ty #[.slice (some ⟨g,0,none⟩) A.length 896,.slice (some ⟨u,0,none⟩) k.length k.length]).run Tryd.prog w = .ok (.slice (some ⟨g,0,none⟩) (A ++ k).length 896) (w.setCells g A.length (bv k)):=by
 obtain ⟨i,hi,hz,hs,hb⟩:=info_parts (P:=Tryd.prog) (e:=5) info_u8
 have hsrc:=Src.ofSlice (P:=Tryd.prog) w (size:=1) (tx:=32) Tryd.underlying32 ⟨u,0,none⟩ k.length k.length (bv k) (by simp [bv]) (fun j c hj=>by
  have hlt : j < k.length:=by have:=(List.getElem?_eq_some_iff.1 hj).1;rwa [bv_length] at this
  rw [Addr.add_mid,Nat.zero_add,hu.cell j hlt];rw [← hj]
  simp [bv,hlt]) (bv_oneCell k)
 obtain ⟨r1,r2⟩:=h.room k hk;have:=run_append_room_src w 32 32 ty 5 i Tryd.underlying32 hi g 0 A.length 896 (.slice (some ⟨u,0,none⟩) k.length k.length) k.length (bv k) (by rw [hs];exact hsrc) hk (by rw [hs];exact r1) (by rw [hs];exact r2)
 rw [hs,Nat.zero_add,Nat.mul_one,← List.length_append] at this;exact this
end
end
section
open Go.RowKit
abbrev intO (n : Nat) : Obj:=.cells #[.int .i64 (n : Int)] 3 (0,0)
def TextEnd (w : World) (g : Nat) (r : Option (List UInt8 × Nat)) (at_ : Nat) (e : Ending) (w' : World) : Prop:=match r with
 | none=>e = .returned (.tuple #[.string ⟨#[]⟩,.bool false])∧Turned (· = g) w w'∧w'.heap[g]? = some (intO at_)
 | some x=>e = .returned (.tuple #[.string ⟨x.1.toArray⟩,.bool true])∧Turned (· = g) w w'∧w'.heap[g]? = some (intO x.2)
set_option maxHeartbeats 8000000 in
theorem text_any (w : World) (a : Option Addr) (n cap : Nat) (bs : List UInt8) (h : IsB w (.slice a n cap) bs) (hn : n = bs.length) (hn2 : n ≤ 100000) (g : Nat) (at_ : Nat) (hg : w.heap[g]? = some (intO at_)) (hat : at_ ≤ 100000) (most : Nat) (hm : most ≤ 255) :
  Calls Tryd.prog 86 #[.slice a n cap,.pointer (some ⟨g,0,none⟩),.int .i64 (most : Int)] w (TextEnd w g (textB bs at_ most) at_):=by
 have hc : w.drew.cell? ⟨g,0,none⟩ = some (.int .i64 (at_ : Int)):=by
  show w.cell? _ = _
  rw [cell_of_row _ _ _ _ _ _ hg];rfl
 have hg' : w.drew.heap[g]? = some (intO at_):=hg;have hi0 : (0 : Int) ≤ (at_ : Int):=by omega
 have s1 : IntKind.i64.wrap ((at_ : Int) + 1) = (at_ : Int) + 1:=IntWalk.i64_in _ (by omega);by_cases h1 : n ≤ at_
 ·have hd : decide ((at_ : Int) ≥ (n : Int)) = true:=decide_eq_true (by omega)
  have hd2 : decide ((n : Int) ≤ (at_ : Int)) = true:=decide_eq_true (by omega);have ht : textB bs at_ most = none:=by unfold textB;rw [if_pos (by omega)]
  have HX : Hid (Turned (· = g) w w.drew∧w.drew.heap[g]? = some (intO at_)):=Hd ⟨(Turned.refl _ _).drew,hg'⟩;rw [ht];have hd7 : decide (n ≤ at_) = true:=decide_eq_true h1;clear h hg hg' hn;go_enter Tryd.func86,Tryd.ntmps86;go_upto_region 1 with fail;go_region;go_wp2_with fail;go_ret2;exact ⟨rfl,HX.out⟩
 ·obtain ⟨x,hx⟩ : ∃ x,x = bs[at_]'(by omega):=⟨_,rfl⟩
  obtain ⟨b,o,rfl,hcb⟩ : ∃ b o,a = some ⟨b,o,none⟩∧w.cell? ⟨b,o + at_,none⟩ = some (.int .u8 (x.toNat : Int)):=by
   obtain ⟨a',cap',hv,hl,hm',hnil,hc'⟩:=h;simp only [Value.slice.injEq] at hv;obtain ⟨rfl,_,rfl⟩:=hv
   cases a with
   | none=>have:=hnil rfl;omega
   | some y =>
    obtain ⟨b,o,sp⟩:=y;obtain ⟨hs,hc'⟩:=hc' _ rfl;obtain rfl : sp = none:=hs (by omega);exact ⟨b,o,rfl,by rw [hx];exact hc' at_ (by omega)⟩
  have hgd : bs.getD at_ 0 = x:=by rw [List.getD_eq_getElem?_getD,List.getElem?_eq_getElem (by omega),hx];rfl
  have hx8:=x.toNat_lt;have hcb' : w.drew.cell? ⟨b,o + at_,none⟩ = some (.int .u8 (x.toNat : Int)):=hcb;have hd : decide ((at_ : Int) ≥ (n : Int)) = false:=decide_eq_false (by omega);have hd2 : decide ((n : Int) ≤ (at_ : Int)) = false:=decide_eq_false (by omega);have hd7 : decide (n ≤ at_) = false:=decide_eq_false (by omega);have hi1 : (at_ : Int) < (n : Int):=by omega
  have HX : Hid (Turned (· = g) w w.drew∧w.drew.heap[g]? = some (intO at_)):=Hd ⟨(Turned.refl _ _).drew,hg'⟩;have s0 : IntKind.i64.wrap (x.toNat : Int) = (x.toNat : Int):=IntWalk.i64_in _ (by omega);have s2 : IntKind.i64.wrap ((at_ : Int) + 1 + (x.toNat : Int)) = (at_ : Int) + 1 + (x.toNat : Int):=IntWalk.i64_in _ (by omega);by_cases h2 : most < x.toNat
  ·have hd3 : decide ((x.toNat : Int) > (most : Int)) = true:=decide_eq_true (by omega)
   have hd4 : decide ((most : Int) < (x.toNat : Int)) = true:=decide_eq_true (by omega);have hd8 : decide (most < x.toNat) = true:=decide_eq_true h2;have ht : textB bs at_ most = none:=by unfold textB;rw [hgd,if_neg (by omega),if_pos h2]
   rw [ht];clear hn h hg hg' hx hcb hgd ht;go_enter Tryd.func86,Tryd.ntmps86;go_upto_region 1 with fail;go_region;go_wp2_with fail;go_ret2;exact ⟨rfl,HX.out⟩
  have hd3 : decide ((x.toNat : Int) > (most : Int)) = false:=decide_eq_false (by omega);have hd4 : decide ((most : Int) < (x.toNat : Int)) = false:=decide_eq_false (by omega);have hd8 : decide (most < x.toNat) = false:=decide_eq_false h2;by_cases h3 : n < at_ + 1 + x.toNat
  ·have hd5 : decide ((at_ : Int) + 1 + (x.toNat : Int) > (n : Int)) = true:=decide_eq_true (by omega)
   have hd6 : decide ((n : Int) < (at_ : Int) + 1 + (x.toNat : Int)) = true:=decide_eq_true (by omega);have ht : textB bs at_ most = none:=by unfold textB;rw [hgd,if_neg (by omega),if_neg h2,if_pos (by omega)]
   rw [ht];clear hn h hg hg' hx hcb hgd ht;go_enter Tryd.func86,Tryd.ntmps86;go_upto_region 1 with fail;go_region;go_wp2_with fail;go_ret2;exact ⟨rfl,HX.out⟩
  have hd5 : decide ((at_ : Int) + 1 + (x.toNat : Int) > (n : Int)) = false:=decide_eq_false (by omega);have hd6 : decide ((n : Int) < (at_ : Int) + 1 + (x.toNat : Int)) = false:=decide_eq_false (by omega);have hcap : at_ + 1 + x.toNat ≤ cap:=by obtain ⟨_,_,hv,hl,_⟩:=h;simp only [Value.slice.injEq] at hv;omega
  have hcut:=fun W=>run_cut_lh (P:=Tryd.prog) W Tryd.underlying32 (e:=5) (by kernel_rfl) (some ⟨b,o,none⟩) n cap (at_ + 1) (at_ + 1 + x.toNat) ((at_ : Int) + 1) ((at_ : Int) + 1 + (x.toNat : Int)) (by omega) (by omega) (by omega) hcap;have hI:=h.cut (at_ + 1) (at_ + 1 + x.toNat) (by omega) (by omega);obtain ⟨S,hS⟩ : ∃ S,S = (bs.take (at_ + 1 + x.toNat)).drop (at_ + 1):=⟨_,rfl⟩;have hSl : S.length = x.toNat:=by rw [hS,List.length_drop,List.length_take];omega
  have ht : textB bs at_ most = some (S,at_ + 1 + S.length):=by
   unfold textB;rw [hgd,if_neg (by omega),if_neg h2,if_neg (by omega),hSl];have e : (bs.drop (at_ + 1)).take x.toNat = S:=by rw [hS,List.drop_take];congr 1;omega
   rw [e]
  rw [← hS] at hI;rw [ht];generalize cutA (some ⟨b,o,none⟩) cap (at_ + 1) = ca at *;generalize hq1 : at_ + 1 + x.toNat - (at_ + 1) = q1 at *;generalize cap - (at_ + 1) = q2 at *;have hst:=run_str (P:=Tryd.prog) (w:=w.drew.drew) hI 32 9 5 Tryd.underlying32 Tryd.underlying5 Tryd.underlying9
  have s3 : IntKind.i64.wrap (1 + (S.length : Int)) = 1 + (S.length : Int):=IntWalk.i64_in _ (by omega);have s4 : IntKind.i64.wrap ((at_ : Int) + (1 + (S.length : Int))) = ((at_ + 1 + S.length : Nat) : Int):=by rw [IntWalk.i64_in _ (by omega)];omega
  have hc2 : w.drew.drew.cell? ⟨g,0,none⟩ = some (.int .i64 (at_ : Int)):=hc;have hcb2 : w.drew.drew.cell? ⟨b,o + at_,none⟩ = some (.int .u8 (x.toNat : Int)):=hcb;have hfz : w.drew.drew.frozen? ⟨g,0,none⟩ = false:=frozen_p (w:=w.drew.drew) hg 0
  have HY : Hid (Turned (· = g) w (w.drew.drew.setCell ⟨g,0,none⟩ (.int .i64 ((at_ + 1 + S.length : Nat) : Int)))∧(w.drew.drew.setCell ⟨g,0,none⟩ (.int .i64 ((at_ + 1 + S.length : Nat) : Int))).heap[g]? = some (intO (at_ + 1 + S.length))) :=
   Hd ⟨((Turned.refl _ _).drew.drew).trans (turned_one w.drew.drew g 0 _),head_setCell (w:=w.drew.drew) hg _⟩
  clear hn h hg hg' hx hcb hgd ht hI hS HX hq1 hSl;go_enter Tryd.func86,Tryd.ntmps86;go_upto_region 1 with fail;go_region;go_upto_region 3 with fail;go_region;go_wp2_with fail;go_ret2;exact ⟨rfl,HY.out⟩
end
section
open Go.RowKit
abbrev ndV (leaf : Bool) (v : Value) : Value:=.agg #[.bool leaf,v]
theorem nodeAlloc (w : World) (o : Obj) : Below w.heap.size w (w.alloc o):=(Below.refl _ _).alloc (Nat.le_refl _) _
set_option maxHeartbeats 4000000 in
theorem size_any (w : World) (leaf : Bool) (a : Option Addr) (n cap : Nat) {l : List En} (h : IsE w (.slice a n cap) l) (hn : n = l.length) (i : Nat) (hi : i < l.length) (hm : l.length ≤ 1000000) (hf : ∀ e ∈ l,e.key.length ≤ 80∧e.val.length ≤ 200) :
  Calls Tryd.prog 63 #[ndV leaf (.slice a n cap),.int .i64 (i : Int)] w fun e w'=>e = .returned (.int .i64 (l[i].size leaf i : Int))∧Below w.heap.size w w':=by
 obtain ⟨b,o,rfl,c0,c1,c2⟩:=h.at i hi;obtain ⟨hk,hv⟩:=hf _ (List.getElem_mem hi);obtain ⟨w1,hw1⟩ : ∃ x,x = w.alloc (.cells #[.bool leaf,.slice (some ⟨b,o,none⟩) n cap] 69):=⟨_,rfl⟩;have hb1 : Below w.heap.size w w1:=by rw [hw1];exact nodeAlloc w _
 have d0:=cells_below hb1 _ _ c0;have d1:=cells_below hb1 _ _ c1;have d2:=cells_below hb1 _ _ c2;have n0 : w1.cell? ⟨w.heap.size,0,none⟩ = some (.bool leaf):=by rw [hw1,cell_of_row _ _ _ _ _ _ (heap_alloc_new w _)];rfl
 have n1 : w1.cell? ⟨w.heap.size,1,none⟩ = some (.slice (some ⟨b,o,none⟩) n cap):=by rw [hw1,cell_of_row _ _ _ _ _ _ (heap_alloc_new w _)];rfl
 have hin : i < n:=by omega
 generalize l[i] = e at *;obtain ⟨w2,hw2⟩ : ∃ x,x = w1.alloc (.cells #[.string ⟨e.key.toArray⟩,.string ⟨e.val.toArray⟩,.int .i64 e.kid] 75):=⟨_,rfl⟩;have hb2 : Below w1.heap.size w1 w2:=by rw [hw2];exact nodeAlloc w1 _
 have m0:=cells_below hb2 _ _ n0;have e0 : w2.cell? ⟨w1.heap.size,0,none⟩ = some (.string ⟨e.key.toArray⟩):=by rw [hw2,cell_of_row _ _ _ _ _ _ (heap_alloc_new w1 _)];rfl
 have e1 : w2.cell? ⟨w1.heap.size,1,none⟩ = some (.string ⟨e.val.toArray⟩):=by rw [hw2,cell_of_row _ _ _ _ _ _ (heap_alloc_new w1 _)];rfl
 have HB : Hid (Below w.heap.size w w2):=Hd (hb1.trans (hb2.mono hb1.size));have hi0 : (0 : Int) ≤ (i : Int):=by omega
 have hi1 : (i : Int) < (n : Int):=by omega
 have s1 : IntKind.i64.wrap (2 + (e.key.length : Int)) = 2 + (e.key.length : Int):=IntWalk.i64_in _ (by omega);have s2 : IntKind.i64.wrap (2 + (e.key.length : Int) + (e.val.length : Int)) = 2 + (e.key.length : Int) + (e.val.length : Int):=IntWalk.i64_in _ (by omega);have s3 : IntKind.i64.wrap (3 + (e.key.length : Int)) = 3 + (e.key.length : Int):=IntWalk.i64_in _ (by omega);have HW1:=Hd hw1;have HW2:=Hd hw2;clear h hf c0 c1 c2 hb1 hb2 hn hi;subst hw2;subst hw1
 cases leaf with
 | true =>
  go_enter Tryd.func63,Tryd.ntmps63;go_wp2_with fail;go_ret;exact ⟨by simp [En.size],HB.out⟩
 | false =>
  by_cases h0 : i = 0
  ·subst h0;simp only [Nat.zero_mul,Nat.add_zero] at d0 d1 d2;go_enter Tryd.func63,Tryd.ntmps63;go_wp2_with fail;go_ret;exact ⟨by simp [En.size],HB.out⟩
  ·have hz : ((i : Int) == 0) = false:=by rw [beq_eq_false_iff_ne];omega
   go_enter Tryd.func63,Tryd.ntmps63;go_wp2_with fail;go_ret;exact ⟨by simp [En.size,h0],HB.out⟩
theorem sumFrom_append (leaf : Bool) : ∀ (a b : List En) (i : Nat),sumFrom leaf i (a ++ b) = sumFrom leaf i a + sumFrom leaf (i + a.length) b
 | [],b,i=>by simp [sumFrom]
 | e :: r,b,i=>by
  rw [List.cons_append,sumFrom,sumFrom,sumFrom_append leaf r b (i + 1),List.length_cons];rw [show i + 1 + r.length = i + (r.length + 1) by omega]
  omega
theorem En.size_le (leaf : Bool) (i : Nat) (e : En) (h : e.key.length ≤ 80∧e.val.length ≤ 200) : e.size leaf i ≤ 282:=by
 unfold En.size;split
 ·omega
 ·split <;> omega
theorem sumFrom_le (leaf : Bool) : ∀ (l : List En) (i : Nat),(∀ e ∈ l,e.key.length ≤ 80∧e.val.length ≤ 200) → sumFrom leaf i l ≤ 282 * l.length
 | [],_,_=>by simp [sumFrom]
 | e :: r,i,h=>by have h1:=En.size_le leaf i e (h e (List.mem_cons_self ..));have h2:=sumFrom_le leaf r (i + 1) fun x hx=>h x (List.mem_cons_of_mem _ hx);rw [sumFrom,List.length_cons];omega
theorem sumFrom_take (leaf : Bool) (l : List En) (k : Nat) (hk : k < l.length) : sumFrom leaf 0 (l.take (k + 1)) = sumFrom leaf 0 (l.take k) + l[k].size leaf k:=by rw [List.take_add_one,List.getElem?_eq_getElem hk,sumFrom_append,List.length_take,Nat.min_eq_left (by omega),Nat.zero_add];simp [sumFrom]
set_option maxHeartbeats 4000000 in
theorem sum_any (w : World) (leaf : Bool) (a : Option Addr) (n cap : Nat) {l : List En} (h : IsE w (.slice a n cap) l) (hn : n = l.length) (hm : l.length ≤ 1000000) (hf : ∀ e ∈ l,e.key.length ≤ 80∧e.val.length ≤ 200) :
  Calls Tryd.prog 28 #[ndV leaf (.slice a n cap)] w fun e w'=>e = .returned (.int .i64 ((Nd.mk leaf l).sum : Int))∧Below w.heap.size w w':=by
 obtain ⟨w1,hw1⟩ : ∃ x,x = w.alloc (.cells #[.bool leaf,.slice a n cap] 69):=⟨_,rfl⟩;have hb1 : Below w.heap.size w w1:=by rw [hw1];exact nodeAlloc w _
 have n0 : w1.cell? ⟨w.heap.size,0,none⟩ = some (.bool leaf):=by rw [hw1,cell_of_row _ _ _ _ _ _ (heap_alloc_new w _)];rfl
 have n1 : w1.cell? ⟨w.heap.size,1,none⟩ = some (.slice a n cap):=by rw [hw1,cell_of_row _ _ _ _ _ _ (heap_alloc_new w _)];rfl
 have HE:=Hd (h.below hb1);have HB1:=Hd hb1;have HW1:=Hd hw1;have HN:=Hd hn;have HF:=Hd hf;have hm2 : n ≤ 1000000:=by omega
 have HC:=Hd (And.intro n0 n1);rw [hw1] at n0 n1;clear h hb1 hw1 hn hf hm;go_enter Tryd.func28,Tryd.ntmps28;go_wp2_with fail;rw [← HW1.out];clear n0 n1;go_loopw [3,8] (fun s y wr=>∃ k : Nat,k ≤ n∧y = .int .i64 (k : Int)∧s = .int .i64 (sumFrom leaf 0 (l.take k) : Int)∧Below w1.heap.size w1 wr) (fun _ y _=>n - (intOf y).toNat)
 case atStart=>exact ⟨0,Nat.zero_le _,rfl,by simp [sumFrom],Below.refl _ _⟩
 case round =>
  obtain ⟨k,hk,rfl,rfl,hbr⟩:=hrel;have m0:=cells_below hbr _ _ HC.out.1
  have m1:=cells_below hbr _ _ HC.out.2;have HBR:=Hd hbr;clear hbr;by_cases hlt : k < n
  ·have hd : decide ((k : Int) < (n : Int)) = true:=decide_eq_true (by omega)
   have hkl : k < l.length:=by have:=HN.out;omega
   have HSZ:=Hd (size_any wr leaf a n cap (HE.out.below HBR.out) HN.out k hkl (by have:=HN.out;omega) HF.out);have hst:=sumFrom_take leaf l k hkl;have hs1:=sumFrom_le leaf (l.take k) 0 fun e he=>HF.out e (List.mem_of_mem_take he);have hs2:=En.size_le leaf k l[k] (HF.out _ (List.getElem_mem hkl));rw [List.length_take,Nat.min_eq_left (by omega)] at hs1;have HST:=Hd hst;clear hst;generalize sumFrom leaf 0 (l.take k) = S at *;generalize l[k].size leaf k = z at *;have hsw : IntKind.i64.wrap ((S : Int) + (z : Int)) = ((S + z : Nat) : Int):=by rw [IntWalk.i64_in _ (by omega)];omega
   go_wp2_with fail;refine HSZ.out.mono ?_;rintro e w3 ⟨rfl,hb3⟩;have HB3:=Hd (HBR.out.trans (hb3.mono HBR.out.size))
   clear hb3;go_wp2_with fail;go_roundw
   case rel=>exact ⟨k + 1,hlt,by go_num,by rw [HST.out];simp,HB3.out⟩
   case measure=>simp [intOf];omega
  ·obtain rfl : k = n:=by omega
   have hd : decide ((k : Int) < (k : Int)) = false:=by simp
   have HS : Hid (sumFrom leaf 0 (l.take k) = (Nd.mk leaf l).sum):=Hd (by rw [HN.out,List.take_length];rfl);rw [HS.out];have HBB:=Hd (HB1.out.trans (HBR.out.mono HB1.out.size));go_wp2_with fail;go_ret;exact ⟨rfl,HBB.out⟩
end
section
open Go.RowKit
abbrev ndO (leaf : Bool) (v : Value) : Obj:=.cells #[.bool leaf,v] 69 (0,0)
abbrev enO (e : En) : Obj:=.cells #[.string ⟨e.key.toArray⟩,.string ⟨e.val.toArray⟩,.int .i64 e.kid] 75 (0,0)
theorem info_node : (Tryd.prog.info? 69).map (·.size) = some 2:=by kernel_rfl
theorem nd_cells {w : World} {g : Nat} {leaf : Bool} {v : Value} (h : w.heap[g]? = some (ndO leaf v)) : w.cell? ⟨g,0,none⟩ = some (.bool leaf)∧w.cell? ⟨g,1,none⟩ = some v:=by
 refine ⟨?_,?_⟩ <;> · rw [cell_of_row _ _ _ _ _ _ h];rfl
theorem en_cells {w : World} {g : Nat} {e : En} (h : w.heap[g]? = some (enO e)) : w.cell? ⟨g,0,none⟩ = some (.string ⟨e.key.toArray⟩)∧w.cell? ⟨g,1,none⟩ = some (.string ⟨e.val.toArray⟩)∧w.cell? ⟨g,2,none⟩ = some (.int .i64 e.kid):=by
 refine ⟨?_,?_,?_⟩ <;> · rw [cell_of_row _ _ _ _ _ _ h];rfl
theorem nd_load {w : World} {g : Nat} {leaf : Bool} {v : Value} (h : w.heap[g]? = some (ndO leaf v)) : (loadVar 69 ⟨g,0,none⟩).run Tryd.prog w = .ok (ndV leaf v) w :=
 run_loadVar_row w g _ _ _ (0,0) _ h Tryd.underlying69 rfl (by rw [info_node];rfl)
theorem results_cell_one {P : Program} {fn : Func} {tmps : Array Value} {a : Tmp} {t : TypeId} {p : Addr} {v : Value} {w : World} {b : Tmp} (hr : fn.results = #[.cell a t,.tmp b]) (ha : tmps.getD a undef = .pointer (some p)) (hv : (loadVar t p).run P w = .ok v w) :
  (results fn tmps).run P w = .ok (.tuple #[v,tmps.getD b undef]) w:=by
 unfold results;simp only [hr,List.mapM_toArray,List.mapM_cons,List.mapM_nil,ha,asAddr,Sem.run_bind,Sem.run_pure,Result.andThen_ok,hv,bind_assoc,pure_bind,Sem.run_map];rfl
theorem IsE.one {w : World} {g : Nat} {e : En} (h : w.heap[g]? = some (enO e)) : IsE w (.slice (some ⟨g,0,none⟩) 1 1) [e]:=by
 obtain ⟨c0,c1,c2⟩:=en_cells h;refine ⟨_,1,rfl,Nat.le_refl _,by simp [maxLen],fun e=>(by cases e),fun x hx=>?_⟩;simp only [Option.some.injEq] at hx;subst hx;refine ⟨fun _=>rfl,fun i hi=>?_⟩;obtain rfl : i = 0:=by simpa using hi
 exact ⟨c0,c1,c2⟩
theorem bytesLess_dec : ∀ (x y : List UInt8),Op.bytesLess x y = decide (x < y)
 | [],[]=>by simp [Op.bytesLess]
 | _ :: _,[]=>by simp [Op.bytesLess]
 | [],_ :: _=>by simp [Op.bytesLess]
 | a :: x,b :: y=>by
  rw [Op.bytesLess,bytesLess_dec x y];simp only [List.cons_lt_cons_iff]
  by_cases h1 : a < b <;> by_cases h2 : a = b <;> by_cases h3 : x < y <;> simp [h1,h2,h3]
theorem leq_fits (a b : List UInt8) : (Op.bytesLess a b || a == b) = !decide (b < a):=by
 rw [bytesLess_dec]
 cases h : decide (b < a) with
 | true =>
  have h1 : b < a:=of_decide_eq_true h;have h2 : ¬ a < b:=List.lt_asymm h1;have h3 : a ≠ b:=fun e=>List.lt_irrefl _ (e ▸ h1);simp [h2,h3]
 | false =>
  have h1 : ¬ b < a:=of_decide_eq_false h;rcases List.le_iff_lt_or_eq.1 (List.not_lt.1 h1) with h2 | h2
  ·simp [h2]
  ·simp [h2]
def ReadNEnd (w : World) (bs : List UInt8) (e : Ending) (w' : World) : Prop:=∃ leaf v,e = .returned (.tuple #[ndV leaf v,.bool (readN bs).isSome])∧Below w.heap.size w w'∧(∃ a k c,v = .slice a k c)∧∀ n,readN bs = some n → n.leaf = leaf∧MineN w.heap.size w' v n.l
structure RdI (w wr : World) (lf : Bool) (bs : List UInt8) (i at_ : Nat) (v : Value) (l : List En) : Prop where
 below : Below w.heap.size w wr
 r : wr.heap[w.heap.size]? = some (ndO false (.slice none 0 0))
 nd : wr.heap[w.heap.size + 1]? = some (ndO lf v)
 a : wr.heap[w.heap.size + 2]? = some (intO at_)
 own : MineN (w.heap.size + 3) wr v l
 len : l.length = i
theorem MineN.low {B B' : Nat} {w : World} {v : Value} {l : List En} (h : MineN B w v l) (hb : B' ≤ B) : MineN B' w v l:=by
 obtain ⟨h1,h2⟩:=h;refine ⟨h1,?_⟩;rcases h2 with h2 | ⟨g,cap,cur,hv,hg,r⟩
 ·exact .inl h2
 ·exact .inr ⟨g,cap,cur,hv,Nat.le_trans hb hg,r⟩
section
variable {w wr : World} {lf : Bool} {bs : List UInt8} {i at_ : Nat} {v : Value} {l : List En}
theorem RdI.store (h : RdI w wr lf bs i at_ v l) : (loadVar 69 ⟨w.heap.size,0,none⟩).run Tryd.prog ((wr.setCell ⟨w.heap.size,0,none⟩ (.bool lf)).setCell ⟨w.heap.size,1,none⟩ v) = .ok (ndV lf v) ((wr.setCell ⟨w.heap.size,0,none⟩ (.bool lf)).setCell ⟨w.heap.size,1,none⟩ v) ∧
  Below w.heap.size w ((wr.setCell ⟨w.heap.size,0,none⟩ (.bool lf)).setCell ⟨w.heap.size,1,none⟩ v)∧MineN w.heap.size ((wr.setCell ⟨w.heap.size,0,none⟩ (.bool lf)).setCell ⟨w.heap.size,1,none⟩ v) v l:=by
 have ht:=(turned_one wr w.heap.size 0 (.bool lf)).trans (turned_one _ w.heap.size 1 v);exact ⟨nd_load (head_setCell (head_setCell h.r (i:=0) (.bool lf)) (i:=1) v),h.below.trans (ht.below (B:=w.heap.size) h.below.size fun k hk=>by omega),(h.own.keep fun k h1 h2=>ht.block k h2 (by omega)).low (by omega)⟩
theorem RdI.slice (h : RdI w wr lf bs i at_ v l) : ∃ a k c,v = .slice a k c:=by obtain ⟨a,c,hv,_⟩:=h.own.isE.form;exact ⟨a,_,c,hv⟩
theorem RdI.no (h : RdI w wr lf bs i at_ v l) (hn : readN bs = none) : ReadNEnd w bs (.returned (.tuple #[ndV lf v,.bool false])) ((wr.setCell ⟨w.heap.size,0,none⟩ (.bool lf)).setCell ⟨w.heap.size,1,none⟩ v) :=
 ⟨lf,v,by rw [hn];rfl,h.store.2.1,h.slice,fun n e=>(by rw [hn] at e;cases e)⟩
theorem RdI.yes (h : RdI w wr lf bs i at_ v l) (hn : readN bs = some ⟨lf,l⟩) : ReadNEnd w bs (.returned (.tuple #[ndV lf v,.bool true])) ((wr.setCell ⟨w.heap.size,0,none⟩ (.bool lf)).setCell ⟨w.heap.size,1,none⟩ v) :=
 ⟨lf,v,by rw [hn];rfl,h.store.2.1,h.slice,fun n e=>by
  rw [hn] at e;cases e
  exact ⟨rfl,h.store.2.2⟩⟩
theorem RdI.other {T : Nat → Prop} {W : World} {at2 : Nat} (h : RdI w wr lf bs i at_ v l) (ht : Turned T wr W) (hT : ∀ k,T k → w.heap.size + 2 ≤ k∧v.ownBlock ≠ some k) (ha : W.heap[w.heap.size + 2]? = some (intO at2)) : RdI w W lf bs i at2 v l :=
  ⟨h.below.trans (ht.below (B:=w.heap.size) h.below.size fun k hk=>by have:=(hT k hk).1;omega),(ht.block _ (lt_of_heap h.r) fun e=>by have:=(hT _ e).1;omega).trans h.r,(ht.block _ (lt_of_heap h.nd) fun e=>by have:=(hT _ e).1;omega).trans h.nd,ha,
   h.own.keep1 fun k hk=>ht.block k (h.own.lt hk).2 fun e=>(hT k e).2 hk,h.len⟩
theorem RdI.grown {wg : World} {v' : Value} {e : En} (h : RdI w wr lf bs i at_ v l) (hg : wr.grownBy wg v.ownBlock) (hm : MineN (w.heap.size + 3) wg v' (l ++ [e])) : RdI w (wg.setCell ⟨w.heap.size + 1,1,none⟩ v') lf bs (i + 1) at_ v' (l ++ [e]):=by have ht : Turned (fun k=>v.ownBlock = some k) wr wg:=⟨hg.os,hg.tape,hg.output,hg.size,fun k hk hn=>hg.block k hk fun e=>hn e.symm⟩;have hv : ∀ k,v.ownBlock = some k → w.heap.size + 3 ≤ k:=fun k hk=>(h.own.lt hk).1;have t2:=turned_one wg (w.heap.size + 1) 1 v';have k1 : ∀ {o : Obj} (k : Nat),k < w.heap.size + 3 → wr.heap[k]? = some o → wg.heap[k]? = some o:=fun k hk ho=>(ht.block k (lt_of_heap ho) fun e=>by have:=hv k e;omega).trans ho;have b1 : Below w.heap.size w wg:=h.below.trans (ht.below (B:=w.heap.size) h.below.size fun k hk=>by have:=hv k hk;omega);have n1:=k1 _ (by omega) h.nd;refine ⟨b1.trans (t2.below (B:=w.heap.size) b1.size fun k hk=>by omega),(t2.block _ (lt_of_heap (k1 _ (by omega) h.r)) (by omega)).trans (k1 _ (by omega) h.r),?_,(t2.block _ (lt_of_heap (k1 _ (by omega) h.a)) (by omega)).trans (k1 _ (by omega) h.a),hm.keep fun k h1 h2=>t2.block k h2 (by omega),by rw [List.length_append,h.len];rfl⟩;exact head_setCell n1 (i:=1) v'
end
theorem textB_le {bs : List UInt8} {at_ most : Nat} {x : List UInt8 × Nat} (h : textB bs at_ most = some x) : x.2 ≤ bs.length∧x.1.length ≤ most:=by
 unfold textB at h;split at h
 ·cases h
 split at h
 ·cases h
 split at h
 ·cases h
 ·simp only [Option.some.injEq] at h;subst h;refine ⟨by dsimp only;omega,?_⟩;dsimp only;rw [List.length_take,List.length_drop];omega
set_option maxHeartbeats 16000000 in
theorem bread_any (w : World) (a : Option Addr) (n cap : Nat) (bs : List UInt8) (h : IsB w (.slice a n cap) bs) (hn : n = bs.length) (hn3 : 3 ≤ n) (hn2 : n ≤ 1000) :
  Calls Tryd.prog 62 #[.slice a n cap] w (ReadNEnd w bs):=by
 obtain ⟨b,o,rfl,hcell⟩ : ∃ b o,a = some ⟨b,o,none⟩∧∀ i,i < n → w.cell? ⟨b,o + i,none⟩ = some (.int .u8 ((bs.getD i 0).toNat : Int)):=by
  obtain ⟨a',cap',hv,hl,hm',hnil,hc'⟩:=h;simp only [Value.slice.injEq] at hv;obtain ⟨rfl,_,rfl⟩:=hv
  cases a with
  | none=>have:=hnil rfl;omega
  | some y =>
   obtain ⟨b,o,sp⟩:=y;obtain ⟨hs,hc'⟩:=hc' _ rfl;obtain rfl : sp = none:=hs (by omega);refine ⟨b,o,rfl,fun i hi=>?_⟩;rw [List.getD_eq_getElem?_getD,List.getElem?_eq_getElem (by omega)];exact hc' i (by omega)
 have d0:=hcell 0 (by omega);have d1:=hcell 1 (by omega);have d2:=hcell 2 (by omega);rw [Nat.add_zero] at d0;have hrm : readM bs = (bs.getD 1 0).toNat + (bs.getD 2 0).toNat * 256:=rfl;have HRN : Hid (readN bs = if (bs.getD 0 0 ≠ 1∧bs.getD 0 0 ≠ 2) ∨ readM bs = 0 then none else (readGo (bs.getD 0 0 == 1) bs (readM bs) 3 []).map (Nd.mk (bs.getD 0 0 == 1))):=Hd rfl
 have HCELL:=Hd hcell;have HI:=Hd h;have HN:=Hd hn;clear h hcell hn;generalize readM bs = M at *;generalize bs.getD 0 0 = x0 at *;generalize bs.getD 1 0 = x1 at *;generalize bs.getD 2 0 = x2 at *;have hb256:=x1.toNat_lt;have hc256:=x2.toNat_lt;have ha256:=x0.toNat_lt;have hMle : M ≤ 65535:=by omega
 have e1 : IntKind.i64.wrap (x1.toNat : Int) = (x1.toNat : Int):=IntWalk.i64_in _ (by omega);have e2 : IntKind.i64.wrap (x2.toNat : Int) = (x2.toNat : Int):=IntWalk.i64_in _ (by omega);have HM:=Hd hrm;have HML:=Hd hMle;clear hrm hMle;obtain ⟨W1,hW1⟩ : ∃ x,x = w.alloc (.cells #[.bool false,.slice none 0 0] 69):=⟨_,rfl⟩;have hb1 : Below w.heap.size w W1:=by rw [hW1];exact nodeAlloc w _
 have hr1 : W1.heap[w.heap.size]? = some (ndO false (.slice none 0 0)):=by rw [hW1];exact heap_alloc_new w _
 have hs1 : W1.heap.size = w.heap.size + 1:=by rw [hW1];simp
 have HW1:=Hd hW1;have p0:=cells_below hb1 _ _ d0;have p1:=cells_below hb1 _ _ d1;have p2:=cells_below hb1 _ _ d2;obtain ⟨lf,hlf⟩ : ∃ lf : Bool,lf = ((x0.toNat : Int) == 1):=⟨_,rfl⟩
 have hlf2 : (x0 == 1) = lf:=by
  rw [hlf]
  cases hx : (x0 == 1) with
  | true =>
   have : x0 = 1:=by simpa using hx
   rw [this];rfl
  | false =>
   symm;rw [beq_eq_false_iff_ne];intro e;have e1 : x0.toNat = 1:=by omega
   have : x0 = 1:=UInt8.toNat_inj.1 e1;rw [this] at hx;simp at hx
 rw [hlf2] at HRN;obtain ⟨W2,hW2⟩ : ∃ x,x = W1.alloc (.cells #[.bool lf,.slice none 0 0] 69):=⟨_,rfl⟩;have hb2 : Below W1.heap.size W1 W2:=by rw [hW2];exact nodeAlloc W1 _
 have hr2:=(hb2.block _ (lt_of_heap hr1)).trans hr1;have hn2' : W2.heap[w.heap.size + 1]? = some (ndO lf (.slice none 0 0)):=by rw [hW2,← hs1];exact heap_alloc_new W1 _
 have hs2 : W2.heap.size = w.heap.size + 2:=by rw [hW2];simp;omega
 have HB2:=Hd (hb1.trans (hb2.mono hb1.size));have HW2:=Hd hW2;have q0:=cells_below hb2 _ _ p0;have q1:=cells_below hb2 _ _ p1;have q2:=cells_below hb2 _ _ p2;have HR2:=Hd hr2;have HN2:=Hd hn2';have HS2:=Hd hs2;have HLF:=Hd hlf;clear hr1 hr2 hn2' hs2 hs1 hb1 hb2 hW2;subst hW1;go_enter Tryd.func62,Tryd.ntmps62;go_wp2_with fail;rw [← HLF.out,← HW2.out];clear p0 p1 p2 d0 d1 d2 hlf hlf2;have q0' : W2.drew.cell? ⟨b,o,none⟩ = some (.int .u8 (x0.toNat : Int)):=q0;have q1' : W2.drew.cell? ⟨b,o + 1,none⟩ = some (.int .u8 (x1.toNat : Int)):=q1;have q2' : W2.drew.cell? ⟨b,o + 2,none⟩ = some (.int .u8 (x2.toNat : Int)):=q2;have hr3 : W2.drew.heap[w.heap.size]? = some (ndO false (.slice none 0 0)):=HR2.out;have hn3' : W2.drew.heap[w.heap.size + 1]? = some (ndO lf (.slice none 0 0)):=HN2.out;have hs3 : W2.drew.heap.size = w.heap.size + 2:=HS2.out;have HB3 : Hid (Below w.heap.size w W2.drew):=Hd HB2.out.drew;have c1 : (1 : Int) < (n : Int):=by omega
 have c2 : (2 : Int) < (n : Int):=by omega
 have c0 : (0 : Int) < (n : Int):=by omega
 have hsh : IntKind.i64.wrap ((x2.toNat : Int) * 256) = (x2.toNat : Int) * 256:=IntWalk.i64_in _ (by omega);have hsh2 : IntKind.i64.wrap ((x1.toNat : Int) + (x2.toNat : Int) * 256) = (M : Int):=by rw [IntWalk.i64_in _ (by omega),HM.out];omega
 go_region;generalize W2.drew = W3 at *;obtain ⟨m0,m1⟩:=nd_cells hn3';by_cases hbad : (x0 ≠ 1∧x0 ≠ 2) ∨ M = 0
 ·have HNO : Hid (readN bs = none):=Hd (by rw [HRN.out,if_pos hbad])
  have hcs : (((x0.toNat : Int) != 1) = true∧((x0.toNat : Int) != 2) = true) ∨ (((x0.toNat : Int) != 1) = false∧((M : Int) == 0) = true) ∨ (((x0.toNat : Int) != 1) = true∧((x0.toNat : Int) != 2) = false∧((M : Int) == 0) = true):=by
   by_cases z1 : x0.toNat = 1
   ·have hM0 : M = 0:=by
     rcases hbad with h | h
     ·exact absurd (UInt8.toNat_inj.1 z1) h.1
     ·exact h
    exact .inr (.inl ⟨by simp [z1],by simp [hM0]⟩)
   ·have z1' : ((x0.toNat : Int) != 1) = true:=by rw [bne_iff_ne];omega
    by_cases z2 : x0.toNat = 2
    ·have hM0 : M = 0:=by
      rcases hbad with h | h
      ·exact absurd (UInt8.toNat_inj.1 z2) h.2
      ·exact h
     exact .inr (.inr ⟨z1',by simp [z2],by simp [hM0]⟩)
    ·exact .inl ⟨z1',by rw [bne_iff_ne];omega⟩
  clear hbad;obtain ⟨r0,r1⟩:=nd_cells hr3;have f0:=frozen_p hr3 0
  have f1:=frozen_p hr3 1;have hh:=head_setCell (head_setCell hr3 (i:=0) (.bool lf)) (i:=1) (.slice none 0 0);have ht:=(turned_one W3 w.heap.size 0 (.bool lf)).trans (turned_one _ w.heap.size 1 (.slice none 0 0));have HRT : Hid (ReadNEnd w bs (.returned (.tuple #[ndV lf (.slice none 0 0),.bool false])) ((W3.setCell ⟨w.heap.size,0,none⟩ (.bool lf)).setCell ⟨w.heap.size,1,none⟩ (.slice none 0 0))):=Hd ⟨lf,_,by rw [HNO.out];rfl,HB3.out.trans (ht.below (B:=w.heap.size) HB3.out.size fun k hk=>by omega),⟨_,_,_,rfl⟩,fun n e=>(by rw [HNO.out] at e;cases e)⟩;have HLD:=Hd (nd_load hh);clear hh ht;rcases hcs with ⟨z1,z2⟩ | ⟨z1,z2⟩ | ⟨z1,z2,z3⟩
  all_goals
   go_wp2_with fail
   exact bodyPost_ret (v:=.tuple #[ndV lf (.slice none 0 0),.bool false]) (results_cell_one Tryd.results62 rfl HLD.out) rfl HRT.out
 have hM0 : M ≠ 0:=fun e=>hbad (.inr e)
 have hx12 : x0 = 1 ∨ x0 = 2:=by
  by_cases z1 : x0 = 1
  ·exact .inl z1
  ·by_cases z2 : x0 = 2
   ·exact .inr z2
   ·exact absurd (.inl ⟨z1,z2⟩) hbad
 have HYES : Hid (readN bs = (readGo lf bs M 3 []).map (Nd.mk lf)):=Hd (by rw [HRN.out,if_neg hbad]);have zM : ((M : Int) == 0) = false:=by rw [beq_eq_false_iff_ne];omega
 obtain ⟨W4,hW4⟩ : ∃ x,x = W3.alloc (.cells #[.int .i64 3] 3):=⟨_,rfl⟩;have hb4 : Below W3.heap.size W3 W4:=by rw [hW4];exact nodeAlloc W3 _
 have hI4 : RdI w W4 lf bs 0 3 (.slice none 0 0) [] :=
  ⟨HB3.out.trans (hb4.mono HB3.out.size),(hb4.block _ (lt_of_heap hr3)).trans hr3,(hb4.block _ (lt_of_heap hn3')).trans hn3',by rw [hW4,← hs3];exact heap_alloc_new W3 _,MineN.nil _ _,rfl⟩
 have HI4:=Hd hI4;have HW4:=Hd hW4;have HML2:=Hd HML.out;clear hI4 hb4 hbad hW4
 cases lf with
 | true =>
  have hx1 : x0 = 1:=by
   rcases hx12 with h | h
   ·exact h
   ·have:=HLF.out;rw [h] at this;cases this
  have z1 : ((x0.toNat : Int) != 1) = false:=by rw [hx1];rfl
  clear hx12 hx1;go_wp2_with fail;rw [← HW4.out];clear m0 m1 q0' q1' q2' hr3 hn3' hs3;go_loopw [41] (fun y wr=>∃ (i at_ : Nat) (v : Value) (l : List En),i ≤ M∧y = .int .i64 (i : Int)∧RdI w wr true bs i at_ v l∧readGo true bs M 3 [] = readGo true bs (M - i) at_ l∧at_ ≤ bs.length) (fun y _=>M - (intOf y).toNat)
  case atStart=>exact ⟨0,3,_,_,Nat.zero_le _,rfl,HI4.out,rfl,by have:=HN.out;omega⟩
  case round =>
   clear HI4;obtain ⟨i,at_,v,l,hi,rfl,hI,hgo,hle⟩:=hrel;obtain ⟨av,cv,hv,_,_⟩:=hI.own.isE.form;rw [hI.len] at hv;subst hv;by_cases hlt : i < M
   case neg =>
    obtain rfl : i = M:=by omega
    have hd : decide ((i : Int) < (i : Int)) = false:=by simp
    rw [Nat.sub_self] at hgo;have hy : readN bs = some ⟨true,l⟩:=by rw [HYES.out,hgo];rfl
    obtain ⟨m0,m1⟩:=nd_cells hI.nd;obtain ⟨r0,r1⟩:=nd_cells hI.r;have f0:=frozen_p hI.r 0
    have f1:=frozen_p hI.r 1;have HLD:=Hd hI.store.1;have HRT:=Hd (hI.yes hy);clear hI hgo hy;go_wp2_with fail;exact bodyPost_ret (v:=.tuple #[ndV true (.slice av i cv),.bool true]) (results_cell_one Tryd.results62 rfl HLD.out) rfl HRT.out
   case pos =>
    have hd : decide ((i : Int) < (M : Int)) = true:=decide_eq_true (by omega);obtain ⟨W5,hW5⟩ : ∃ x,x = wr.alloc (.cells #[.string ⟨#[]⟩,.string ⟨#[]⟩,.int .i64 0] 75):=⟨_,rfl⟩;have hb5 : Below wr.heap.size wr W5:=by rw [hW5];exact nodeAlloc wr _
    have hE5 : W5.heap[wr.heap.size]? = some (enO ⟨[],[],0⟩):=by rw [hW5];exact heap_alloc_new wr _
    have hI5 : RdI w W5 true bs i at_ (.slice av i cv) l:=hI.other (Turned.of_below hb5 (T:=fun _=>False)) (fun k hk=>hk.elim) ((hb5.block _ (lt_of_heap hI.a)).trans hI.a);have HW5:=Hd hW5;obtain ⟨m0,m1⟩:=nd_cells hI5.nd;rw [hW5] at m0 m1;have htx:=text_any W5 (some ⟨b,o,none⟩) n cap bs (HI.out.below hI5.below) HN.out (by omega) (w.heap.size + 2) at_ hI5.a (by have:=HN.out;omega) 80 (by omega);rw [show ((80 : Nat) : Int) = 80 from rfl] at htx
    have HTX:=Hd htx;have HI5:=Hd hI5;have HE5:=Hd hE5;have hsz:=lt_of_heap hI.a;have HOWN : Hid (∀ k,(Value.slice av i cv).ownBlock = some k → w.heap.size + 3 ≤ k∧k < wr.heap.size):=Hd fun k hk=>hI.own.lt hk;have HGO:=Hd hgo;have HLE:=Hd hle;clear hI hb5 hE5 hI5 htx hgo hle;go_wp2_with fail;rw [← HW5.out];refine HTX.out.mono ?_;intro e W6 hend;obtain ⟨y,hy⟩ : ∃ y,y = textB bs at_ 80:=⟨_,rfl⟩;rw [← hy] at hend
    cases y with
    | none =>
     obtain ⟨rfl,t6,a6⟩:=hend;have hE6:=(t6.block _ (lt_of_heap HE5.out) (by omega)).trans HE5.out
     obtain ⟨j0,j1,j2⟩:=en_cells hE6;have g0:=frozen_p hE6 0
     have hI6:=HI5.out.other t6 (fun k hk=>⟨by omega,fun e=>by have:=(HOWN.out k e).1;omega⟩) a6
     have hno : readN bs = none:=by
      rw [HYES.out,HGO.out];obtain ⟨q,hq⟩ : ∃ q,M - i = q + 1:=⟨M - i - 1,by omega⟩;have hre : readE true bs l.length at_ = none:=by unfold readE readK;rw [if_pos (by rfl),← hy];rfl
      rw [hq,readGo,hre];rfl
     obtain ⟨W7,hW7⟩ : ∃ x,x = W6.setCell ⟨wr.heap.size,0,none⟩ (.string ⟨#[]⟩):=⟨_,rfl⟩;have t7 : Turned (fun x=>x = wr.heap.size) W6 W7:=by rw [hW7];exact turned_one W6 wr.heap.size 0 (.string ⟨#[]⟩)
     have a7:=(t7.block _ (lt_of_heap a6) (by omega)).trans a6;have hI7:=hI6.other t7 (fun k hk=>⟨by omega,fun e=>by have:=(HOWN.out k e).2;omega⟩) a7;have hI8:=hI7.other (Turned.refl (fun _=>False) W7).drew (fun k hk=>hk.elim) a7;have HI8:=Hd hI8;have HNO:=Hd hno;have HW7:=Hd hW7;clear HTX hI6 hI7 hI8 hno a6 a7 t6 t7 hy hW7;go_wp2_with fail;rw [← HW7.out];clear j0 j1 j2 g0;obtain ⟨n0,n1⟩:=nd_cells HI8.out.nd;obtain ⟨r0,r1⟩:=nd_cells HI8.out.r;have f0:=frozen_p HI8.out.r 0;have f1:=frozen_p HI8.out.r 1;have HLD:=Hd HI8.out.store.1;have HRT:=Hd (HI8.out.no HNO.out);go_upto_region 20 with fail;go_region;generalize W7.drew = W8 at *;go_wp2_with fail;exact bodyPost_ret (v:=.tuple #[ndV true (.slice av i cv),.bool false]) (results_cell_one Tryd.results62 rfl HLD.out) rfl HRT.out
    | some x =>
     obtain ⟨k1,at1⟩:=x;obtain ⟨rfl,t6,a6⟩:=hend;obtain ⟨hle1,hlk⟩:=textB_le hy.symm;have hE6:=(t6.block _ (lt_of_heap HE5.out) (by omega)).trans HE5.out
     obtain ⟨j0,j1,j2⟩:=en_cells hE6;have g0:=frozen_p hE6 0
     have hI6:=HI5.out.other t6 (fun k hk=>⟨by omega,fun e=>by have:=(HOWN.out k e).1;omega⟩) a6;obtain ⟨W7,hW7⟩ : ∃ x,x = W6.setCell ⟨wr.heap.size,0,none⟩ (.string ⟨k1.toArray⟩):=⟨_,rfl⟩;have t7 : Turned (fun x=>x = wr.heap.size) W6 W7:=by rw [hW7];exact turned_one W6 wr.heap.size 0 (.string ⟨k1.toArray⟩)
     have hE7 : W7.heap[wr.heap.size]? = some (enO ⟨k1,[],0⟩):=by rw [hW7];exact head_setCell hE6 (i:=0) (.string ⟨k1.toArray⟩)
     have a7:=(t7.block _ (lt_of_heap a6) (by omega)).trans a6;have hI7:=hI6.other t7 (fun k hk=>⟨by omega,fun e=>by have:=(HOWN.out k e).2;omega⟩) a7;have htx2:=text_any W7 (some ⟨b,o,none⟩) n cap bs (HI.out.below hI7.below) HN.out (by omega) (w.heap.size + 2) at1 a7 (by have:=HN.out;omega) 200 (by omega);rw [show ((200 : Nat) : Int) = 200 from rfl] at htx2
     have HTX2:=Hd htx2;have HI7:=Hd hI7;have HE7:=Hd hE7;have HY:=Hd hy;have HW7:=Hd hW7;obtain ⟨n0,n1⟩:=nd_cells hI7.nd;rw [hW7] at n0 n1;clear HTX hI6 hI7 a6 a7 t6 t7 hy hW7 hE6 hE7 htx2;go_wp2_with fail;rw [← HW7.out];clear j0 j1 j2 g0 n0 n1;refine HTX2.out.mono ?_;intro e W8 hend;obtain ⟨y,hy⟩ : ∃ y,y = textB bs at1 200:=⟨_,rfl⟩;rw [← hy] at hend
     cases y with
     | none =>
      obtain ⟨rfl,t8,a8⟩:=hend;have hE8:=(t8.block _ (lt_of_heap HE7.out) (by omega)).trans HE7.out
      obtain ⟨j0,j1,j2⟩:=en_cells hE8;have g1:=frozen_p hE8 1
      have hI8:=HI7.out.other t8 (fun k hk=>⟨by omega,fun e=>by have:=(HOWN.out k e).1;omega⟩) a8
      have hno : readN bs = none:=by
       rw [HYES.out,HGO.out];obtain ⟨q,hq⟩ : ∃ q,M - i = q + 1:=⟨M - i - 1,by omega⟩;have hre : readE true bs l.length at_ = none:=by unfold readE readK readV;rw [if_pos (by rfl),← HY.out];simp [← hy]
       rw [hq,readGo,hre];rfl
      obtain ⟨W9,hW9⟩ : ∃ x,x = W8.setCell ⟨wr.heap.size,1,none⟩ (.string ⟨#[]⟩):=⟨_,rfl⟩;have t9 : Turned (fun x=>x = wr.heap.size) W8 W9:=by rw [hW9];exact turned_one W8 wr.heap.size 1 (.string ⟨#[]⟩)
      have a9:=(t9.block _ (lt_of_heap a8) (by omega)).trans a8;have hI9:=hI8.other t9 (fun k hk=>⟨by omega,fun e=>by have:=(HOWN.out k e).2;omega⟩) a9;have hI10:=hI9.other (Turned.refl (fun _=>False) W9).drew (fun k hk=>hk.elim) a9;have HI10:=Hd hI10;have HNO:=Hd hno;have HW9:=Hd hW9;clear HTX2 hI8 hI9 hI10 hno a8 a9 t8 t9 hy hW9 hE8;go_wp2_with fail;rw [← HW9.out];clear j0 j1 j2 g1;obtain ⟨n0,n1⟩:=nd_cells HI10.out.nd;obtain ⟨r0,r1⟩:=nd_cells HI10.out.r;have f0:=frozen_p HI10.out.r 0;have f1:=frozen_p HI10.out.r 1;have HLD:=Hd HI10.out.store.1;have HRT:=Hd (HI10.out.no HNO.out);go_upto_region 20 with fail;go_region;generalize W9.drew = W10 at *;go_wp2_with fail;exact bodyPost_ret (v:=.tuple #[ndV true (.slice av i cv),.bool false]) (results_cell_one Tryd.results62 rfl HLD.out) rfl HRT.out
     | some x =>
      obtain ⟨v1,at2⟩:=x;obtain ⟨rfl,t8,a8⟩:=hend;obtain ⟨hle2,hlv⟩:=textB_le hy.symm;have hE8:=(t8.block _ (lt_of_heap HE7.out) (by omega)).trans HE7.out
      obtain ⟨j0,j1,j2⟩:=en_cells hE8;have g1:=frozen_p hE8 1
      have hI8:=HI7.out.other t8 (fun k hk=>⟨by omega,fun e=>by have:=(HOWN.out k e).1;omega⟩) a8;have hre : readE true bs l.length at_ = some (⟨k1,v1,0⟩,at2):=by unfold readE readK readV;rw [if_pos (by rfl),← HY.out];simp [← hy]
      obtain ⟨W9,hW9⟩ : ∃ x,x = W8.setCell ⟨wr.heap.size,1,none⟩ (.string ⟨v1.toArray⟩):=⟨_,rfl⟩;have t9 : Turned (fun x=>x = wr.heap.size) W8 W9:=by rw [hW9];exact turned_one W8 wr.heap.size 1 (.string ⟨v1.toArray⟩)
      have hE9 : W9.drew.heap[wr.heap.size]? = some (enO ⟨k1,v1,0⟩):=by rw [hW9];exact head_setCell hE8 (i:=1) (.string ⟨v1.toArray⟩)
      have a9:=(t9.block _ (lt_of_heap a8) (by omega)).trans a8;have hI9:=hI8.other t9 (fun k hk=>⟨by omega,fun e=>by have:=(HOWN.out k e).2;omega⟩) a9;have hI10:=hI9.other (Turned.refl (fun _=>False) W9).drew (fun k hk=>hk.elim) a9;have HI10:=Hd hI10;have HE9:=Hd hE9;have HRE:=Hd hre;have HW9:=Hd hW9;have HLE2:=Hd hle2;clear HTX2 hI8 hI9 hI10 a8 a9 t8 t9 hy hW9 hE8 hE9 hre hle2;go_wp2_with fail;rw [← HW9.out];clear j0 j1 j2 g1;obtain ⟨n0,n1⟩:=nd_cells HI10.out.nd;obtain ⟨e0,e1_,e2_⟩:=en_cells HE9.out
      have hgoS : fitsE true l ⟨k1,v1,0⟩ = true → readGo true bs M 3 [] = readGo true bs (M - (i + 1)) at2 (l ++ [⟨k1,v1,0⟩]):=fun hf=>by
       rw [HGO.out];obtain ⟨q,hq⟩ : ∃ q,M - i = q + 1:=⟨M - i - 1,by omega⟩;rw [hq,readGo,HRE.out,show M - (i + 1) = q by omega]
       simp only;rw [if_pos hf]
      have hgoN : fitsE true l ⟨k1,v1,0⟩ = false → readN bs = none:=fun hf=>by rw [HYES.out,HGO.out];obtain ⟨q,hq⟩ : ∃ q,M - i = q + 1:=⟨M - i - 1,by omega⟩;rw [hq,readGo,HRE.out];simp only;rw [if_neg (by simp [hf])];rfl
      have HGS:=Hd hgoS;have HGN:=Hd hgoN;clear hgoS hgoN;by_cases hi0 : i = 0
      ·have hl0 : l = []:=List.eq_nil_of_length_eq_zero (by rw [HI10.out.len];exact hi0)
       have HG2:=Hd (HGS.out (by rw [hl0];rfl));have hz1 : decide ((i : Int) > 0) = false:=decide_eq_false (by omega);have hz2 : decide (0 < (i : Int)) = false:=decide_eq_false (by omega);have hz3 : decide (0 < i) = false:=decide_eq_false (by omega);have hz4 : ¬ (0 < i):=by omega
       clear hl0 hi0;go_upto_region 20 with fail;go_region;generalize W9.drew = W10 at *;have hI10:=HI10.out
       have hsN : w.heap.size + 1 < W10.heap.size:=lt_of_heap hI10.nd;obtain ⟨W11,hW11⟩ : ∃ x,x = W10.alloc (.cells #[.string ⟨k1.toArray⟩,.string ⟨v1.toArray⟩,.int .i64 0] 75):=⟨_,rfl⟩;have hb11 : Below W10.heap.size W10 W11:=by rw [hW11];exact nodeAlloc W10 _
       have hU : W11.heap[W10.heap.size]? = some (enO ⟨k1,v1,0⟩):=by rw [hW11];exact heap_alloc_new W10 _
       have hI11:=hI10.other (Turned.of_below hb11 (T:=fun _=>False)) (fun k hk=>hk.elim) ((hb11.block _ (lt_of_heap hI10.a)).trans hI10.a);obtain ⟨v2,W12,hr,hm12,hg12,_⟩:=hI11.own.app (IsE.one hU) (by have:=lt_of_heap hU;have:=lt_of_heap hI11.a;omega) (by have:=hI11.len;have:=HML2.out;simp only [List.length_singleton];omega);have hI13:=hI11.grown hg12 hm12;have hnv : ∀ k,(Value.slice av i cv).ownBlock = some k → w.heap.size + 3 ≤ k:=fun k hk=>(hI11.own.lt hk).1;have hN12 : W12.heap[w.heap.size + 1]? = some (ndO true (.slice av i cv)):=(hg12.block _ (lt_of_heap hI11.nd) fun e=>by have:=hnv _ e.symm;omega).trans hI11.nd;obtain ⟨y0,y1⟩:=nd_cells hN12;have fN:=frozen_p hN12 1;obtain ⟨a2,c2_,hv2,_,_⟩:=hm12.isE.form;rw [List.length_append,hI11.len,List.length_singleton] at hv2;subst hv2;rw [hW11] at hr;have HI13:=Hd hI13;clear hI10 hb11 hU hI11 hW11 hm12 hg12 hI13 hnv hN12;go_wp2_with (at_builtin;refine wpList_append_run rfl (.tmp 120) (.tmp 122) 67 67 rfl _ _ _ rfl rfl hr ?_;clear hr);go_roundw
       case rel=>exact ⟨i + 1,at2,_,_,hlt,by go_num,HI13.out,HG2.out,HLE2.out⟩
       case measure=>simp [intOf];omega
      ·obtain ⟨i',hi'⟩ : ∃ i',i = i' + 1:=⟨i - 1,by omega⟩
       have hlt' : i' < l.length:=by rw [HI10.out.len];omega
       obtain ⟨gl,ol,hav,z0,z1_,z2_⟩:=HI10.out.own.isE.at i' hlt';subst hav;have hlast : l.getLast? = some l[i']:=by rw [List.getLast?_eq_getElem?,HI10.out.len,show i - 1 = i' by omega,List.getElem?_eq_getElem hlt']
       have hMM:=HML2.out;have hsub : IntKind.i64.wrap ((i : Int) - 1) = (i' : Int):=by rw [IntWalk.i64_in _ (by omega)];omega
       have hz1 : decide ((i : Int) > 0) = true:=decide_eq_true (by omega);have hz2 : decide (0 < (i : Int)) = true:=decide_eq_true (by omega);have hz3 : decide (0 < i) = true:=decide_eq_true (by omega);have hz4 : 0 < i:=by omega
       have hz5 : (i' : Int) < (i : Int):=by omega
       have hz6 : (0 : Int) ≤ (i' : Int):=by omega
       have hfit : fitsE true l ⟨k1,v1,0⟩ = decide (l[i'].key < k1):=by unfold fitsE;rw [hlast];rfl
       have hcmp:=leq_fits k1 l[i'].key;rw [← hfit] at hcmp;have HI':=Hd hi';obtain ⟨lk,hlk⟩ : ∃ lk,lk = l[i'].key:=⟨_,rfl⟩;rw [← hlk] at z0 hcmp;clear z1_ z2_ hfit hlast hlk hMM;clear hlt' hi' hi0
       cases hf : fitsE true l ⟨k1,v1,0⟩ with
       | true =>
        have HG2:=Hd (HGS.out hf);rw [hf] at hcmp;clear hf;go_upto_region 20 with fail;go_region;generalize W9.drew = W10 at *;have hI10:=HI10.out;have hsN : w.heap.size + 1 < W10.heap.size:=lt_of_heap hI10.nd;obtain ⟨W11,hW11⟩ : ∃ x,x = W10.alloc (.cells #[.string ⟨k1.toArray⟩,.string ⟨v1.toArray⟩,.int .i64 0] 75):=⟨_,rfl⟩;have hb11 : Below W10.heap.size W10 W11:=by rw [hW11];exact nodeAlloc W10 _
        have hU : W11.heap[W10.heap.size]? = some (enO ⟨k1,v1,0⟩):=by rw [hW11];exact heap_alloc_new W10 _
        have hI11:=hI10.other (Turned.of_below hb11 (T:=fun _=>False)) (fun k hk=>hk.elim) ((hb11.block _ (lt_of_heap hI10.a)).trans hI10.a);obtain ⟨v2,W12,hr,hm12,hg12,_⟩:=hI11.own.app (IsE.one hU) (by have:=lt_of_heap hU;have:=lt_of_heap hI11.a;omega) (by have:=hI11.len;have:=HML2.out;simp only [List.length_singleton];omega);have hI13:=hI11.grown hg12 hm12;have hnv : ∀ k,(Value.slice (some ⟨gl,ol,none⟩) i cv).ownBlock = some k → w.heap.size + 3 ≤ k:=fun k hk=>(hI11.own.lt hk).1;have hN12 : W12.heap[w.heap.size + 1]? = some (ndO true (.slice (some ⟨gl,ol,none⟩) i cv)):=(hg12.block _ (lt_of_heap hI11.nd) fun e=>by have:=hnv _ e.symm;omega).trans hI11.nd;obtain ⟨y0,y1⟩:=nd_cells hN12;have fN:=frozen_p hN12 1;obtain ⟨a2,c2_,hv2,_,_⟩:=hm12.isE.form;rw [List.length_append,hI11.len,List.length_singleton] at hv2;subst hv2;rw [hW11] at hr;have HI13:=Hd hI13;clear hI10 hb11 hU hI11 hW11 hm12 hg12 hI13 hnv hN12;have hMM:=HML2.out;go_wp2_with (at_builtin;refine wpList_append_run rfl (.tmp 120) (.tmp 122) 67 67 rfl _ _ _ rfl rfl hr ?_;clear hr);go_roundw
        case rel=>exact ⟨i + 1,at2,_,_,hlt,by go_num,HI13.out,HG2.out,HLE2.out⟩
        case measure=>simp [intOf];omega
       | false =>
        have HNO:=Hd (HGN.out hf);rw [hf] at hcmp;clear hf;obtain ⟨r0,r1⟩:=nd_cells HI10.out.r;have f0:=frozen_p HI10.out.r 0;have f1:=frozen_p HI10.out.r 1;have HLD:=Hd HI10.out.store.1;have HRT:=Hd (HI10.out.no HNO.out);go_upto_region 20 with fail;go_region;generalize W9.drew = W10 at *;go_wp2_with fail;exact bodyPost_ret (v:=.tuple #[ndV true (.slice (some ⟨gl,ol,none⟩) i cv),.bool false]) (results_cell_one Tryd.results62 rfl HLD.out) rfl HRT.out
 | false =>
  have hx2 : x0 = 2:=by
   rcases hx12 with h | h
   ·have:=HLF.out;rw [h] at this;cases this
   ·exact h
  have z1 : ((x0.toNat : Int) != 1) = true:=by rw [hx2];rfl
  have z2 : ((x0.toNat : Int) != 2) = false:=by rw [hx2];rfl
  clear hx12 hx2;go_wp2_with fail;rw [← HW4.out];clear m0 m1 q0' q1' q2' hr3 hn3' hs3;go_loopw [41] (fun y wr=>∃ (i at_ : Nat) (v : Value) (l : List En),i ≤ M∧y = .int .i64 (i : Int)∧RdI w wr false bs i at_ v l∧readGo false bs M 3 [] = readGo false bs (M - i) at_ l∧at_ ≤ bs.length) (fun y _=>M - (intOf y).toNat)
  case atStart=>exact ⟨0,3,_,_,Nat.zero_le _,rfl,HI4.out,rfl,by have:=HN.out;omega⟩
  case round =>
   clear HI4;obtain ⟨i,at_,v,l,hi,rfl,hI,hgo,hle⟩:=hrel;obtain ⟨av,cv,hv,_,_⟩:=hI.own.isE.form;rw [hI.len] at hv;subst hv;by_cases hlt : i < M
   case neg =>
    obtain rfl : i = M:=by omega
    have hd : decide ((i : Int) < (i : Int)) = false:=by simp
    rw [Nat.sub_self] at hgo;have hy : readN bs = some ⟨false,l⟩:=by rw [HYES.out,hgo];rfl
    obtain ⟨m0,m1⟩:=nd_cells hI.nd;obtain ⟨r0,r1⟩:=nd_cells hI.r;have f0:=frozen_p hI.r 0
    have f1:=frozen_p hI.r 1;have HLD:=Hd hI.store.1;have HRT:=Hd (hI.yes hy);clear hI hgo hy;go_wp2_with fail;exact bodyPost_ret (v:=.tuple #[ndV false (.slice av i cv),.bool true]) (results_cell_one Tryd.results62 rfl HLD.out) rfl HRT.out
   case pos =>
    have hd : decide ((i : Int) < (M : Int)) = true:=decide_eq_true (by omega);obtain ⟨W5,hW5⟩ : ∃ x,x = wr.alloc (.cells #[.string ⟨#[]⟩,.string ⟨#[]⟩,.int .i64 0] 75):=⟨_,rfl⟩;have hb5 : Below wr.heap.size wr W5:=by rw [hW5];exact nodeAlloc wr _
    have hE5 : W5.heap[wr.heap.size]? = some (enO ⟨[],[],0⟩):=by rw [hW5];exact heap_alloc_new wr _
    have hI5 : RdI w W5 false bs i at_ (.slice av i cv) l:=hI.other (Turned.of_below hb5 (T:=fun _=>False)) (fun k hk=>hk.elim) ((hb5.block _ (lt_of_heap hI.a)).trans hI.a);have HW5:=Hd hW5;have hsz:=lt_of_heap hI.a;have HOWN : Hid (∀ k,(Value.slice av i cv).ownBlock = some k → w.heap.size + 3 ≤ k∧k < wr.heap.size):=Hd fun k hk=>hI.own.lt hk;have HGO:=Hd hgo;have HLE:=Hd hle;obtain ⟨m0,m1⟩:=nd_cells hI5.nd;rw [hW5] at m0 m1;by_cases hi0 : i = 0
    ·have hz3 : decide ((i : Int) > 0) = false:=decide_eq_false (by omega)
     have hz4 : decide (0 < (i : Int)) = false:=decide_eq_false (by omega);have hz5 : decide (0 < i) = false:=decide_eq_false (by omega);have hz6 : ¬ (0 < i):=by omega
     obtain ⟨k1,hk1⟩ : ∃ k1 : List UInt8,k1 = []:=⟨_,rfl⟩;obtain ⟨vv,hvv⟩ : ∃ vv : List UInt8,vv = []:=⟨_,rfl⟩;obtain ⟨at1,hat⟩ : ∃ at1,at1 = at_:=⟨_,rfl⟩;have HRK : Hid (readK false bs l.length at_ = some (k1,at1)):=Hd (by rw [hI5.len,hi0,hk1,hat];rfl)
     have HE7 : Hid (W5.heap[wr.heap.size]? = some (enO ⟨k1,vv,0⟩)):=Hd (by rw [hk1,hvv];exact hE5);have HI7 : Hid (RdI w W5 false bs i at1 (.slice av i cv) l):=Hd (by rw [hat];exact hI5);have HLE1 : Hid (at1 ≤ bs.length):=Hd (by rw [hat];exact hle);have HVV:=Hd hvv;have HK1:=Hd hk1;have HI0:=Hd hi0;clear hi0;obtain ⟨W7,hW7⟩ : ∃ x,x = W5:=⟨_,rfl⟩;rw [← hW7] at HE7 HI7 HW5;have HW7:=Hd hW7;have hn7:=(nd_cells HI7.out.nd).1;rw [HW5.out] at hn7;clear hI hb5 hE5 hI5 hgo hle hW5 hk1 hvv hat hW7;go_upto_region 18 with fail;rw [← HW5.out];clear hn7 m0 m1;have s2 : IntKind.i64.wrap ((at1 : Int) + 2) = (at1 : Int) + 2:=by rw [IntWalk.i64_in _ (by have:=HLE1.out;have:=HN.out;omega)]
     have hat1 : at1 ≤ n:=by have:=HLE1.out;have:=HN.out;omega
     by_cases h2 : n < at1 + 2
     ·have hno : readN bs = none:=by
       rw [HYES.out,HGO.out];obtain ⟨q,hq⟩ : ∃ q,M - i = q + 1:=⟨M - i - 1,by omega⟩;have hre : readE false bs l.length at_ = none:=by unfold readE;rw [HRK.out];simp only [Option.bind_some,readV,Bool.false_eq_true,if_false];rw [if_pos (by have:=HN.out;omega)]
       rw [hq,readGo,hre];rfl
      have HNO:=Hd hno;have ha7:=HI7.out.a;have hc7 : W7.cell? ⟨w.heap.size + 2,0,none⟩ = some (.int .i64 (at1 : Int)):=by rw [cell_of_row _ _ _ _ _ _ ha7];rfl
      have hz1 : decide ((at1 : Int) + 2 > (n : Int)) = true:=decide_eq_true (by omega);have hz2 : decide ((n : Int) < (at1 : Int) + 2) = true:=decide_eq_true (by omega);have HI10:=Hd (HI7.out.other (Turned.refl (fun _=>False) W7).drew (fun k hk=>hk.elim) ha7);obtain ⟨n7,_⟩:=nd_cells HI7.out.nd;clear hno ha7;go_wp2_with fail;clear n7;obtain ⟨n0,n1⟩:=nd_cells HI10.out.nd;obtain ⟨r0,r1⟩:=nd_cells HI10.out.r;have f0:=frozen_p HI10.out.r 0;have f1:=frozen_p HI10.out.r 1;have HLD:=Hd HI10.out.store.1;have HRT:=Hd (HI10.out.no HNO.out);go_upto_region 20 with fail;go_region;generalize W7.drew = W10 at *;go_wp2_with fail;exact bodyPost_ret (v:=.tuple #[ndV false (.slice av i cv),.bool false]) (results_cell_one Tryd.results62 rfl HLD.out) rfl HRT.out
     obtain ⟨xa,hxa⟩ : ∃ xa,xa = bs.getD at1 0:=⟨_,rfl⟩
     obtain ⟨xb,hxb⟩ : ∃ xb,xb = bs.getD (at1 + 1) 0:=⟨_,rfl⟩
     obtain ⟨kd,hkd⟩ : ∃ kd : Int,kd = (xa.toNat : Int) + (xb.toNat : Int) * 256:=⟨_,rfl⟩
     have hre : readE false bs l.length at_ = some (⟨k1,vv,kd⟩,at1 + 2):=by
      unfold readE
      rw [HRK.out]
      simp only [Option.bind_some,readV,Bool.false_eq_true,if_false]
      rw [if_neg (by have:=HN.out;omega),hkd,hxa,hxb,HVV.out]
     have hgoS : fitsE false l ⟨k1,vv,kd⟩ = true → readGo false bs M 3 [] = readGo false bs (M - (i + 1)) (at1 + 2) (l ++ [⟨k1,vv,kd⟩]):=fun hf=>by
      rw [HGO.out]
      obtain ⟨q,hq⟩ : ∃ q,M - i = q + 1:=⟨M - i - 1,by omega⟩
      rw [hq,readGo,hre,show M - (i + 1) = q by omega]
      simp only
      rw [if_pos hf]
     have hgoN : fitsE false l ⟨k1,vv,kd⟩ = false → readN bs = none:=fun hf=>by
      rw [HYES.out,HGO.out]
      obtain ⟨q,hq⟩ : ∃ q,M - i = q + 1:=⟨M - i - 1,by omega⟩
      rw [hq,readGo,hre]
      simp only
      rw [if_neg (by simp [hf])]
      rfl
     have HGS:=Hd hgoS
     have HGN:=Hd hgoN
     have HLE2 : Hid (at1 + 2 ≤ bs.length):=Hd (by have:=HN.out;omega)
     have ha7:=HI7.out.a
     have hc7 : W7.drew.cell? ⟨w.heap.size + 2,0,none⟩ = some (.int .i64 (at1 : Int)):=by
      show W7.cell? _ = _
      rw [cell_of_row _ _ _ _ _ _ ha7];rfl
     have hc7' : W7.cell? ⟨w.heap.size + 2,0,none⟩ = some (.int .i64 (at1 : Int)):=hc7
     have hq1 : W7.drew.cell? ⟨b,o + at1,none⟩ = some (.int .u8 (xa.toNat : Int)):=by rw [hxa];exact cells_below HI7.out.below _ _ (HCELL.out at1 (by omega))
     have hq2 : W7.drew.cell? ⟨b,o + (at1 + 1),none⟩ = some (.int .u8 (xb.toNat : Int)):=by rw [hxb];exact cells_below HI7.out.below _ _ (HCELL.out (at1 + 1) (by omega))
     have hz1 : decide ((at1 : Int) + 2 > (n : Int)) = false:=decide_eq_false (by omega)
     have hz2 : decide ((n : Int) < (at1 : Int) + 2) = false:=decide_eq_false (by omega)
     have s1 : IntKind.i64.wrap ((at1 : Int) + 1) = ((at1 + 1 : Nat) : Int):=by rw [IntWalk.i64_in _ (by omega)];omega
     have hx1_:=xa.toNat_lt
     have hx2_:=xb.toNat_lt
     have sa : IntKind.i64.wrap (xa.toNat : Int) = (xa.toNat : Int):=IntWalk.i64_in _ (by omega)
     have sb : IntKind.i64.wrap (xb.toNat : Int) = (xb.toNat : Int):=IntWalk.i64_in _ (by omega)
     have sc : IntKind.i64.wrap ((xb.toNat : Int) * 256) = (xb.toNat : Int) * 256:=IntWalk.i64_in _ (by omega)
     have sd : IntKind.i64.wrap ((xa.toNat : Int) + (xb.toNat : Int) * 256) = kd:=by rw [IntWalk.i64_in _ (by omega),hkd]
     have hl1 : (at1 : Int) < (n : Int):=by omega
     have hl2 : ((at1 + 1 : Nat) : Int) < (n : Int):=by omega
     have hl3 : (0 : Int) ≤ (at1 : Int):=by omega
     have hl4 : (0 : Int) ≤ ((at1 + 1 : Nat) : Int):=by omega
     obtain ⟨j0,j1,j2⟩:=en_cells (w:=W7.drew) HE7.out
     have g2_:=frozen_p (w:=W7.drew) HE7.out 2
     obtain ⟨n7,_⟩:=nd_cells HI7.out.nd
     obtain ⟨W9,hW9⟩ : ∃ x,x = ((W7.setCell ⟨wr.heap.size,2,none⟩ (.int .i64 kd)).setCell ⟨w.heap.size + 2,0,none⟩ (.int .i64 ((at1 : Int) + 2))).drew:=⟨_,rfl⟩
     have t8:=turned_one W7 wr.heap.size 2 (.int .i64 kd)
     have ha8:=(t8.block _ (lt_of_heap ha7) (by omega)).trans ha7
     have ha9 : W9.heap[w.heap.size + 2]? = some (intO (at1 + 2)):=by
      rw [hW9]
      exact head_setCell ha8 (i:=0) (.int .i64 ((at1 : Int) + 2))
     have t9 : Turned (fun k=>k = wr.heap.size ∨ k = w.heap.size + 2) W7 W9:=by
      rw [hW9]
      exact ((t8.mono fun _ _ e=>.inl e).trans ((turned_one _ (w.heap.size + 2) 0 _).mono fun _ _ e=>.inr e)).drew
     have hE8:=head_setCell HE7.out (i:=2) (.int .i64 kd)
     have hE9 : W9.drew.heap[wr.heap.size]? = some (enO ⟨k1,vv,kd⟩):=by
      show W9.heap[wr.heap.size]? = _
      rw [hW9]
      exact ((turned_one _ (w.heap.size + 2) 0 (.int .i64 ((at1 : Int) + 2))).block _ (lt_of_heap hE8) (by omega)).trans hE8
     have HI10:=Hd ((HI7.out.other t9 (fun k hk=>⟨by omega,fun e=>by have:=HOWN.out k e;omega⟩) ha9).other (Turned.refl (fun _=>False) W9).drew (fun k hk=>hk.elim) ha9)
     have HE9:=Hd hE9
     have HW9:=Hd hW9
     have gA:=frozen_p ha7 0
     clear t8 ha8 ha9 t9 hE8 hE9 hW9
     clear hkd hxa hxb hre hgoS hgoN ha7
     go_upto_region 13 with fail
     go_region
     go_wp2_with fail
     rw [← HW9.out]
     clear hc7 hc7' hq1 hq2 j0 j1 j2 g2_ n7 gA
     obtain ⟨n0,n1⟩:=nd_cells HI10.out.nd
     obtain ⟨e0,e1_,e2_⟩:=en_cells HE9.out
     have h0 : ¬ 0 < i:=by have:=HI0.out;omega
     have HG2:=Hd (HGS.out (by
      have hl0 : l = []:=List.eq_nil_of_length_eq_zero (by rw [HI10.out.len];omega)
      rw [hl0];rfl))
     have y1 : decide ((i : Int) > 0) = false:=decide_eq_false (by omega)
     have y2 : decide (0 < (i : Int)) = false:=decide_eq_false (by omega)
     have y3 : decide (0 < i) = false:=decide_eq_false h0
     go_upto_region 20 with fail
     go_region
     generalize W9.drew = W10 at *
     have hI10:=HI10.out
     have hsN : w.heap.size + 1 < W10.heap.size:=lt_of_heap hI10.nd
     obtain ⟨W11,hW11⟩ : ∃ x,x = W10.alloc (.cells #[.string ⟨k1.toArray⟩,.string ⟨vv.toArray⟩,.int .i64 kd] 75):=⟨_,rfl⟩
     have hb11 : Below W10.heap.size W10 W11:=by rw [hW11];exact nodeAlloc W10 _
     have hU : W11.heap[W10.heap.size]? = some (enO ⟨k1,vv,kd⟩):=by rw [hW11];exact heap_alloc_new W10 _
     have hI11:=hI10.other (Turned.of_below hb11 (T:=fun _=>False)) (fun k hk=>hk.elim) ((hb11.block _ (lt_of_heap hI10.a)).trans hI10.a)
     obtain ⟨v2,W12,hr,hm12,hg12,_⟩:=hI11.own.app (IsE.one hU) (by have:=lt_of_heap hU;have:=lt_of_heap hI11.a;omega) (by have:=hI11.len;have:=HML2.out;simp only [List.length_singleton];omega)
     have hI13:=hI11.grown hg12 hm12
     have hnv : ∀ k,(Value.slice av i cv).ownBlock = some k → w.heap.size + 3 ≤ k:=fun k hk=>(hI11.own.lt hk).1
     have hN12 : W12.heap[w.heap.size + 1]? = some (ndO false (.slice av i cv)):=(hg12.block _ (lt_of_heap hI11.nd) fun e=>by have:=hnv _ e.symm;omega).trans hI11.nd
     obtain ⟨y0,y1⟩:=nd_cells hN12
     have fN:=frozen_p hN12 1
     obtain ⟨a2,c2_,hv2,_,_⟩:=hm12.isE.form
     rw [List.length_append,hI11.len,List.length_singleton] at hv2
     subst hv2
     rw [hW11] at hr
     have HI13:=Hd hI13
     clear hI10 hb11 hU hI11 hW11 hm12 hg12 hI13 hnv hN12
     have hMM:=HML2.out
     go_wp2_with (at_builtin;refine wpList_append_run rfl (.tmp 120) (.tmp 122) 67 67 rfl _ _ _ rfl rfl hr ?_;clear hr)
     go_roundw
     case rel=>exact ⟨i + 1,at1 + 2,_,_,hlt,by go_num,HI13.out,HG2.out,HLE2.out⟩
     case measure=>simp [intOf];omega
    ·have hz3 : decide ((i : Int) > 0) = true:=decide_eq_true (by omega)
     have hz4 : decide (0 < (i : Int)) = true:=decide_eq_true (by omega)
     have hz5 : decide (0 < i) = true:=decide_eq_true (by omega)
     have h0 : 0 < i:=by omega
     have htx:=text_any W5 (some ⟨b,o,none⟩) n cap bs (HI.out.below hI5.below) HN.out (by omega) (w.heap.size + 2) at_ hI5.a (by have:=HN.out;omega) 80 (by omega)
     rw [show ((80 : Nat) : Int) = 80 from rfl] at htx
     have HTX:=Hd htx
     have HI5:=Hd hI5
     have HE5:=Hd hE5
     have HKK : Hid (readK false bs l.length at_ = textB bs at_ 80):=Hd (by unfold readK;rw [if_pos (by simp [hI5.len,h0])])
     clear hI hb5 hE5 hI5 htx hgo hle hi0
     go_wp2_with fail
     rw [← HW5.out]
     clear m0 m1
     refine HTX.out.mono ?_
     intro e W6 hend
     obtain ⟨y,hy⟩ : ∃ y,y = textB bs at_ 80:=⟨_,rfl⟩
     rw [← hy] at hend
     cases y with
     | none =>
      obtain ⟨rfl,t6,a6⟩:=hend
      have hE6:=(t6.block _ (lt_of_heap HE5.out) (by omega)).trans HE5.out
      obtain ⟨j0,j1,j2⟩:=en_cells hE6
      have g0:=frozen_p hE6 0
      have hI6:=HI5.out.other t6 (fun k hk=>⟨by omega,fun e=>by have:=(HOWN.out k e).1;omega⟩) a6
      have hno : readN bs = none:=by
       rw [HYES.out,HGO.out]
       obtain ⟨q,hq⟩ : ∃ q,M - i = q + 1:=⟨M - i - 1,by omega⟩
       have hre : readE false bs l.length at_ = none:=by unfold readE;rw [HKK.out,← hy];rfl
       rw [hq,readGo,hre]
       rfl
      obtain ⟨W7,hW7⟩ : ∃ x,x = W6.setCell ⟨wr.heap.size,0,none⟩ (.string ⟨#[]⟩):=⟨_,rfl⟩
      have t7 : Turned (fun x=>x = wr.heap.size) W6 W7:=by rw [hW7];exact turned_one W6 wr.heap.size 0 (.string ⟨#[]⟩)
      have a7:=(t7.block _ (lt_of_heap a6) (by omega)).trans a6
      have hI7:=hI6.other t7 (fun k hk=>⟨by omega,fun e=>by have:=(HOWN.out k e).2;omega⟩) a7
      have hI8:=hI7.other (Turned.refl (fun _=>False) W7).drew (fun k hk=>hk.elim) a7
      have HI8:=Hd hI8
      have HNO:=Hd hno
      have HW7:=Hd hW7
      clear HTX hI6 hI7 hI8 hno a6 a7 t6 t7 hy hW7
      go_wp2_with fail
      rw [← HW7.out]
      clear j0 j1 j2 g0
      obtain ⟨n0,n1⟩:=nd_cells HI8.out.nd
      obtain ⟨r0,r1⟩:=nd_cells HI8.out.r
      have f0:=frozen_p HI8.out.r 0
      have f1:=frozen_p HI8.out.r 1
      have HLD:=Hd HI8.out.store.1
      have HRT:=Hd (HI8.out.no HNO.out)
      go_upto_region 20 with fail
      go_region
      generalize W7.drew = W8 at *
      go_wp2_with fail
      exact bodyPost_ret (v:=.tuple #[ndV false (.slice av i cv),.bool false]) (results_cell_one Tryd.results62 rfl HLD.out) rfl HRT.out
     | some x =>
      obtain ⟨k1,at1⟩:=x
      obtain ⟨rfl,t6,a6⟩:=hend
      obtain ⟨hle1,hlk⟩:=textB_le hy.symm
      have hE6:=(t6.block _ (lt_of_heap HE5.out) (by omega)).trans HE5.out
      obtain ⟨j0,j1,j2⟩:=en_cells hE6
      have g0:=frozen_p hE6 0
      have hI6:=HI5.out.other t6 (fun k hk=>⟨by omega,fun e=>by have:=(HOWN.out k e).1;omega⟩) a6
      obtain ⟨vv,hvv⟩ : ∃ vv : List UInt8,vv = []:=⟨_,rfl⟩
      obtain ⟨W7,hW7⟩ : ∃ x,x = W6.setCell ⟨wr.heap.size,0,none⟩ (.string ⟨k1.toArray⟩):=⟨_,rfl⟩
      have t7 : Turned (fun x=>x = wr.heap.size) W6 W7:=by rw [hW7];exact turned_one W6 wr.heap.size 0 (.string ⟨k1.toArray⟩)
      have hE7 : W7.heap[wr.heap.size]? = some (enO ⟨k1,vv,0⟩):=by rw [hW7,hvv];exact head_setCell hE6 (i:=0) (.string ⟨k1.toArray⟩)
      have a7:=(t7.block _ (lt_of_heap a6) (by omega)).trans a6
      have HI7:=Hd (hI6.other t7 (fun k hk=>⟨by omega,fun e=>by have:=(HOWN.out k e).2;omega⟩) a7)
      have HE7:=Hd hE7
      have HRK : Hid (readK false bs l.length at_ = some (k1,at1)):=Hd (by rw [HKK.out,hy])
      have HLE1 : Hid (at1 ≤ bs.length):=Hd hle1
      have HVV:=Hd hvv
      have HW7:=Hd hW7
      obtain ⟨n0,_⟩:=nd_cells HI7.out.nd
      rw [hW7] at n0
      clear HTX hI6 a6 a7 t6 t7 hy hW7 hE6 hE7 hle1 hvv
      go_upto_region 18 with fail
      rw [← HW7.out]
      clear j0 j1 j2 g0 n0
      have s2 : IntKind.i64.wrap ((at1 : Int) + 2) = (at1 : Int) + 2:=by rw [IntWalk.i64_in _ (by have:=HLE1.out;have:=HN.out;omega)]
      have hat1 : at1 ≤ n:=by have:=HLE1.out;have:=HN.out;omega
      by_cases h2 : n < at1 + 2
      ·have hno : readN bs = none:=by
        rw [HYES.out,HGO.out]
        obtain ⟨q,hq⟩ : ∃ q,M - i = q + 1:=⟨M - i - 1,by omega⟩
        have hre : readE false bs l.length at_ = none:=by unfold readE;rw [HRK.out];simp only [Option.bind_some,readV,Bool.false_eq_true,if_false];rw [if_pos (by have:=HN.out;omega)]
        rw [hq,readGo,hre]
        rfl
       have HNO:=Hd hno
       have ha7:=HI7.out.a
       have hc7 : W7.cell? ⟨w.heap.size + 2,0,none⟩ = some (.int .i64 (at1 : Int)):=by rw [cell_of_row _ _ _ _ _ _ ha7];rfl
       have hz1 : decide ((at1 : Int) + 2 > (n : Int)) = true:=decide_eq_true (by omega)
       have hz2 : decide ((n : Int) < (at1 : Int) + 2) = true:=decide_eq_true (by omega)
       have HI10:=Hd (HI7.out.other (Turned.refl (fun _=>False) W7).drew (fun k hk=>hk.elim) ha7)
       obtain ⟨n7,_⟩:=nd_cells HI7.out.nd
       clear hno ha7
       go_wp2_with fail
       clear n7
       obtain ⟨n0,n1⟩:=nd_cells HI10.out.nd
       obtain ⟨r0,r1⟩:=nd_cells HI10.out.r
       have f0:=frozen_p HI10.out.r 0
       have f1:=frozen_p HI10.out.r 1
       have HLD:=Hd HI10.out.store.1
       have HRT:=Hd (HI10.out.no HNO.out)
       go_upto_region 20 with fail
       go_region
       generalize W7.drew = W10 at *
       go_wp2_with fail
       exact bodyPost_ret (v:=.tuple #[ndV false (.slice av i cv),.bool false]) (results_cell_one Tryd.results62 rfl HLD.out) rfl HRT.out
      obtain ⟨xa,hxa⟩ : ∃ xa,xa = bs.getD at1 0:=⟨_,rfl⟩
      obtain ⟨xb,hxb⟩ : ∃ xb,xb = bs.getD (at1 + 1) 0:=⟨_,rfl⟩
      obtain ⟨kd,hkd⟩ : ∃ kd : Int,kd = (xa.toNat : Int) + (xb.toNat : Int) * 256:=⟨_,rfl⟩
      have hre : readE false bs l.length at_ = some (⟨k1,vv,kd⟩,at1 + 2):=by
       unfold readE
       rw [HRK.out]
       simp only [Option.bind_some,readV,Bool.false_eq_true,if_false]
       rw [if_neg (by have:=HN.out;omega),hkd,hxa,hxb,HVV.out]
      have hgoS : fitsE false l ⟨k1,vv,kd⟩ = true → readGo false bs M 3 [] = readGo false bs (M - (i + 1)) (at1 + 2) (l ++ [⟨k1,vv,kd⟩]):=fun hf=>by
       rw [HGO.out]
       obtain ⟨q,hq⟩ : ∃ q,M - i = q + 1:=⟨M - i - 1,by omega⟩
       rw [hq,readGo,hre,show M - (i + 1) = q by omega]
       simp only
       rw [if_pos hf]
      have hgoN : fitsE false l ⟨k1,vv,kd⟩ = false → readN bs = none:=fun hf=>by
       rw [HYES.out,HGO.out]
       obtain ⟨q,hq⟩ : ∃ q,M - i = q + 1:=⟨M - i - 1,by omega⟩
       rw [hq,readGo,hre]
       simp only
       rw [if_neg (by simp [hf])]
       rfl
      have HGS:=Hd hgoS
      have HGN:=Hd hgoN
      have HLE2 : Hid (at1 + 2 ≤ bs.length):=Hd (by have:=HN.out;omega)
      have ha7:=HI7.out.a
      have hc7 : W7.drew.cell? ⟨w.heap.size + 2,0,none⟩ = some (.int .i64 (at1 : Int)):=by
       show W7.cell? _ = _
       rw [cell_of_row _ _ _ _ _ _ ha7];rfl
      have hc7' : W7.cell? ⟨w.heap.size + 2,0,none⟩ = some (.int .i64 (at1 : Int)):=hc7
      have hq1 : W7.drew.cell? ⟨b,o + at1,none⟩ = some (.int .u8 (xa.toNat : Int)):=by rw [hxa];exact cells_below HI7.out.below _ _ (HCELL.out at1 (by omega))
      have hq2 : W7.drew.cell? ⟨b,o + (at1 + 1),none⟩ = some (.int .u8 (xb.toNat : Int)):=by rw [hxb];exact cells_below HI7.out.below _ _ (HCELL.out (at1 + 1) (by omega))
      have hz1 : decide ((at1 : Int) + 2 > (n : Int)) = false:=decide_eq_false (by omega)
      have hz2 : decide ((n : Int) < (at1 : Int) + 2) = false:=decide_eq_false (by omega)
      have s1 : IntKind.i64.wrap ((at1 : Int) + 1) = ((at1 + 1 : Nat) : Int):=by rw [IntWalk.i64_in _ (by omega)];omega
      have hx1_:=xa.toNat_lt
      have hx2_:=xb.toNat_lt
      have sa : IntKind.i64.wrap (xa.toNat : Int) = (xa.toNat : Int):=IntWalk.i64_in _ (by omega)
      have sb : IntKind.i64.wrap (xb.toNat : Int) = (xb.toNat : Int):=IntWalk.i64_in _ (by omega)
      have sc : IntKind.i64.wrap ((xb.toNat : Int) * 256) = (xb.toNat : Int) * 256:=IntWalk.i64_in _ (by omega)
      have sd : IntKind.i64.wrap ((xa.toNat : Int) + (xb.toNat : Int) * 256) = kd:=by rw [IntWalk.i64_in _ (by omega),hkd]
      have hl1 : (at1 : Int) < (n : Int):=by omega
      have hl2 : ((at1 + 1 : Nat) : Int) < (n : Int):=by omega
      have hl3 : (0 : Int) ≤ (at1 : Int):=by omega
      have hl4 : (0 : Int) ≤ ((at1 + 1 : Nat) : Int):=by omega
      obtain ⟨j0,j1,j2⟩:=en_cells (w:=W7.drew) HE7.out
      have g2_:=frozen_p (w:=W7.drew) HE7.out 2
      obtain ⟨n7,_⟩:=nd_cells HI7.out.nd
      obtain ⟨W9,hW9⟩ : ∃ x,x = ((W7.setCell ⟨wr.heap.size,2,none⟩ (.int .i64 kd)).setCell ⟨w.heap.size + 2,0,none⟩ (.int .i64 ((at1 : Int) + 2))).drew:=⟨_,rfl⟩
      have t8:=turned_one W7 wr.heap.size 2 (.int .i64 kd)
      have ha8:=(t8.block _ (lt_of_heap ha7) (by omega)).trans ha7
      have ha9 : W9.heap[w.heap.size + 2]? = some (intO (at1 + 2)):=by
       rw [hW9]
       exact head_setCell ha8 (i:=0) (.int .i64 ((at1 : Int) + 2))
      have t9 : Turned (fun k=>k = wr.heap.size ∨ k = w.heap.size + 2) W7 W9:=by
       rw [hW9]
       exact ((t8.mono fun _ _ e=>.inl e).trans ((turned_one _ (w.heap.size + 2) 0 _).mono fun _ _ e=>.inr e)).drew
      have hE8:=head_setCell HE7.out (i:=2) (.int .i64 kd)
      have hE9 : W9.drew.heap[wr.heap.size]? = some (enO ⟨k1,vv,kd⟩):=by
       show W9.heap[wr.heap.size]? = _
       rw [hW9]
       exact ((turned_one _ (w.heap.size + 2) 0 (.int .i64 ((at1 : Int) + 2))).block _ (lt_of_heap hE8) (by omega)).trans hE8
      have HI10:=Hd ((HI7.out.other t9 (fun k hk=>⟨by omega,fun e=>by have:=HOWN.out k e;omega⟩) ha9).other (Turned.refl (fun _=>False) W9).drew (fun k hk=>hk.elim) ha9)
      have HE9:=Hd hE9
      have HW9:=Hd hW9
      have gA:=frozen_p ha7 0
      clear t8 ha8 ha9 t9 hE8 hE9 hW9
      clear hkd hxa hxb hre hgoS hgoN ha7
      go_upto_region 13 with fail
      go_region
      go_wp2_with fail
      rw [← HW9.out]
      clear hc7 hc7' hq1 hq2 j0 j1 j2 g2_ n7 gA
      obtain ⟨n0,n1⟩:=nd_cells HI10.out.nd
      obtain ⟨e0,e1_,e2_⟩:=en_cells HE9.out
      have y1 : decide ((i : Int) > 0) = true:=decide_eq_true (by omega)
      have y2 : decide (0 < (i : Int)) = true:=decide_eq_true (by omega)
      have y3 : decide (0 < i) = true:=decide_eq_true h0
      obtain ⟨i',hi'⟩ : ∃ i',i = i' + 1:=⟨i - 1,by omega⟩
      have hlt' : i' < l.length:=by rw [HI10.out.len];omega
      have hlast : l.getLast? = some l[i']:=by
       rw [List.getLast?_eq_getElem?,HI10.out.len,show i - 1 = i' by omega,List.getElem?_eq_getElem hlt']
      by_cases h1 : 1 < i
      case neg =>
       have HG2:=Hd (HGS.out (by unfold fitsE;rw [hlast,HI10.out.len];simp [h1]))
       have y4 : decide ((i : Int) > 1) = false:=decide_eq_false (by omega)
       have y5 : decide (1 < (i : Int)) = false:=decide_eq_false (by omega)
       have y6 : decide (1 < i) = false:=decide_eq_false h1
       clear hlast hlt' hi'
       go_upto_region 20 with fail
       go_region
       generalize W9.drew = W10 at *
       have hI10:=HI10.out
       have hsN : w.heap.size + 1 < W10.heap.size:=lt_of_heap hI10.nd
       obtain ⟨W11,hW11⟩ : ∃ x,x = W10.alloc (.cells #[.string ⟨k1.toArray⟩,.string ⟨vv.toArray⟩,.int .i64 kd] 75):=⟨_,rfl⟩
       have hb11 : Below W10.heap.size W10 W11:=by rw [hW11];exact nodeAlloc W10 _
       have hU : W11.heap[W10.heap.size]? = some (enO ⟨k1,vv,kd⟩):=by rw [hW11];exact heap_alloc_new W10 _
       have hI11:=hI10.other (Turned.of_below hb11 (T:=fun _=>False)) (fun k hk=>hk.elim) ((hb11.block _ (lt_of_heap hI10.a)).trans hI10.a)
       obtain ⟨v2,W12,hr,hm12,hg12,_⟩:=hI11.own.app (IsE.one hU) (by have:=lt_of_heap hU;have:=lt_of_heap hI11.a;omega) (by have:=hI11.len;have:=HML2.out;simp only [List.length_singleton];omega)
       have hI13:=hI11.grown hg12 hm12
       have hnv : ∀ k,(Value.slice av i cv).ownBlock = some k → w.heap.size + 3 ≤ k:=fun k hk=>(hI11.own.lt hk).1
       have hN12 : W12.heap[w.heap.size + 1]? = some (ndO false (.slice av i cv)):=(hg12.block _ (lt_of_heap hI11.nd) fun e=>by have:=hnv _ e.symm;omega).trans hI11.nd
       obtain ⟨y0,y1⟩:=nd_cells hN12
       have fN:=frozen_p hN12 1
       obtain ⟨a2,c2_,hv2,_,_⟩:=hm12.isE.form
       rw [List.length_append,hI11.len,List.length_singleton] at hv2
       subst hv2
       rw [hW11] at hr
       have HI13:=Hd hI13
       clear hI10 hb11 hU hI11 hW11 hm12 hg12 hI13 hnv hN12
       have hMM:=HML2.out
       go_wp2_with (at_builtin;refine wpList_append_run rfl (.tmp 120) (.tmp 122) 67 67 rfl _ _ _ rfl rfl hr ?_;clear hr)
       go_roundw
       case rel=>exact ⟨i + 1,at1 + 2,_,_,hlt,by go_num,HI13.out,HG2.out,HLE2.out⟩
       case measure=>simp [intOf];omega
      case pos =>
       obtain ⟨gl,ol,hav,z0,z1_,z2_⟩:=HI10.out.own.isE.at i' hlt'
       subst hav
       have hfit : fitsE false l ⟨k1,vv,kd⟩ = decide (l[i'].key < k1):=by unfold fitsE;rw [hlast,HI10.out.len];simp [h1]
       have hcmp:=leq_fits k1 l[i'].key
       rw [← hfit] at hcmp
       have y4 : decide ((i : Int) > 1) = true:=decide_eq_true (by omega)
       have y5 : decide (1 < (i : Int)) = true:=decide_eq_true (by omega)
       have y6 : decide (1 < i) = true:=decide_eq_true h1
       have hMM:=HML2.out
       have hsub : IntKind.i64.wrap ((i : Int) - 1) = (i' : Int):=by rw [IntWalk.i64_in _ (by omega)];omega
       have hz8 : (i' : Int) < (i : Int):=by omega
       have hz9 : (0 : Int) ≤ (i' : Int):=by omega
       have HI':=Hd hi'
       obtain ⟨lk,hlk_⟩ : ∃ lk,lk = l[i'].key:=⟨_,rfl⟩
       rw [← hlk_] at z0 hcmp
       clear z1_ z2_ hfit hlast hlk_ hMM
       clear hlt' hi'
       cases hf : fitsE false l ⟨k1,vv,kd⟩ with
       | true =>
        have HG2:=Hd (HGS.out hf)
        rw [hf] at hcmp
        clear hf
        go_upto_region 20 with fail
        go_region
        generalize W9.drew = W10 at *
        have hI10:=HI10.out
        have hsN : w.heap.size + 1 < W10.heap.size:=lt_of_heap hI10.nd
        obtain ⟨W11,hW11⟩ : ∃ x,x = W10.alloc (.cells #[.string ⟨k1.toArray⟩,.string ⟨vv.toArray⟩,.int .i64 kd] 75):=⟨_,rfl⟩
        have hb11 : Below W10.heap.size W10 W11:=by rw [hW11];exact nodeAlloc W10 _
        have hU : W11.heap[W10.heap.size]? = some (enO ⟨k1,vv,kd⟩):=by rw [hW11];exact heap_alloc_new W10 _
        have hI11:=hI10.other (Turned.of_below hb11 (T:=fun _=>False)) (fun k hk=>hk.elim) ((hb11.block _ (lt_of_heap hI10.a)).trans hI10.a)
        obtain ⟨v2,W12,hr,hm12,hg12,_⟩:=hI11.own.app (IsE.one hU) (by have:=lt_of_heap hU;have:=lt_of_heap hI11.a;omega) (by have:=hI11.len;have:=HML2.out;simp only [List.length_singleton];omega)
        have hI13:=hI11.grown hg12 hm12
        have hnv : ∀ k,(Value.slice (some ⟨gl,ol,none⟩) i cv).ownBlock = some k → w.heap.size + 3 ≤ k:=fun k hk=>(hI11.own.lt hk).1
        have hN12 : W12.heap[w.heap.size + 1]? = some (ndO false (.slice (some ⟨gl,ol,none⟩) i cv)):=(hg12.block _ (lt_of_heap hI11.nd) fun e=>by have:=hnv _ e.symm;omega).trans hI11.nd
        obtain ⟨y0,y1⟩:=nd_cells hN12
        have fN:=frozen_p hN12 1
        obtain ⟨a2,c2_,hv2,_,_⟩:=hm12.isE.form
        rw [List.length_append,hI11.len,List.length_singleton] at hv2
        subst hv2
        rw [hW11] at hr
        have HI13:=Hd hI13
        clear hI10 hb11 hU hI11 hW11 hm12 hg12 hI13 hnv hN12
        have hMM:=HML2.out
        go_wp2_with (at_builtin;refine wpList_append_run rfl (.tmp 120) (.tmp 122) 67 67 rfl _ _ _ rfl rfl hr ?_;clear hr)
        go_roundw
        case rel=>exact ⟨i + 1,at1 + 2,_,_,hlt,by go_num,HI13.out,HG2.out,HLE2.out⟩
        case measure=>simp [intOf];omega
       | false =>
        have HNO:=Hd (HGN.out hf)
        rw [hf] at hcmp
        clear hf
        obtain ⟨r0,r1⟩:=nd_cells HI10.out.r
        have f0:=frozen_p HI10.out.r 0
        have f1:=frozen_p HI10.out.r 1
        have HLD:=Hd HI10.out.store.1
        have HRT:=Hd (HI10.out.no HNO.out)
        go_upto_region 20 with fail
        go_region
        generalize W9.drew = W10 at *
        go_wp2_with fail
        exact bodyPost_ret (v:=.tuple #[ndV false (.slice (some ⟨gl,ol,none⟩) i cv),.bool false]) (results_cell_one Tryd.results62 rfl HLD.out) rfl HRT.out
end
end Go.Proofs.YtofibccplbnaiaaDoor
