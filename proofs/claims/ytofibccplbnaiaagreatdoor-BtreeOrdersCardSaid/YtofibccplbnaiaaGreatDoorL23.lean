/- Contracts of the functions that the statements of this seat reach, part 23: each says what the call answers and what it leaves of the memory. -/
import Derived.Test.YtofibccplbnaiaaGreatDoorL22
set_option linter.unusedVariables false
set_option linter.unusedSimpArgs false
set_option maxRecDepth 100000
namespace Go.Proofs.YtofibccplbnaiaaGreatDoor
section
structure OkL (n : Nat) (l : List KV) : Prop where
 rise : Rise l
 key : ∀ x ∈ l,x.1.length ≤ 80
 val : ∀ x ∈ l,x.2.length ≤ 200
 len : l.length ≤ n
theorem OkL.nil : OkL 0 []:=⟨List.Pairwise.nil,by simp,by simp,Nat.le_refl _⟩
theorem OkL.mono {n m : Nat} {l : List KV} (h : OkL n l) (hm : n ≤ m) : OkL m l:=⟨h.rise,h.key,h.val,Nat.le_trans h.len hm⟩
theorem OkL.put {n : Nat} {l : List KV} (h : OkL n l) {key val : List UInt8} (hk : key.length ≤ 80) (hv : val.length ≤ 200) : OkL (n + 1) (putL l key val) :=
 ⟨putL_rise h.rise,fun x hx=>(putL_mem x hx).elim (fun e=>by rw [e];exact hk) (h.key x),fun x hx=>(putL_mem x hx).elim (fun e=>by rw [e];exact hv) (h.val x),Nat.le_trans (putL_len l key val) (Nat.succ_le_succ h.len)⟩
theorem OkL.sub {n : Nat} {l U : List KV} (h : OkL n l) (hs : U.Sublist l) : OkL n U:=⟨h.rise.sublist hs,fun x hx=>h.key x (hs.mem hx),fun x hx=>h.val x (hs.mem hx),Nat.le_trans hs.length_le h.len⟩
theorem wgtB_le : ∀ {l : List KV},(∀ x ∈ l,x.1.length ≤ 80) → (∀ x ∈ l,x.2.length ≤ 200) → wgtB l ≤ 282 * l.length
 | [],_,_=>by simp [wgtB]
 | x :: r,h1,h2=>by have ih:=wgtB_le (l:=r) (fun y hy=>h1 y (List.mem_cons_of_mem _ hy)) (fun y hy=>h2 y (List.mem_cons_of_mem _ hy));have a:=h1 x (List.mem_cons_self ..);have b:=h2 x (List.mem_cons_self ..);rw [wgtB,List.length_cons];omega
theorem OkL.wgt {n : Nat} {l : List KV} (h : OkL n l) : wgtB l ≤ 282 * n:=Nat.le_trans (wgtB_le h.key h.val) (Nat.mul_le_mul_left _ h.len)
theorem rise_one {l : List KV} (h : Rise l) {x y : KV} (hx : x ∈ l) (hy : y ∈ l) (e : x.1 = y.1) : x = y:=by
 induction l with
 | nil=>cases hx
 | cons z r ih =>
  obtain ⟨h1,h2⟩:=List.pairwise_cons.1 h;rcases List.mem_cons.1 hx with ex | hx2
  ·subst ex
   rcases List.mem_cons.1 hy with ey | hy2
   ·exact ey.symm
   ·have:=h1 y hy2;rw [e] at this;exact absurd this (List.lt_irrefl _)
  ·rcases List.mem_cons.1 hy with ey | hy2
   ·subst ey;have:=h1 x hx2;rw [e] at this;exact absurd this (List.lt_irrefl _)
   ·exact ih h2 hx2 hy2
theorem rise_sub : ∀ {l U : List KV},Rise U → Rise l → (∀ x ∈ U,x ∈ l) → U.Sublist l
 | [],U,_,_,hs=>by
  cases U with
  | nil=>exact List.Sublist.refl _
  | cons y s=>exact absurd (hs y (List.mem_cons_self ..)) (by simp)
 | x :: r,[],_,_,_=>List.nil_sublist _
 | x :: r,y :: s,hU,hl,hs=>by
  obtain ⟨h1,h2⟩:=List.pairwise_cons.1 hl;obtain ⟨u1,u2⟩:=List.pairwise_cons.1 hU;rcases List.mem_cons.1 (hs y (List.mem_cons_self ..)) with rfl | hy
  ·refine List.Sublist.cons_cons _ (rise_sub u2 h2 fun z hz=>?_)
   rcases List.mem_cons.1 (hs z (List.mem_cons_of_mem _ hz)) with rfl | hz2
   ·exact absurd (u1 _ hz) (List.lt_irrefl _)
   ·exact hz2
  ·refine List.Sublist.cons _ (rise_sub hU h2 fun z hz=>?_)
   rcases List.mem_cons.1 (hs z hz) with rfl | hz2
   ·have a:=h1 y hy
    rcases List.mem_cons.1 hz with rfl | hz
    ·exact absurd a (List.lt_irrefl _)
    ·exact absurd (List.lt_trans a (u1 _ hz)) (List.lt_irrefl _)
   ·exact hz2
theorem mem_split {U : List KV} {key : List UInt8} {x : KV} (hx : x ∈ U) (hk : x.1 ≠ key) : x ∈ headL U key ∨ x ∈ restL U key:=by
 have h2:=List.takeWhile_append_dropWhile (p:=fun z : KV=>decide (z.1 < key)) (l:=U);rw [← h2] at hx;rcases List.mem_append.1 hx with hx | hx
 ·exact .inl hx
 ·unfold restL
  cases hd : U.dropWhile (fun x=>decide (x.1 < key)) with
  | nil=>rw [hd] at hx;cases hx
  | cons y r =>
   rw [hd] at hx;dsimp only;split
   ·rename_i e2
    rcases List.mem_cons.1 hx with rfl | hx
    ·exact absurd e2 hk
    ·exact .inr hx
   ·exact .inr hx
theorem put_sub {U l : List KV} {y : KV} (hl : Rise l) (hs : ∀ x ∈ U,x ∈ l) (hy : y ∈ l) : (∀ x ∈ putL U y.1 y.2,x ∈ l)∧(∀ x ∈ U,x ∈ putL U y.1 y.2)∧y ∈ putL U y.1 y.2:=by
 have hin : y ∈ putL U y.1 y.2:=List.mem_append_right _ (List.mem_cons_self ..);refine ⟨fun x hx=>(putL_mem x hx).elim (fun e=>by rw [e];exact hy) (hs x),fun x hx=>?_,hin⟩;by_cases e : x.1 = y.1
 ·rw [rise_one hl (hs x hx) hy e];exact hin
 ·rcases mem_split hx e with h | h
  ·exact List.mem_append_left _ h
  ·exact List.mem_append_right _ (List.mem_cons_of_mem _ h)
theorem mid_get {l : List KV} {i : Nat} (hr : Rise l) (hi : i < l.length) : (∀ x ∈ l.take i,x.1 < l[i].1)∧∀ x ∈ l.drop (i + 1),l[i].1 < x.1:=by
 have h : l = l.take i ++ l[i] :: l.drop (i + 1):=by rw [← List.drop_eq_getElem_cons hi,List.take_append_drop]
 have hr2:=hr;rw [h] at hr2;obtain ⟨_,h2,h3⟩:=List.pairwise_append.1 hr2;exact ⟨fun x hx=>h3 x hx l[i] (List.mem_cons_self ..),fun x hx=>(List.pairwise_cons.1 h2).1 x hx⟩
theorem put_next {l : List KV} {i : Nat} (hr : Rise l) (hi : i < l.length) : putL (l.take i) l[i].1 l[i].2 = l.take (i + 1):=by have h:=(mid_get hr hi).1;have h1:=headL_mid (key:=l[i].1) (L:=[]) (C:=[]) h (by simp);have h2:=restL_mid (key:=l[i].1) (L:=[]) (C:=[]) h (by simp);rw [List.append_nil,List.append_nil] at h1 h2;unfold putL;rw [h1,h2,List.take_succ_eq_append_getElem hi,show headL [] l[i].1 = [] from rfl,show restL [] l[i].1 = [] from rfl,List.append_nil,List.append_nil]
theorem del_first {l : List KV} {i : Nat} (hr : Rise l) (hi : i < l.length) : delL (l.drop i) l[i].1 = l.drop (i + 1)∧(getL (l.drop i) l[i].1).2 = true:=by
 have h:=(mid_get hr hi).2;have e : l.drop i = [] ++ ([l[i]] ++ l.drop (i + 1)):=by rw [List.drop_eq_getElem_cons hi];rfl
 have hirr : ¬ l[i].1 < l[i].1:=List.lt_irrefl _;rw [e];have h1:=headL_mid (key:=l[i].1) (A:=[]) (L:=[l[i]]) (C:=l.drop (i + 1)) (by simp) h;have h2:=restL_mid (key:=l[i].1) (A:=[]) (L:=[l[i]]) (C:=l.drop (i + 1)) (by simp) h;have h3:=getL_mid (key:=l[i].1) (A:=[]) (L:=[l[i]]) (C:=l.drop (i + 1)) (by simp) h;constructor
 ·unfold delL;rw [h1,h2];simp [headL,restL,hirr]
 ·rw [h3];simp [getL,hirr]
theorem del_last {l : List KV} {i : Nat} (hr : Rise l) (hi : i < l.length) : delL (l.take (i + 1)) l[i].1 = l.take i∧(getL (l.take (i + 1)) l[i].1).2 = true:=by
 have h:=(mid_get hr hi).1;have e : l.take (i + 1) = l.take i ++ ([l[i]] ++ []):=by rw [List.take_succ_eq_append_getElem hi];rfl
 have hirr : ¬ l[i].1 < l[i].1:=List.lt_irrefl _;rw [e];have h1:=headL_mid (key:=l[i].1) (A:=l.take i) (L:=[l[i]]) (C:=[]) h (by simp);have h2:=restL_mid (key:=l[i].1) (A:=l.take i) (L:=[l[i]]) (C:=[]) h (by simp);have h3:=getL_mid (key:=l[i].1) (A:=l.take i) (L:=[l[i]]) (C:=[]) h (by simp);constructor
 ·unfold delL;rw [h1,h2];simp [headL,restL,hirr]
 ·rw [h3];simp [getL,hirr]
end
end Go.Proofs.YtofibccplbnaiaaGreatDoor
