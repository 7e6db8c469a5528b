/- Contracts of the functions that the statements of this seat reach, part 8: each says what the call answers and what it leaves of the memory. -/
import Derived.Test.YtofibccplbnaiaaGreatDoorP7
import Derived.Test.YtofibccplbnaiaaGreatDoorP6
import Derived.Test.YtofibccplbnaiaaGreatDoorP2
set_option linter.unusedVariables false
set_option linter.unusedSimpArgs false
set_option maxRecDepth 100000
set_option maxHeartbeats 64000000
namespace Go.Proofs.YtofibccplbnaiaaGreatDoor
section
structure Rp.good (R:Rp):Prop where
 few:R.pages.length≤1023
 len:∀(k:Nat) b,R.pages[k]?=some (some b)→b.length=896
section
variable {R : Rp}
theorem Rp.good.put {k:Nat} {b:List UInt8} (h:R.good) (hb:b.length=896):Rp.good (R.lay k b):=by
 refine⟨by simp[Rp.lay];exact h.few,fun j c hj=>?_⟩;unfold Rp.lay at hj;dsimp only at hj;rw[List.getElem?_set] at hj;split at hj
 ·split at hj
  ·simp only[Option.some.injEq] at hj;rw[←hj];exact hb
  ·cases hj
 ·exact h.len j c hj
theorem Rp.good.alloc (h:R.good):Rp.good R.alloc.2:=by
 unfold Rp.alloc;split
 ·exact h.put Zbo
 ·exact h
theorem Rp.good.write (h:R.good) (page:Int) (b:List UInt8):Rp.good (R.write page b).2:=by
 unfold Rp.write;split
 ·exact h
 ·split
  ·exact h
  ·rename_i hb;exact h.put (by simpa using hb)
theorem Rp.good.free (h:R.good) (page:Int):Rp.good (R.free page).2:=by
 unfold Rp.free;split
 ·exact h
 ·split
  ·exact h
  ·refine⟨by simp;exact h.few,fun j c hj=>?_⟩
   dsimp only at hj;rw[List.getElem?_set] at hj;split at hj
   ·split at hj
    ·cases hj
    ·cases hj
   ·exact h.len j c hj
theorem Rp.good.setRoot (h:R.good) (page:Int):Rp.good (R.setRoot page).2:=by
 unfold Rp.setRoot;split
 ·exact h
 ·exact⟨h.few,h.len⟩
theorem Rp.good.freeT (h:R.good) (page:Int):Rp.good (R.freeT page).2:=by
 unfold Rp.freeT;split
 ·exact(h.setRoot _).free _
 ·exact h.free _
theorem Rp.good.layN:∀(f:Nat) {R:Rp} (n:Nd),R.good→Rp.good (R.layN f n).2
 | 0,R,n,h=>h
 | f+1,R,n,h=>by
  rw[Rp.layN];split
  ·exact h
  ·split
   ·split
    ·exact Rp.good.layN f _ h
    ·exact Rp.good.layN f _ (Rp.good.layN f _ h)
   ·split
    ·exact(h.alloc).write _ _
    ·exact h.alloc
theorem Rp.good.layL (h:R.good) (n:Nd):Rp.good (R.layL n).2:=Rp.good.layN _ n h
theorem Rp.good.load (h:R.good) {page:Int} {nd:Nd} (he:(R.load page).1=some nd):nd.fit:=by
 unfold Rp.load at he;split at he
 ·cases he
 ·rename_i h0
  have h0':(R.read page).2=0:=by simpa using h0
  cases hr:Zah (R.read page).1 with
  | none=>rw[hr] at he;cases he
  | some n =>
   rw[hr] at he;cases he;refine readN_fit ?_ hr
   cases ht:R.taken page with
   | false=>rw[Rp.read,if_pos ht] at h0';cases h0'
   | true =>
    obtain⟨a1,a2,b,a3⟩:=Zbt ht;have:(R.read page).1=b:=by rw[Rp.read,if_neg (by simp[ht]),List.getD_eq_getElem?_getD,a3];rfl
    rw[this];exact h.len _ b a3
theorem LP.good {n:Nat} {J:Jn} {seq:Int} {B:List (List UInt8)} {w:World} {F:Ft} {p:Nat} {f:Pf} (h:LP n J seq B w F p f R):R.good:=by have h1:=h.n1;obtain⟨P,_,_,h3⟩:=h;exact⟨h1,fun k b hk=>(h3.pagen k b hk).1⟩
end
theorem Qq (k:List UInt8) (l:List En):(Zr k l).length=l.length:=by cases l<;>rfl
theorem Zgv {k:List UInt8} (hk:k.length≤80) {l:List En} (h:∀e∈l,e.few):∀e∈Zr k l,e.few:=by
 cases l with
 | nil=>exact h
 | cons x r =>
  intro e he;rcases List.mem_cons.1 he with rfl | he
  ·have:=h x (List.mem_cons_self ..);exact⟨hk,this.val,this.k0,this.k1⟩
  ·exact h e (List.mem_cons_of_mem _ he)
theorem Zdu {l:List En} (h:∀e∈l,e.few) (i:Nat):(atK l i).length≤80:=by
 unfold atK
 cases hi:l[i]? with
 | none=>simp
 | some e=>exact(h e (List.mem_of_getElem? hi)).key
theorem Zec {l:List En} (h:∀e∈l,e.few) (i:Nat):0≤Zn l i∧Zn l i<65536:=by
 unfold Zn
 cases hi:l[i]? with
 | none=>exact⟨Int.le_refl _,(by decide:(0:Int)<65536)⟩
 | some e =>
  have:=h e (List.mem_of_getElem? hi);exact⟨this.k0,this.k1⟩
theorem Zdf:∀(l:List En) (i:Nat),(∀e∈l,e.few)→Zg false i l≤83*l.length
 | [],_,_=>by simp[Zg]
 | e::r,i,h=>by have h1:=En.size_in (leaf:=false) rfl i e (h e (List.mem_cons_self ..)).key;have h2:=Zdf r (i+1) fun x hx=>h x (List.mem_cons_of_mem _ hx);rw[Zg,List.length_cons];omega
theorem merge_few {l M:List En} (k d:Nat) (hl:∀e∈l,e.few) (hM:∀e∈M,e.few) {key:List UInt8} (hk:key.length≤80):∀e∈l.take k++(Zr key M++l.drop d),e.few:=by
 intro e he;rcases List.mem_append.1 he with he | he
 ·exact hl e (List.mem_of_mem_take he)
 ·rcases List.mem_append.1 he with he | he
  ·exact Zgv hk hM e he
  ·exact hl e (List.mem_of_mem_drop he)
theorem Zfo {l M:List En} (k d:Nat) (hd:k<d) (hdl:d≤l.length) (hM:∀e∈M,e.few) {key:List UInt8} (hk:key.length≤80):Zg false 0 (l.take k++(Zr key M++l.drop d))≤Zg false 0 l+83*M.length:=by
 have hlt:(l.take k).length=k:=by rw[List.length_take];omega
 have hlt2:(l.take d).length=d:=by rw[List.length_take];omega
 have h1:=Yl false (l.take d) (l.drop d) 0;rw[List.take_append_drop,hlt2,Nat.zero_add] at h1;have h2:Zg false 0 (l.take k)≤Zg false 0 (l.take d):=by have:=Zdx false (l.take d) k;rwa[List.take_take,Nat.min_eq_left (by omega)] at this
 have h3:=Zdf (Zr key M) k (Zgv hk hM);rw[Qq] at h3
 have h4:Zg false (k+(Zr key M).length) (l.drop d)≤Zg false d (l.drop d):=by
  rcases Nat.eq_zero_or_pos (k+(Zr key M).length) with h | h
  ·rw[h];exact Zba _ _ _
  ·rw[Zdj false _ _ d h (by omega)];exact Nat.le_refl _
 rw[Yl,Yl,hlt,Nat.zero_add];omega
structure Rowy (s:Nat) (l:List En):Prop where
 few:∀e∈l,e.few
 sum:Zg false 0 l≤s
theorem Rowy.len {s:Nat} {l:List En} (h:Rowy s l):2*l.length≤s:=Nat.le_trans (Zav false l 0) h.sum
theorem Zgo {k:List UInt8} (hk:k.length≤80) {l:List En} (leaf:Bool) (j:Nat) (hl:leaf=false):Zg leaf j (Zr k l)≤Zg leaf j l+80:=by
 cases l with
 | nil=>simp[Zr,Zg]
 | cons x r =>
  subst hl;rw[Zr,Zg,Zg]
  have:En.size false j { x with key:=k }≤x.size false j+80:=by
   unfold En.size;simp only[Bool.false_eq_true,if_false]
   split<;>omega
  omega
theorem joint {a b:Nd} (ha:a.fit) (hb:b.fit) (he:a.leaf=b.leaf) {key:List UInt8} (hk:key.length≤80):(∀e∈a.l++(if b.leaf then b.l else Zr key b.l),e.few)∧(Nd.mk a.leaf (a.l++(if b.leaf then b.l else Zr key b.l))).sum≤1947:=by
 have h1:=ha.sum;have h2:=hb.sum;unfold Nd.sum at *;dsimp only;rw[Yl]
 cases hl:b.leaf with
 | true =>
  rw[hl] at h2;rw[he,hl] at h1 ⊢;simp only[if_true];refine⟨fun e he=>(List.mem_append.1 he).elim (ha.few e) (hb.few e),?_⟩;have:=Zad true b.l (0+a.l.length) fun e he=>(hb.few e he).key
  simp only[if_true] at this;omega
 | false =>
  rw[hl] at h2;rw[he,hl] at h1 ⊢;simp only[Bool.false_eq_true,if_false];refine⟨fun e he=>(List.mem_append.1 he).elim (ha.few e) (Zgv hk hb.few e),?_⟩;have h3:=Zad false b.l (0+a.l.length) fun e he=>(hb.few e he).key
  have h4:=Zgo (l:=b.l) hk false (0+a.l.length) rfl;simp only[Bool.false_eq_true,if_false] at h3;omega
theorem Zgd {R:Rp} (hR:R.good) {l:List En} {s:Nat} (hl:Rowy s l) {k i:Nat} (hk:k+1<l.length):Rp.good (R.joinN l k i).2∧Rowy (s+498) (R.joinN l k i).1.2:=by
 have h0:Rowy (s+498) l:=⟨hl.few,by have:=hl.sum;omega⟩;unfold Rp.joinN;split
 ·exact⟨hR,h0⟩
 ·split
  ·exact⟨hR,h0⟩
  ·split
   ·exact⟨hR,h0⟩
   ·rename_i a e2 hla
    split
    ·exact⟨hR,h0⟩
    ·rename_i b e3 hlb
     split
     ·exact⟨hR,h0⟩
     ·rename_i hab
      have fa:=hR.load (by rw[hla]);have fb:=hR.load (by rw[hlb]);have g1:=hR.free (Zn l k);have g2:=g1.free (Zn l (k+1));obtain⟨j1,j2⟩:=joint fa fb (by simpa using hab) (Zdu hl.few (k+1));obtain⟨bl,hbl⟩:∃bl,bl=if b.leaf then b.l else Zr (atK l (k+1)) b.l:=⟨_,rfl⟩
      rw[←hbl] at j1 j2 ⊢;split
      ·exact⟨g1,h0⟩
      ·split
       ·exact⟨g2,h0⟩
       ·obtain⟨b1,b2,b3⟩:=layL_bounds (m:=6) g2.few (n:=⟨a.leaf,a.l++bl⟩) j1 (by omega) (by omega)
        have g3:=g2.layL ⟨a.leaf,a.l++bl⟩;split
        ·exact⟨g3,h0⟩
        ·refine⟨g3,merge_few k (k+2) hl.few b1 (Zdu hl.few k),?_⟩
         refine Nat.le_trans (Zfo k (k+2) (by omega) (by omega) b1 (l:=l) (Zdu hl.few k)) ?_;have:=hl.sum
         omega
def ChgOk (c:Chg):Prop:=∀l i is,(∀e∈l,e.few)→Zg true 0 l≤893→i≤l.length→(is=true→i<l.length)→(∀e∈c l i is,e.few)∧Zg true 0 (c l i is)≤1175
theorem Zgi {R:Rp} (hR:R.good) (page:Int) {n:Nd} (hf:∀e∈n.l,e.few) (hs:n.sum≤1484):Rp.good (R.relay page n).2∧(∀e∈(R.relay page n).1.1,e.few)∧(R.relay page n).1.1.length≤4:=by
 unfold Rp.relay;split
 ·exact⟨hR.freeT page,by simp,by simp⟩
 ·obtain⟨b1,b2,b3⟩:=layL_bounds (m:=4) (hR.freeT page).few hf (by omega) (by omega);exact⟨Rp.good.layN _ n (hR.freeT page),b1,b2⟩
theorem Zdz {n:Nd} (h:n.l≠[]) (hl:n.leaf=false) (key:List UInt8):(n.behind key).1<n.l.length:=by
 unfold Nd.behind;rw[hl];simp only[Bool.false_eq_true,if_false]
 cases hn:n.l with
 | nil=>exact absurd hn h
 | cons x r =>
  have:=List.takeWhile_sublist (l:=r) fun e=>!decide (key<e.key);have:=this.length_le;simp;omega
theorem Zbh {n:Nd} (hl:n.leaf=true) (key:List UInt8):(n.behind key).1≤n.l.length∧((n.behind key).2=true→(n.behind key).1<n.l.length):=by
 unfold Nd.behind;rw[hl];simp only[if_true];have h1:=(List.takeWhile_sublist (l:=n.l) fun e=>decide (e.key<key)).length_le
 refine⟨h1,fun h=>?_⟩;rcases Nat.lt_or_ge (n.l.takeWhile fun e=>decide (e.key<key)).length n.l.length with h2 | h2
 ·exact h2
 ·have h3:=List.takeWhile_append_dropWhile (p:=fun e:En=>decide (e.key<key)) (l:=n.l);have h4:=congrArg List.length h3;rw[List.length_append] at h4;have h5:n.l.dropWhile (fun e=>decide (e.key<key))=[]:=List.eq_nil_of_length_eq_zero (by omega);rw[h5] at h;simp at h
theorem Zfw {c:Chg} (hc:ChgOk c) (key:List UInt8):∀(f:Nat) {R:Rp} (page:Int),R.good→Rp.good (R.anewN c key f page).2∧(∀e∈(R.anewN c key f page).1.1,e.few)∧(R.anewN c key f page).1.1.length≤4
 | 0,R,page,h=>⟨h,by simp[Rp.anewN],by simp[Rp.anewN]⟩
 | f+1,R,page,h=>by
  rw[Rp.anewN];split
  ·exact⟨h,by simp,by simp⟩
  ·rename_i n e hn
   have fn:=h.load (by rw[hn]);split
   ·rename_i hl
    obtain⟨a,b⟩:=Zbh hl key;obtain⟨c1,c2⟩:=hc n.l _ _ fn.few (by have:=fn.sum;unfold Nd.sum at this;rw[hl] at this;exact this) a b
    exact Zgi h page c1 (by unfold Nd.sum;dsimp only;omega)
   ·rename_i hl
    have hl':n.leaf=false:=by simpa using hl
    have hi:=Zdz fn.some hl' key;obtain⟨g1,g2,g3⟩:=Zfw hc key f (Zn n.l (n.behind key).1) h
    have hr:Rowy (893+332) (Yr n.l (R.anewN c key f (Zn n.l (n.behind key).1)).1.1 (n.behind key).1):=by
     refine⟨merge_few _ _ fn.few g2 (Zdu fn.few _),?_⟩;have h1:=Zfo (l:=n.l) (n.behind key).1 ((n.behind key).1+1) (by omega) (by omega) g2 (Zdu fn.few (n.behind key).1)
     have h2:=fn.sum;unfold Nd.sum at h2;rw[hl'] at h2;unfold Yr;omega
    split
    ·exact⟨g1,by simp,by simp⟩
    ·split
     ·rename_i hj
      have hr1:Rowy (893+83) (Yr n.l (R.anewN c key f (Zn n.l (n.behind key).1)).1.1 (n.behind key).1):=by
       refine⟨hr.few,?_⟩;have h1:=Zfo (l:=n.l) (n.behind key).1 ((n.behind key).1+1) (by omega) (by omega) g2 (Zdu fn.few (n.behind key).1)
       have h2:=fn.sum;unfold Nd.sum at h2;rw[hl'] at h2;rw[hj.1] at h1;unfold Yr;omega
      obtain⟨j1,j2⟩:=Zgd g1 hr1 (k:=min (n.behind key).1 ((Yr n.l (R.anewN c key f (Zn n.l (n.behind key).1)).1.1 (n.behind key).1).length - 2)) (i:=(n.behind key).1) (by have:=hj.2;omega);split
      ·exact⟨j1,by simp,by simp⟩
      ·exact Zgi j1 page j2.few (by have:=j2.sum;unfold Nd.sum;dsimp only;omega)
     ·exact Zgi g1 page hr.few (by have:=hr.sum;unfold Nd.sum;dsimp only;omega)
end
section
abbrev KV:=List UInt8 × List UInt8
def rowN (leaf:Bool) (to_:List UInt8) (rec:Int→Int→(List KV × Bool) × Int):List En→Int→(List KV × Bool) × Int
 | [],left=>(([],true),left)
 | x::r,left =>
  if leaf then (if to_≠[]∧¬x.key<to_ then (([],false),left) else (((x.key,x.val)::(rowN leaf to_ rec r left).1.1,(rowN leaf to_ rec r left).1.2),(rowN leaf to_ rec r left).2))
  else if (rec x.kid left).1.2=false then rec x.kid left
  else (((rec x.kid left).1.1++(rowN leaf to_ rec r (rec x.kid left).2).1.1,(rowN leaf to_ rec r (rec x.kid left).2).1.2),(rowN leaf to_ rec r (rec x.kid left).2).2)
def Rp.walkN (R:Rp) (from_ to_:List UInt8):Nat→Int→Int→(List KV × Bool) × Int
 | 0,_,left=>(([],false),left)
 | g+1,page,left =>
  match R.load page with
  | (none,_)=>(([],false),left - 1)
  | (some n,_)=>if g=0∨left - 1<0 then (([],false),left - 1) else rowN n.leaf to_ (Rp.walkN R from_ to_ g) (n.l.drop (n.behind from_).1) (left - 1)
def Rp.rangeN (R:Rp) (from_ to_:List UInt8):List KV:=if 0≤R.root then (R.walkN from_ to_ 42 R.root (R.pages.length:Int)).1.1 else []
structure SoS where
 met:Int
 bottom:Int
def Xt (leaf:Bool) (low high:List UInt8) (rec:Int→List UInt8→List UInt8→SoS→Int × SoS):Nat→List En→SoS→Int × SoS
 | _,[],s=>(0,s)
 | i,x::r,s =>
  if (leaf=true∨0<i)∧(x.key<low∨(high≠[]∧¬x.key<high)) then (103,s)
  else if leaf then Xt leaf low high rec (i+1) r s
  else if (rec x.kid (if 0<i then x.key else low) (match r with | []=>high | y::_=>y.key) s).1≠0 then rec x.kid (if 0<i then x.key else low) (match r with | []=>high | y::_=>y.key) s
  else Xt leaf low high rec (i+1) r (rec x.kid (if 0<i then x.key else low) (match r with | []=>high | y::_=>y.key) s).2
def Rp.soundN (R:Rp):Nat→Int→List UInt8→List UInt8→Bool→SoS→Int × SoS
 | 0,_,_,_,_,s=>(103,s)
 | g+1,page,low,high,top,s =>
  match R.load page with
  | (none,e)=>(e,s)
  | (some n,_) =>
   if (R.pages.length:Int)<s.met+1∨g=0∨(top=false∧n.sum<297)∨(n.leaf=false∧n.l.length<2) then (103,{ s with met:=s.met+1 })
   else if n.leaf=true∧0≤s.bottom∧s.bottom≠41 - (g:Int) then (103,{ s with met:=s.met+1 })
   else Xt n.leaf low high (fun kid lo hi s=>Rp.soundN R g kid lo hi false s) 0 n.l ⟨s.met+1,if n.leaf then 41 - (g:Int) else s.bottom⟩
def Rp.sound (R:Rp):Int :=
 if 0≤R.root then (if (R.soundN 42 R.root [] [] true ⟨0,-1⟩).1≠0 then (R.soundN 42 R.root [] [] true ⟨0,-1⟩).1 else if (R.soundN 42 R.root [] [] true ⟨0,-1⟩).2.met≠(R.pages.length:Int) - Ye R.pages then 103 else 0)
 else if (0:Int)≠(R.pages.length:Int) - Ye R.pages then 103 else 0
end
section
structure Kid where
 e:En
 l:List KV
 P:List Int
structure Xe (S:Int→List KV→List Int→Prop) (T:List Kid):Prop where
 kid:∀t∈T,S t.e.kid t.l t.P
 some:∀t∈T,t.l≠[]
 low:∀t∈T,∀x∈t.l,¬x.1<t.e.key
 ord:T.Pairwise fun a b=>∀x∈a.l,x.1<b.e.key
def Qk (e:En):KV:=(e.key,e.val)
def Big (R:Rp) (page:Int):Prop:=∀n,(R.load page).1=some n→297≤n.sum
def Sub (R:Rp):Nat→Int→List KV→List Int→Prop
 | 0,page,l,P=>∃n,R.load page=(some n,0)∧n.leaf=true∧l=n.l.map Qk∧P=[page]
 | h+1,page,l,P=>∃n T,R.load page=(some n,0)∧n.leaf=false∧n.l=T.map (·.e)∧l=T.flatMap (·.l)∧P=page::T.flatMap (·.P)∧Xe (Sub R h) T∧∀t∈T,Big R t.e.kid
section
variable {S : Int → List KV → List Int → Prop} {T A C : List Kid}
theorem Xe.append (h1:Xe S A) (h2:Xe S C) (h:∀a∈A,∀c∈C,∀x∈a.l,x.1<c.e.key):Xe S (A++C) :=
 ⟨fun t ht=>(List.mem_append.1 ht).elim (h1.kid t) (h2.kid t),fun t ht=>(List.mem_append.1 ht).elim (h1.some t) (h2.some t),fun t ht=>(List.mem_append.1 ht).elim (h1.low t) (h2.low t),List.pairwise_append.2 ⟨h1.ord,h2.ord,h⟩⟩
theorem Xe.left (h:Xe S (A++C)):Xe S A :=
 ⟨fun t ht=>h.kid t (List.mem_append_left _ ht),fun t ht=>h.some t (List.mem_append_left _ ht),fun t ht=>h.low t (List.mem_append_left _ ht),(List.pairwise_append.1 h.ord).1⟩
theorem Xe.right (h:Xe S (A++C)):Xe S C :=
 ⟨fun t ht=>h.kid t (List.mem_append_right _ ht),fun t ht=>h.some t (List.mem_append_right _ ht),fun t ht=>h.low t (List.mem_append_right _ ht),(List.pairwise_append.1 h.ord).2.1⟩
theorem Xe.mid (h:Xe S (A++C)):∀a∈A,∀c∈C,∀x∈a.l,x.1<c.e.key:=(List.pairwise_append.1 h.ord).2.2
end
def Rise (l:List KV):Prop:=l.Pairwise fun a b=>a.1<b.1
theorem Xz {a b c:List UInt8} (h1:a<b) (h2:¬c<b):a<c:=by apply Classical.byContradiction;intro h;exact h2 (List.lt_of_le_of_lt (List.not_lt.1 h) h1)
theorem Xe.rise {S:Int→List KV→List Int→Prop}:∀{T:List Kid},Xe S T→(∀t∈T,Rise t.l)→Rise (T.flatMap (·.l))
 | [],_,_=>List.Pairwise.nil
 | t::r,h,hr=>by have h':Xe S ([t]++r):=h;rw[List.flatMap_cons];refine List.pairwise_append.2 ⟨hr t (List.mem_cons_self ..),Xe.rise h'.right fun x hx=>hr x (List.mem_cons_of_mem _ hx),fun x hx y hy=>?_⟩;obtain⟨c,hc,hy⟩:=List.mem_flatMap.1 hy;exact Xz (h'.mid t (by simp) c hc x hx) (h'.right.low c hc y hy)
end
section
def Zab (l:List KV) (key:List UInt8):List UInt8 × Bool:=match l.dropWhile (fun x=>decide (x.1<key)) with
 | []=>([],false)
 | x::_=>if x.1=key then (x.2,true) else ([],false)
theorem Zfa {α:Type} {f:α→Bool}:∀{A:List α} (C:List α),(∀a∈A,f a=true)→(A++C).dropWhile f=C.dropWhile f
 | [],C,_=>rfl
 | a::r,C,h=>by rw[List.cons_append,List.dropWhile_cons,if_pos (h a (List.mem_cons_self ..))];exact Zfa C fun x hx=>h x (List.mem_cons_of_mem _ hx)
theorem getL_mid {A L C:List KV} {key:List UInt8} (hA:∀x∈A,x.1<key) (hC:∀x∈C,key<x.1):Zab (A++(L++C)) key=Zab L key:=by
 unfold Zab;rw[Zfa _ fun a ha=>by simpa using hA a ha]
 have key2:∀L:List KV,(match (L++C).dropWhile (fun x=>decide (x.1<key)) with | []=>(([],false):List UInt8 × Bool) | x::_=>if x.1=key then (x.2,true) else ([],false))=match L.dropWhile (fun x=>decide (x.1<key)) with | []=>([],false) | x::_=>if x.1=key then (x.2,true) else ([],false):=by
  intro L
  induction L with
  | nil =>
   cases C with
   | nil=>rfl
   | cons c r =>
    have hc:=hC c (List.mem_cons_self ..);have h1:¬c.1<key:=fun h=>List.lt_irrefl _ (List.lt_trans hc h);have h2:¬c.1=key:=fun h=>by rw[h] at hc;exact List.lt_irrefl _ hc
    rw[List.nil_append,List.dropWhile_cons,if_neg (by simpa using h1)];simp[h2]
  | cons x r ih =>
   rw[List.cons_append,List.dropWhile_cons,List.dropWhile_cons];by_cases hx:x.1<key
   ·rw[if_pos (by simpa using hx),if_pos (by simpa using hx)];exact ih
   ·rw[if_neg (by simpa using hx),if_neg (by simpa using hx)]
 exact key2 L
theorem leaf_get {n:Nd} (hl:n.leaf=true) (key:List UInt8):(if (n.behind key).2 then (((n.l[(n.behind key).1]?.map (·.val)).getD [],true):List UInt8 × Bool) else ([],false))=Zab (n.l.map Qk) key:=by
 unfold Nd.behind Zab;rw[hl];simp only[if_true]
 have h1:∀l:List En,(l.map Qk).dropWhile (fun x=>decide (x.1<key))=(l.dropWhile fun e=>decide (e.key<key)).map Qk:=by
  intro l
  induction l with
  | nil=>rfl
  | cons e r ih =>
   rw[List.map_cons,List.dropWhile_cons,List.dropWhile_cons];have:decide ((Qk e).1<key)=decide (e.key<key):=rfl
   rw[this];split
   ·exact ih
   ·rfl
 have h2:∀l:List En,l[(l.takeWhile fun e=>decide (e.key<key)).length]?=(l.dropWhile fun e=>decide (e.key<key)).head?:=by
  intro l
  induction l with
  | nil=>rfl
  | cons e r ih =>
   rw[List.takeWhile_cons,List.dropWhile_cons];split
   ·simpa using ih
   ·rfl
 rw[h1,h2]
 cases hd:n.l.dropWhile (fun e=>decide (e.key<key)) with
 | nil=>simp
 | cons e r =>
  simp only[List.head?_cons,Option.map_some,List.map_cons];by_cases he:e.key=key
  ·simp[he,Qk]
  ·simp[he,Qk]
theorem Zfg {α:Type} {f:α→Bool}:∀{l:List α} {x:α},x∈l.takeWhile f→f x=true
 | [],x,h=>by simp at h
 | a::r,x,h=>by
  rw[List.takeWhile_cons] at h;split at h
  ·rename_i ha
   rcases List.mem_cons.1 h with rfl | h
   ·exact ha
   ·exact Zfg h
  ·simp at h
theorem Zeg {α:Type} {f:α→Bool}:∀{l:List α} {x:α} {r:List α},l.dropWhile f=x::r→f x=false
 | [],x,r,h=>by simp at h
 | a::l,x,r,h=>by
  rw[List.dropWhile_cons] at h;split at h
  ·exact Zeg h
  ·rename_i ha;rw[←(List.cons.inj h).1];simpa using ha
theorem Zgq {S:Int→List KV→List Int→Prop} {T:List Kid} (h:Xe S T) {n:Nd} (hl:n.leaf=false) (hT:n.l=T.map (·.e)) (hne:n.l≠[]) (key:List UInt8) :
  ∃A t C,T=A++t::C∧A.length=(n.behind key).1∧(∀a∈A,∀x∈a.l,x.1<key)∧(∀c∈C,key<c.e.key)∧(∀c∈C,∀x∈c.l,key<x.1)∧(A≠[]→¬key<t.e.key):=by
 have hi:=Zdz hne hl key;have hlen:T.length=n.l.length:=by rw[hT,List.length_map]
 have hb:(n.behind key).1=(n.l.tail.takeWhile fun e=>!decide (key<e.key)).length:=by unfold Nd.behind;rw[hl];rfl
 cases T with
 | nil=>rw[hT] at hne;exact absurd rfl hne
 | cons t0 r =>
  have hr:n.l.tail=r.map (·.e):=by rw[hT];rfl
  have hp:∀r:List Kid,((r.map (·.e)).takeWhile fun e=>!decide (key<e.key)).length=(r.takeWhile fun t=>!decide (key<t.e.key)).length:=by
   intro r
   induction r with
   | nil=>rfl
   | cons x r ih =>
    rw[List.map_cons,List.takeWhile_cons,List.takeWhile_cons];split
    ·simpa using ih
    ·rfl
  rw[hr,hp] at hb;obtain⟨U,hU⟩:∃U,U=r.takeWhile fun t=>!decide (key<t.e.key):=⟨_,rfl⟩;obtain⟨V,hV⟩:∃V,V=r.dropWhile fun t=>!decide (key<t.e.key):=⟨_,rfl⟩;have hUV:r=U++V:=by rw[hU,hV,List.takeWhile_append_dropWhile]
  have hUk:∀u∈U,¬key<u.e.key:=fun u hu=>by
   rw[hU] at hu;have:=Zfg hu
   simpa using this
  rw[←hU] at hb
  have hVk:∀c∈V,key<c.e.key:=by
   cases V with
   | nil=>simp
   | cons v s =>
    have hv:key<v.e.key:=by have:=Zeg hV.symm;simpa using this
    intro c hc;rcases List.mem_cons.1 hc with rfl | hc
    ·exact hv
    ·have h2:Xe S ((t0::U)++([v]++s)):=by rw[hUV] at h;exact h
     have h3:=h2.right;obtain⟨y,hy⟩:=List.exists_mem_of_ne_nil _ (h3.some v (by simp));have h4:=h3.mid v (by simp) c hc y hy;have h5:=h3.low v (by simp) y hy;exact List.lt_trans hv (List.lt_of_le_of_lt (List.not_lt.1 h5) h4)
  have hVx:∀c∈V,(t0::r)=(t0::U)++V→∀x∈c.l,key<x.1:=fun c hc _ x hx=>by have:=h.low c (by rw[hUV];simp[hc]) x hx;exact Xz (hVk c hc) this
  rcases List.eq_nil_or_concat U with rfl | ⟨U',u,hu⟩
  ·exact⟨[],t0,V,by rw[hUV];rfl,by rw[hb],by simp,hVk,fun c hc=>hVx c hc (by rw[hUV];rfl),fun h=>absurd rfl h⟩
  ·rw[List.concat_eq_append] at hu
   refine⟨t0::U',u,V,by rw[hUV,hu];simp,by rw[hb,hu];simp,fun a ha x hx=>?_,hVk,fun c hc=>hVx c hc (by rw[hUV];rfl),fun _=>hUk u (by rw[hu];simp)⟩
   have h2:Xe S ((t0::U')++([u]++V)):=by
    have e:t0::r=(t0::U')++([u]++V):=by rw[hUV,hu];simp
    rw[←e];exact h
   exact Xz (h2.mid a ha u (by simp) x hx) (hUk u (by rw[hu];simp))
theorem sub_get {R:Rp} (key:List UInt8):∀(h:Nat) (f:Nat) (page:Int) (l:List KV) (P:List Int),R.good→Sub R h page l P→h<f→R.getN key f page=(Zab l key,0)∧0≤page
 | h,0,page,l,P,_,_,hf=>by omega
 | 0,f+1,page,l,P,hg,hs,hf=>by
  obtain⟨n,h1,h2,h3,h4⟩:=hs
  have hp:0≤page:=by
   have:(R.load page).2=0:=by rw[h1]
   rcases Int.lt_or_le page 0 with hn | hn
   ·unfold Rp.load at this
    have ht:R.taken page=false:=by unfold Rp.taken;simp;omega
    rw[Rp.read,if_pos ht] at this;simp at this
   ·exact hn
  refine⟨?_,hp⟩;rw[Rp.getN,if_neg (by omega),h1];simp only[h2,if_true];have:=leaf_get h2 key
  rw[h3,←this]
  split<;>first | rfl | (split<;>rfl)
 | h+1,f+1,page,l,P,hg,hs,hf=>by
  obtain⟨n,T,h1,h2,h3,h4,h5,h6,h7⟩:=hs
  have hp:0≤page:=by
   have:(R.load page).2=0:=by rw[h1]
   rcases Int.lt_or_le page 0 with hn | hn
   ·unfold Rp.load at this
    have ht:R.taken page=false:=by unfold Rp.taken;simp;omega
    rw[Rp.read,if_pos ht] at this;simp at this
   ·exact hn
  refine⟨?_,hp⟩;have hfit:=hg.load (page:=page) (nd:=n) (by rw[h1])
  obtain⟨A,t,C,e1,e2,e3,e4,e5,e6⟩:=Zgq h6 h2 h3 hfit.some key;rw[Rp.getN,if_neg (by omega),h1];simp only[h2,Bool.false_eq_true,if_false];have hk:Zn n.l (n.behind key).1=t.e.kid:=by rw[Zn,h3,e1,←e2,List.map_append,List.map_cons,List.getElem?_append_right (by simp)];simp
  rw[hk,(sub_get key h f t.e.kid t.l t.P hg (h6.kid t (by rw[e1];simp)) (by omega)).1,h4,e1,List.flatMap_append,List.flatMap_cons]
  rw[getL_mid (fun x hx=>by
   obtain⟨a,ha,hx⟩:=List.mem_flatMap.1 hx;exact e3 a ha x hx) (fun x hx=>by
   obtain⟨c,hc,hx⟩:=List.mem_flatMap.1 hx
   exact e5 c hc x hx)]
end
section
structure Fr (R R':Rp) (X X':List Int):Prop where
 len:R'.pages.length=R.pages.length
 root:R'.root=R.root
 was:R'.was=R.was
 wroot:R'.wroot=R.wroot
 own:∀p∈X,R.taken p=true
 own':∀p∈X',R'.taken p=true
 nd:X.Nodup
 nd':X'.Nodup
 keep:∀p,R.taken p=true→p∉X→R'.taken p=true∧p∉X'∧R'.read p=R.read p
 back:∀p,R'.taken p=true→p∉X'→R.taken p=true∧p∉X
 count:Ye R'.pages+X'.length=Ye R.pages+X.length
 good:R.good→R'.good
section
variable {R R' R1 R2 : Rp} {X X' X1 X2 Y : List Int}
theorem Fr.refl (h:∀p∈X,R.taken p=true) (hn:X.Nodup):Fr R R X X:=⟨rfl,rfl,rfl,rfl,h,h,hn,hn,fun p h1 h2=>⟨h1,h2,rfl⟩,fun p h1 h2=>⟨h1,h2⟩,rfl,id⟩
theorem Fr.trans (h1:Fr R R1 X X1) (h2:Fr R1 R2 X1 X2):Fr R R2 X X2 :=
 ⟨h2.len.trans h1.len,h2.root.trans h1.root,h2.was.trans h1.was,h2.wroot.trans h1.wroot,h1.own,h2.own',h1.nd,h2.nd',fun p a b=>by
  obtain⟨c1,c2,c3⟩:=h1.keep p a b;obtain⟨d1,d2,d3⟩:=h2.keep p c1 c2;exact⟨d1,d2,d3.trans c3⟩,fun p a b=>by
  obtain⟨c1,c2⟩:=h2.back p a b
  exact h1.back p c1 c2,by have:=h1.count;have:=h2.count;omega,fun g=>h2.good (h1.good g)⟩
theorem Fr.beside (h:Fr R R' X X') (hy:∀p∈Y,R.taken p=true) (hd:∀p∈Y,p∉X) (hn:Y.Nodup):Fr R R' (X++Y) (X'++Y):=by
 have hk:∀p∈Y,R'.taken p=true∧p∉X'∧R'.read p=R.read p:=fun p hp=>h.keep p (hy p hp) (hd p hp);refine⟨h.len,h.root,h.was,h.wroot,fun p hp=>(List.mem_append.1 hp).elim (h.own p) (hy p),fun p hp=>(List.mem_append.1 hp).elim (h.own' p) fun q=>(hk p q).1,?_,?_,fun p a b=>?_,fun p a b=>?_,by have:=h.count;simp only[List.length_append];omega,h.good⟩
 ·exact List.nodup_append.2 ⟨h.nd,hn,fun a ha b hb e=>hd b hb (e▸ha)⟩
 ·exact List.nodup_append.2 ⟨h.nd',hn,fun a ha b hb e=>(hk b hb).2.1 (e▸ha)⟩
 ·rw[List.mem_append] at b;obtain⟨c1,c2,c3⟩:=h.keep p a fun e=>b (.inl e);exact⟨c1,fun e=>(List.mem_append.1 e).elim c2 fun e=>b (.inr e),c3⟩
 ·rw[List.mem_append] at b;obtain⟨c1,c2⟩:=h.back p a fun e=>b (.inl e);exact⟨c1,fun e=>(List.mem_append.1 e).elim c2 fun e=>b (.inr e)⟩
theorem Fr.perm (h:Fr R R' X X') (h1:X.Perm X1) (h2:X'.Perm X2):Fr R R' X1 X2 :=
 ⟨h.len,h.root,h.was,h.wroot,fun p hp=>h.own p (h1.mem_iff.2 hp),fun p hp=>h.own' p (h2.mem_iff.2 hp),h1.nodup_iff.1 h.nd,h2.nodup_iff.1 h.nd',fun p a b=>by
  obtain⟨c1,c2,c3⟩:=h.keep p a fun e=>b (h1.mem_iff.1 e);exact⟨c1,fun e=>c2 (h2.mem_iff.2 e),c3⟩,fun p a b=>by
  obtain⟨c1,c2⟩:=h.back p a fun e=>b (h2.mem_iff.1 e)
  exact⟨c1,fun e=>c2 (h1.mem_iff.2 e)⟩,by have:=h.count;have:=h1.length_eq;have:=h2.length_eq;omega,h.good⟩
theorem Rp.load_read {p:Int} (h:R'.read p=R.read p):R'.load p=R.load p:=by unfold Rp.load;rw[h]
theorem Yd {p:Int} {n:Nd} (h:R.load p=(some n,0)):R.taken p=true:=by
 cases ht:R.taken p with
 | true=>rfl
 | false =>
  unfold Rp.load at h;rw[Rp.read,if_pos ht] at h;simp at h
theorem Sub.same:∀(h:Nat) {page:Int} {l:List KV} {P:List Int},Sub R h page l P→(∀p∈P,R'.read p=R.read p)→Sub R' h page l P
 | 0,page,l,P,hs,hr=>by obtain⟨n,h1,h2,h3,h4⟩:=hs;exact⟨n,by rw[Rp.load_read (hr page (by rw[h4];simp))];exact h1,h2,h3,h4⟩
 | h+1,page,l,P,hs,hr=>by
  obtain⟨n,T,h1,h2,h3,h4,h5,h6,h7⟩:=hs;have hrt:∀t∈T,∀p∈t.P,R'.read p=R.read p:=fun t ht p hp=>hr p (by rw[h5];exact List.mem_cons_of_mem _ (List.mem_flatMap.2 ⟨t,ht,hp⟩))
  refine⟨n,T,by rw[Rp.load_read (hr page (by rw[h5];simp))];exact h1,h2,h3,h4,h5,⟨fun t ht=>Sub.same h (h6.kid t ht) (hrt t ht),h6.some,h6.low,h6.ord⟩,fun t ht m hm=>?_⟩
  have hpg:t.e.kid∈t.P:=by
   have:=h6.kid t ht
   cases h with
   | zero=>obtain⟨_,_,_,_,e⟩:=this;rw[e];simp
   | succ h=>obtain⟨_,_,_,_,_,_,e,_⟩:=this;rw[e];simp
  rw[Rp.load_read (hrt t ht _ hpg)] at hm;exact h7 t ht m hm
theorem Sub.page:∀(h:Nat) {page:Int} {l:List KV} {P:List Int},Sub R h page l P→page∈P
 | 0,page,l,P,hs=>by obtain⟨_,_,_,_,e⟩:=hs;rw[e];simp
 | h+1,page,l,P,hs=>by obtain⟨_,_,_,_,_,_,e,_⟩:=hs;rw[e];simp
theorem Sub.taken:∀(h:Nat) {page:Int} {l:List KV} {P:List Int},Sub R h page l P→∀p∈P,R.taken p=true
 | 0,page,l,P,hs=>by obtain⟨n,h1,h2,h3,h4⟩:=hs;intro p hp;rw[h4,List.mem_singleton] at hp;rw[hp];exact Yd h1
 | h+1,page,l,P,hs=>by
  obtain⟨n,T,h1,h2,h3,h4,h5,h6,h7⟩:=hs;intro p hp;rw[h5] at hp;rcases List.mem_cons.1 hp with rfl | hp
  ·exact Yd h1
  ·obtain⟨t,ht,hp⟩:=List.mem_flatMap.1 hp;exact Sub.taken h (h6.kid t ht) p hp
end
end
section
theorem countP_at {α:Type} (g:α→Bool):∀(l:List α) (k:Nat) (x:α) (hk:k<l.length),(l.set k x).countP g+(if g l[k] then 1 else 0)=l.countP g+(if g x then 1 else 0)
 | [],k,x,hk=>by simp at hk
 | a::r,0,x,hk=>by simp only[List.set_cons_zero,List.countP_cons,List.getElem_cons_zero];omega
 | a::r,k+1,x,hk=>by have:=countP_at g r k x (by simpa using hk);simp only[List.set_cons_succ,List.countP_cons,List.getElem_cons_succ];omega
def pgAt (R:Rp) (p:Int):Option (List UInt8):=if 0≤p then R.pages.getD p.toNat none else none
theorem Qa (R:Rp) (p:Int):R.taken p=(pgAt R p).isSome:=by
 unfold Rp.taken pgAt;by_cases h0:0≤p
 ·rw[if_pos h0]
  by_cases h1:p<(R.pages.length:Int)
  ·simp[h0,h1]
  ·have:R.pages[p.toNat]?=none:=List.getElem?_eq_none (by omega);rw[List.getD_eq_getElem?_getD,this];simp[h0]
 ·simp[h0]
theorem Zfq (R:Rp) (p:Int):R.read p=match pgAt R p with | none=>([],81) | some b=>(b,0):=by
 unfold Rp.read;rw[Qa]
 cases h:pgAt R p with
 | none=>simp
 | some b =>
  unfold pgAt at h;split at h
  ·rw[h];simp
  ·cases h
theorem pgAt_set {R R':Rp} {k:Nat} {x:Option (List UInt8)} (hk:k<R.pages.length) (hp:R'.pages=R.pages.set k x) (p:Int):pgAt R' p=if p=(k:Int) then x else pgAt R p:=by
 unfold pgAt;rw[hp];by_cases h0:0≤p
 ·rw[if_pos h0,if_pos h0,List.getD_eq_getElem?_getD,List.getElem?_set,List.getD_eq_getElem?_getD]
  by_cases he:p=(k:Int)
  ·have:k=p.toNat:=by omega
   rw[if_pos this,if_pos he,if_pos hk];rfl
  ·rw[if_neg he,if_neg (by omega)]
 ·rw[if_neg h0,if_neg h0,if_neg (by omega)]
theorem fr_put {R:Rp} (hg:R.good) (h:0<Ye R.pages) (b:List UInt8) (hb:b.length=896) :
  ∃k:Int,R.alloc.1=(k,0)∧(R.alloc.2.write k b).1=0∧Fr R (R.alloc.2.write k b).2 [] [k]∧(R.alloc.2.write k b).2.read k=(b,0):=by
 cases hf:freeR R.pages with
 | none =>
  exfalso
  have:Ye R.pages=0:=by
   unfold Ye;rw[List.countP_eq_zero];intro x hx;have:=List.findIdx?_eq_none_iff.1 hf x hx
   rw[this];simp
  omega
 | some k =>
  obtain⟨hk,hk2,_⟩:=List.findIdx?_eq_some_iff_getElem.1 hf;have hkn:R.pages[k]=none:=by simpa using hk2
  have ha:R.alloc=(((k:Int),0),R.lay k Zbf):=by unfold Rp.alloc;rw[hf]
  have hp1:(R.lay k Zbf).pages=R.pages.set k (some Zbf):=rfl;have ht:(R.lay k Zbf).taken (k:Int)=true:=by rw[Qa,pgAt_set hk hp1,if_pos rfl];rfl
  have hw:(R.lay k Zbf).write (k:Int) b=(0,(R.lay k Zbf).lay k b):=by unfold Rp.write;rw[if_neg (by rw[ht];simp),if_neg (by omega)];simp
  have hp2:((R.lay k Zbf).lay k b).pages=R.pages.set k (some b):=by
   show (R.pages.set k (some Zbf)).set k (some b)=_
   rw[List.set_set]
  have hpg:=fun p=>pgAt_set (R:=R) (R':=(R.lay k Zbf).lay k b) hk hp2 p;have h0:pgAt R (k:Int)=none:=by unfold pgAt;rw[if_pos (by omega),List.getD_eq_getElem?_getD];simp[hk,hkn]
  refine⟨(k:Int),by rw[ha],by rw[ha];exact congrArg Prod.fst hw,?_,?_⟩
  ·rw[ha]
   dsimp only;rw[hw];dsimp only;refine⟨by rw[hp2,List.length_set],rfl,rfl,rfl,by simp,fun p hp=>?_,by simp,by simp,fun p a _=>?_,fun p a b'=>?_,?_,fun hg=>(hg.put Zbo).put hb⟩
   ·rw[List.mem_singleton.1 hp,Qa,hpg,if_pos rfl];rfl
   ·have hne:p≠(k:Int):=fun e=>by
     rw[Qa,e,h0] at a;cases a
    refine⟨?_,by simpa using hne,?_⟩
    ·rw[Qa,hpg,if_neg hne,←Qa];exact a
    ·rw[Zfq,hpg,if_neg hne,←Zfq]
   ·have hne:p≠(k:Int):=by simpa using b'
    rw[Qa,hpg,if_neg hne,←Qa] at a;exact⟨a,by simp⟩
   ·have:=countP_at (fun x:Option (List UInt8)=>x.isNone) R.pages k (some b) hk;rw[hkn] at this;unfold Ye;rw[hp2];simpa using this
  ·rw[ha];dsimp only;rw[hw];dsimp only;rw[Zfq,hpg,if_pos rfl]
theorem fr_free {R:Rp} {p:Int} (h:R.taken p=true) (hr:R.root≠p):(R.free p).1=0∧Fr R (R.free p).2 [p] []:=by
 obtain⟨a1,a2,b,a3⟩:=Zbt h;have hf:R.free p=(0,{ R with pages:=R.pages.set p.toNat none,change:=true }):=by unfold Rp.free;rw[if_neg (by rw[h];simp),if_neg hr]
 have hpg:=fun q=>pgAt_set (R:=R) (R':={ R with pages:=R.pages.set p.toNat none,change:=true }) a2 rfl q;have hpe:((p.toNat:Nat):Int)=p:=by omega
 rw[hpe] at hpg;rw[hf];refine⟨rfl,by simp,rfl,rfl,rfl,fun q hq=>by rw[List.mem_singleton.1 hq];exact h,by simp,by simp,by simp,fun q a hq=>?_,fun q a _=>?_,?_,fun hg=>?_⟩
 ·have hne:q≠p:=by simpa using hq
  refine⟨?_,by simp,?_⟩
  ·rw[Qa,hpg,if_neg hne,←Qa];exact a
  ·rw[Zfq,hpg,if_neg hne,←Zfq]
 ·have hne:q≠p:=fun e=>by
   rw[Qa,hpg,if_pos e] at a;cases a
  rw[Qa,hpg,if_neg hne,←Qa] at a;exact⟨a,by simpa using hne⟩
 ·have:=countP_at (fun x:Option (List UInt8)=>x.isNone) R.pages p.toNat none a2
  have hb:R.pages[p.toNat]=some b:=by rw[List.getElem?_eq_getElem a2] at a3;exact Option.some.inj a3
  rw[hb] at this;unfold Ye;simpa using this
 ·have:=hg.free p;rw[hf] at this;exact this
end
section
def Qw:Nat→Nd→List (List En)
 | 0,_=>[]
 | f+1,n=>if n.l=[] then [] else if 893<n.sum then Qw f ⟨n.leaf,n.l.take n.cut⟩++Qw f ⟨n.leaf,n.l.drop n.cut⟩ else [n.l]
theorem Zfn:∀(f:Nat) (R:Rp) (nd:Nd),nd.l.length<f→(∀e∈nd.l,e.few)→R.good→(Qw f nd).length≤Ye R.pages →
  ∃Z:List (List En × Int),(R.layN f nd).1=(Z.map (fun z=>⟨(Nd.mk nd.leaf z.1).key0,[],z.2⟩),0)∧Z.map (·.1)=Qw f nd∧Fr R (R.layN f nd).2 [] (Z.map (·.2))∧∀z∈Z,(R.layN f nd).2.read z.2=((Nd.mk nd.leaf z.1).bytes,0)
 | 0,R,nd,h,_,_,_=>by omega
 | f+1,R,nd,h,hf,hg,hr=>by
  rw[Rp.layN];rw[Qw] at hr ⊢;by_cases h0:nd.l=[]
  ·rw[if_pos h0,if_pos h0];exact⟨[],rfl,rfl,Fr.refl (by simp) (by simp),by simp⟩
  ·rw[if_neg h0,if_neg h0]
   rw[if_neg h0] at hr;by_cases hs:893<nd.sum
   ·rw[if_pos hs,if_pos hs]
    rw[if_pos hs,List.length_append] at hr;obtain⟨c1,c2,_⟩:=Nd.cut_spec hs fun e he=>En.few2 (hf e he);obtain⟨Z1,a1,a2,a3,a4⟩:=Zfn f R ⟨nd.leaf,nd.l.take nd.cut⟩ (by simp only[List.length_take];omega) (fun e he=>hf e (List.mem_of_mem_take he)) hg (by omega);have hc:=a3.count
    have hz1:(Z1.map (·.2)).length=(Qw f ⟨nd.leaf,nd.l.take nd.cut⟩).length:=by rw[←a2,List.length_map,List.length_map]
    obtain⟨Z2,b1,b2,b3,b4⟩:=Zfn f (R.layN f ⟨nd.leaf,nd.l.take nd.cut⟩).2 ⟨nd.leaf,nd.l.drop nd.cut⟩ (by simp only[List.length_drop];omega) (fun e he=>hf e (List.mem_of_mem_drop he)) (a3.good hg) (by simp only[List.length_nil] at hc;omega);have e1:(R.layN f ⟨nd.leaf,nd.l.take nd.cut⟩).1.2=0:=by rw[a1]
    rw[if_neg (fun h=>h e1)];have hb:=b3.beside (Y:=Z1.map (·.2)) a3.own' (by simp) a3.nd'
    refine⟨Z1++Z2,?_,by rw[List.map_append,a2,b2],?_,fun z hz=>?_⟩
    ·dsimp only;rw[b1,a1,List.map_append]
    ·rw[List.map_append];exact a3.trans (hb.perm (by simp) List.perm_append_comm)
    ·dsimp only
     rcases List.mem_append.1 hz with hz | hz
     ·have hm:z.2∈Z1.map (·.2):=List.mem_map.2 ⟨z,hz,rfl⟩;rw[(b3.keep z.2 (a3.own' _ hm) (by simp)).2.2];exact a4 z hz
     ·exact b4 z hz
   ·rw[if_neg hs,if_neg hs]
    rw[if_neg hs] at hr;obtain⟨k,k1,k2,k3,k4⟩:=fr_put hg (by simp at hr;omega) nd.bytes nd.bytes_length;have e1:R.alloc.1.2=0:=by rw[k1]
    have e2:R.alloc.1.1=k:=by rw[k1]
    rw[if_pos e1,e2];refine⟨[(nd.l,k)],?_,rfl,k3,fun z hz=>?_⟩
    ·dsimp only;rw[k2];rfl
    ·rw[List.mem_singleton.1 hz];exact k4
theorem Zat:∀(f:Nat) (nd:Nd),nd.l.length<f→(∀e∈nd.l,e.few)→(Qw f nd).flatten=nd.l∧(∀q∈Qw f nd,q≠[]∧(Nd.mk nd.leaf q).sum≤893)∧(297≤nd.sum→∀q∈Qw f nd,297≤(Nd.mk nd.leaf q).sum)∧(nd.sum≤893→Qw f nd=if nd.l=[] then [] else [nd.l])
 | 0,nd,h,_=>by omega
 | f+1,nd,h,hf=>by
  rw[Qw];by_cases h0:nd.l=[]
  ·rw[if_pos h0];exact⟨by rw[h0];rfl,by simp,by simp,fun _=>by rw[if_pos h0]⟩
  ·rw[if_neg h0]
   by_cases hs:893<nd.sum
   ·rw[if_pos hs];obtain⟨c1,c2,_⟩:=Nd.cut_spec hs fun e he=>En.few2 (hf e he);obtain⟨p1,p2,p3⟩:=Nd.cut_parts hs fun e he=>En.few2 (hf e he);obtain⟨a1,a2,a3,a4⟩:=Zat f ⟨nd.leaf,nd.l.take nd.cut⟩ (by simp only[List.length_take];omega) fun e he=>hf e (List.mem_of_mem_take he);obtain⟨b1,b2,b3,b4⟩:=Zat f ⟨nd.leaf,nd.l.drop nd.cut⟩ (by simp only[List.length_drop];omega) fun e he=>hf e (List.mem_of_mem_drop he);refine⟨by rw[List.flatten_append,a1,b1,List.take_append_drop],fun q hq=>(List.mem_append.1 hq).elim (a2 q) (b2 q),fun _ q hq=>(List.mem_append.1 hq).elim (a3 p1 q) (b3 p2 q),fun h=>by omega⟩
   ·rw[if_neg hs]
    refine⟨by simp,fun q hq=>?_,fun h2 q hq=>?_,fun _=>by rw[if_neg h0]⟩
    ·rw[List.mem_singleton.1 hq];exact⟨h0,by show nd.sum≤893;omega⟩
    ·rw[List.mem_singleton.1 hq];exact h2
theorem partsN_two {f:Nat} {nd:Nd} (h:nd.l.length<f) (hf:∀e∈nd.l,e.few) (hs:nd.sum≤1504):(Qw f nd).length≤2:=by
 cases f with
 | zero=>omega
 | succ f =>
  rw[Qw];split
  ·simp
  ·split
   ·rename_i hne h9
    obtain⟨c1,c2,c3,c4,_⟩:=Nd.cut_spec h9 fun e he=>En.few2 (hf e he);obtain⟨p1,p2,p3⟩:=Nd.cut_parts h9 fun e he=>En.few2 (hf e he);have h1:=(Zat f ⟨nd.leaf,nd.l.take nd.cut⟩ (by simp only[List.length_take];omega) fun e he=>hf e (List.mem_of_mem_take he)).2.2.2 (by unfold Nd.sum;dsimp only;omega)
    have h2:=(Zat f ⟨nd.leaf,nd.l.drop nd.cut⟩ (by simp only[List.length_drop];omega) fun e he=>hf e (List.mem_of_mem_drop he)).2.2.2 (by unfold Nd.sum at *;dsimp only;omega);rw[List.length_append,h1,h2]
    split<;>split<;>simp
   ·simp
end
section
theorem normFrom_leaf:∀(l:List En) (i:Nat),Zay true i l=l
 | [],_=>rfl
 | e::r,i=>by rw[Zay,normFrom_leaf r (i+1)];rfl
theorem Zgf:∀(l:List En) (i:Nat),0<i→Zay false i l=l
 | [],_,_=>rfl
 | e::r,i,h=>by rw[Zay,Zgf r (i+1) (by omega)];simp[En.norm,h]
theorem load_of_read {R:Rp} {p:Int} {n m:Nd} (h:R.read p=(n.bytes,0)) (hr:Zah n.bytes=some m):R.load p=(some m,0):=by unfold Rp.load;rw[h];simp[hr]
theorem lay_leaf {R:Rp} {l:List En} (hg:R.good) (hf:∀e∈l,e.few) (hk:∀e∈l,e.kid=0) (hs:(l.map (·.key)).Pairwise (· < ·)) (hm:l.length≤60000) (hr:(Qw (l.length+1) ⟨true,l⟩).length≤Ye R.pages) :
  ∃T:List Kid,(R.layL ⟨true,l⟩).1=(T.map (·.e),0)∧T.flatMap (·.l)=l.map Qk∧Fr R (R.layL ⟨true,l⟩).2 [] (T.flatMap (·.P))∧Xe (Sub (R.layL ⟨true,l⟩).2 0) T∧T.length=(Qw (l.length+1) ⟨true,l⟩).length∧(297≤(Nd.mk true l).sum→∀t∈T,Big (R.layL ⟨true,l⟩).2 t.e.kid) ∧
   (∀t∈T,∀m,((R.layL ⟨true,l⟩).2.load t.e.kid).1=some m→m.leaf=true):=by
 obtain⟨Z,a1,a2,a3,a4⟩:=Zfn (l.length+1) R ⟨true,l⟩ (Nat.lt_succ_self _) hf hg hr;obtain⟨b1,b2,b3,b4⟩:=Zat (l.length+1) ⟨true,l⟩ (Nat.lt_succ_self _) hf;have hZ:∀z∈Z,z.1∈Qw (l.length+1) ⟨true,l⟩:=fun z hz=>by rw[←a2];exact List.mem_map.2 ⟨z,hz,rfl⟩
 have hfl:(Z.map (·.1)).flatten=l:=by rw[a2];exact b1
 have hin:∀z∈Z,∀e∈z.1,e∈l:=fun z hz e he=>by rw[←hfl];exact List.mem_flatten.2 ⟨z.1,List.mem_map.2 ⟨z,hz,rfl⟩,he⟩
 rw[←hfl,List.map_flatten,List.pairwise_flatten] at hs;obtain⟨s1,s2⟩:=hs;have hsz:∀z∈Z,(z.1.map (·.key)).Pairwise (· < ·):=fun z hz=>s1 _ (List.mem_map.2 ⟨z.1,List.mem_map.2 ⟨z,hz,rfl⟩,rfl⟩)
 have hok:∀z∈Z,(Nd.mk true z.1).ok:=fun z hz=>by
  obtain⟨c1,c2⟩:=b2 z.1 (hZ z hz);have hle:z.1.length≤446:=by have:=Zav true z.1 0;unfold Nd.sum at c2;dsimp only at c2;omega
  exact⟨c1,by show z.1.length<65536;omega,fun e he=>⟨(hf e (hin z hz e he)).key,by simp only[if_true];exact⟨(hf e (hin z hz e he)).val,hk e (hin z hz e he)⟩⟩,hsz z hz,c2⟩
 have hld:∀z∈Z,(R.layL ⟨true,l⟩).2.load z.2=(some ⟨true,z.1⟩,0):=fun z hz=>by refine load_of_read (a4 z hz) ?_;rw[read_bytes (hok z hz)];unfold Nd.norm;rw[normFrom_leaf]
 refine⟨Z.map fun z=>⟨⟨(Nd.mk true z.1).key0,[],z.2⟩,z.1.map Qk,[z.2]⟩,?_,?_,?_,⟨?_,?_,?_,?_⟩,?_,?_,?_⟩
 ·show (R.layN (l.length+1) ⟨true,l⟩).1=_
  rw[a1,List.map_map];rfl
 ·rw[List.flatMap_map,←hfl,List.map_flatten,List.map_map,List.flatten_eq_flatMap,List.flatMap_map];rfl
 ·rw[List.flatMap_map]
  have:Z.flatMap (fun z=>[z.2])=Z.map (·.2):=by rw[←List.flatMap_singleton' (Z.map (·.2)),List.flatMap_map]
  rw[this];exact a3
 ·intro t ht;obtain⟨z,hz,rfl⟩:=List.mem_map.1 ht;exact⟨⟨true,z.1⟩,hld z hz,rfl,rfl,rfl⟩
 ·intro t ht;obtain⟨z,hz,rfl⟩:=List.mem_map.1 ht;simpa using (b2 z.1 (hZ z hz)).1
 ·intro t ht x hx
  obtain⟨z,hz,rfl⟩:=List.mem_map.1 ht;obtain⟨e,he,rfl⟩:=List.mem_map.1 hx;have hp:=hsz z hz
  show ¬e.key<(Nd.mk true z.1).key0
  cases hq:z.1 with
  | nil=>rw[hq] at he;cases he
  | cons y r =>
   rw[hq] at he hp;show ¬e.key<y.key
   rw[List.map_cons,List.pairwise_cons] at hp;rcases List.mem_cons.1 he with rfl | he
   ·exact List.lt_irrefl _
   ·exact fun h=>List.lt_irrefl _ (List.lt_trans h (hp.1 e.key (List.mem_map.2 ⟨e,he,rfl⟩)))
 ·rw[List.pairwise_map]
  rw[List.map_map,List.pairwise_map] at s2;refine s2.imp_of_mem fun {a b} ha hb hab x hx=>?_;obtain⟨e,he,rfl⟩:=List.mem_map.1 hx;show e.key<(Nd.mk true b.1).key0
  cases hq:b.1 with
  | nil=>exact absurd hq (b2 b.1 (hZ b hb)).1
  | cons y r=>exact hab e.key (List.mem_map.2 ⟨e,he,rfl⟩) y.key (List.mem_map.2 ⟨y,by show y∈b.1;rw[hq];simp,rfl⟩)
 ·rw[List.length_map,←a2,List.length_map]
 ·intro hbig t ht m hmm;obtain⟨z,hz,rfl⟩:=List.mem_map.1 ht;rw[hld z hz] at hmm;cases hmm;exact b3 hbig z.1 (hZ z hz)
 ·intro t ht m hmm;obtain⟨z,hz,rfl⟩:=List.mem_map.1 ht;rw[hld z hz] at hmm;cases hmm;rfl
end
section
theorem parted {α β:Type} (f:α→β):∀(Q:List (List β)) (T:List α),Q.flatten=T.map f→∃G:List (List α),G.flatten=T∧G.map (List.map f)=Q
 | [],T,h=>by
  have:T=[]:=by
   cases T with
   | nil=>rfl
   | cons a r=>simp at h
  exact⟨[],by rw[this];rfl,rfl⟩
 | q::r,T,h=>by
  rw[List.flatten_cons] at h;have h1:(T.take q.length).map f=q:=by rw[List.map_take,←h,List.take_left'];rfl
  have h2:r.flatten=(T.drop q.length).map f:=by rw[List.map_drop,←h,List.drop_left'];rfl
  obtain⟨G,g1,g2⟩:=parted f r (T.drop q.length) h2;exact⟨T.take q.length::G,by rw[List.flatten_cons,g1,List.take_append_drop],by rw[List.map_cons,h1,g2]⟩
def Zes:List Kid→List Kid
 | []=>[]
 | t::r=>⟨{ t.e with key:=[] },t.l,t.P⟩::r
theorem dropKey_e (G:List Kid):(Zes G).map (·.e)=Zay false 0 (G.map (·.e)):=by
 cases G with
 | nil=>rfl
 | cons t r =>
  rw[List.map_cons,Zay,Zgf _ _ (by omega)];rfl
theorem dropKey_l (G:List Kid):(Zes G).flatMap (·.l)=G.flatMap (·.l):=by cases G<;>rfl
theorem dropKey_P (G:List Kid):(Zes G).flatMap (·.P)=G.flatMap (·.P):=by cases G<;>rfl
theorem dropKey_kid {G:List Kid} {Q:Int→Prop} (h:∀t∈G,Q t.e.kid):∀t∈Zes G,Q t.e.kid:=by
 cases G with
 | nil=>simp[Zes]
 | cons t r =>
  intro u hu;rcases List.mem_cons.1 hu with rfl | hu
  ·exact h t (List.mem_cons_self ..)
  ·exact h u (List.mem_cons_of_mem _ hu)
theorem dropKey_row {S:Int→List KV→List Int→Prop} {G:List Kid} (h:Xe S G):Xe S (Zes G):=by
 cases G with
 | nil=>exact h
 | cons t r =>
  have h':Xe S ([t]++r):=h;refine⟨fun u hu=>?_,fun u hu=>?_,fun u hu x hx=>?_,?_⟩
  ·rcases List.mem_cons.1 hu with rfl | hu
   ·exact h.kid t (List.mem_cons_self ..)
   ·exact h.kid u (List.mem_cons_of_mem _ hu)
  ·rcases List.mem_cons.1 hu with rfl | hu
   ·exact h.some t (List.mem_cons_self ..)
   ·exact h.some u (List.mem_cons_of_mem _ hu)
  ·rcases List.mem_cons.1 hu with rfl | hu
   ·exact List.not_lt_nil _
   ·exact h.low u (List.mem_cons_of_mem _ hu) x hx
  ·have:=h.ord;rw[List.pairwise_cons] at this;exact List.pairwise_cons.2 this
theorem perm_heads {α:Type} (f:α→Int) (g:α→List Int):∀L:List α,(L.map f++L.flatMap g).Perm (L.flatMap fun a=>f a::g a)
 | []=>List.Perm.refl _
 | a::r=>by
  rw[List.map_cons,List.flatMap_cons,List.flatMap_cons,List.cons_append,List.cons_append];refine List.Perm.cons _ ?_;have h1:=perm_heads f g r
  have h2:(r.map f++(g a++r.flatMap g)).Perm (g a++(r.map f++r.flatMap g)):=by rw[←List.append_assoc,←List.append_assoc];exact List.Perm.append_right _ List.perm_append_comm
  exact h2.trans (List.Perm.append_left _ h1)
theorem zipped {α β γ:Type} (g:α→β):∀(G:List α) (Z:List (β × γ)),Z.map (·.1)=G.map g→∃W:List (α × γ),W.map (·.1)=G∧Z=W.map fun w=>(g w.1,w.2)
 | [],Z,h=>by
  cases Z with
  | nil=>exact⟨[],rfl,rfl⟩
  | cons z r=>simp at h
 | a::r,Z,h=>by
  cases Z with
  | nil=>simp at h
  | cons z s =>
   rw[List.map_cons,List.map_cons] at h;obtain⟨h1,h2⟩:=List.cons.inj h;obtain⟨W,w1,w2⟩:=zipped g r s h2;exact⟨(a,z.2)::W,by rw[List.map_cons,w1],by rw[List.map_cons,←w2,←h1]⟩
theorem Xe.keys {S:Int→List KV→List Int→Prop} {T:List Kid} (h:Xe S T):(T.map fun t=>t.e.key).Pairwise (· < ·):=by rw[List.pairwise_map];refine h.ord.imp_of_mem fun {a b} ha hb hab=>?_;obtain⟨x,hx⟩:=List.exists_mem_of_ne_nil _ (h.some a ha);exact List.lt_of_le_of_lt (List.not_lt.1 (h.low a ha x hx)) (hab x hx)
theorem lay_inner {R:Rp} {h:Nat} {T0:List Kid} (hg:R.good) (hf:∀t∈T0,t.e.few) (hv:∀t∈T0,t.e.val=[]) (hrow:Xe (Sub R h) T0) (hbig:∀t∈T0,Big R t.e.kid) (hnd:(T0.flatMap (·.P)).Nodup) (hm:T0.length≤60000)
  (hr:(Qw ((T0.map (·.e)).length+1) ⟨false,T0.map (·.e)⟩).length≤Ye R.pages) :
  ∃T:List Kid,(R.layL ⟨false,T0.map (·.e)⟩).1=(T.map (·.e),0)∧T.flatMap (·.l)=T0.flatMap (·.l)∧Fr R (R.layL ⟨false,T0.map (·.e)⟩).2 (T0.flatMap (·.P)) (T.flatMap (·.P))∧Xe (Sub (R.layL ⟨false,T0.map (·.e)⟩).2 (h+1)) T∧T.length=(Qw ((T0.map (·.e)).length+1) ⟨false,T0.map (·.e)⟩).length ∧
   (297≤(Nd.mk false (T0.map (·.e))).sum→∀t∈T,Big (R.layL ⟨false,T0.map (·.e)⟩).2 t.e.kid)∧(∀t∈T,∀m,((R.layL ⟨false,T0.map (·.e)⟩).2.load t.e.kid).1=some m→m.leaf=false):=by
 have hf':∀e∈T0.map (·.e),e.few:=fun e he=>by obtain⟨t,ht,rfl⟩:=List.mem_map.1 he;exact hf t ht
 obtain⟨Z,a1,a2,a3,a4⟩:=Zfn ((T0.map (·.e)).length+1) R ⟨false,T0.map (·.e)⟩ (Nat.lt_succ_self _) hf' hg hr;obtain⟨b1,b2,b3,b4⟩:=Zat ((T0.map (·.e)).length+1) ⟨false,T0.map (·.e)⟩ (Nat.lt_succ_self _) hf';obtain⟨G,g1,g2⟩:=parted (·.e) (Qw ((T0.map (·.e)).length+1) ⟨false,T0.map (·.e)⟩) T0 b1;obtain⟨W,w1,w2⟩:=zipped (List.map (·.e)) G Z (by rw[a2,g2]);subst w2;have hW:∀w∈W,w.1.map (·.e)∈Qw ((T0.map (·.e)).length+1) ⟨false,T0.map (·.e)⟩:=fun w hw=>by rw[←g2,←w1];exact List.mem_map.2 ⟨w.1,List.mem_map.2 ⟨w,hw,rfl⟩,rfl⟩
 have hT0:(W.map (·.1)).flatten=T0:=by rw[w1];exact g1
 have hin:∀w∈W,∀t∈w.1,t∈T0:=fun w hw t ht=>by rw[←hT0];exact List.mem_flatten.2 ⟨w.1,List.mem_map.2 ⟨w,hw,rfl⟩,ht⟩
 have hord:=hrow.ord;rw[←hT0,List.pairwise_flatten] at hord;obtain⟨s1,s2⟩:=hord;rw[List.pairwise_map] at s2;have hrw:∀w∈W,Xe (Sub R h) w.1:=fun w hw=>⟨fun t ht=>hrow.kid t (hin w hw t ht),fun t ht=>hrow.some t (hin w hw t ht),fun t ht=>hrow.low t (hin w hw t ht),s1 _ (List.mem_map.2 ⟨w,hw,rfl⟩)⟩;have hne:∀w∈W,w.1≠[]:=fun w hw e=>(b2 _ (hW w hw)).1 (by rw[e];rfl)
 have hok:∀w∈W,(Nd.mk false (w.1.map (·.e))).ok:=fun w hw=>by
  obtain⟨c1,c2⟩:=b2 _ (hW w hw);have hle:(w.1.map (·.e)).length≤446:=by have:=Zav false (w.1.map (·.e)) 0;unfold Nd.sum at c2;dsimp only at c2;omega
  refine⟨c1,by show (w.1.map (·.e)).length<65536;omega,fun e he=>?_,?_,c2⟩
  ·obtain⟨t,ht,rfl⟩:=List.mem_map.1 he;have:=hf t (hin w hw t ht);exact⟨this.key,by simp only[Bool.false_eq_true,if_false];exact⟨hv t (hin w hw t ht),this.k0,this.k1⟩⟩
  ·have:=(hrw w hw).keys
   unfold Srt;simp only[Bool.false_eq_true,if_false];rw[←List.map_tail,List.map_map]
   cases hq:w.1 with
   | nil=>simp
   | cons t r =>
    rw[hq] at this;rw[List.map_cons,List.pairwise_cons] at this;exact this.2
 have hld:∀w∈W,(R.layL ⟨false,T0.map (·.e)⟩).2.load w.2=(some ⟨false,(Zes w.1).map (·.e)⟩,0):=fun w hw=>by refine load_of_read (a4 _ (List.mem_map.2 ⟨w,hw,rfl⟩)) ?_;rw[read_bytes (hok w hw),dropKey_e];rfl
 have hY:∀p∈T0.flatMap (·.P),R.taken p=true:=fun p hp=>by obtain⟨t,ht,hp⟩:=List.mem_flatMap.1 hp;exact Sub.taken h (hrow.kid t ht) p hp
 have hsame:∀p∈T0.flatMap (·.P),(R.layL ⟨false,T0.map (·.e)⟩).2.read p=R.read p:=fun p hp=>(a3.keep p (hY p hp) (by simp)).2.2;have hpin:∀w∈W,∀t∈w.1,∀p∈t.P,p∈T0.flatMap (·.P):=fun w hw t ht p hp=>List.mem_flatMap.2 ⟨t,hin w hw t ht,hp⟩;have hrw':∀w∈W,Xe (Sub (R.layL ⟨false,T0.map (·.e)⟩).2 h) w.1:=fun w hw=>⟨fun t ht=>Sub.same h ((hrw w hw).kid t ht) fun p hp=>hsame p (hpin w hw t ht p hp),(hrw w hw).some,(hrw w hw).low,(hrw w hw).ord⟩;have hbg:∀w∈W,∀t∈w.1,Big (R.layL ⟨false,T0.map (·.e)⟩).2 t.e.kid:=fun w hw t ht m hm'=>by rw[Rp.load_read (hsame _ (hpin w hw t ht _ (Sub.page h ((hrw w hw).kid t ht))))] at hm';exact hbig t (hin w hw t ht) m hm'
 have hl0:W.flatMap (fun w=>w.1.flatMap (·.l))=T0.flatMap (·.l):=by rw[←hT0,List.flatten_eq_flatMap,List.flatMap_map,List.flatMap_assoc];rfl
 have hP0:W.flatMap (fun w=>w.1.flatMap (·.P))=T0.flatMap (·.P):=by rw[←hT0,List.flatten_eq_flatMap,List.flatMap_map,List.flatMap_assoc];rfl
 refine⟨W.map fun w=>⟨⟨(Nd.mk false (w.1.map (·.e))).key0,[],w.2⟩,w.1.flatMap (·.l),w.2::w.1.flatMap (·.P)⟩,?_,?_,?_,⟨?_,?_,?_,?_⟩,?_,?_,?_⟩
 ·show (R.layN ((T0.map (·.e)).length+1) ⟨false,T0.map (·.e)⟩).1=_
  rw[a1,List.map_map,List.map_map];rfl
 ·rw[List.flatMap_map];exact hl0
 ·rw[List.flatMap_map];have hb:=a3.beside (Y:=T0.flatMap (·.P)) hY (by simp) hnd;refine hb.perm (by simp) ?_;rw[List.map_map];have:=perm_heads (fun w:List Kid × Int=>w.2) (fun w=>w.1.flatMap (·.P)) W;rw[hP0] at this;exact this
 ·intro t ht;obtain⟨w,hw,rfl⟩:=List.mem_map.1 ht;refine⟨_,Zes w.1,hld w hw,rfl,rfl,(dropKey_l _).symm,by rw[dropKey_P],dropKey_row (hrw' w hw),dropKey_kid (hbg w hw)⟩
 ·intro t ht
  obtain⟨w,hw,rfl⟩:=List.mem_map.1 ht;intro e
  cases hq:w.1 with
  | nil=>exact hne w hw hq
  | cons t r =>
   have e':w.1.flatMap (·.l)=[]:=e;rw[hq,List.flatMap_cons] at e';exact(hrw w hw).some t (by rw[hq];simp) (List.append_eq_nil_iff.1 e').1
 ·intro t ht x hx
  obtain⟨w,hw,rfl⟩:=List.mem_map.1 ht;obtain⟨u,hu,hx⟩:=List.mem_flatMap.1 hx;show ¬x.1<(Nd.mk false (w.1.map (·.e))).key0
  cases hq:w.1 with
  | nil=>exact absurd hq (hne w hw)
  | cons t r =>
   show ¬x.1<t.e.key
   have hk:=(hrw w hw).keys;rw[hq] at hu hk;rw[List.map_cons,List.pairwise_cons] at hk;have hlow:=(hrw w hw).low u (by rw[hq];exact hu) x hx;rcases List.mem_cons.1 hu with rfl | hu
   ·exact hlow
   ·exact fun h=>hlow (List.lt_trans h (hk.1 _ (List.mem_map.2 ⟨u,hu,rfl⟩)))
 ·rw[List.pairwise_map]
  refine s2.imp_of_mem fun {a b} ha hb hab x hx=>?_;obtain⟨u,hu,hx⟩:=List.mem_flatMap.1 hx;show x.1<(Nd.mk false (b.1.map (·.e))).key0
  cases hq:b.1 with
  | nil=>exact absurd hq (hne b hb)
  | cons t r=>exact hab u hu t (by rw[hq];simp) x hx
 ·rw[List.length_map,←g2,List.length_map,←w1,List.length_map]
 ·intro hbg2 t ht m hmm
  obtain⟨w,hw,rfl⟩:=List.mem_map.1 ht;rw[hld w hw] at hmm;cases hmm;have:=b3 hbg2 _ (hW w hw)
  rw[dropKey_e];unfold Nd.sum at this ⊢;dsimp only at this ⊢
  cases hq:w.1 with
  | nil=>exact absurd hq (hne w hw)
  | cons t r =>
   rw[hq] at this;rw[List.map_cons,Zay,Zgf _ _ (by omega)];exact this
 ·intro t ht m hmm;obtain⟨w,hw,rfl⟩:=List.mem_map.1 ht;rw[hld w hw] at hmm;cases hmm;rfl
end
section
def Zaz (l:List KV) (key:List UInt8):List KV:=match l.dropWhile (fun x=>decide (x.1<key)) with
 | []=>[]
 | x::r=>if x.1=key then r else x::r
def Xa (l:List KV) (key:List UInt8):List KV:=l.takeWhile fun x=>decide (x.1<key)
def putL (l:List KV) (key val:List UInt8):List KV:=Xa l key++(key,val)::Zaz l key
def delL (l:List KV) (key:List UInt8):List KV:=Xa l key++Zaz l key
theorem headL_mid {A L C:List KV} {key:List UInt8} (hA:∀x∈A,x.1<key) (hC:∀x∈C,key<x.1):Xa (A++(L++C)) key=A++Xa L key:=by
 unfold Xa
 have h1:∀(A B:List KV),(∀x∈A,x.1<key)→(A++B).takeWhile (fun x=>decide (x.1<key))=A++B.takeWhile fun x=>decide (x.1<key):=by
  intro A
  induction A with
  | nil=>intro B _;rfl
  | cons a r ih =>
   intro B h;rw[List.cons_append,List.takeWhile_cons,if_pos (by simpa using h a (List.mem_cons_self ..)),ih B fun x hx=>h x (List.mem_cons_of_mem _ hx)];rfl
 rw[h1 A _ hA];congr 1
 induction L with
 | nil =>
  cases C with
  | nil=>rfl
  | cons c r =>
   have hc:=hC c (List.mem_cons_self ..);rw[List.nil_append,List.takeWhile_cons,if_neg (by simpa using fun h=>List.lt_irrefl _ (List.lt_trans hc h))];rfl
 | cons x r ih =>
  rw[List.cons_append,List.takeWhile_cons,List.takeWhile_cons];by_cases hx:x.1<key
  ·rw[if_pos (by simpa using hx),if_pos (by simpa using hx),ih]
  ·rw[if_neg (by simpa using hx),if_neg (by simpa using hx)]
theorem restL_mid {A L C:List KV} {key:List UInt8} (hA:∀x∈A,x.1<key) (hC:∀x∈C,key<x.1):Zaz (A++(L++C)) key=Zaz L key++C:=by
 unfold Zaz;rw[Zfa _ fun a ha=>by simpa using hA a ha]
 induction L with
 | nil =>
  cases C with
  | nil=>rfl
  | cons c r =>
   have hc:=hC c (List.mem_cons_self ..);have h2:¬c.1=key:=fun h=>by rw[h] at hc;exact List.lt_irrefl _ hc
   rw[List.nil_append,List.dropWhile_cons,if_neg (by simpa using fun h=>List.lt_irrefl _ (List.lt_trans hc h))];simp[h2]
 | cons x r ih =>
  rw[List.cons_append,List.dropWhile_cons,List.dropWhile_cons];by_cases hx:x.1<key
  ·rw[if_pos (by simpa using hx),if_pos (by simpa using hx)];exact ih
  ·rw[if_neg (by simpa using hx),if_neg (by simpa using hx)]
   dsimp only
   split<;>rfl
theorem putL_mid {A L C:List KV} {key val:List UInt8} (hA:∀x∈A,x.1<key) (hC:∀x∈C,key<x.1):putL (A++(L++C)) key val=A++(putL L key val++C):=by unfold putL;rw[headL_mid hA hC,restL_mid hA hC];simp
theorem delL_mid {A L C:List KV} {key:List UInt8} (hA:∀x∈A,x.1<key) (hC:∀x∈C,key<x.1):delL (A++(L++C)) key=A++(delL L key++C):=by unfold delL;rw[headL_mid hA hC,restL_mid hA hC];simp
theorem map_drop_kv (key:List UInt8):∀l:List En,(l.map Qk).dropWhile (fun x=>decide (x.1<key))=(l.dropWhile fun e=>decide (e.key<key)).map Qk
 | []=>rfl
 | e::r=>by
  rw[List.map_cons,List.dropWhile_cons,List.dropWhile_cons];have:decide ((Qk e).1<key)=decide (e.key<key):=rfl
  rw[this];split
  ·exact map_drop_kv key r
  ·rfl
theorem map_head_kv (key:List UInt8):∀l:List En,Xa (l.map Qk) key=(l.takeWhile fun e=>decide (e.key<key)).map Qk
 | []=>rfl
 | e::r=>by
  unfold Xa;rw[List.map_cons,List.takeWhile_cons,List.takeWhile_cons];have:decide ((Qk e).1<key)=decide (e.key<key):=rfl
  rw[this];split
  ·rw[List.map_cons];exact congrArg _ (map_head_kv key r)
  ·rfl
theorem leaf_parts {n:Nd} (hl:n.leaf=true) (key:List UInt8):∃U V,n.l=U++V∧U.length=(n.behind key).1∧Xa (n.l.map Qk) key=U.map Qk∧(((n.behind key).2=false∧Zaz (n.l.map Qk) key=V.map Qk)∨((n.behind key).2=true∧∃e r,V=e::r∧e.key=key∧Zaz (n.l.map Qk) key=r.map Qk)):=by
 refine⟨n.l.takeWhile fun e=>decide (e.key<key),n.l.dropWhile fun e=>decide (e.key<key),List.takeWhile_append_dropWhile.symm,?_,map_head_kv key n.l,?_⟩
 ·unfold Nd.behind;rw[hl];rfl
 ·have hb:(n.behind key).2=decide (((n.l.dropWhile fun e=>decide (e.key<key)).head?).map (·.key)=some key):=by unfold Nd.behind;rw[hl];rfl
  rw[hb];unfold Zaz;rw[map_drop_kv]
  cases hd:n.l.dropWhile (fun e=>decide (e.key<key)) with
  | nil=>exact .inl ⟨by simp,rfl⟩
  | cons e r =>
   by_cases he:e.key=key
   ·exact .inr ⟨by simp[he],e,r,rfl,he,by simp[Qk,he]⟩
   ·exact .inl ⟨by simp[he],by simp[Qk,he]⟩
theorem leaf_put {n:Nd} (hl:n.leaf=true) (key val:List UInt8):(putC key val n.l (n.behind key).1 (n.behind key).2).map Qk=putL (n.l.map Qk) key val:=by
 obtain⟨U,V,h1,h2,h3,h4⟩:=leaf_parts hl key;unfold putL;rw[h3,←h2];rcases h4 with ⟨h4,h5⟩ | ⟨h4,e,r,h6,h7,h5⟩
 ·rw[h4,h5]
  unfold putC;simp only[Bool.false_eq_true,if_false];rw[h1,List.take_left',List.drop_left']
  ·simp[Qk]
  ·rfl
  ·rfl
 ·rw[h4,h5]
  unfold putC;simp only[if_true]
  have hm:(U++e::r).modify U.length (fun e=>{ e with val:=val })=U++{ e with val:=val }::r:=by
   clear h1 h2 h3 h5
   induction U with
   | nil=>rfl
   | cons x s ih=>rw[List.cons_append,List.length_cons,List.modify_succ_cons,ih];rfl
  rw[h1,h6,hm];simp[Qk,h7]
theorem leaf_del {n:Nd} (hl:n.leaf=true) (key:List UInt8):(delC n.l (n.behind key).1 (n.behind key).2).map Qk=delL (n.l.map Qk) key:=by
 obtain⟨U,V,h1,h2,h3,h4⟩:=leaf_parts hl key;unfold delL;rw[h3,←h2];rcases h4 with ⟨h4,h5⟩ | ⟨h4,e,r,h6,h7,h5⟩
 ·rw[h4,h5];unfold delC;simp only[Bool.false_eq_true,if_false];rw[h1,List.map_append]
 ·rw[h4,h5]
  unfold delC;simp only[if_true];rw[h1,h6,List.take_left' rfl,show U.length+1=U.length+1 from rfl,←List.drop_drop,List.drop_left' rfl]
  simp
end
section
def En.kind (leaf:Bool) (i:Nat) (e:En):Prop:=(leaf=true→e.kid=0)∧(leaf=false→e.val=[])∧(leaf=false→i=0→e.key=[])
theorem readE_kind {leaf:Bool} {bs:List UInt8} {i at_:Nat} {x:En × Nat} (h:Zbe leaf bs i at_=some x):x.1.kind leaf i:=by
 unfold Zbe at h
 cases hk:readK leaf bs i at_ with
 | none=>rw[hk] at h;cases h
 | some k =>
  rw[hk] at h;change readV leaf bs k.1 k.2=some x at h;unfold readV at h
  cases leaf with
  | true =>
   simp only[if_true] at h
   cases hv:Zbm bs k.2 200 with
   | none=>rw[hv] at h;cases h
   | some v =>
    rw[hv] at h;cases h;exact⟨fun _=>rfl,by simp,by simp⟩
  | false =>
   simp only[Bool.false_eq_true,if_false] at h;split at h
   ·cases h
   ·cases h;refine⟨by simp,fun _=>rfl,fun _ hi=>?_⟩;subst hi;unfold readK at hk;simp at hk;rw[←hk]
theorem readGo_kind {leaf:Bool} {bs:List UInt8}:∀(k at_:Nat) (l r:List En),Yy leaf bs k at_ l=some r→(∀i (h:i<l.length),(l[i]).kind leaf i)→∀i (h:i<r.length),(r[i]).kind leaf i
 | 0,at_,l,r,h,hl=>by rw[Yy] at h;cases h;exact hl
 | k+1,at_,l,r,h,hl=>by
  rw[Yy] at h
  cases he:Zbe leaf bs l.length at_ with
  | none=>rw[he] at h;cases h
  | some x =>
   rw[he] at h;dsimp only at h;split at h
   ·refine readGo_kind k x.2 (l++[x.1]) r h fun i hi=>?_
    rcases Nat.lt_or_ge i l.length with hlt | hge
    ·rw[List.getElem_append_left hlt];exact hl i hlt
    ·have:i=l.length:=by simp at hi;omega
     subst this;have:=readE_kind he
     simpa using this
   ·cases h
theorem load_kind {R:Rp} {p:Int} {n:Nd} (h:(R.load p).1=some n):∀i (h:i<n.l.length),(n.l[i]).kind n.leaf i:=by
 unfold Rp.load at h;split at h
 ·cases h
 ·cases hr:Zah (R.read p).1 with
  | none=>rw[hr] at h;cases h
  | some m =>
   rw[hr] at h;cases h;unfold Zah at hr;split at hr
   ·cases hr
   ·cases hg:Yy ((R.read p).1.getD 0 0==1) (R.read p).1 (readM (R.read p).1) 3 [] with
    | none=>rw[hg] at hr;cases hr
    | some r =>
     rw[hg] at hr;cases hr;exact readGo_kind _ _ _ _ hg (by simp)
theorem load_kid0 {R:Rp} {p:Int} {n:Nd} (h:(R.load p).1=some n) (hl:n.leaf=true):∀e∈n.l,e.kid=0:=fun e he=>by obtain⟨i,hi,rfl⟩:=List.mem_iff_getElem.1 he;exact(load_kind h i hi).1 hl
theorem load_val0 {R:Rp} {p:Int} {n:Nd} (h:(R.load p).1=some n) (hl:n.leaf=false):∀e∈n.l,e.val=[]:=fun e he=>by obtain⟨i,hi,rfl⟩:=List.mem_iff_getElem.1 he;exact(load_kind h i hi).2.1 hl
theorem load_key0 {R:Rp} {p:Int} {n:Nd} (h:(R.load p).1=some n) (hl:n.leaf=false) {e:En} {r:List En} (he:n.l=e::r):e.key=[]:=by have:=(load_kind h 0 (by rw[he];simp)).2.2 hl rfl;simpa [he] using this
theorem layN_val:∀(f:Nat) (R:Rp) (n:Nd),∀e∈(R.layN f n).1.1,e.val=[]
 | 0,R,n=>by simp[Rp.layN]
 | f+1,R,n=>by
  have h1:=layN_val f R ⟨n.leaf,n.l.take n.cut⟩;have h2:=layN_val f (R.layN f ⟨n.leaf,n.l.take n.cut⟩).2 ⟨n.leaf,n.l.drop n.cut⟩;rw[Rp.layN];split
  ·simp
  ·split
   ·split
    ·simp
    ·exact fun e he=>(List.mem_append.1 he).elim (h1 e) (h2 e)
   ·split<;>simp
theorem layL_count {R:Rp} {n:Nd} (hf:∀e∈n.l,e.few) (hg:R.good) (hr:(Qw (n.l.length+1) n).length≤Ye R.pages):Ye (R.layL n).2.pages+(Qw (n.l.length+1) n).length=Ye R.pages:=by
 obtain⟨Z,a1,a2,a3,a4⟩:=Zfn (n.l.length+1) R n (Nat.lt_succ_self _) hf hg hr;have:=a3.count
 rw[List.length_map] at this;have h2:Z.length=(Qw (n.l.length+1) n).length:=by rw[←a2,List.length_map]
 simp only[List.length_nil] at this;unfold Rp.layL;omega
def keyKid (k:List UInt8):List Kid→List Kid
 | []=>[]
 | t::r=>⟨{ t.e with key:=k },t.l,t.P⟩::r
theorem keyKid_e (k:List UInt8) (T:List Kid):(keyKid k T).map (·.e)=Zr k (T.map (·.e)):=by cases T<;>rfl
theorem keyKid_l (k:List UInt8) (T:List Kid):(keyKid k T).flatMap (·.l)=T.flatMap (·.l):=by cases T<;>rfl
theorem keyKid_P (k:List UInt8) (T:List Kid):(keyKid k T).flatMap (·.P)=T.flatMap (·.P):=by cases T<;>rfl
theorem Zge (k:List UInt8) (T:List Kid):(keyKid k T).length=T.length:=by cases T<;>rfl
theorem Zbj {k:List UInt8} {T:List Kid} {t:Kid} (h:t∈keyKid k T):∃u∈T,t.l=u.l∧t.P=u.P∧t.e.kid=u.e.kid∧t.e.val=u.e.val∧(t.e.key=u.e.key∨t.e.key=k):=by
 cases T with
 | nil=>cases h
 | cons u r =>
  rcases List.mem_cons.1 h with rfl | h
  ·exact⟨u,List.mem_cons_self ..,rfl,rfl,rfl,rfl,.inr rfl⟩
  ·exact⟨t,List.mem_cons_of_mem _ h,rfl,rfl,rfl,rfl,.inl rfl⟩
theorem keyKid_few {k:List UInt8} (hk:k.length≤80) {T:List Kid} (h:∀t∈T,t.e.few):∀t∈keyKid k T,t.e.few:=fun t ht=>by
 obtain⟨u,hu,_,_,e1,e2,e3⟩:=Zbj ht;have:=h u hu
 refine⟨?_,by rw[e2];exact this.val,by rw[e1];exact this.k0,by rw[e1];exact this.k1⟩
 rcases e3 with e | e<;>rw[e]
 ·exact this.key
 ·exact hk
theorem Xe.keyKid {S:Int→List KV→List Int→Prop} {T:List Kid} {k:List UInt8} (h:Xe S T) (hk:∀t∈T,∀x∈t.l,¬x.1<k):Xe S (keyKid k T):=by
 cases T with
 | nil=>exact h
 | cons t r =>
  have h':Xe S ([t]++r):=h;refine Xe.append (A:=[⟨{ t.e with key:=k },t.l,t.P⟩]) (C:=r) ⟨fun u hu=>?_,fun u hu=>?_,fun u hu=>?_,List.pairwise_singleton ..⟩ h'.right fun a ha c hc=>?_
  ·rw[List.mem_singleton.1 hu];exact h.kid t (List.mem_cons_self ..)
  ·rw[List.mem_singleton.1 hu];exact h.some t (List.mem_cons_self ..)
  ·rw[List.mem_singleton.1 hu];exact hk t (List.mem_cons_self ..)
  ·rw[List.mem_singleton.1 ha];exact h'.mid t (List.mem_singleton_self t) c hc
theorem Xe.swap {S:Int→List KV→List Int→Prop} {A M C:List Kid} {k:List UInt8} (hA:Xe S A) (hM:Xe S M) (hC:Xe S C) (hAC:∀a∈A,∀c∈C,∀x∈a.l,x.1<c.e.key)
  (hAk:∀a∈A,∀x∈a.l,x.1<k) (hlo:∀m∈M,∀x∈m.l,¬x.1<k) (hhi:∀m∈M,∀x∈m.l,∀c∈C,x.1<c.e.key):Xe S (A++(Go.Proofs.YtofibccplbnaiaaGreatDoor.keyKid k M++C)):=by
 refine hA.append ((hM.keyKid hlo).append hC fun a ha c hc x hx=>?_) fun a ha c hc x hx=>?_
 ·obtain⟨u,hu,e,_⟩:=Zbj ha;exact hhi u hu x (e▸hx) c hc
 ·rcases List.mem_append.1 hc with hc | hc
  ·cases M with
   | nil=>cases hc
   | cons u r =>
    rcases List.mem_cons.1 hc with rfl | hc
    ·exact hAk a ha x hx
    ·have h':Xe S ([u]++r):=hM
     obtain⟨y,hy⟩:=List.exists_mem_of_ne_nil _ (hM.some u (List.mem_cons_self ..));have h1:=hlo u (List.mem_cons_self ..) y hy
     have h2:=h'.mid u (List.mem_singleton_self u) c hc y hy;exact List.lt_trans (hAk a ha x hx) (List.lt_of_le_of_lt (List.not_lt.1 h1) h2)
  ·exact hAC a ha c hc x hx
theorem Xe.same {R R':Rp} {h:Nat} {T:List Kid} (hr:Xe (Sub R h) T) (hp:∀t∈T,∀p∈t.P,R'.read p=R.read p):Xe (Sub R' h) T :=
 ⟨fun t ht=>Sub.same h (hr.kid t ht) (hp t ht),hr.some,hr.low,hr.ord⟩
theorem Big.same {R R':Rp} {p:Int} (h:Big R p) (hp:R'.read p=R.read p):Big R' p:=fun n hn=>h n (by rw[←Rp.load_read hp];exact hn)
structure Laid (R R':Rp) (h:Nat) (X:List Int) (l:List KV) (M:List Kid):Prop where
 fl:M.flatMap (·.l)=l
 fr:Fr R R' X (M.flatMap (·.P))
 row:Xe (Sub R' h) M
 few:∀t∈M,t.e.few
 val:∀t∈M,t.e.val=[]
 two:M.length≤2
 big:2≤M.length→∀t∈M,Big R' t.e.kid
theorem sum_len {leaf:Bool} {l:List En} (h:(Nd.mk leaf l).sum≤1504):l.length≤60000:=by have:=Zav leaf l 0;unfold Nd.sum at h;dsimp only at h;omega
theorem few_of_lay {R:Rp} {n:Nd} {M:List Kid} {e:Int} (hg:R.good) (hf:∀e∈n.l,e.few) (h:(R.layL n).1=(M.map (·.e),e)):(∀t∈M,t.e.few)∧∀t∈M,t.e.val=[]:=by have h1:=(Zfm (n.l.length+1) R n hg.few hf).1;have h2:=layN_val (n.l.length+1) R n;have h3:(R.layN (n.l.length+1) n).1=(M.map (·.e),e):=h;rw[h3] at h1 h2;exact⟨fun t ht=>h1 _ (List.mem_map.2 ⟨t,ht,rfl⟩),fun t ht=>h2 _ (List.mem_map.2 ⟨t,ht,rfl⟩)⟩
theorem laid_leaf {R:Rp} {l:List En} (hg:R.good) (hf:∀e∈l,e.few) (hk:∀e∈l,e.kid=0) (hs:(l.map (·.key)).Pairwise (· < ·)) (hsum:(Nd.mk true l).sum≤1504) (hr:2≤Ye R.pages) :
  ∃M,(R.layL ⟨true,l⟩).1=(M.map (·.e),0)∧Laid R (R.layL ⟨true,l⟩).2 0 [] (l.map Qk) M∧(297≤(Nd.mk true l).sum→∀t∈M,Big (R.layL ⟨true,l⟩).2 t.e.kid)∧(M.flatMap (·.P)).length=M.length∧(l≠[]→M≠[]):=by
 have h2:=partsN_two (Nat.lt_succ_self (Nd.mk true l).l.length) hf hsum;obtain⟨T,a1,a2,a3,a4,a5,a6,_⟩:=lay_leaf hg hf hk hs (sum_len hsum) (Nat.le_trans h2 hr);obtain⟨f1,f2⟩:=few_of_lay hg hf a1;have hc:=layL_count (n:=⟨true,l⟩) hf hg (Nat.le_trans h2 hr);have hc2:=a3.count;have hT:T.length≤2:=by rw[a5];exact h2
 simp only[List.length_nil] at hc2;refine⟨T,a1,⟨a2,a3,a4,f1,f2,hT,fun h2T=>?_⟩,a6,?_,fun hl e=>?_⟩
 ·refine a6 (Nat.le_of_not_lt fun hlt=>?_)
  have:=(Zat (l.length+1) ⟨true,l⟩ (Nat.lt_succ_self _) hf).2.2.2 (by omega);rw[this] at a5
  split at a5<;>simp only[List.length_nil,List.length_cons] at a5<;>omega
 ·dsimp only at hc;rw[a5];omega
 ·rw[e] at a2
  cases l with
  | nil=>exact hl rfl
  | cons x r=>simp at a2
theorem laid_inner {R:Rp} {h:Nat} {T0:List Kid} (hg:R.good) (hf:∀t∈T0,t.e.few) (hv:∀t∈T0,t.e.val=[]) (hrow:Xe (Sub R h) T0) (hbig:∀t∈T0,Big R t.e.kid) (hnd:(T0.flatMap (·.P)).Nodup) (hsum:(Nd.mk false (T0.map (·.e))).sum≤1504) (hr:2≤Ye R.pages) :
  ∃M,(R.layL ⟨false,T0.map (·.e)⟩).1=(M.map (·.e),0)∧Laid R (R.layL ⟨false,T0.map (·.e)⟩).2 (h+1) (T0.flatMap (·.P)) (T0.flatMap (·.l)) M∧(297≤(Nd.mk false (T0.map (·.e))).sum→∀t∈M,Big (R.layL ⟨false,T0.map (·.e)⟩).2 t.e.kid)∧(M.flatMap (·.P)).length=M.length+(T0.flatMap (·.P)).length∧(T0≠[]→M≠[]):=by
 have hf':∀e∈T0.map (·.e),e.few:=fun e he=>by obtain⟨t,ht,rfl⟩:=List.mem_map.1 he;exact hf t ht
 have h2:=partsN_two (Nat.lt_succ_self (Nd.mk false (T0.map (·.e))).l.length) hf' hsum;have hlen:=sum_len hsum;rw[List.length_map] at hlen;obtain⟨T,a1,a2,a3,a4,a5,a6,_⟩:=lay_inner hg hf hv hrow hbig hnd hlen (Nat.le_trans h2 hr);obtain⟨f1,f2⟩:=few_of_lay hg hf' a1;have hc:=layL_count (n:=⟨false,T0.map (·.e)⟩) hf' hg (Nat.le_trans h2 hr);have hc2:=a3.count;have hT:T.length≤2:=by rw[a5];exact h2
 refine⟨T,a1,⟨a2,a3,a4,f1,f2,hT,fun h2T=>?_⟩,a6,?_,fun hl e=>?_⟩
 ·refine a6 (Nat.le_of_not_lt fun hlt=>?_)
  have:=(Zat ((T0.map (·.e)).length+1) ⟨false,T0.map (·.e)⟩ (Nat.lt_succ_self _) hf').2.2.2 (by omega);rw[this] at a5
  split at a5<;>simp only[List.length_nil,List.length_cons] at a5<;>omega
 ·dsimp only at hc;rw[a5];omega
 ·rw[e] at a2
  cases T0 with
  | nil=>exact hl rfl
  | cons x r =>
   rw[List.flatMap_cons] at a2;exact hrow.some x (List.mem_cons_self ..) (List.append_eq_nil_iff.1 a2.symm).1
end
section
theorem Zgx (k:List UInt8) (l:List En):Zg false 0 (Zr k l)=Zg false 0 l:=by
 cases l with
 | nil=>rfl
 | cons x r=>rw[Zr,Zg,Zg];rfl
theorem joint_sums {a b:Nd} (hb:∀e∈b.l,e.few) (he:a.leaf=b.leaf) {key:List UInt8} (hk:key.length≤80) :
  (Nd.mk a.leaf (a.l++(if b.leaf then b.l else Zr key b.l))).sum≤a.sum+b.sum+161∧a.sum≤(Nd.mk a.leaf (a.l++(if b.leaf then b.l else Zr key b.l))).sum∧b.sum≤(Nd.mk a.leaf (a.l++(if b.leaf then b.l else Zr key b.l))).sum:=by
 unfold Nd.sum;dsimp only;rw[Yl]
 cases hl:b.leaf with
 | true =>
  rw[he,hl];simp only[if_true];have h1:=Zad true b.l (0+a.l.length) fun e he=>(hb e he).key
  have h2:=Zba true b.l (0+a.l.length);simp only[if_true] at h1;omega
 | false =>
  rw[he,hl];simp only[Bool.false_eq_true,if_false];have h3:=Zad false b.l (0+a.l.length) fun e he=>(hb e he).key
  have h4:=Zgo (l:=b.l) hk false (0+a.l.length) rfl;have h5:=Zba false (Zr key b.l) (0+a.l.length);rw[Zgx] at h5;simp only[Bool.false_eq_true,if_false] at h3;omega
theorem free_two {R:Rp} {x y:Int} (hx:R.taken x=true) (hy:R.taken y=true) (hne:x≠y) (rx:R.root≠x) (ry:R.root≠y):(R.free x).1=0∧((R.free x).2.free y).1=0∧Fr R ((R.free x).2.free y).2 [x,y] []:=by obtain⟨a1,a2⟩:=fr_free hx rx;obtain⟨k1,k2,k3⟩:=a2.keep y hy (by simpa using fun e:y=x=>hne e.symm);obtain⟨b1,b2⟩:=fr_free k1 (by rw[a2.root];exact ry);exact⟨a1,b1,(a2.beside (Y:=[y]) (by simpa using hy) (by simpa using fun e:y=x=>hne e.symm) (by simp)).trans b2⟩
theorem Sub.srt {R:Rp} {page:Int} {n:Nd} (hg:R.good) (h:R.load page=(some n,0)):n.fit:=hg.load (by rw[h])
theorem fit_rise {n:Nd} (h:n.fit) (hl:n.leaf=true):(n.l.map (·.key)).Pairwise (· < ·):=by have:=h.srt;unfold Srt at this;rw[if_pos hl] at this;exact this
theorem pair_laid {R:Rp} {h:Nat} {a b:Kid} (hg:R.good) (ha:Sub R h a.e.kid a.l a.P) (hb:Sub R h b.e.kid b.l b.P) (hab:∀x∈a.l,x.1<b.e.key) (hbl:∀x∈b.l,¬x.1<b.e.key) (hbk:b.e.key.length≤80) (hnd:(a.P++b.P).Nodup) (hroot:R.root∉a.P++b.P)
  {na nb:Nd} (hla:R.load a.e.kid=(some na,0)) (hlb:R.load b.e.kid=(some nb,0)) (hs:na.sum<297∨nb.sum<297) (hs2:297≤na.sum∨297≤nb.sum) :
  na.leaf=nb.leaf∧(R.free a.e.kid).1=0∧((R.free a.e.kid).2.free b.e.kid).1=0∧∀R2,R2=((R.free a.e.kid).2.free b.e.kid).2→∃M,(R2.layL ⟨na.leaf,na.l++(if nb.leaf then nb.l else Zr b.e.key nb.l)⟩).1=(M.map (·.e),0) ∧
   Laid R (R2.layL ⟨na.leaf,na.l++(if nb.leaf then nb.l else Zr b.e.key nb.l)⟩).2 h (a.P++b.P) (a.l++b.l) M∧(∀t∈M,Big (R2.layL ⟨na.leaf,na.l++(if nb.leaf then nb.l else Zr b.e.key nb.l)⟩).2 t.e.kid)∧(M.flatMap (·.P)).length≤(a.P++b.P).length∧M≠[]:=by
 have fa:=Sub.srt hg hla;have fb:=Sub.srt hg hlb;have pa:=Sub.page h ha;have pb:=Sub.page h hb;have hne:a.e.kid≠b.e.kid:=fun e=>(List.nodup_append.1 hnd).2.2 _ pa _ pb e;obtain⟨f1,f2,f3⟩:=free_two (Yd hla) (Yd hlb) hne (fun e=>hroot (by rw[e];exact List.mem_append_left _ pa)) (fun e=>hroot (by rw[e];exact List.mem_append_right _ pb))
 have hleaf:na.leaf=nb.leaf:=by
  cases h with
  | zero =>
   obtain⟨n1,a1,a2,_⟩:=ha;obtain⟨n2,b1,b2,_⟩:=hb;rw[hla] at a1;rw[hlb] at b1;cases a1;cases b1;rw[a2,b2]
  | succ h =>
   obtain⟨n1,_,a1,a2,_⟩:=ha;obtain⟨n2,_,b1,b2,_⟩:=hb;rw[hla] at a1;rw[hlb] at b1;cases a1;cases b1;rw[a2,b2]
 obtain⟨s1,s2,s3⟩:=joint_sums (a:=na) fb.few hleaf hbk;have sa:=fa.sum
 have sb:=fb.sum;refine⟨hleaf,f1,f2,fun R2 e2=>?_⟩;subst e2;have hc:=f3.count;simp only[List.length_nil,List.length_cons] at hc;have hfree:2≤Ye ((R.free a.e.kid).2.free b.e.kid).2.pages:=by omega
 cases h with
 | zero =>
  obtain⟨n1,a1,a2,a3,a4⟩:=ha;obtain⟨n2,b1,b2,b3,b4⟩:=hb;rw[hla] at a1;rw[hlb] at b1;cases a1;cases b1;simp only[a2,b2,if_true] at s1 s2 s3 ⊢;have hfew:∀e∈na.l++nb.l,e.few:=fun e he=>(List.mem_append.1 he).elim (fa.few e) (fb.few e)
  obtain⟨M,m1,m2,m3,m4,m5⟩:=laid_leaf (f3.good hg) hfew (fun e he=>(List.mem_append.1 he).elim (load_kid0 (by rw[hla]) a2 e) (load_kid0 (by rw[hlb]) b2 e)) (by
   rw[List.map_append];refine List.pairwise_append.2 ⟨fit_rise fa a2,fit_rise fb b2,fun x hx y hy=>?_⟩;obtain⟨e,he,rfl⟩:=List.mem_map.1 hx;obtain⟨u,hu,rfl⟩:=List.mem_map.1 hy
   exact Xz (hab (Qk e) (by rw[a3];exact List.mem_map.2 ⟨e,he,rfl⟩)) (hbl (Qk u) (by rw[b3];exact List.mem_map.2 ⟨u,hu,rfl⟩))) (by omega) hfree
  have hP:a.P++b.P=[a.e.kid,b.e.kid]:=by rw[a4,b4];rfl
  rw[hP];refine⟨M,m1,⟨?_,f3.trans m2.fr,m2.row,m2.few,m2.val,m2.two,m2.big⟩,m3 (by omega),?_,m5 ?_⟩
  ·rw[m2.fl,a3,b3,List.map_append]
  ·rw[m4];exact m2.two
  ·intro e;exact fa.some (List.append_eq_nil_iff.1 e).1
 | succ h =>
  obtain⟨n1,Ta,a1,a2,a3,a4,a5,a6,a7⟩:=ha;obtain⟨n2,Tb,b1,b2,b3,b4,b5,b6,b7⟩:=hb;rw[hla] at a1;rw[hlb] at b1;cases a1;cases b1;simp only[a2,b2,Bool.false_eq_true,if_false] at s1 s2 s3 ⊢;have hmap:na.l++Zr b.e.key nb.l=(Ta++keyKid b.e.key Tb).map (·.e):=by rw[List.map_append,keyKid_e,a3,b3]
  rw[hmap] at s1 s2 s3 ⊢
  have hY:∀t∈Ta++Tb,∀p∈t.P,R.taken p=true∧p∉[a.e.kid,b.e.kid]:=fun t ht p hp=>by
   rw[a5,b5] at hnd;have hnd':=List.nodup_append.1 hnd
   have n1:=List.nodup_cons.1 hnd'.1;have n2:=List.nodup_cons.1 hnd'.2.1;rcases List.mem_append.1 ht with ht | ht
   ·have hm:p∈Ta.flatMap (·.P):=List.mem_flatMap.2 ⟨t,ht,hp⟩
    refine⟨Sub.taken h (a6.kid t ht) p hp,fun e=>?_⟩;rcases List.mem_cons.1 e with rfl | e
    ·exact n1.1 hm
    ·rw[List.mem_singleton.1 e] at hm;exact hnd'.2.2 _ (List.mem_cons_of_mem _ hm) _ (List.mem_cons_self ..) rfl
   ·have hm:p∈Tb.flatMap (·.P):=List.mem_flatMap.2 ⟨t,ht,hp⟩
    refine⟨Sub.taken h (b6.kid t ht) p hp,fun e=>?_⟩;rcases List.mem_cons.1 e with rfl | e
    ·exact hnd'.2.2 _ (List.mem_cons_self ..) _ (List.mem_cons_of_mem _ hm) rfl
    ·rw[List.mem_singleton.1 e] at hm;exact n2.1 hm
  have hread:∀t∈Ta++Tb,∀p∈t.P,((R.free a.e.kid).2.free b.e.kid).2.read p=R.read p:=fun t ht p hp=>(f3.keep p (hY t ht p hp).1 (hY t ht p hp).2).2.2;have hal:∀t∈Ta,∀x∈t.l,x.1<b.e.key:=fun t ht x hx=>hab x (by rw[a4];exact List.mem_flatMap.2 ⟨t,ht,hx⟩);have hbl':∀t∈Tb,∀x∈t.l,¬x.1<b.e.key:=fun t ht x hx=>hbl x (by rw[b4];exact List.mem_flatMap.2 ⟨t,ht,hx⟩);have hrow:Xe (Sub ((R.free a.e.kid).2.free b.e.kid).2 h) (Ta++keyKid b.e.key Tb):=by have:=Xe.swap (A:=Ta) (M:=Tb) (C:=[]) (k:=b.e.key) (a6.same fun t ht=>hread t (List.mem_append_left _ ht)) (b6.same fun t ht=>hread t (List.mem_append_right _ ht)) (by exact⟨by simp,by simp,by simp,by simp⟩) (by simp) hal hbl' (by simp);simpa using this
  have hfa:∀t∈Ta,t.e.few:=fun t ht=>fa.few t.e (by rw[a3];exact List.mem_map.2 ⟨t,ht,rfl⟩);have hfb:∀t∈Tb,t.e.few:=fun t ht=>fb.few t.e (by rw[b3];exact List.mem_map.2 ⟨t,ht,rfl⟩);have hva:∀t∈Ta,t.e.val=[]:=fun t ht=>load_val0 (by rw[hla]) a2 t.e (by rw[a3];exact List.mem_map.2 ⟨t,ht,rfl⟩);have hvb:∀t∈Tb,t.e.val=[]:=fun t ht=>load_val0 (by rw[hlb]) b2 t.e (by rw[b3];exact List.mem_map.2 ⟨t,ht,rfl⟩);have hPT:(Ta++keyKid b.e.key Tb).flatMap (·.P)=Ta.flatMap (·.P)++Tb.flatMap (·.P):=by rw[List.flatMap_append,keyKid_P]
  have hlT:(Ta++keyKid b.e.key Tb).flatMap (·.l)=a.l++b.l:=by rw[List.flatMap_append,keyKid_l,a4,b4]
  have hperm:([a.e.kid,b.e.kid]++(Ta.flatMap (·.P)++Tb.flatMap (·.P))).Perm (a.P++b.P):=by
   rw[a5,b5];show (a.e.kid::b.e.kid::(Ta.flatMap (·.P)++Tb.flatMap (·.P))).Perm (a.e.kid::(Ta.flatMap (·.P)++b.e.kid::Tb.flatMap (·.P)))
   exact List.Perm.cons _ List.perm_middle.symm
  have hnd2:(Ta.flatMap (·.P)++Tb.flatMap (·.P)).Nodup:=(List.nodup_append.1 (hperm.nodup_iff.2 hnd)).2.1
  obtain⟨M,m1,m2,m3,m4,m5⟩:=laid_inner (f3.good hg) (fun t ht=>(List.mem_append.1 ht).elim (hfa t) (keyKid_few hbk hfb t)) (fun t ht=>(List.mem_append.1 ht).elim (hva t) fun hk=>by
   obtain⟨u,hu,_,_,_,e,_⟩:=Zbj hk;rw[e];exact hvb u hu) hrow (fun t ht=>by
   rcases List.mem_append.1 ht with ht | ht
   ·exact(a7 t ht).same (hread t (List.mem_append_left _ ht) _ (Sub.page h (a6.kid t ht)))
   ·obtain⟨u,hu,_,_,e,_⟩:=Zbj ht
    rw[e]
    exact(b7 u hu).same (hread u (List.mem_append_right _ hu) _ (Sub.page h (b6.kid u hu)))) (by rw[hPT];exact hnd2) (by omega) hfree
  rw[hPT] at m4 m2;rw[hlT] at m2
  have hb2:=f3.beside (Y:=Ta.flatMap (·.P)++Tb.flatMap (·.P)) (fun p hp=>by
   rw[←List.flatMap_append] at hp;obtain⟨t,ht,hp⟩:=List.mem_flatMap.1 hp;exact(hY t ht p hp).1) (fun p hp=>by
   rw[←List.flatMap_append] at hp;obtain⟨t,ht,hp⟩:=List.mem_flatMap.1 hp
   exact(hY t ht p hp).2) hnd2
  have hF:=(hb2.trans m2.fr).perm hperm (List.Perm.refl _);refine⟨M,m1,⟨m2.fl,hF,m2.row,m2.few,m2.val,m2.two,m2.big⟩,m3 (by omega),?_,m5 ?_⟩
  ·have:=hperm.length_eq;have h2:=m2.two;simp only[List.length_append,List.length_cons,List.length_nil] at this m4 ⊢;omega
  ·intro e;have h1:=(List.append_eq_nil_iff.1 e).1;rw[h1] at a3;exact fa.some a3
theorem join_row {R:Rp} {h:Nat} {T:List Kid} (hg:R.good) (hrow:Xe (Sub R h) T) (hf:∀t∈T,t.e.few) (hv:∀t∈T,t.e.val=[]) (hnd:(T.flatMap (·.P)).Nodup) (hroot:R.root∉T.flatMap (·.P)) {k i:Nat} (hk:k+1<T.length) (hi:i=k∨i=k+1) (hbig:∀j t,T[j]?=some t→j≠i→Big R t.e.kid) :
  ∃T',(R.joinN (T.map (·.e)) k i).1=(0,T'.map (·.e))∧T'.flatMap (·.l)=T.flatMap (·.l)∧Fr R (R.joinN (T.map (·.e)) k i).2 (T.flatMap (·.P)) (T'.flatMap (·.P))∧Xe (Sub (R.joinN (T.map (·.e)) k i).2 h) T'∧(∀t∈T',t.e.few)∧(∀t∈T',t.e.val=[])∧(∀t∈T',Big (R.joinN (T.map (·.e)) k i).2 t.e.kid)∧(T'.flatMap (·.P)).length≤(T.flatMap (·.P)).length∧T'≠[]:=by
 obtain⟨A,a,b,C,hT,hA⟩:∃A a b C,T=A++(a::b::C)∧A.length=k:=⟨T.take k,T[k],T[k+1],T.drop (k+2),by
  rw[←List.drop_eq_getElem_cons,←List.drop_eq_getElem_cons,List.take_append_drop],by rw[List.length_take];omega⟩
 subst hT;subst hA;have ka:Zn ((A++(a::b::C)).map (·.e)) A.length=a.e.kid:=by simp[Zn]
 have kb:Zn ((A++(a::b::C)).map (·.e)) (A.length+1)=b.e.kid:=by simp[Zn]
 have xa:atK ((A++(a::b::C)).map (·.e)) A.length=a.e.key:=by simp[atK]
 have xb:atK ((A++(a::b::C)).map (·.e)) (A.length+1)=b.e.key:=by simp[atK]
 have tk:((A++(a::b::C)).map (·.e)).take A.length=A.map (·.e):=by rw[List.map_append,List.take_left'];simp
 have dr:((A++(a::b::C)).map (·.e)).drop (A.length+2)=C.map (·.e):=by rw[List.map_append,←List.drop_drop,List.drop_left' (by simp)];rfl
 have ga:(A++(a::b::C))[A.length]?=some a:=by simp
 have gb:(A++(a::b::C))[A.length+1]?=some b:=by simp
 have hra:Xe (Sub R h) A:=hrow.left;have hr2:Xe (Sub R h) ([a]++([b]++C)):=hrow.right;have hrc:Xe (Sub R h) C:=hr2.right.right;have sa:=hrow.kid a (by simp);have sb:=hrow.kid b (by simp)
 have hld:∀t:Kid,Sub R h t.e.kid t.l t.P→∃n,R.load t.e.kid=(some n,0):=fun t hs=>by
  cases h with
  | zero=>obtain⟨n,h1,_⟩:=hs;exact⟨n,h1⟩
  | succ h=>obtain⟨n,T,h1,_⟩:=hs;exact⟨n,h1⟩
 obtain⟨na,hla⟩:=hld a sa;obtain⟨nb,hlb⟩:=hld b sb
 obtain⟨x,hlx,hx⟩:∃x,R.load (Zn ((A++(a::b::C)).map (·.e)) i)=(some x,0)∧((i=A.length∧x=na)∨(i=A.length+1∧x=nb)):=by
  rcases hi with rfl | rfl
  ·exact⟨na,by rw[ka,hla],.inl ⟨rfl,rfl⟩⟩
  ·exact⟨nb,by rw[kb,hlb],.inr ⟨rfl,rfl⟩⟩
 unfold Rp.joinN;rw[hlx];dsimp only;by_cases hxs:297≤x.sum
 ·rw[if_pos hxs]
  refine⟨A++(a::b::C),rfl,rfl,Fr.refl (fun p hp=>?_) hnd,hrow,hf,hv,fun t ht=>?_,Nat.le_refl _,by simp⟩
  ·obtain⟨t,ht,hp⟩:=List.mem_flatMap.1 hp;exact Sub.taken h (hrow.kid t ht) p hp
  ·obtain⟨j,hj⟩:=List.mem_iff_getElem?.1 ht
   by_cases hji:j=i
   ·subst hji
    intro m hm;rcases hx with ⟨e1,e2⟩ | ⟨e1,e2⟩
    ·rw[e1,ga] at hj;cases hj;rw[hla] at hm;cases hm;rw[←e2];exact hxs
    ·rw[e1,gb] at hj;cases hj;rw[hlb] at hm;cases hm;rw[←e2];exact hxs
   ·exact hbig j t hj hji
 ·rw[if_neg hxs,ka,kb,xa,xb,tk,dr,hla]
  dsimp only;rw[hlb];dsimp only;have hnP:(A.flatMap (·.P)++((a.P++b.P)++C.flatMap (·.P))).Nodup:=by have:=hnd;rw[List.flatMap_append,List.flatMap_cons,List.flatMap_cons] at this;simpa using this
  have hPeq:(A++(a::b::C)).flatMap (·.P)=A.flatMap (·.P)++((a.P++b.P)++C.flatMap (·.P)):=by rw[List.flatMap_append,List.flatMap_cons,List.flatMap_cons];simp
  have hndab:=(List.nodup_append.1 (List.nodup_append.1 hnP).2.1).1
  obtain⟨p1,p2,p3,p4⟩:=pair_laid hg sa sb (fun y hy=>hr2.mid a (by simp) b (by simp) y hy) (hrow.low b (by simp)) (hf b (by simp)).key hndab (fun e=>hroot (by
    rw[hPeq];exact List.mem_append_right _ (List.mem_append_left _ e))) hla hlb (by
    rcases hx with ⟨_,e2⟩ | ⟨_,e2⟩<;>rw[e2] at hxs<;>omega) (by
    rcases hx with ⟨e1,_⟩ | ⟨e1,_⟩
    ·exact .inr (hbig (A.length+1) b gb (by omega) nb (by rw[hlb]))
    ·exact .inl (hbig A.length a ga (by omega) na (by rw[hla])))
  obtain⟨M,m1,m2,m3,m4,m5⟩:=p4 _ rfl;rw[if_neg (by rw[p1];simp),if_neg (by rw[p2];simp),if_neg (by rw[p3];simp),if_neg (by rw[m1];simp),m1];obtain⟨R',hR'⟩:∃R',R'=(((R.free a.e.kid).2.free b.e.kid).2.layL ⟨na.leaf,na.l++(if nb.leaf then nb.l else Zr b.e.key nb.l)⟩).2:=⟨_,rfl⟩
  rw[←hR'] at m2 m3 ⊢
  have hY:∀t∈A++C,∀p∈t.P,R.taken p=true∧p∉a.P++b.P:=fun t ht p hp=>by
   obtain⟨n1,n2,n3⟩:=List.nodup_append.1 hnP;obtain⟨n4,n5,n6⟩:=List.nodup_append.1 n2;rcases List.mem_append.1 ht with ht | ht
   ·refine⟨Sub.taken h (hra.kid t ht) p hp,fun e=>?_⟩;exact n3 p (List.mem_flatMap.2 ⟨t,ht,hp⟩) p (List.mem_append_left _ e) rfl
   ·refine⟨Sub.taken h (hrc.kid t ht) p hp,fun e=>?_⟩;exact n6 p e p (List.mem_flatMap.2 ⟨t,ht,hp⟩) rfl
  have hread:∀t∈A++C,∀p∈t.P,R'.read p=R.read p:=fun t ht p hp=>(m2.fr.keep p (hY t ht p hp).1 (hY t ht p hp).2).2.2;have hml:∀m∈M,∀x∈m.l,x∈a.l∨x∈b.l:=fun m hm x hx=>by have:x∈M.flatMap (·.l):=List.mem_flatMap.2 ⟨m,hm,hx⟩;rw[m2.fl] at this;exact List.mem_append.1 this
  have hab:∀x∈a.l,x.1<b.e.key:=fun y hy=>hr2.mid a (by simp) b (by simp) y hy;have hak:¬b.e.key<a.e.key:=fun hlt=>by obtain⟨y,hy⟩:=List.exists_mem_of_ne_nil _ (hrow.some a (by simp));exact hrow.low a (by simp) y hy (List.lt_trans (hab y hy) hlt)
  have hrow':Xe (Sub R' h) (A++(keyKid a.e.key M++C)):=by
   refine Xe.swap (hra.same fun t ht=>hread t (List.mem_append_left _ ht)) m2.row (hrc.same fun t ht=>hread t (List.mem_append_right _ ht)) (fun u hu c hc=>hrow.mid u hu c (by simp[hc])) (fun u hu=>hrow.mid u hu a (by simp)) (fun m hm y hy=>?_) fun m hm y hy c hc=>?_
   ·rcases hml m hm y hy with h1 | h1
    ·exact hrow.low a (by simp) y h1
    ·exact fun hlt=>hrow.low b (by simp) y h1 (Xz hlt hak)
   ·rcases hml m hm y hy with h1 | h1
    ·exact hr2.mid a (by simp) c (by simp[hc]) y h1
    ·exact hr2.right.mid b (by simp) c hc y h1
  have hPA:(A++(keyKid a.e.key M++C)).flatMap (·.P)=A.flatMap (·.P)++(M.flatMap (·.P)++C.flatMap (·.P)):=by rw[List.flatMap_append,List.flatMap_append,keyKid_P]
  refine⟨A++(keyKid a.e.key M++C),?_,?_,?_,hrow',fun t ht=>?_,fun t ht=>?_,fun t ht=>?_,?_,?_⟩
  ·rw[List.map_append,List.map_append,keyKid_e]
  ·rw[List.flatMap_append,List.flatMap_append,keyKid_l,m2.fl,List.flatMap_append,List.flatMap_cons,List.flatMap_cons];simp
  ·have hAC:(A.flatMap (·.P)++C.flatMap (·.P)).Nodup:=by
    obtain⟨n1,n2,n3⟩:=List.nodup_append.1 hnP;obtain⟨n4,n5,n6⟩:=List.nodup_append.1 n2;exact List.nodup_append.2 ⟨n1,n5,fun p hp q hq=>n3 p hp q (List.mem_append_right _ hq)⟩
   have hb2:=m2.fr.beside (Y:=A.flatMap (·.P)++C.flatMap (·.P)) (fun p hp=>by
    rw[←List.flatMap_append] at hp;obtain⟨t,ht,hp⟩:=List.mem_flatMap.1 hp;exact(hY t ht p hp).1) (fun p hp=>by
    rw[←List.flatMap_append] at hp;obtain⟨t,ht,hp⟩:=List.mem_flatMap.1 hp
    exact(hY t ht p hp).2) hAC
   rw[hPeq,hPA];refine hb2.perm ?_ ?_
   ·exact(List.perm_append_comm_assoc _ _ _)
   ·exact(List.perm_append_comm_assoc _ _ _)
  ·rcases List.mem_append.1 ht with ht | ht
   ·exact hf t (List.mem_append_left _ ht)
   ·rcases List.mem_append.1 ht with ht | ht
    ·exact keyKid_few (hf a (by simp)).key m2.few t ht
    ·exact hf t (by simp[ht])
  ·rcases List.mem_append.1 ht with ht | ht
   ·exact hv t (List.mem_append_left _ ht)
   ·rcases List.mem_append.1 ht with ht | ht
    ·obtain⟨u,hu,_,_,_,e,_⟩:=Zbj ht;rw[e];exact m2.val u hu
    ·exact hv t (by simp[ht])
  ·have hoth:∀j,(A++(a::b::C))[j]?=some t→(j<A.length∨A.length+1<j)→Big R t.e.kid:=fun j hj hne=>hbig j t hj (by omega)
   rcases List.mem_append.1 ht with ht | ht
   ·obtain⟨j,hj,e⟩:=List.mem_iff_getElem.1 ht;exact(hoth j (by rw[List.getElem?_append_left hj,List.getElem?_eq_getElem hj,e]) (.inl hj)).same (hread t (List.mem_append_left _ ht) _ (Sub.page h (hra.kid t ht)))
   ·rcases List.mem_append.1 ht with ht | ht
    ·obtain⟨u,hu,_,_,e,_⟩:=Zbj ht;rw[e];exact m3 u hu
    ·obtain⟨j,hj,e⟩:=List.mem_iff_getElem.1 ht;refine(hoth (A.length+(j+2)) (by rw[List.getElem?_append_right (by omega),Nat.add_sub_cancel_left];simp[hj,e]) (.inr (by omega))).same (hread t (List.mem_append_right _ ht) _ (Sub.page h (hrc.kid t ht)))
  ·rw[hPeq,hPA];simp only[List.length_append] at m4 ⊢;omega
  ·intro e;have h1:=(List.append_eq_nil_iff.1 (List.append_eq_nil_iff.1 e).2).1;have:=congrArg List.length h1;rw[Zge] at this;exact m5 (List.eq_nil_of_length_eq_zero (by simpa using this))
end
section
theorem Yq {R R':Rp} (h:R'.pages=R.pages) (p:Int):R'.taken p=R.taken p:=by unfold Rp.taken;rw[h]
theorem Zdd {R R':Rp} (h:R'.pages=R.pages) (p:Int):R'.read p=R.read p:=by unfold Rp.read;rw[Yq h,h]
theorem Rp.good.of_pages {R R':Rp} (h:R.good) (e:R'.pages=R.pages):R'.good:=⟨by rw[e];exact h.few,by rw[e];exact h.len⟩
theorem Qr (R:Rp):R.setRoot (-1)=(0,{ R with root:=-1,change:=true }):=by unfold Rp.setRoot;rw[if_neg (by simp)]
def Rp.unroot (R:Rp) (page:Int):Rp:=if page=R.root then (R.setRoot (-1)).2 else R
section
variable {R R' : Rp} {page : Int} {X X' : List Int}
theorem Xu (R:Rp) (page:Int):(R.unroot page).pages=R.pages:=by
 unfold Rp.unroot;split
 ·rw[Qr]
 ·rfl
theorem unroot_ne (h:page≠R.root):R.unroot page=R:=by unfold Rp.unroot;rw[if_neg h]
theorem unroot_root (h:R.taken page=true):(R.unroot page).root≠page:=by
 unfold Rp.unroot;split
 ·rw[Qr];obtain⟨a,_⟩:=Zbt h;dsimp only;omega
 ·rename_i h;exact fun e=>h e.symm
theorem freeT_unroot (R:Rp) (page:Int):R.freeT page=(R.unroot page).free page:=by
 unfold Rp.freeT Rp.unroot
 split<;>rfl
theorem Fr.unroot (h:Fr R R' X X') (page:Int):Fr (R.unroot page) (R'.unroot page) X X':=by
 have e1:=Xu R page;have e2:=Xu R' page;refine⟨by rw[e1,e2];exact h.len,?_,?_,?_,fun p hp=>by rw[Yq e1];exact h.own p hp,fun p hp=>by rw[Yq e2];exact h.own' p hp,h.nd,h.nd',fun p a b=>?_,fun p a b=>?_,by rw[e1,e2];exact h.count,fun hg=>(h.good (hg.of_pages e1.symm)).of_pages e2⟩
 ·unfold Rp.unroot
  rw[h.root];split
  ·rw[Qr,Qr]
  ·exact h.root
 ·unfold Rp.unroot
  rw[h.root];split
  ·rw[Qr,Qr];exact h.was
  ·exact h.was
 ·unfold Rp.unroot
  rw[h.root];split
  ·rw[Qr,Qr];exact h.wroot
  ·exact h.wroot
 ·rw[Yq e1] at a;rw[Yq e2,Zdd e1,Zdd e2];exact h.keep p a b
 ·rw[Yq e2] at a;rw[Yq e1];exact h.back p a b
theorem relay_free (ht:R.taken page=true) (n:Nd):R.relay page n=((R.unroot page).free page).2.layL n∧Fr (R.unroot page) ((R.unroot page).free page).2 [page] []:=by
 have ht':(R.unroot page).taken page=true:=by rw[Yq (Xu R page)];exact ht
 obtain⟨f1,f2⟩:=fr_free ht' (unroot_root ht);refine⟨?_,f2⟩;unfold Rp.relay;rw[freeT_unroot,if_neg (by rw[f1];simp)]
theorem relay_leaf (hg:R.good) (ht:R.taken page=true) {l:List En} (hf:∀e∈l,e.few) (hk:∀e∈l,e.kid=0) (hs:(l.map (·.key)).Pairwise (· < ·)) (hsum:(Nd.mk true l).sum≤1504) (hr:1≤Ye R.pages) :
  ∃M,(R.relay page ⟨true,l⟩).1=(M.map (·.e),0)∧Laid (R.unroot page) (R.relay page ⟨true,l⟩).2 0 [page] (l.map Qk) M∧(M.flatMap (·.P)).length=M.length∧(l≠[]→M≠[]):=by
 obtain⟨e,f⟩:=relay_free ht ⟨true,l⟩;have hc:=f.count
 rw[Xu] at hc;simp only[List.length_nil,List.length_cons] at hc;obtain⟨M,m1,m2,m3,m4,m5⟩:=laid_leaf (f.good (hg.of_pages (Xu R page))) hf hk hs hsum (by omega);rw[e];exact⟨M,m1,⟨m2.fl,f.trans m2.fr,m2.row,m2.few,m2.val,m2.two,m2.big⟩,m4,m5⟩
theorem relay_inner {h:Nat} (hg:R.good) (ht:R.taken page=true) {T0:List Kid} (hf:∀t∈T0,t.e.few) (hv:∀t∈T0,t.e.val=[]) (hrow:Xe (Sub R h) T0) (hbig:∀t∈T0,Big R t.e.kid) (hnd:(page::T0.flatMap (·.P)).Nodup) (hsum:(Nd.mk false (T0.map (·.e))).sum≤1504) (hr:1≤Ye R.pages) :
  ∃M,(R.relay page ⟨false,T0.map (·.e)⟩).1=(M.map (·.e),0)∧Laid (R.unroot page) (R.relay page ⟨false,T0.map (·.e)⟩).2 (h+1) (page::T0.flatMap (·.P)) (T0.flatMap (·.l)) M∧(M.flatMap (·.P)).length=M.length+(T0.flatMap (·.P)).length∧(T0≠[]→M≠[]):=by
 obtain⟨e,f⟩:=relay_free ht ⟨false,T0.map (·.e)⟩;have hc:=f.count
 rw[Xu] at hc;simp only[List.length_nil,List.length_cons] at hc;obtain⟨n1,n2⟩:=List.nodup_cons.1 hnd
 have hY:∀t∈T0,∀p∈t.P,(R.unroot page).taken p=true∧p∉[page]:=fun t hu p hp=>⟨by rw[Yq (Xu R page)];exact Sub.taken h (hrow.kid t hu) p hp,by
  rw[List.mem_singleton]
  exact fun e=>n1 (List.mem_flatMap.2 ⟨t,hu,e▸hp⟩)⟩
 have hread:∀t∈T0,∀p∈t.P,((R.unroot page).free page).2.read p=R.read p:=fun t ht p hp=>by rw[(f.keep p (hY t ht p hp).1 (hY t ht p hp).2).2.2,Zdd (Xu R page)]
 obtain⟨M,m1,m2,m3,m4,m5⟩:=laid_inner (f.good (hg.of_pages (Xu R page))) hf hv (hrow.same hread) (fun t ht=>(hbig t ht).same (hread t ht _ (Sub.page h (hrow.kid t ht)))) n2 hsum (by omega);rw[e]
 have hb:=f.beside (Y:=T0.flatMap (·.P)) (fun p hp=>by
  obtain⟨t,ht,hp⟩:=List.mem_flatMap.1 hp;exact(hY t ht p hp).1) (fun p hp=>by
  obtain⟨t,ht,hp⟩:=List.mem_flatMap.1 hp
  exact(hY t ht p hp).2) n2
 exact⟨M,m1,⟨m2.fl,hb.trans m2.fr,m2.row,m2.few,m2.val,m2.two,m2.big⟩,m4,m5⟩
end
theorem anew_fin {R R2:Rp} {page:Int} {h:Nat} {X:List Int} {T2:List Kid} {l:List KV} (hg:R.good) (ht:R.taken page=true) (hn:h+2≤Ye R.pages) (hrow:Xe (Sub R2 h) T2) (hf:∀t∈T2,t.e.few) (hv:∀t∈T2,t.e.val=[]) (hbig:∀t∈T2,Big R2 t.e.kid) (hl:T2.flatMap (·.l)=l) (hF:Fr R R2 (page::X) (page::T2.flatMap (·.P))) (hsum:(Nd.mk false (T2.map (·.e))).sum≤1504) (hc:(T2.flatMap (·.P)).length≤X.length+h+1) :
  ∃M,(R2.relay page ⟨false,T2.map (·.e)⟩).1=(M.map (·.e),0)∧Laid (R.unroot page) (R2.relay page ⟨false,T2.map (·.e)⟩).2 (h+1) (page::X) l M∧(M.flatMap (·.P)).length≤(page::X).length+(h+1)+1:=by
 have hcc:=hF.count;simp only[List.length_cons] at hcc;obtain⟨M,m1,m2,m3,m4⟩:=relay_inner (hF.good hg) (hF.own' page (List.mem_cons_self ..)) hf hv hrow hbig hF.nd' hsum (by omega);have h2:=m2.two;refine⟨M,m1,⟨by rw[m2.fl];exact hl,(hF.unroot page).trans m2.fr,m2.row,m2.few,m2.val,m2.two,m2.big⟩,?_⟩;simp only[List.length_cons];omega
structure ChgL (c:Chg) (key:List UInt8) (cl:List KV→List KV):Prop where
 ok:ChgOk c
 leaf:∀n:Nd,n.leaf=true→(c n.l (n.behind key).1 (n.behind key).2).map Qk=cl (n.l.map Qk)
 kid:∀(l:List En) i is,(∀e∈l,e.kid=0)→∀e∈c l i is,e.kid=0
 mid:∀A L C:List KV,(∀x∈A,x.1<key)→(∀x∈C,key<x.1)→cl (A++(L++C))=A++(cl L++C)
 mem:∀L:List KV,∀x∈cl L,x.1=key∨x∈L
 rise:∀L:List KV,Rise L→Rise (cl L)
theorem rise_keys {l:List En}:Rise (l.map Qk)↔(l.map (·.key)).Pairwise (· < ·):=by unfold Rise;rw[List.pairwise_map,List.pairwise_map];exact Iff.rfl
def Two (R:Rp) (page:Int):Prop:=∀n,(R.load page).1=some n→2≤n.l.length
theorem Big.two {R:Rp} (hg:R.good) {h:Nat} {page:Int} {l:List KV} {P:List Int} (hs:Sub R (h+1) page l P) (hb:Big R page):Two R page:=fun n hn=>by
 obtain⟨m,T,h1,h2,_⟩:=hs;rw[h1] at hn;cases hn;have h3:=hb n (by rw[h1])
 have h4:=Zdf n.l 0 (Sub.srt hg h1).few;unfold Nd.sum at h3;rw[h2] at h3;omega
theorem anew_sub {c:Chg} {key:List UInt8} {cl:List KV→List KV} (hc:ChgL c key cl):∀(h f:Nat) {R:Rp} {page:Int} {l:List KV} {P:List Int},R.good→Sub R h page l P→P.Nodup→(page=R.root∨R.root∉P)→R.taken R.root=true→h<f→h+1≤Ye R.pages→(1≤h→Two R page) →
  ∃M,(R.anewN c key f page).1=(M.map (·.e),0)∧Laid (R.unroot page) (R.anewN c key f page).2 h P (cl l) M∧(M.flatMap (·.P)).length≤P.length+h+1
 | h,0,R,page,l,P,_,_,_,_,_,hf,_,_=>by omega
 | 0,f+1,R,page,l,P,hg,hs,hnd,hroot,hrk,hf,hfree,_=>by
  obtain⟨n,h1,h2,h3,h4⟩:=hs;have fn:=Sub.srt hg h1
  rw[Rp.anewN,h1];dsimp only;rw[if_pos h2];obtain⟨b1,b2⟩:=Zbh h2 key;have hsum:=fn.sum
  unfold Nd.sum at hsum;rw[h2] at hsum;obtain⟨c1,c2⟩:=hc.ok n.l _ _ fn.few hsum b1 b2;have c3:=hc.leaf n h2
  have c4:=hc.kid n.l (n.behind key).1 (n.behind key).2 (load_kid0 (by rw[h1]) h2);have c5:((c n.l (n.behind key).1 (n.behind key).2).map (·.key)).Pairwise (· < ·):=by rw[←rise_keys,c3];exact hc.rise _ (rise_keys.2 (fit_rise fn h2))
  obtain⟨M,m1,m2,m3,m4⟩:=relay_leaf (page:=page) hg (Yd h1) c1 c4 c5 (by unfold Nd.sum;dsimp only;omega) (by omega);rw[c3,←h3,←h4] at m2;refine⟨M,m1,m2,?_⟩;have:=m2.two
  rw[m3,h4];simp only[List.length_cons,List.length_nil];omega
 | h+1,f+1,R,page,l,P,hg,hs,hnd,hroot,hrk,hf,hfree,htwo=>by
  obtain⟨n,T,h1,h2,h3,h4,h5,h6,h7⟩:=hs;have fn:=Sub.srt hg h1
  have ht2:=htwo (by omega) n (by rw[h1]);obtain⟨A,t,C,e1,e2,e3,e4,e5,e6⟩:=Zgq h6 h2 h3 fn.some key;subst e1;have hk:Zn n.l (n.behind key).1=t.e.kid:=by rw[Zn,h3,←e2];simp
  have hak:atK n.l (n.behind key).1=t.e.key:=by rw[atK,h3,←e2];simp
  have hlow:¬key<t.e.key:=by
   cases A with
   | nil =>
    have:=load_key0 (by rw[h1]) h2 (e:=t.e) (r:=C.map (·.e)) (by rw[h3];rfl);rw[this];exact List.not_lt_nil _
   | cons a r=>exact e6 (by simp)
  rw[Rp.anewN,h1];dsimp only;rw[if_neg (by rw[h2];simp),hk];rw[h5] at hnd hroot;have st:=h6.kid t (by simp)
  have hT:(A++t::C).flatMap (·.P)=A.flatMap (·.P)++(t.P++C.flatMap (·.P)):=by rw[List.flatMap_append,List.flatMap_cons]
  obtain⟨hpn,hndT⟩:=List.nodup_cons.1 hnd;have hndT':=hndT
  rw[hT] at hndT'
  have hrT:R.root∉(A++t::C).flatMap (·.P):=fun hm=>by
   rcases hroot with e | e
   ·rw[←e] at hm;exact hpn hm
   ·exact e (List.mem_cons_of_mem _ hm)
  have hrt:R.root∉t.P:=fun hm=>hrT (by rw[hT];exact List.mem_append_right _ (List.mem_append_left _ hm));obtain⟨n1,n2,n3⟩:=List.nodup_append.1 hndT';obtain⟨n4,n5,n6⟩:=List.nodup_append.1 n2
  obtain⟨M,m1,m2,m3⟩:=anew_sub hc h f hg st n4 (.inr hrt) hrk (by omega) (by omega) (fun hh=>by
   cases h with
   | zero=>omega
   | succ h=>exact(h7 t (by simp)).two hg st)
  rw[unroot_ne (fun e=>hrt (by rw[←e];exact Sub.page h st))] at m2;obtain⟨r1,hr1⟩:∃r,r=R.anewN c key f t.e.kid:=⟨_,rfl⟩;rw[←hr1] at m1 m2 ⊢;obtain⟨q1,R1⟩:=r1;dsimp only at m1 m2 ⊢;subst m1;dsimp only;have hmerge:Yr n.l (M.map (·.e)) (n.behind key).1=(A++(keyKid t.e.key M++C)).map (·.e):=by rw[Yr,hak,←e2,h3,List.map_append,List.map_cons,List.take_left' (by simp),←List.drop_drop,List.drop_left' (by simp),List.map_append,List.map_append,keyKid_e];rfl
  rw[if_neg (by simp),hmerge,List.length_map,List.length_map];have hfT:∀u∈A++t::C,u.e.few:=fun u hu=>fn.few u.e (by rw[h3];exact List.mem_map.2 ⟨u,hu,rfl⟩)
  have hvT:∀u∈A++t::C,u.e.val=[]:=fun u hu=>load_val0 (by rw[h1]) h2 u.e (by rw[h3];exact List.mem_map.2 ⟨u,hu,rfl⟩)
  have hY:∀u∈A++C,∀p∈u.P,R.taken p=true∧p∉t.P:=fun u hu p hp=>by
   rcases List.mem_append.1 hu with hu | hu
   ·exact⟨Sub.taken h (h6.kid u (by simp[hu])) p hp,fun e=>n3 p (List.mem_flatMap.2 ⟨u,hu,hp⟩) p (List.mem_append_left _ e) rfl⟩
   ·exact⟨Sub.taken h (h6.kid u (by simp[hu])) p hp,fun e=>n6 p e p (List.mem_flatMap.2 ⟨u,hu,hp⟩) rfl⟩
  have hread:∀u∈A++C,∀p∈u.P,R1.read p=R.read p:=fun u hu p hp=>(m2.fr.keep p (hY u hu p hp).1 (hY u hu p hp).2).2.2;have hra:Xe (Sub R h) A:=h6.left;have hr2:Xe (Sub R h) ([t]++C):=h6.right;have hml:∀m∈M,∀x∈m.l,x.1=key∨x∈t.l:=fun m hm x hx=>hc.mem t.l x (by rw[←m2.fl];exact List.mem_flatMap.2 ⟨m,hm,hx⟩)
  have hrow1:Xe (Sub R1 h) (A++(keyKid t.e.key M++C)):=by
   refine Xe.swap (hra.same fun u hu=>hread u (List.mem_append_left _ hu)) m2.row (hr2.right.same fun u hu=>hread u (List.mem_append_right _ hu)) (fun a ha c hc=>h6.mid a ha c (by simp[hc])) (fun a ha=>h6.mid a ha t (by simp)) (fun m hm x hx=>?_) fun m hm x hx c hcc=>?_
   ·rcases hml m hm x hx with e | e
    ·rw[e];exact hlow
    ·exact h6.low t (by simp) x e
   ·rcases hml m hm x hx with e | e
    ·rw[e];exact e4 c hcc
    ·exact hr2.mid t (by simp) c hcc x e
  have htk:t.e.key.length≤80:=(hfT t (by simp)).key
  have hf1:∀u∈A++(keyKid t.e.key M++C),u.e.few:=fun u hu=>by
   rcases List.mem_append.1 hu with hu | hu
   ·exact hfT u (by simp[hu])
   ·rcases List.mem_append.1 hu with hu | hu
    ·exact keyKid_few htk m2.few u hu
    ·exact hfT u (by simp[hu])
  have hv1:∀u∈A++(keyKid t.e.key M++C),u.e.val=[]:=fun u hu=>by
   rcases List.mem_append.1 hu with hu | hu
   ·exact hvT u (by simp[hu])
   ·rcases List.mem_append.1 hu with hu | hu
    ·obtain⟨v,hv,_,_,_,e,_⟩:=Zbj hu;rw[e];exact m2.val v hv
    ·exact hvT u (by simp[hu])
  have hbA:∀u∈A++C,Big R1 u.e.kid:=fun u hu=>by
   have hu':u∈A++t::C:=by
    rcases List.mem_append.1 hu with hu | hu<;>simp[hu]
   exact(h7 u hu').same (hread u hu _ (Sub.page h (h6.kid u hu')))
  have hl1:(A++(keyKid t.e.key M++C)).flatMap (·.l)=cl l:=by
   rw[h4,List.flatMap_append,List.flatMap_append,keyKid_l,m2.fl,List.flatMap_append,List.flatMap_cons]
   exact(hc.mid _ _ _ (fun x hx=>by
    obtain⟨a,ha,hx⟩:=List.mem_flatMap.1 hx
    exact e3 a ha x hx) fun x hx=>by
    obtain⟨c,hcc,hx⟩:=List.mem_flatMap.1 hx
    exact e5 c hcc x hx).symm
  have hP1:(A++(keyKid t.e.key M++C)).flatMap (·.P)=A.flatMap (·.P)++(M.flatMap (·.P)++C.flatMap (·.P)):=by rw[List.flatMap_append,List.flatMap_append,keyKid_P]
  have hF1:Fr R R1 (page::(A++t::C).flatMap (·.P)) (page::(A++(keyKid t.e.key M++C)).flatMap (·.P)):=by
   have hb:=m2.fr.beside (Y:=page::(A.flatMap (·.P)++C.flatMap (·.P))) (fun p hp=>by
    rcases List.mem_cons.1 hp with rfl | hp
    ·exact Yd h1
    ·rw[←List.flatMap_append] at hp;obtain⟨u,hu,hp⟩:=List.mem_flatMap.1 hp;exact(hY u hu p hp).1) (fun p hp=>by
    rcases List.mem_cons.1 hp with rfl | hp
    ·exact fun e=>hpn (by rw[hT];exact List.mem_append_right _ (List.mem_append_left _ e))
    ·rw[←List.flatMap_append] at hp;obtain⟨u,hu,hp⟩:=List.mem_flatMap.1 hp;exact(hY u hu p hp).2) (by
    refine List.nodup_cons.2 ⟨fun e=>hpn ?_,List.nodup_append.2 ⟨n1,n5,fun p hp q hq=>n3 p hp q (List.mem_append_right _ hq)⟩⟩;rw[hT];rcases List.mem_append.1 e with e | e
    ·exact List.mem_append_left _ e
    ·exact List.mem_append_right _ (List.mem_append_right _ e))
   rw[hT,hP1];refine hb.perm ?_ ?_
   ·exact List.perm_middle.trans (List.Perm.cons _ (List.perm_append_comm_assoc _ _ _))
   ·exact List.perm_middle.trans (List.Perm.cons _ (List.perm_append_comm_assoc _ _ _))
  have hc1:((A++(keyKid t.e.key M++C)).flatMap (·.P)).length≤((A++t::C).flatMap (·.P)).length+h+1:=by rw[hP1,hT];simp only[List.length_append];omega
  have hi:=Zdz fn.some h2 key
  have hs1:Zg false 0 ((A++(keyKid t.e.key M++C)).map (·.e))≤893+83*M.length:=by
   have h0:=Zfo (l:=n.l) (M:=M.map (·.e)) (n.behind key).1 ((n.behind key).1+1) (by omega) (by omega) (fun e he=>by
    obtain⟨m,hm,rfl⟩:=List.mem_map.1 he
    exact m2.few m hm) (key:=t.e.key) htk
   have h0':n.l.take (n.behind key).1++(Zr t.e.key (M.map (·.e))++n.l.drop ((n.behind key).1+1))=(A++(keyKid t.e.key M++C)).map (·.e):=by rw[←hmerge,Yr,hak]
   rw[h0',List.length_map] at h0;have h8:=fn.sum
   unfold Nd.sum at h8;rw[h2] at h8;omega
  have h2M:=m2.two;rw[h5];by_cases hj:M.length=1∧1<(A++(keyKid t.e.key M++C)).length
  ·rw[if_pos hj]
   obtain⟨hj1,hj2⟩:=hj;have hlen1:(A++(keyKid t.e.key M++C)).length=A.length+(1+C.length):=by simp only[List.length_append,Zge,hj1]
   rw[hlen1] at hj2;rw[hlen1,←e2]
   have hbigj:∀(j:Nat) (u:Kid),(A++(keyKid t.e.key M++C))[j]?=some u→j≠A.length→Big R1 u.e.kid:=fun j u hu hne=>by
    refine hbA u ?_;rcases Nat.lt_or_ge j A.length with hlt | hge
    ·rw[List.getElem?_append_left hlt] at hu;exact List.mem_append_left _ (List.mem_of_getElem? hu)
    ·rw[List.getElem?_append_right hge,List.getElem?_append_right (by rw[Zge];omega)] at hu;exact List.mem_append_right _ (List.mem_of_getElem? hu)
   obtain⟨T2,j1,j2,j3,j4,j5,j6,j7,j8,j9⟩:=join_row (R:=R1) (k:=min A.length (A.length+(1+C.length) - 2)) (i:=A.length) (m2.fr.good hg) hrow1 hf1 hv1 (List.nodup_cons.1 hF1.nd').2 (by
    rw[m2.fr.root];intro hm;rcases hroot with e | e
    ·rw[←e] at hm;exact(List.nodup_cons.1 hF1.nd').1 hm
    ·exact(hF1.keep _ hrk e).2.1 (List.mem_cons_of_mem _ hm)) (by rw[hlen1];omega) (by omega) hbigj
   obtain⟨R2,hR2⟩:∃r,r=R1.joinN ((A++(keyKid t.e.key M++C)).map (·.e)) (min A.length (A.length+(1+C.length) - 2)) A.length:=⟨_,rfl⟩
   obtain⟨jb1,jb2⟩:=Zgd (R:=R1) (m2.fr.good hg) (l:=(A++(keyKid t.e.key M++C)).map (·.e)) (s:=976) ⟨fun e he=>by
    obtain⟨u,hu,rfl⟩:=List.mem_map.1 he
    exact hf1 u hu,by omega⟩ (k:=min A.length (A.length+(1+C.length) - 2)) (i:=A.length) (by rw[List.length_map,hlen1];omega)
   rw[←hR2] at j1 j3 j4 j7 jb1 jb2 ⊢;obtain⟨⟨q2,q3⟩,R2⟩:=R2;dsimp only at j1 j3 j4 j7 jb1 jb2 ⊢;obtain⟨rfl,rfl⟩:q2=0∧q3=T2.map (·.e):=by cases j1;exact⟨rfl,rfl⟩
   rw[if_neg (by simp)]
   have hbes:=j3.beside (Y:=[page]) (by
    intro p hp;rw[List.mem_singleton.1 hp];exact hF1.own' page (List.mem_cons_self ..)) (by
    intro p hp;rw[List.mem_singleton.1 hp]
    exact(List.nodup_cons.1 hF1.nd').1) (by simp)
   have hF2:=hF1.trans (hbes.perm (X1:=page::(A++(keyKid t.e.key M++C)).flatMap (·.P)) (X2:=page::T2.flatMap (·.P)) List.perm_append_comm List.perm_append_comm);refine anew_fin hg (Yd h1) (by omega) j4 j5 j6 j7 (j2.trans hl1) hF2 (by have:=jb2.sum;unfold Nd.sum;dsimp only;omega) (by omega)
  ·rw[if_neg hj]
   refine anew_fin hg (Yd h1) (by omega) hrow1 hf1 hv1 (fun u hu=>?_) hl1 hF1 (by unfold Nd.sum;dsimp only;omega) hc1
   have h0:∀m∈M,Big R1 m.e.kid:=by
    have hA1:2≤(A++t::C).length:=by rw[h3,List.length_map] at ht2;exact ht2
    rcases Nat.lt_or_ge M.length 2 with hlt | hge
    ·rcases Nat.eq_zero_or_pos M.length with h0 | h0
     ·rw[List.eq_nil_of_length_eq_zero h0];simp
     ·exfalso;refine hj ⟨by omega,?_⟩;simp only[List.length_append,Zge,List.length_cons] at hA1 ⊢;omega
    ·exact m2.big hge
   rcases List.mem_append.1 hu with hu | hu
   ·exact hbA u (List.mem_append_left _ hu)
   ·rcases List.mem_append.1 hu with hu | hu
    ·obtain⟨v,hv,_,_,e,_⟩:=Zbj hu;rw[e];exact h0 v hv
    ·exact hbA u (List.mem_append_right _ hu)
end
section
open Go.RowKit
abbrev Ql (k:List UInt8):Obj:=.cells #[.string ⟨k.toArray⟩] 9 (0,0)
theorem find2_any (w:World) (nb kb:Nat) (leaf:Bool) (a:Option Addr) (n cap:Nat) {l:List En} (h:IsE w (.slice a n cap) l) (hnl:n=l.length) (hn:w.heap[nb]?=some (ndO leaf (.slice a n cap))) (key:List UInt8) (hk:w.heap[kb]?=some (Ql key)) (i:Nat) (hi:i<l.length) (hm:l.length≤1000000) :
  Calls Tryz.prog 90 #[.int .i64 (i:Int),.pointer (some ⟨nb,0,none⟩),.pointer (some ⟨kb,0,none⟩)] w fun e w'=>e=.returned (.bool (!decide (l[i].key<key)))∧w'=w.drew:=by
 obtain⟨b,o,rfl,c0,c1,c2⟩:=h.at i hi;have d0:w.drew.cell? ⟨b,o+i*3,none⟩=some (.string ⟨l[i].key.toArray⟩):=c0
 obtain⟨n0,n1⟩:=Zc (w:=w.drew) hn
 have k0:w.drew.cell? ⟨kb,0,none⟩=some (.string ⟨key.toArray⟩):=by
  show w.cell? _=_
  rw[cell_of_row _ _ _ _ _ _ hk];rfl
 have hi0:(0:Int)≤(i:Int):=by omega
 have hi1:(i:Int)<(n:Int):=by omega
 have hlt:=Yt l[i].key key;clear h c0 c1 c2 hn hk hnl hm;generalize l[i].key=lk at *;rw[←hlt];clear hlt;go_enter Tryz.func90,Tryz.ntmps90;go_upto_region 1 with fail;go_region;go_wp2_with fail;go_ret;exact⟨rfl,rfl⟩
theorem find1_any (w:World) (nb kb:Nat) (leaf:Bool) (a:Option Addr) (n cap:Nat) {l:List En} (h:IsE w (.slice a n cap) l) (hnl:n=l.length) (hn:w.heap[nb]?=some (ndO leaf (.slice a n cap))) (key:List UInt8) (hk:w.heap[kb]?=some (Ql key)) (i:Nat) (hi:i+1<l.length) (hm:l.length≤1000000) :
  Calls Tryz.prog 89 #[.int .i64 (i:Int),.pointer (some ⟨nb,0,none⟩),.pointer (some ⟨kb,0,none⟩)] w fun e w'=>e=.returned (.bool (decide (key<l[i+1].key)))∧w'=w.drew:=by
 obtain⟨b,o,rfl,c0,c1,c2⟩:=h.at (i+1) hi;have d0:w.drew.cell? ⟨b,o+(i+1)*3,none⟩=some (.string ⟨l[i+1].key.toArray⟩):=c0
 obtain⟨n0,n1⟩:=Zc (w:=w.drew) hn
 have k0:w.drew.cell? ⟨kb,0,none⟩=some (.string ⟨key.toArray⟩):=by
  show w.cell? _=_
  rw[cell_of_row _ _ _ _ _ _ hk];rfl
 obtain⟨j,hj⟩:∃j,j=i+1:=⟨_,rfl⟩;have hw:IntKind.i64.wrap ((i:Int)+1)=(j:Int):=by rw[IntWalk.i64_in _ (by omega)];omega
 have hi0:(0:Int)≤(j:Int):=by omega
 have hi1:(j:Int)<(n:Int):=by omega
 have hlt:=leq_fits l[i+1].key key;clear h c0 c1 c2 hn hk hnl hm;generalize l[i+1].key=lk at *;rw[←hj] at d0;clear hj;have hres:decide (key<lk)=!(Op.bytesLess lk key||lk==key):=by rw[hlt,Bool.not_not]
 rw[hres];clear hlt hres;go_enter Tryz.func89,Tryz.ntmps89;go_upto_region 1 with fail;go_region;go_wp2_with fail;go_ret;exact⟨by simp,rfl⟩
end
end Go.Proofs.YtofibccplbnaiaaGreatDoor
