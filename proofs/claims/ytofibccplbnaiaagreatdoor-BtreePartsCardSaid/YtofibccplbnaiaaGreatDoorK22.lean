/- Contracts of the functions that the statements of this seat reach, part 22: each says what the call answers and what it leaves of the memory. -/
import Derived.Test.YtofibccplbnaiaaGreatDoorRows
import Derived.Test.YtofibccplbnaiaaGreatDoorK1
import Derived.Test.YtofibccplbnaiaaGreatDoorK3
import Derived.Deep.Matrix
import Derived.Deep.Slices
import Derived.Deep.Fields
import Derived.ProofKit
import Derived.OpenShut
import Derived.Deep.DeepHandedRow
import Derived.Lib.LaidTab
import Derived.SizedLaws
import Derived.Test.YtofibccplbnaiaaGreatDoorK21
import Derived.Test.YtofibccplbnaiaaGreatDoorK2
set_option linter.unusedVariables false
set_option linter.unusedSimpArgs false
set_option maxRecDepth 100000
namespace Go.Proofs.YtofibccplbnaiaaGreatDoor
section
open Go.ChangeShapes Go.WideShapes Go.ChangeAt Go.RowKit Go.Deep
theorem own : ownKnob Tryz.prog.godebug = none:=by kernel_rfl
theorem laidOut : laidOutB Tryz.prog = true:=by kernel_rfl
def Light {H : Type} (t : TypeId) (d : DataW H) : Prop:=∀ n ∈ d.weights Tryz.prog t,n ≤ reachBytes
theorem light_arg {H : Type} {ts : List TypeId} {ds : List (DataW H)} {j : Nat} {t : TypeId} {d : DataW H} (h : (DataW.weightsEach Tryz.prog ts ds).all (· ≤ reachBytes) = true) (ht : ts[j]? = some t) (hj : ds[j]? = some d) : Light t d:=fun n hn=>by have:=List.all_eq_true.1 h n (DataW.weights_mem_each ht hj n hn);simpa using this
theorem light_all {H : Type} {P : Program} {e : TypeId} {D : List (DataW H)} {i : Nat} {d : DataW H} (hd : D[i]? = some d) (k : Nat) (hk : k ∈ d.weights P e) : k ∈ DataW.weightsAll P e D:=by
 induction D generalizing i with
 | nil=>cases hd
 | cons x r ih =>
  simp only [DataW.weightsAll,List.mem_append]
  cases i with
  | zero =>
   simp only [List.getElem?_cons_zero,Option.some.injEq] at hd;subst hd;exact .inl hk
  | succ i=>exact .inr (ih (by simpa using hd))
structure Rd (α : Type) where
 T : TypeId
 n : Nat
 R : World → List Value → α → Prop
 size : Tryz.prog.cellsOf T = n
 len : ∀ {w : World} {cs : List Value} {x : α},R w cs x → cs.length = n
 keep : ∀ {w w' : World} {cs : List Value} {x : α},R w cs x → (∀ a u,w.cell? a = some u → w'.cell? a = some u) → R w' cs x
 trod : ∀ {H : Type} {enc : TypeId × Value → H} {W : World} {m : Nat} {cs : List Value} {y : DataW H × List MemPlace},
  DataW.trod enc Tryz.prog W 0 (fun _=>true) true m T cs = some y → Light T y.1 → ∃ x,R W cs x
def IsRow {α : Type} (r : Rd α) (w : World) (v : Value) (xs : List α) : Prop :=
 ∃ a cap,v = .slice a xs.length cap∧xs.length ≤ cap∧cap ≤ maxLen∧(a = none → cap = 0)∧xs.length * Tryz.prog.bytesOf r.T ≤ 140737488351232 ∧
  ∀ x,a = some x → (0 < xs.length → x.spot = none)∧∀ i,(h : i < xs.length) → ∃ cs,r.R w cs xs[i]∧∀ j c,cs[j]? = some c → w.cell? ⟨x.block,x.off + i * r.n + j,none⟩ = some c
theorem IsRow.keep {α : Type} {r : Rd α} {w w' : World} {v : Value} {xs : List α} (h : IsRow r w v xs) (hw : ∀ a u,w.cell? a = some u → w'.cell? a = some u) : IsRow r w' v xs:=by obtain ⟨a,cap,hv,hl,hm,hn,hb,hc⟩:=h;refine ⟨a,cap,hv,hl,hm,hn,hb,fun x hx=>⟨(hc x hx).1,fun i hi=>?_⟩⟩;obtain ⟨cs,h1,h2⟩:=(hc x hx).2 i hi;exact ⟨cs,r.keep h1 hw,fun j c hj=>hw _ _ (h2 j c hj)⟩
theorem IsRow.below {α : Type} {r : Rd α} {w w' : World} {v : Value} {xs : List α} (h : IsRow r w v xs) (hb : Below w.heap.size w w') : IsRow r w' v xs:=h.keep (cells_below hb)
theorem IsRow.form {α : Type} {r : Rd α} {w : World} {v : Value} {xs : List α} (h : IsRow r w v xs) : ∃ a cap,v = .slice a xs.length cap∧xs.length ≤ cap∧cap ≤ maxLen:=by obtain ⟨a,cap,hv,hl,hm,_⟩:=h;exact ⟨a,cap,hv,hl,hm⟩
theorem isRow_of_trod {α : Type} (r : Rd α) (hn : 0 < r.n) {S : TypeId} (hu : Tryz.prog.underlying S = some (.slice r.T)) {H : Type} {enc : TypeId × Value → H} {W : World} {m : Nat} {v : Value} {y : DataW H × List MemPlace}
  (h : DataW.trod enc Tryz.prog W 0 (fun _=>true) true m S [v] = some y) (hl : Light S y.1) : ∃ xs,IsRow r W v xs:=by
 rcases open_slice hu h with ⟨hcs,_⟩ | ⟨a,len,cap,m,n,D,Pl,hcs,hb,hle,hm,hmm,hx,hi⟩
 ·simp only [List.cons.injEq,and_true] at hcs;exact ⟨[],none,0,by rw [hcs];rfl,Nat.le_refl _,by simp [maxLen],fun _=>rfl,by simp,fun x h=>by cases h⟩
 ·simp only [List.cons.injEq,and_true] at hcs
  subst hcs;simp only [if_true] at hmm;rw [r.size] at hi
  have hlt : ∀ i,i < m → Light r.T (D i):=fun i him k hk=>hl k (by
   rw [hx];simp only [DataW.weights,hu];refine List.mem_cons_of_mem _ ?_;by_cases hil : i < len
   ·exact List.mem_append_left _ (light_all (i:=i) (d:=D i) (by simp [hil]) k hk)
   ·exact List.mem_append_right _ (light_all (i:=i - len) (d:=D i) (by
     rw [List.getElem?_map,List.getElem?_range (by omega)];simp only [Option.map_some,Option.some.injEq];congr 1
     omega) k hk))
  have hbytes : len * Tryz.prog.bytesOf r.T ≤ 140737488351232:=by
   have h1:=hl (((List.range len).map D).length * Tryz.prog.bytesOf r.T + ((List.range (m - len)).map fun j=>D (len + j)).length * Tryz.prog.bytesOf r.T) (by
    rw [hx];simp only [DataW.weights,hu,← Nat.add_mul]
    exact List.mem_cons_self)
   have e2 : reachBytes = 140737488351232:=rfl;simp only [List.length_map,List.length_range] at h1;omega
  have hex : ∀ i : Nat,∃ x : Option α,i < len → ∃ z,x = some z∧∃ cs,r.R W cs z∧∀ j c,cs[j]? = some c → W.cell? (a.add (i * r.n + j)) = some c:=by
   intro i;by_cases h : i < len
   ·obtain ⟨cs,hc,ht⟩:=hi i (by omega)
    obtain ⟨x,hx⟩:=r.trod ht (hlt i (by omega));obtain ⟨_,hlc,hat⟩:=World.cells?_some hc;refine ⟨some x,fun _=>⟨x,rfl,cs,hx,fun j c hj=>?_⟩⟩;have hjn : j < r.n:=by have:=(List.getElem?_eq_some_iff.1 hj).1;rw [r.len hx] at this;exact this
    have:=hat j hjn;rw [Go.Deep.add_add] at this;exact this.trans hj
   ·exact ⟨none,fun h'=>absurd h' h⟩
  obtain ⟨f,hf⟩:=Classical.axiomOfChoice hex;by_cases h0 : len = 0
  ·subst h0;refine ⟨[],some a,cap,rfl,Nat.zero_le _,hm,(fun h=>(by cases h)),by simp,fun x hx=>⟨fun h=>absurd h (by simp),fun i hi=>absurd hi (by simp)⟩⟩
  ·obtain ⟨z0,_⟩:=hf 0 (by omega)
   have hlen : ((List.range len).map fun i=>(f i).getD z0).length = len:=by simp
   refine ⟨(List.range len).map fun i=>(f i).getD z0,some a,cap,by rw [hlen],by omega,hm,(fun h=>(by cases h)),by rw [hlen];exact hbytes,?_⟩;intro y hy;obtain rfl:=Option.some.inj hy
   have hs : a.spot = none:=by
    obtain ⟨z,_,cs,hR,h⟩:=hf 0 (by omega);obtain ⟨c,hc⟩ : ∃ c,cs[0]? = some c:=⟨_,List.getElem?_eq_getElem (by rw [r.len hR];exact hn)⟩;have h:=h 0 c hc
    rw [show a.add (0 * r.n + 0) = a by simp [Addr.add]] at h
    exact World.cell?_spot h
   refine ⟨fun _=>hs,fun i hi'=>?_⟩;have hi2 : i < len:=by rw [hlen] at hi';exact hi'
   obtain ⟨xb,xo,xs⟩:=a;obtain rfl : xs = none:=hs;simp only [List.getElem_map,List.getElem_range];obtain ⟨z,hz,cs,hR,h⟩:=hf i hi2;rw [hz];refine ⟨cs,hR,fun j c hj=>?_⟩;have:=h j c hj
   rw [Addr.add_lit] at this;rw [Nat.add_assoc];exact this
theorem open_row {α : Type} (r : Rd α) (hn : 0 < r.n) {S : TypeId} (hu : Tryz.prog.underlying S = some (.slice r.T)) {H : Type} {enc : TypeId × Value → H} {W : World} {k : Reach} {b0 : Nat} {v : Value} {d : DataW H} {p : List MemPlace}
  (hval : Value.okWide Tryz.prog W k b0 S v) (hd : DataW.Trod enc Tryz.prog W 0 (fun _=>true) true S v d p) (hl : Light S d) : ∃ xs,IsRow r W v xs:=by
 obtain ⟨a0,len0,cap0,rfl⟩:=okWide_slice hu hval;obtain ⟨fuel,hf⟩:=hd;exact isRow_of_trod r hn hu (m:=fuel) (y:=(d,p)) hf hl
end
section
open Go.RowKit Go.Shelf Go.Lib
def rdStr : Rd (List UInt8) where
 T:=9
 n:=1
 R:=fun _ cs x=>cs = [.string ⟨x.toArray⟩]∧x.length ≤ maxLen
 size:=by kernel_rfl
 len:=fun h=>by rw [h.1];rfl
 keep:=fun h _=>h
 trod:=fun h _=>by
  obtain ⟨s,h1,_,h3⟩:=DataW.trod_string Tryz.underlying9 h
  exact ⟨s.data.toList,by rw [h1],by rw [show s.data.toList.length = s.size from Array.length_toList];exact h3⟩
theorem strs_at {w : World} {a : Option Addr} {n cap : Nat} {xs : List (List UInt8)} (h : IsRow rdStr w (.slice a n cap) xs) (i : Nat) (hi : i < xs.length) : ∃ b o,a = some ⟨b,o,none⟩∧w.cell? ⟨b,o + i,none⟩ = some (.string ⟨xs[i].toArray⟩)∧xs[i].length ≤ maxLen:=by
 obtain ⟨a',cap',hv,hl,hm,hn,hb,hc⟩:=h;simp only [Value.slice.injEq] at hv;obtain ⟨rfl,_,rfl⟩:=hv
 cases a with
 | none=>have:=hn rfl;omega
 | some x =>
  obtain ⟨b,o,s⟩:=x;obtain ⟨hs,hc⟩:=hc _ rfl;obtain rfl : s = none:=hs (by omega);obtain ⟨cs,⟨h1,h2⟩,h3⟩:=hc i hi;refine ⟨b,o,rfl,?_,h2⟩;have:=h3 0 (.string ⟨xs[i].toArray⟩) (by rw [h1];rfl)
  have e : rdStr.n = 1:=rfl;rw [e,Nat.mul_one,Nat.add_zero] at this;exact this
structure TB (N : Nat) (w0 w : World) (m : Nat) (F : Ft) (p : Nat) (f : Pf) (tb : Nat) (l : List KV) : Prop where
 tw : TW w m F p f tb l
 own : ∀ k,PJ F p f k → N ≤ k
 tbN : N ≤ tb
 below : Below N w0 w
 base : N ≤ w.heap.size
section
variable {N : Nat} {w0 w w' : World} {m : Nat} {F : Ft} {p : Nat} {f : Pf} {tb : Nat} {l l' : List KV}
theorem TB.step (h : TB N w0 w m F p f tb l) (hb : Below w.heap.size w w') : TB N w0 w' m F p f tb l:=⟨h.tw.step hb,h.own,h.tbN,h.below.trans (hb.mono h.base),Nat.le_trans h.base hb.size⟩
theorem TB.read (h : TB N w0 w m F p f tb l) (h2 : TW w' m F p f tb l) (ht : Turned (PJ F p f) w w') : TB N w0 w' m F p f tb l:=⟨h2,h.own,h.tbN,h.below.trans (ht.below h.base h.own),Nat.le_trans h.base ht.size⟩
theorem TB.to (h : TB N w0 w m F p f tb l) (h2 : TWto w m F p f tb l' w') : ∃ f',TB N w0 w' m F p f' tb l'∧f'.q = f.q∧(∀ k,PJ F p f' k → PJ F p f k ∨ w.heap.size ≤ k)∧Turned (PJ F p f) w w':=by
 obtain ⟨f',a,b,c,d⟩:=h2;refine ⟨f',⟨a,fun k hk=>?_,h.tbN,h.below.trans (d.below h.base h.own),Nat.le_trans h.base d.size⟩,b,fun k hk=>?_,d⟩
 ·rcases hk with e | e
  ·exact h.own k (.inl e)
  ·rcases c k e with e | e
   ·exact h.own k (.inr e)
   ·exact Nat.le_trans h.base e
 ·rcases hk with e | e
  ·exact .inl (.inl e)
  ·exact (c k e).imp .inr id
end
theorem tre_begun (m : Nat) : Tre (Rp.begun m) []:=by
 refine .inl ⟨rfl,rfl,fun p=>?_⟩;unfold Rp.taken Rp.begun;simp only [List.length_replicate]
 have : ((List.replicate ((m - 2) / 8) (none : Option (List UInt8))).getD p.toNat none).isSome = false:=by
  rw [List.getD_eq_getElem?_getD,List.getElem?_replicate]
  split <;> rfl
 rw [this];simp
theorem tb_begun {w w' : World} {n : Nat} (hn1 : 74 ≤ n) (hn2 : n ≤ 4096) {F : Ft} {p : Nat} {f : Pf} {tb : Nat} {J : Jn} {seq : Int} {B : List (List UInt8)} (h : Tr n J seq B w' F p f (Rp.begun ((n - 2) / 2)) tb) (hb : Below w.heap.size w w') (ho : ∀ k,PJ F p f k → w.heap.size ≤ k) (ht : w.heap.size ≤ tb) : TB w.heap.size w w' (((n - 2) / 2 - 2) / 8) F p f tb [] :=
 ⟨⟨⟨n,J,seq,B,_,h,tre_begun _,by unfold Rp.begun;simp⟩,by omega,by omega⟩,ho,ht,hb,hb.size⟩
def fillL : List (List UInt8) → List KV → List KV
 | [],l=>l
 | k :: r,l=>fillL r (if k.length ≤ 80 then putL l k k else l)
theorem fillL_snoc : ∀ (ks : List (List UInt8)) (k : List UInt8) (l : List KV),fillL (ks ++ [k]) l = if k.length ≤ 80 then putL (fillL ks l) k k else fillL ks l
 | [],k,l=>by simp [fillL]
 | x :: r,k,l=>by rw [List.cons_append,fillL,fillL_snoc r k];rfl
structure Twin (l : List KV) : Prop where
 eq : ∀ x ∈ l,x.1 = x.2
 few : ∀ x ∈ l,x.1.length ≤ 80
theorem putL_mem {l : List KV} {key val : List UInt8} : ∀ x ∈ putL l key val,x = (key,val) ∨ x ∈ l:=fun x hx=>by
 rcases List.mem_append.1 hx with hx | hx
 ·exact .inr ((List.takeWhile_sublist _).mem hx)
 ·rcases List.mem_cons.1 hx with rfl | hx
  ·exact .inl rfl
  ·exact .inr (restL_sub x hx)
theorem Twin.put {l : List KV} (h : Twin l) {k : List UInt8} (hk : k.length ≤ 80) : Twin (putL l k k) :=
 ⟨fun x hx=>(putL_mem x hx).elim (fun e=>by rw [e]) (h.eq x),fun x hx=>(putL_mem x hx).elim (fun e=>by rw [e];exact hk) (h.few x)⟩
theorem restL_len (l : List KV) (key : List UInt8) : (headL l key).length + (restL l key).length ≤ l.length:=by
 have h1 : l.length = (headL l key).length + (l.dropWhile fun x=>decide (x.1 < key)).length:=by rw [← List.length_append];unfold headL;rw [List.takeWhile_append_dropWhile]
 unfold restL
 cases hd : l.dropWhile (fun x=>decide (x.1 < key)) with
 | nil=>rw [hd] at h1;dsimp only;omega
 | cons y r =>
  rw [hd] at h1;dsimp only;split
  ·rw [List.length_cons] at h1;omega
  ·omega
theorem putL_len (l : List KV) (key val : List UInt8) : (putL l key val).length ≤ l.length + 1:=by have:=restL_len l key;unfold putL;rw [List.length_append,List.length_cons];omega
theorem fill_bounds : ∀ (ks : List (List UInt8)),Twin (fillL ks [])∧wgtB (fillL ks []) ≤ 162 * ks.length∧(fillL ks []).length ≤ ks.length:=by
 intro ks;obtain ⟨rs,hrs⟩ : ∃ rs,rs = ks.reverse:=⟨_,rfl⟩;obtain rfl : ks = rs.reverse:=by rw [hrs,List.reverse_reverse]
 clear hrs
 induction rs with
 | nil=>exact ⟨⟨by simp [fillL],by simp [fillL]⟩,by simp [fillL,wgtB],by simp [fillL]⟩
 | cons k r ih =>
  rw [List.reverse_cons,fillL_snoc,List.length_append];obtain ⟨a,b,c⟩:=ih;split
  ·rename_i hk;have h1:=putL_wgt (fillL r.reverse []) k k;have h2:=putL_len (fillL r.reverse []) k k;simp only [List.length_cons,List.length_nil];exact ⟨a.put hk,by omega,by omega⟩
  ·simp only [List.length_cons,List.length_nil];exact ⟨a,by omega,by omega⟩
set_option maxHeartbeats 16000000 in
theorem filled_any (w : World) (hn : Nib w) (v : Value) (keys : List (List UInt8)) (hv : IsRow rdStr w v keys) :
  Calls Tryz.prog 18 #[v] w fun e w'=>∃ F p f tb,e = .returned (.tuple #[qptr f.q,trp tb,.bool true])∧TB w.heap.size w w' 255 F p f tb (fillL (keys.take 150) []):=by
 have hform:=hv.form;obtain ⟨a,cap,rfl,hl1,hl2⟩:=hform;unfold maxLen at hl2;have HV:=Hd hv;have HBG:=Hd (begun10_any w hn 4096 (by omega) (by omega));clear hv hn;go_enter Tryz.func18,Tryz.ntmps18;go_wp2_with fail;refine HBG.out.mono ?_;rintro e w1 ⟨F,p,f,tb,J,seq,B,rfl,hT,hb,ho,ht,_⟩;have htb:=tb_begun (by omega) (by omega) hT hb ho ht;have e255 : (((4096 - 2) / 2 - 2) / 8 : Nat) = 255:=by decide
 rw [e255] at htb;have HTB:=Hd htb
 clear hT hb ho ht htb e255;generalize hqq : f.q = qq at *;have HQ:=Hd hqq
 clear hqq;go_wp2_with fail;go_loopw [7] (fun i wr=>∃ (k : Nat) (f' : Pf),k ≤ keys.length∧k ≤ 150∧i = .int .i64 (k : Int)∧f'.q = qq∧TB w.heap.size w wr 255 F p f' tb (fillL (keys.take k) [])) (fun i _=>keys.length - (intOf i).toNat)
 case atStart=>exact ⟨0,f,Nat.zero_le _,Nat.zero_le _,rfl,HQ.out,HTB.out⟩
 case round =>
  obtain ⟨k,f',hk,hk2,rfl,hq,htb⟩:=hrel;have HT:=Hd htb
  have HQ2:=Hd hq;clear htb hq;by_cases hlt : k < keys.length
  ·have hd : decide ((k : Int) < (keys.length : Int)) = true:=by simpa using hlt
   by_cases h150 : k < 150
   ·have hd2 : decide ((k : Int) < 150) = true:=by simp;omega
    have i0 : (0 : Int) ≤ (k : Int):=by omega
    have i1 : (k : Int) < (keys.length : Int):=by omega
    have hv2:=HV.out.below HT.out.below;obtain ⟨b,o,rfl,c0,hmx⟩:=strs_at hv2 k hlt;obtain ⟨key,hkey⟩ : ∃ key,key = keys[k]:=⟨_,rfl⟩;rw [← hkey] at c0 hmx;unfold maxLen at hmx;have hbl : b < w.heap.size:=by obtain ⟨b2,o2,e2,c2,_⟩:=strs_at HV.out k hlt;cases e2;exact World.block_lt_of_cell? w _ c2
    obtain ⟨B1,B2,B3⟩:=fill_bounds (keys.take k);have htl : (keys.take k).length = k:=by rw [List.length_take];omega
    rw [htl] at B2 B3
    have hsn : fillL (keys.take (k + 1)) [] = if key.length ≤ 80 then putL (fillL (keys.take k) []) key key else fillL (keys.take k) []:=by
     have e : keys.take (k + 1) = keys.take k ++ [key]:=by rw [List.take_add_one,List.getElem?_eq_getElem hlt,← hkey];rfl
     rw [e,fillL_snoc]
    have HC0 : Hid (wr.drew.cell? ⟨b,o + k,none⟩ = some (.string ⟨key.toArray⟩)):=Hd c0;have HBL:=Hd hbl;have HV2:=Hd hv2;have htw : TW wr.drew 255 F p f' tb (fillL (keys.take k) []):=HT.out.tw.step (Below.refl _ _).drew;have HNX : Hid (∀ w7,TWto wr.drew 255 F p f' tb (fillL (keys.take (k + 1)) []) w7 → ∃ (k' : Nat) (f' : Pf),k' ≤ keys.length∧k' ≤ 150∧Value.int .i64 ((k : Int) + 1) = .int .i64 (k' : Int)∧f'.q = qq∧TB w.heap.size w w7 255 F p f' tb (fillL (keys.take k') [])):=Hd fun w7 hto=>by obtain ⟨f2,h2,hq2,_⟩:=(HT.out.step (Below.refl _ _).drew).to hto;exact ⟨k + 1,f2,hlt,h150,by simp,hq2.trans HQ2.out,h2⟩
    by_cases hle : key.length ≤ 80
    ·rw [if_pos hle] at hsn
     have HPUT:=Hd (put_tw htw (roomy255 (by omega)) (key:=key) (val:=key) hle (by omega));rw [← hsn] at HPUT;have hdl : decide (key.length ≤ 80) = true:=decide_eq_true hle;have hdl2 : decide ((key.length : Int) ≤ 80) = true:=decide_eq_true (by omega);have HLT:=Hd hlt;clear htw hsn hkey B1 B2 B3 htl hv2 c0 hle hbl;go_upto_region 7 with fail;refine rgA (S:=(fun W=>W.cell? ⟨b,o + k,none⟩ = some (.string ⟨key.toArray⟩))) HC0.out (fun hH=>?_);refine tkB 0 rfl (v:=?_) ?_ hH ?_;rotate_left
     ·intro w hSw;go_simp;try with_reducible rfl
     try simp only [Act.put,zA,zB,zC]
     refine tkB 1 rfl (v:=?_) ?_ hH ?_;rotate_left
     ·intro w hSw;go_simp;try with_reducible rfl
     try simp only [Act.put,zA,zB,zC]
     refine tkB 2 rfl (v:=?_) ?_ hH ?_;rotate_left
     ·intro w hSw;go_simp;try with_reducible rfl
     try simp only [Act.put,zA,zB,zC]
     refine tkB 3 rfl (v:=?_) ?_ hH ?_;rotate_left
     ·intro w hSw;go_simp;try with_reducible rfl
     try simp only [Act.put,zA,zB,zC]
     refine tkB 4 rfl (v:=?_) ?_ hH ?_;rotate_left
     ·intro w hSw;go_simp;try with_reducible rfl
     try simp only [Act.put,zA,zB,zC]
     refine tkB 5 rfl (v:=?_) ?_ hH ?_;rotate_left
     ·intro w hSw;go_simp;try with_reducible rfl
     try simp only [Act.put,zA,zB,zC]
     refine tkB 6 rfl (v:=?_) ?_ hH ?_;rotate_left
     ·intro w hSw;go_simp;try with_reducible rfl
     try simp only [Act.put,zA,zB,zC]
     refine tkB 7 rfl (v:=?_) ?_ hH ?_;rotate_left
     ·intro w hSw;go_simp;try with_reducible rfl
     try simp only [Act.put,zA,zB,zC]
     refine tkB 8 rfl (v:=?_) ?_ hH ?_;rotate_left
     ·intro w hSw;go_simp;try with_reducible rfl
     try simp only [Act.put,zA,zB,zC]
     refine rdA 9 rfl (fun K hK=>?_);go_simp;refine HPUT.out.mono ?_;rintro e w7 ⟨rfl,hto⟩;have HTO:=Hd hto
     have hS7 : w7.cell? ⟨b,o + k,none⟩ = some (.string ⟨key.toArray⟩):=by
      have hd7 : Turned (PJ F p f') wr w7:=by obtain ⟨_,_,_,_,d⟩:=hto;exact (Turned.refl _ wr).drew.trans d
      exact (World.cell?_of_block (hd7.block b (by have:=HT.out.base;have:=HBL.out;omega) fun e=>by have:=HT.out.own b e;have:=HBL.out;omega)).trans HC0.out
     clear hto;go_wp2_with fail;refine hK.out _ _ hS7 (fun hH=>?_);clear hK K;try simp only [Act.put,zA,zB,zC]
     refine tkB 10 rfl (v:=?_) ?_ hH ?_;rotate_left
     ·intro w hSw;go_simp;try with_reducible rfl
     try simp only [Act.put,zA,zB,zC]
     refine dnA ?_;clear hH;have HR:=Hd (HNX.out w7 HTO.out)
     have hwr : IntKind.i64.wrap ((k : Int) + 1) = (k : Int) + 1:=IntWalk.i64_in _ (by omega);go_wp2_with fail;go_roundw
     case rel=>exact HR.out
     case measure=>have:=HLT.out;simp [intOf];omega
    ·rw [if_neg hle] at hsn
     have hf : failsT key key = 100:=by unfold failsT;rw [if_pos (by omega)]
     have HPUT:=Hd (put_bad htw (key:=key) (val:=key) (by omega) (by omega) (by rw [hf];decide));rw [hf,← hsn] at HPUT;have hdl : decide (key.length ≤ 80) = false:=decide_eq_false hle;have hdl2 : decide ((key.length : Int) ≤ 80) = false:=decide_eq_false (by omega);have HLT:=Hd hlt;clear htw hsn hkey B1 B2 B3 htl hv2 c0 hle hbl hf;go_upto_region 7 with fail;refine rgA (S:=(fun W=>W.cell? ⟨b,o + k,none⟩ = some (.string ⟨key.toArray⟩))) HC0.out (fun hH=>?_);refine tkB 0 rfl (v:=?_) ?_ hH ?_;rotate_left
     ·intro w hSw;go_simp;try with_reducible rfl
     try simp only [Act.put,zA,zB,zC]
     refine tkB 1 rfl (v:=?_) ?_ hH ?_;rotate_left
     ·intro w hSw;go_simp;try with_reducible rfl
     try simp only [Act.put,zA,zB,zC]
     refine tkB 2 rfl (v:=?_) ?_ hH ?_;rotate_left
     ·intro w hSw;go_simp;try with_reducible rfl
     try simp only [Act.put,zA,zB,zC]
     refine tkB 3 rfl (v:=?_) ?_ hH ?_;rotate_left
     ·intro w hSw;go_simp;try with_reducible rfl
     try simp only [Act.put,zA,zB,zC]
     refine tkB 4 rfl (v:=?_) ?_ hH ?_;rotate_left
     ·intro w hSw;go_simp;try with_reducible rfl
     try simp only [Act.put,zA,zB,zC]
     refine tkB 5 rfl (v:=?_) ?_ hH ?_;rotate_left
     ·intro w hSw;go_simp;try with_reducible rfl
     try simp only [Act.put,zA,zB,zC]
     refine tkB 6 rfl (v:=?_) ?_ hH ?_;rotate_left
     ·intro w hSw;go_simp;try with_reducible rfl
     try simp only [Act.put,zA,zB,zC]
     refine tkB 7 rfl (v:=?_) ?_ hH ?_;rotate_left
     ·intro w hSw;go_simp;try with_reducible rfl
     try simp only [Act.put,zA,zB,zC]
     refine tkB 8 rfl (v:=?_) ?_ hH ?_;rotate_left
     ·intro w hSw;go_simp;try with_reducible rfl
     try simp only [Act.put,zA,zB,zC]
     refine rdA 9 rfl (fun K hK=>?_);go_simp;refine HPUT.out.mono ?_;rintro e w7 ⟨rfl,hto⟩;have HTO:=Hd hto
     have hS7 : w7.cell? ⟨b,o + k,none⟩ = some (.string ⟨key.toArray⟩):=by
      have hd7 : Turned (PJ F p f') wr w7:=by obtain ⟨_,_,_,_,d⟩:=hto;exact (Turned.refl _ wr).drew.trans d
      exact (World.cell?_of_block (hd7.block b (by have:=HT.out.base;have:=HBL.out;omega) fun e=>by have:=HT.out.own b e;have:=HBL.out;omega)).trans HC0.out
     clear hto;go_wp2_with fail;refine hK.out _ _ hS7 (fun hH=>?_);clear hK K;try simp only [Act.put,zA,zB,zC]
     refine tkB 10 rfl (v:=?_) ?_ hH ?_;rotate_left
     ·intro w hSw;go_simp;try with_reducible rfl
     try simp only [Act.put,zA,zB,zC]
     refine dnA ?_;clear hH;have HR:=Hd (HNX.out w7 HTO.out)
     have hwr : IntKind.i64.wrap ((k : Int) + 1) = (k : Int) + 1:=IntWalk.i64_in _ (by omega);go_wp2_with fail;go_roundw
     case rel=>exact HR.out
     case measure=>have:=HLT.out;simp [intOf];omega
   ·have hd2 : decide ((k : Int) < 150) = false:=by simp;omega
    have hd3 : decide (k < 150) = false:=decide_eq_false h150;obtain rfl : k = 150:=by omega
    have HE : Hid (TB w.heap.size w wr 255 F p f' tb (fillL (keys.take 150) [])):=HT;go_wp2_with fail;go_ret3;exact ⟨F,p,f',tb,by rw [HQ2.out];rfl,HE.out⟩
  ·obtain rfl : k = keys.length:=by omega
   have hd : decide ((keys.length : Int) < (keys.length : Int)) = false:=by simp
   have HE : Hid (TB w.heap.size w wr 255 F p f' tb (fillL (keys.take 150) [])):=Hd (by
    have:=HT.out;rw [List.take_length] at this;rw [List.take_of_length_le hk2]
    exact this)
   go_wp2_with fail;go_ret3;exact ⟨F,p,f',tb,by rw [HQ2.out];rfl,HE.out⟩
end
end Go.Proofs.YtofibccplbnaiaaGreatDoor
