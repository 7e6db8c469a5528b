/- Contracts of the functions that the statements of this seat reach, part 20: each says what the call answers and what it leaves of the memory. -/
import Derived.Test.YtofibccplbnaiaaGreatDoorRows
import Derived.Test.YtofibccplbnaiaaGreatDoorP1
import Derived.Test.YtofibccplbnaiaaGreatDoorP2
import Derived.Deep.Matrix
import Derived.Deep.Slices
import Derived.Deep.Fields
import Derived.ProofKit
import Derived.OpenShut
import Derived.Deep.DeepHandedRow
import Derived.Lib.LaidTab
import Derived.SizedLaws
import Derived.Test.YtofibccplbnaiaaGreatDoorP19
set_option linter.unusedVariables false
set_option linter.unusedSimpArgs false
set_option maxRecDepth 100000
set_option maxHeartbeats 64000000
namespace Go.Proofs.YtofibccplbnaiaaGreatDoor
section
open Go.ChangeShapes Go.WideShapes Go.ChangeAt Go.RowKit Go.Deep
theorem own:ownKnob Tryz.prog.godebug=none:=by kernel_rfl
theorem laidOut:laidOutB Tryz.prog=true:=by kernel_rfl
theorem cells_int:Tryz.prog.cellsOf 3=1:=by kernel_rfl
theorem wf_int64 {n:Int} (h:(Lit.int .i64 n).wf=true):-9223372036854775808≤n∧n≤9223372036854775807:=by simp only[Lit.wf,IntKind.min,IntKind.max,IntKind.signed,IntKind.bits,Bool.and_eq_true,decide_eq_true_eq] at h;exact⟨by simpa using h.1,by simpa using h.2⟩
def I64 (n:Int):Prop:=-9223372036854775808≤n∧n≤9223372036854775807
def Light {H:Type} (t:TypeId) (d:DataW H):Prop:=∀n∈d.weights Tryz.prog t,n≤reachBytes
theorem light_arg {H:Type} {ts:List TypeId} {ds:List (DataW H)} {j:Nat} {t:TypeId} {d:DataW H} (h:(DataW.weightsEach Tryz.prog ts ds).all (·≤reachBytes)=true) (ht:ts[j]?=some t) (hj:ds[j]?=some d):Light t d:=fun n hn=>by have:=List.all_eq_true.1 h n (DataW.weights_mem_each ht hj n hn);simpa using this
theorem light_all {H:Type} {P:Program} {e:TypeId} {D:List (DataW H)} {i:Nat} {d:DataW H} (hd:D[i]?=some d) (k:Nat) (hk:k∈d.weights P e):k∈DataW.weightsAll P e D:=by
 induction D generalizing i with
 | nil=>cases hd
 | cons x r ih =>
  simp only[DataW.weightsAll,List.mem_append]
  cases i with
  | zero =>
   simp only[List.getElem?_cons_zero,Option.some.injEq] at hd;subst hd;exact .inl hk
  | succ i=>exact .inr (ih (by simpa using hd))
structure Rd (α:Type) where
 T:TypeId
 n:Nat
 R:World→List Value→α→Prop
 size:Tryz.prog.cellsOf T=n
 len:∀{w:World} {cs:List Value} {x:α},R w cs x→cs.length=n
 keep:∀{w w':World} {cs:List Value} {x:α},R w cs x→(∀a u,w.cell? a=some u→w'.cell? a=some u)→R w' cs x
 trod:∀{H:Type} {enc:TypeId × Value→H} {W:World} {m:Nat} {cs:List Value} {y:DataW H × List MemPlace},
  DataW.trod enc Tryz.prog W 0 (fun _=>true) true m T cs=some y→Light T y.1→∃x,R W cs x
def rdInt:Rd Int where
 T:=3
 n:=1
 R:=fun _ cs x=>cs=[.int .i64 x]∧I64 x
 size:=cells_int
 len:=fun h=>by rw[h.1];rfl
 keep:=fun h _=>h
 trod:=fun h _=>by
  obtain⟨n,h1,_,w⟩:=DataW.trod_int Tryz.underlying3 h
  exact⟨n,h1,wf_int64 w⟩
def IsRow {α:Type} (r:Rd α) (w:World) (v:Value) (xs:List α):Prop :=
 ∃a cap,v=.slice a xs.length cap∧xs.length≤cap∧cap≤maxLen∧(a=none→cap=0)∧xs.length*Tryz.prog.bytesOf r.T≤140737488351232 ∧
  ∀x,a=some x→(0<xs.length→x.spot=none)∧∀i,(h:i<xs.length)→∃cs,r.R w cs xs[i]∧∀j c,cs[j]?=some c→w.cell? ⟨x.block,x.off+i*r.n+j,none⟩=some c
theorem IsRow.keep {α:Type} {r:Rd α} {w w':World} {v:Value} {xs:List α} (h:IsRow r w v xs) (hw:∀a u,w.cell? a=some u→w'.cell? a=some u):IsRow r w' v xs:=by obtain⟨a,cap,hv,hl,hm,hn,hb,hc⟩:=h;refine⟨a,cap,hv,hl,hm,hn,hb,fun x hx=>⟨(hc x hx).1,fun i hi=>?_⟩⟩;obtain⟨cs,h1,h2⟩:=(hc x hx).2 i hi;exact⟨cs,r.keep h1 hw,fun j c hj=>hw _ _ (h2 j c hj)⟩
theorem IsRow.below {α:Type} {r:Rd α} {w w':World} {v:Value} {xs:List α} (h:IsRow r w v xs) (hb:Below w.heap.size w w'):IsRow r w' v xs:=h.keep (Zi hb)
theorem IsRow.form {α:Type} {r:Rd α} {w:World} {v:Value} {xs:List α} (h:IsRow r w v xs):∃a cap,v=.slice a xs.length cap∧xs.length≤cap∧cap≤maxLen:=by obtain⟨a,cap,hv,hl,hm,_⟩:=h;exact⟨a,cap,hv,hl,hm⟩
theorem isRow_of_trod {α:Type} (r:Rd α) (hn:0<r.n) {S:TypeId} (hu:Tryz.prog.underlying S=some (.slice r.T)) {H:Type} {enc:TypeId × Value→H} {W:World} {m:Nat} {v:Value} {y:DataW H × List MemPlace}
  (h:DataW.trod enc Tryz.prog W 0 (fun _=>true) true m S [v]=some y) (hl:Light S y.1):∃xs,IsRow r W v xs:=by
 rcases open_slice hu h with ⟨hcs,_⟩ | ⟨a,len,cap,m,n,D,Pl,hcs,hb,hle,hm,hmm,hx,hi⟩
 ·simp only[List.cons.injEq,and_true] at hcs;exact⟨[],none,0,by rw[hcs];rfl,Nat.le_refl _,by simp[maxLen],fun _=>rfl,by simp,fun x h=>by cases h⟩
 ·simp only[List.cons.injEq,and_true] at hcs
  subst hcs;simp only[if_true] at hmm;rw[r.size] at hi
  have hlt:∀i,i<m→Light r.T (D i):=fun i him k hk=>hl k (by
   rw[hx];simp only[DataW.weights,hu];refine List.mem_cons_of_mem _ ?_;by_cases hil:i<len
   ·exact List.mem_append_left _ (light_all (i:=i) (d:=D i) (by simp[hil]) k hk)
   ·exact List.mem_append_right _ (light_all (i:=i - len) (d:=D i) (by
     rw[List.getElem?_map,List.getElem?_range (by omega)];simp only[Option.map_some,Option.some.injEq];congr 1
     omega) k hk))
  have hbytes:len*Tryz.prog.bytesOf r.T≤140737488351232:=by
   have h1:=hl (((List.range len).map D).length*Tryz.prog.bytesOf r.T+((List.range (m - len)).map fun j=>D (len+j)).length*Tryz.prog.bytesOf r.T) (by
    rw[hx];simp only[DataW.weights,hu,←Nat.add_mul]
    exact List.mem_cons_self)
   have e2:reachBytes=140737488351232:=rfl;simp only[List.length_map,List.length_range] at h1;omega
  have hex:∀i:Nat,∃x:Option α,i<len→∃z,x=some z∧∃cs,r.R W cs z∧∀j c,cs[j]?=some c→W.cell? (a.add (i*r.n+j))=some c:=by
   intro i;by_cases h:i<len
   ·obtain⟨cs,hc,ht⟩:=hi i (by omega)
    obtain⟨x,hx⟩:=r.trod ht (hlt i (by omega));obtain⟨_,hlc,hat⟩:=World.cells?_some hc;refine⟨some x,fun _=>⟨x,rfl,cs,hx,fun j c hj=>?_⟩⟩;have hjn:j<r.n:=by have:=(List.getElem?_eq_some_iff.1 hj).1;rw[r.len hx] at this;exact this
    have:=hat j hjn;rw[Go.Deep.add_add] at this;exact this.trans hj
   ·exact⟨none,fun h'=>absurd h' h⟩
  obtain⟨f,hf⟩:=Classical.axiomOfChoice hex;by_cases h0:len=0
  ·subst h0;refine⟨[],some a,cap,rfl,Nat.zero_le _,hm,(fun h=>(by cases h)),by simp,fun x hx=>⟨fun h=>absurd h (by simp),fun i hi=>absurd hi (by simp)⟩⟩
  ·obtain⟨z0,_⟩:=hf 0 (by omega)
   have hlen:((List.range len).map fun i=>(f i).getD z0).length=len:=by simp
   refine⟨(List.range len).map fun i=>(f i).getD z0,some a,cap,by rw[hlen],by omega,hm,(fun h=>(by cases h)),by rw[hlen];exact hbytes,?_⟩;intro y hy;obtain rfl:=Option.some.inj hy
   have hs:a.spot=none:=by
    obtain⟨z,_,cs,hR,h⟩:=hf 0 (by omega);obtain⟨c,hc⟩:∃c,cs[0]?=some c:=⟨_,List.getElem?_eq_getElem (by rw[r.len hR];exact hn)⟩;have h:=h 0 c hc
    rw[show a.add (0*r.n+0)=a by simp[Addr.add]] at h
    exact World.cell?_spot h
   refine⟨fun _=>hs,fun i hi'=>?_⟩;have hi2:i<len:=by rw[hlen] at hi';exact hi'
   obtain⟨xb,xo,xs⟩:=a;obtain rfl:xs=none:=hs;simp only[List.getElem_map,List.getElem_range];obtain⟨z,hz,cs,hR,h⟩:=hf i hi2;rw[hz];refine⟨cs,hR,fun j c hj=>?_⟩;have:=h j c hj
   rw[Addr.add_lit] at this;rw[Nat.add_assoc];exact this
theorem open_row {α:Type} (r:Rd α) (hn:0<r.n) {S:TypeId} (hu:Tryz.prog.underlying S=some (.slice r.T)) {H:Type} {enc:TypeId × Value→H} {W:World} {k:Reach} {b0:Nat} {v:Value} {d:DataW H} {p:List MemPlace}
  (hval:Value.okWide Tryz.prog W k b0 S v) (hd:DataW.Trod enc Tryz.prog W 0 (fun _=>true) true S v d p) (hl:Light S d):∃xs,IsRow r W v xs:=by
 obtain⟨a0,len0,cap0,rfl⟩:=okWide_slice hu hval;obtain⟨fuel,hf⟩:=hd;exact isRow_of_trod r hn hu (m:=fuel) (y:=(d,p)) hf hl
theorem Zgm {H:Type} {enc:TypeId × Value→H} {W:World} {T:TypeId} {fs:Array Field} (hu:Tryz.prog.underlying T=some (.struct fs)) {m:Nat} {cs:List Value} {y:DataW H × List MemPlace}
  (h:DataW.trod enc Tryz.prog W 0 (fun _=>true) true m T cs=some y) (hl:Light T y.1) (j:Nat) (f:Field) (hf:fs[j]?=some f) :
  ∃n z,DataW.trod enc Tryz.prog W 0 (fun _=>true) true n f.type ((cs.drop f.offset).take (Tryz.prog.cellsOf f.type))=some z∧Light f.type z.1:=by
 obtain⟨xs,n,_,rfl,_,hxl,hx⟩:=DataW.trod_struct hu h;have hj:j<fs.size:=(Array.getElem?_eq_some_iff.1 hf).1
 have e:xs[j]?=some (xs[j]'(by omega)):=List.getElem?_eq_getElem _;refine⟨n,xs[j]'(by omega),(hx j f hf).trans e,fun k hk=>hl k ?_⟩;simp only[DataW.weights,hu];exact DataW.weights_mem_each (j:=j) (t:=f.type) (by simp[hf]) (by rw[List.getElem?_map,e];rfl) k hk
theorem trod_cells {H:Type} {enc:TypeId × Value→H} {W:World} {T:TypeId} {fs:Array Field} (hu:Tryz.prog.underlying T=some (.struct fs)) {m:Nat} {cs:List Value} {y:DataW H × List MemPlace}
  (h:DataW.trod enc Tryz.prog W 0 (fun _=>true) true m T cs=some y):cs.length=Tryz.prog.cellsOf T:=by
 obtain⟨xs,n,_,_,hl,_⟩:=DataW.trod_struct hu h;exact hl
end
section
open Go.RowKit Go.Shelf Go.Lib
structure TB (N:Nat) (w0 w:World) (m:Nat) (F:Ft) (p:Nat) (f:Pf) (tb:Nat) (l:List KV):Prop where
 tw:TW w m F p f tb l
 own:∀k,PJ F p f k→N≤k
 tbN:N≤tb
 below:Below N w0 w
 base:N≤w.heap.size
section
variable {N : Nat} {w0 w w' : World} {m : Nat} {F : Ft} {p : Nat} {f : Pf} {tb : Nat} {l l' : List KV}
theorem TB.step (h:TB N w0 w m F p f tb l) (hb:Below w.heap.size w w'):TB N w0 w' m F p f tb l:=⟨h.tw.step hb,h.own,h.tbN,h.below.trans (hb.mono h.base),Nat.le_trans h.base hb.size⟩
theorem TB.read (h:TB N w0 w m F p f tb l) (h2:TW w' m F p f tb l) (ht:Zb (PJ F p f) w w'):TB N w0 w' m F p f tb l:=⟨h2,h.own,h.tbN,h.below.trans (ht.below h.base h.own),Nat.le_trans h.base ht.size⟩
theorem TB.to (h:TB N w0 w m F p f tb l) (h2:TWto w m F p f tb l' w'):∃f',TB N w0 w' m F p f' tb l'∧f'.q=f.q∧(∀k,PJ F p f' k→PJ F p f k∨w.heap.size≤k)∧Zb (PJ F p f) w w':=by
 obtain⟨f',a,b,c,d⟩:=h2;refine⟨f',⟨a,fun k hk=>?_,h.tbN,h.below.trans (d.below h.base h.own),Nat.le_trans h.base d.size⟩,b,fun k hk=>?_,d⟩
 ·rcases hk with e | e
  ·exact h.own k (.inl e)
  ·rcases c k e with e | e
   ·exact h.own k (.inr e)
   ·exact Nat.le_trans h.base e
 ·rcases hk with e | e
  ·exact .inl (.inl e)
  ·exact(c k e).imp .inr id
end
theorem tre_begun (m:Nat):Tre (Rp.begun m) []:=by
 refine .inl ⟨rfl,rfl,fun p=>?_⟩;unfold Rp.taken Rp.begun;simp only[List.length_replicate]
 have:((List.replicate ((m - 2) / 8) (none:Option (List UInt8))).getD p.toNat none).isSome=false:=by
  rw[List.getD_eq_getElem?_getD,List.getElem?_replicate]
  split<;>rfl
 rw[this];simp
theorem tb_begun {w w':World} {n:Nat} (hn1:74≤n) (hn2:n≤4096) {F:Ft} {p:Nat} {f:Pf} {tb:Nat} {J:Jn} {seq:Int} {B:List (List UInt8)} (h:Tr n J seq B w' F p f (Rp.begun ((n - 2) / 2)) tb) (hb:Below w.heap.size w w') (ho:∀k,PJ F p f k→w.heap.size≤k) (ht:w.heap.size≤tb):TB w.heap.size w w' (((n - 2) / 2 - 2) / 8) F p f tb [] :=
 ⟨⟨⟨n,J,seq,B,_,h,tre_begun _,by unfold Rp.begun;simp⟩,by omega,by omega⟩,ho,ht,hb,hb.size⟩
theorem restL_len (l:List KV) (key:List UInt8):(Xa l key).length+(Zaz l key).length≤l.length:=by
 have h1:l.length=(Xa l key).length+(l.dropWhile fun x=>decide (x.1<key)).length:=by rw[←List.length_append];unfold Xa;rw[List.takeWhile_append_dropWhile]
 unfold Zaz
 cases hd:l.dropWhile (fun x=>decide (x.1<key)) with
 | nil=>rw[hd] at h1;dsimp only;omega
 | cons y r =>
  rw[hd] at h1;dsimp only;split
  ·rw[List.length_cons] at h1;omega
  ·omega
theorem putL_len (l:List KV) (key val:List UInt8):(putL l key val).length≤l.length+1:=by have:=restL_len l key;unfold putL;rw[List.length_append,List.length_cons];omega
end
end Go.Proofs.YtofibccplbnaiaaGreatDoor
