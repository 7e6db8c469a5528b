/- Contracts of the functions that the statements of this seat reach, part 1: each says what the call answers and what it leaves of the memory. -/
import Derived.Test.YtfaobkmojlhbnaaGreatDoorChecked
import Derived.WalkKit
import Derived.Lib.Hide
import Derived.WalkSpells
import Derived.Deep.MidRow
import Derived.Laws.AppendOwn
import Derived.Lib.VarintMem
import Derived.Deep.WholeRow
import Derived.Deep.RegionWith
import Derived.Deep.Cut
import Derived.WideLaws
import Derived.MapKept
import Derived.RegionTactic
import Derived.BigRegion
import Derived.BigQuiet
import Derived.StillTailTactics
set_option linter.unusedVariables false
set_option linter.unusedSimpArgs false
set_option maxRecDepth 100000
set_option maxHeartbeats 64000000
namespace Go.Proofs.YtfaobkmojlhbnaaGreatDoor
section
open Go.RowKit
theorem zA {α : Type} (l : List α) (i : Nat) (a : α) : l.toArray.setIfInBounds i a = (l.set i a).toArray := List.setIfInBounds_toArray ..
theorem zB {α : Type} (a b : α) (l : List α) : (a :: l).set 0 b = b :: l := rfl
theorem zC {α : Type} (a b : α) (l : List α) (i : Nat) : (a :: l).set (i + 1) b = a :: l.set i b := rfl
theorem Hd {p : Prop} (h : p) : Hid p := Lib.hid h

def Td {α : Type} (_ : List α) (p : Prop) : Prop := p
theorem tdI {p : Prop} (l : List Nat) (h : Td l p) : p := h
theorem tdE {p : Prop} (h : p) : Td ([] : List Nat) p := h
abbrev Va:=@Nat.le_refl
abbrev Vb:=@decide_eq_false
abbrev Vc:=@Go.cell_of_row
abbrev Vd:=@decide_eq_true
abbrev Ve:=@Go.RowKit.Below.refl
abbrev Vf:=@Go.IntWalk.i64_in
abbrev Vg:=@Go.heap_alloc_new
abbrev Vh:=@List.eq_nil_of_length_eq_zero
abbrev Vi:=@List.mem_cons_self
abbrev Vj:=@List.mem_cons_of_mem
abbrev Vk:=@Nat.le_trans
abbrev Vl:=@Nat.zero_le
abbrev Vm:=@Nat.lt_of_lt_of_le
abbrev Vn:=@Go.bodyPost_ret
abbrev Vo:=@List.getElem_mem
abbrev Vp:=@List.mem_append_right
abbrev Vq:=@List.mem_append_left
abbrev Vr:=@List.mem_of_mem_take
abbrev Vs:=@congrArg
abbrev Vt:=@List.mem_of_mem_drop
abbrev Vu:=@Classical.byContradiction
abbrev Vv:=@Go.RowKit.Below.heap_alloc
abbrev Vw:=@List.lt_irrefl
abbrev Vx:=@Go.RowKit.Below.heap_setCell
abbrev Vy:=@List.lt_trans
abbrev Vz:=@Go.MapKept.run_findKey
abbrev Ua:=@Nat.lt_or_ge
abbrev Ub:=@Int.eq_ofNat_of_zero_le
abbrev Uc:=@Go.run_firstCells_some
abbrev Ud:=@Option.some.inj
abbrev Ue:=@Go.info_parts
abbrev Uf:=@Nat.lt_succ_self
abbrev Ug:=@Nat.mul_le_mul_right
abbrev Uh:=@Go.run_loadVar_row
abbrev Ui:=@List.takeWhile_sublist
abbrev Uj:=@Go.World.ownsRow_nil
abbrev Uk:=@List.pairwise_cons
abbrev Ul:=@List.mem_append
abbrev Um:=@Nat.xor_lt_two_pow
abbrev Un:=@Go.callsIn_wide
abbrev Uo:=@List.ext_getElem
abbrev Up:=@List.nodup_cons
abbrev Uq:=@of_decide_eq_true
variable {w w':World}{base cap:Nat}{v:Value}{l:List UInt8}{e t:TypeId}{rest:List Oper}{ops:Array Oper}{a:Act}{Q:Exit→Act→World→Prop}
section
variable {P : Program}
theorem Zfc (w:World) (base:Nat) (t xt ty e:TypeId) (i:TypeInfo) (z:Value) (size bytes:Nat) (d:TypeDesc) (ht:P.underlying t=some (.slice e))
 (B:P.underlying xt=some d) (M:d=.slice e\/d=.string) (N:P.info? e=some i) (hz:i.zero=some z)
 (C:i.size=size) (R:i.bytes=bytes) (S:z.cells.size=size) (hsz:0<size)
 (v:Value) (n:Nat) (xs:List Value) (c:w.ownsRow base e size v n xs)
 (x:Value) (m:Nat) (b:List Value) (hlen:∀w':World,(Builtin.lenOf x).run P w'=.ok m w') (hl:b.length=m*size)
 (hf:∀w':World,w'.heap=w.heap->(Builtin.firstCells size m x).run P w'=.ok b.toArray w') (h1:∀u∈b,u.oneCell'=true)
 (H:n+m<=maxLen) (p:(n+m)*bytes<=140737488355328) (D:base<=w.heap.size):
  ∃I w',(Builtin.append_ #[t,xt] ty #[v,x]).run P w=.ok I w'/\w'.ownsRow base e size I (n+m) (xs++b)/\w.grownBy w' v.ownBlock /\
   (I=.slice none 0 0↔v=.slice none 0 0/\m=0)/\(I.ownBlock=v.ownBlock\/I.ownBlock=some w.heap.size):=by
 subst C;subst R;have hf1:=hf w rfl
 have J:=hf w.drew rfl;clear hf;have O:n+m<=9223372036854775807:=by simp only[maxLen] at H;omega
 have f:(xs++b).length=(n+m)*i.size:=by rw[List.length_append,c.1,hl,Nat.add_mul]
 have q:∀(h:Nat),h<n+m->∀(row:Option Nat),
   (w.drew.alloc (.cells (xs.toArray++b.toArray++Builtin.zeroCells z.cells (grownCap w (n+m) h e - (n+m))) e)).ownsRow base e i.size
    (.slice (some ⟨w.heap.size,0,none⟩) (n+m) (grownCap w (n+m) h e)) (n+m) (xs++b) /\
   w.grownBy (w.drew.alloc (.cells (xs.toArray++b.toArray++Builtin.zeroCells z.cells (grownCap w (n+m) h e - (n+m))) e)) row:=by
  intro h ho row
  have T:=grownCap_ge w (n+m) h e
  have E:grownCap w (n+m) h e<=maxLen:=grownCap_le_maxLen w (n+m) h e H
  refine⟨⟨f,.inr ⟨w.heap.size,_,_,rfl,D,Vg w.drew _,T,E,?_,?_⟩⟩,⟨rfl,rfl,rfl,by simp,λk U _=>Vv w.drew _ k U⟩⟩
  .simp only[Array.size_append,List.size_toArray,size_zeroCells,S,c.1,hl,<-Nat.add_mul];congr 1;omega
  .simp only[Array.toList_append,List.append_assoc];rw[<-List.append_assoc,<-f];exact List.take_left
 rcases c.2 with ⟨rfl,rfl⟩ | ⟨g,cap,r,rfl,V,hg,a0,E,W,F⟩
 .have hx:xs=[]:=Vh (by simpa using c.1)
  subst hx;by_cases X:m=0
  .subst X
   have Y:b=[]:=Vh (by simpa using hl);subst Y;refine⟨.slice none 0 0,w,?_,Uj w base e i.size,⟨rfl,rfl,rfl,Va _,λ_ _ _=>rfl⟩,by simp,.inl rfl⟩
   rcases M with rfl | rfl<;>simp[Builtin.append_,run_underlying ht,run_underlying B,sizeOf,typeInfo,N,hlen,hf1]
  .have s:¬(9223372036854775807<(m:Int)):=by omega
   have y:Builtin.nextslicecap m 0*i.bytes<=281474976710656:=growslice_fits (by omega) (by simpa using p);have A:¬(281474976710656<Builtin.nextslicecap m 0*i.bytes):=by omega
   have hgr:=q 0 (by omega) (Value.ownBlock (.slice none 0 0));simp only[Nat.zero_add,List.nil_append,Array.empty_append] at hgr ⊢;refine⟨_,_,?_,hgr.1,hgr.2,by simp[X],.inr rfl⟩
   rcases M with rfl | rfl<;>simp[Builtin.append_,run_underlying ht,run_underlying B,sizeOf,typeInfo,zeroValue,N,hz,hlen,X,s,A,Question.forced,run_firstCells_none,J,newRow,grownCap]
 .by_cases o:n+m<=cap
  .have y:n*i.size+b.length<=r.size:=by rw[hl,W,<-Nat.add_mul];exact Ug _ o
   have L:=run_storeCells_at P g (n*i.size) e b 0 r w hg (by simpa using y) h1;simp only[Nat.add_zero] at L;refine⟨.slice (some ⟨g,0,none⟩) (n+m) cap,w.setRow g (r.toList.take (n*i.size)++b++r.toList.drop (n*i.size+b.length)).toArray,?_,⟨f,.inr ⟨g,cap,_,rfl,V,setRow_heap w g r _ e _ hg,o,E,?_,?_⟩⟩,⟨rfl,rfl,rfl,by simp,λk _ U=>setRow_other w g k _ (λe=>U (by simp[Value.ownBlock,e]))⟩,by simp,.inl rfl⟩
   .rcases M with rfl | rfl<;>simp[Builtin.append_,run_underlying ht,run_underlying B,sizeOf,typeInfo,N,hlen,o,hf1,Addr.add_lit,L]
   .simp only[List.size_toArray,List.length_append,List.length_take,List.length_drop,Array.length_toList];omega
   .rw[F,<-f];exact List.take_left
  .have G:∀j u,xs[j]?=some u->w.cell? ((⟨g,0,none⟩:Addr).add j)=some u:=c.cells (g:=g) rfl
   obtain⟨Y,s⟩:¬(n+m<=cap)/\¬(9223372036854775807<((n:Int)+(m:Int))):=by omega
   have y:Builtin.nextslicecap (n+m) cap*i.bytes<=281474976710656:=growslice_fits (by omega) p;have A:¬(281474976710656<Builtin.nextslicecap (n+m) cap*i.bytes):=by omega
   have Z:=Uc (P:=P) w.drew i.size n ⟨g,0,none⟩ n cap xs c.1 (by simpa using G);have hgr:=q cap (by omega) (Value.ownBlock (.slice (some ⟨g,0,none⟩) n cap));refine⟨_,_,?_,hgr.1,hgr.2,by simp,.inr rfl⟩
   rcases M with rfl | rfl<;>simp[Builtin.append_,run_underlying ht,run_underlying B,sizeOf,typeInfo,zeroValue,N,hz,hlen,Y,s,A,Question.forced,J,Z,newRow,grownCap]
   all_goals
    congr 2
    apply Array.ext'
    simp[List.append_assoc]
def bv (l:List UInt8):List Value:=l.map λb=>.int .u8 (b.toNat:Int)
theorem Zk (l:List UInt8):(bv l).length=l.length:=by simp[bv]
theorem Zgo (l r:List UInt8):bv (l++r)=bv l++bv r:=by simp[bv]
theorem Yq (l:List UInt8):∀u∈bv l,u.oneCell'=true:=by intro u b;obtain⟨_,_,rfl⟩:=List.mem_map.1 b;rfl
theorem Zfj (l:List UInt8) (i:Nat) (h:i<l.length):(bv l)[i]?=some (.int .u8 (l[i].toNat:Int)):=by simp[bv,h]
def IsB (w:World) (v:Value) (l:List UInt8):Prop :=
 ∃a cap,v=.slice a l.length cap/\l.length<=cap/\cap<=maxLen/\(a=none->cap=0) /\
  ∀x,a=some x->(0<l.length->x.spot=none)/\∀i,(h:i<l.length)->w.cell? ⟨x.block,x.off+i,none⟩=some (.int .u8 (l[i].toNat:Int))
def IsBs (w:World) (v:Value) (ls:List (List UInt8)):Prop :=
 ∃a cap,v=.slice a ls.length cap/\ls.length<=cap/\cap<=maxLen/\(a=none->cap=0) /\
  ∀x,a=some x->(0<ls.length->x.spot=none)/\∀i,(h:i<ls.length)->∃u,w.cell? ⟨x.block,x.off+i,none⟩=some u/\IsB w u ls[i]
def Mine (e:TypeId) (base:Nat) (w:World) (v:Value) (l:List UInt8):Prop:=w.ownsRow base e 1 v l.length (bv l)
theorem IsB.nil (w:World):IsB w (.slice none 0 0) []:=⟨none,0,rfl,Va _,by simp[maxLen],λ_=>rfl,λx h=>by cases h⟩
theorem IsB.of_cells (h:IsB w v l) (hw:∀a u,w.cell? a=some u->w'.cell? a=some u):IsB w' v l:=by obtain⟨a,cap,d,f,g,j,b⟩:=h;exact⟨a,cap,d,f,g,j,λx c=>⟨(b x c).1,λi k=>hw _ _ ((b x c).2 i k)⟩⟩
theorem Zi (hb:Below w.heap.size w w') (a:Addr) (u:Value) (h:w.cell? a=some u):w'.cell? a=some u :=
 (hb.cell (World.block_lt_of_cell? w a h)).trans h
theorem IsB.below (h:IsB w v l) (hb:Below w.heap.size w w'):IsB w' v l:=h.of_cells (Zi hb)
theorem IsB.alloc {l:List UInt8} (h:IsB w v l) (o:Obj):IsB (w.alloc o) v l:=h.below ((Ve _ _).alloc (Va _) _)
theorem IsB.drew {l:List UInt8} (h:IsB w v l):IsB w.drew v l:=h
theorem Mine.nil (e:TypeId) (base:Nat) (w:World):Mine e base w (.slice none 0 0) []:=Uj w base e 1
theorem Mine.alloc {l:List UInt8} (h:Mine e base w v l) (o:Obj):Mine e base (w.alloc o) v l:=World.ownsRow.alloc h o
theorem Mine.below (h:Mine e base w v l) (hb:Below w.heap.size w w'):Mine e base w' v l:=by
 obtain⟨f,b⟩:=h;refine⟨f,?_⟩;rcases b with b | ⟨g,cap,c,i,j,d,r⟩
 .exact .inl b
 .exact .inr ⟨g,cap,c,i,j,by rw[hb.block g (Array.getElem?_eq_some_iff.1 d).1];exact d,r⟩
theorem Mine.isB (h:Mine e base w v l):IsB w v l:=by
 rcases h.2 with ⟨rfl,f⟩ | ⟨g,cap,j,rfl,n,o,b,c,k,d⟩
 .have:l=[]:=Vh f;subst this;exact IsB.nil w
 .refine⟨some ⟨g,0,none⟩,cap,rfl,b,c,λh=>(by cases h),?_⟩
  rintro x ⟨⟩;refine⟨λ_=>rfl,λi m=>?_⟩;have hc:=World.ownsRow.cells h (g:=g) rfl i _ (Zfj l i m)
  simpa [Addr.add_lit] using hc
theorem Mine.lt (h:Mine e base w v l):∀k,v.ownBlock=some k->base<=k/\k<w.heap.size:=World.ownsRow.lt h
theorem Mine.lit (l:List UInt8) (hb:base<=w.heap.size) (hm:l.length<=maxLen):
  Mine e base (w.alloc (.cells (bv l).toArray e)) (.slice (some ⟨w.heap.size,0,none⟩) l.length l.length) l:=by
 have:=World.ownsRow_lit (e:=e) (size:=1) (base:=base) w (bv l).toArray l.length hb hm (by simp[bv]);simpa [Mine] using this
theorem Zfq (h:IsB w v l):∀w':World,w'.heap=w.heap->(Builtin.firstCells 1 l.length v).run P w'=.ok (bv l).toArray w':=by
 intro w' i;obtain⟨a,cap,rfl,n,p,k,d⟩:=h
 cases a with
 | none =>
  have:l=[]:=Vh (by have:=k rfl;omega);subst this;simp[Builtin.firstCells,bv]
 | some x =>
  by_cases g:l=[]
  .subst g;simp[Builtin.firstCells,bv,loadCells,loadCellsFrom]
  obtain⟨b,o,s⟩:=x;obtain⟨m,d⟩:=d _ rfl;obtain rfl:s=none:=m (List.length_pos_iff.2 g);refine Uc (P:=P) w' 1 l.length _ _ _ (bv l) (by simp[bv]) ?_;intro j u f;have c:j<l.length:=by have:=(List.getElem?_eq_some_iff.1 f).1;simpa [bv] using this
  rw[Zfj l j c] at f;obtain rfl:=Ud f;rw[Addr.add_lit,World.cell?_of_block (w:=w) (by rw[i])];exact d j c
theorem Zdo {o:Oper} (f:o.guard=none) (s x:Operand) (t:TypeId)
 (q:o.op=.call { callee:=.builtin .append,args:=#[s,x],argTypes:=#[t,t] })
 (base:Nat) (e:TypeId) (r:(P.info? e).map (λi=>(i.zero,i.size,i.bytes))=some (some (.int .u8 0),1,1)) (ht:P.underlying t=some (.slice e))
 (v:Value) (l:List UInt8) (hs:a.eval s=v) (c:Mine e base w v l)
 (u:Value) (m:List UInt8) (hx:a.eval x=u) (hu:IsB w u m)
 (hlen:l.length+m.length<=140737488355328) (b:base<=w.heap.size)
 (h:∀d w',Mine e base w' d (l++m)->w.grownBy w' v.ownBlock->Below base w w'->(d=.slice none 0 0↔v=.slice none 0 0/\m=[])->(d.ownBlock=v.ownBlock\/d.ownBlock=some w.heap.size)->wpList P ops Q rest (a.put o.dst d) w'):wpList P ops Q (o::rest) a w:=by
 obtain⟨i,y,z,g,j⟩:=Ue r
 obtain⟨d,w',A,n,p,B,C⟩:=Zfc (P:=P) w base t t o.type e i (.int .u8 0) 1 1 _ ht ht (.inl rfl) y z g j rfl (by decide) v l.length (bv l) c u m.length (bv m)
  (λw'=>by obtain⟨a,cap,rfl,_⟩:=hu;simp[Builtin.lenOf]) (by simp[bv]) (Zfq hu) (Yq m) (by unfold maxLen;omega) (by omega) b
 refine wpList_plain f λK D=>?_;unfold Oper.wp execOp;simp only[q,resolve,invoke,builtin,Sem.run_bind,Sem.run_pure,Result.andThen_ok,List.map_toArray,List.map_cons,List.map_nil,hs,hx,A];refine D _ _ (h d w' ?_ p ((Ve base w).grown p b λk E=>(c.lt k E).1) ?_ C)
 .rw[<-Zgo,<-List.length_append] at n;exact n
 .rw[B];simp[List.length_eq_zero_iff]
theorem run_str (hv:IsB w v l) (c dst e:TypeId) (hs:P.underlying c=some (.slice e)) (k:P.underlying e=some (.int .u8)) (m:P.underlying dst=some .string):
  (convert c dst v).run P w=.ok (.string ⟨l.toArray⟩) w:=by
 obtain⟨a,cap,rfl,z,A,p,g⟩:=hv;rw[run_convert_bytes_string w c dst e _ _ _ hs k m]
 cases a with
 | none =>
  have:l=[]:=Vh (by have:=p rfl;omega);subst this;simp[Conv.bytesToString];rfl
 | some x =>
  by_cases i:l=[]
  .subst i;simp[Conv.bytesToString,loadCells,loadCellsFrom];rfl
  obtain⟨b,o,s⟩:=x;obtain⟨hs,g⟩:=g _ rfl;obtain rfl:s=none:=hs (List.length_pos_iff.2 i)
  have d:=run_loadCells_list (P:=P) w ⟨b,o,none⟩ (bv l) (by
   intro j u h;have f:j<l.length:=by have:=(List.getElem?_eq_some_iff.1 h).1;simpa [bv] using this
   rw[Zfj l j f] at h;obtain rfl:=Ud h;rw[Addr.add_lit]
   exact g j f)
  rw[Zk] at d;have q:bv l=(l.map λb=>(b.toNat:Int)).map (Value.int .u8):=by simp[bv]
  rw[q] at d;rw[run_bytesToString w _ _ _ _ d,foldl_push_bytes]
  have r:((l.map λb=>(b.toNat:Int)).map λn=>UInt8.ofNat n.toNat)=l:=by
   rw[List.map_map]
   conv=>rhs;rw[<-List.map_id l]
   apply List.map_congr_left;intro b _;simp
  rw[r];have y:(ByteArray.empty.data++l.toArray)=l.toArray:=by rw[show ByteArray.empty.data=#[] from rfl,Array.empty_append]
  rw[y]
def cutA (a:Option Addr) (cap n:Nat):Option Addr:=if cap=n then a else a.map (·.add n)
theorem run_cut_l (w:World) (ht:P.underlying t=some (.slice e)) (hsz:(P.info? e).map (λi=>(i.zero,i.size,i.bytes))=some (some (.int .u8 0),1,1)) (a:Option Addr) (b cap n:Nat) (L:Int) (hL:L=n) (hn:n<=b):
  (Instr.slice t (.slice a b cap) (some (.int .i64 L)) none none).run P w=.ok (.slice (cutA a cap n) (b - n) (cap - n)) w:=by
 obtain⟨i,d,h,c,f⟩:=Ue hsz;subst hL;have g:(n:Int)<=(b:Int):=by omega
 have j:(cap=n)=(cap=n):=rfl;simp[Instr.slice,run_underlying ht,Instr.sliceBounds,run_sliceBound,sizeOf,typeInfo,d,c,g,cutA]
theorem run_cut_lh (w:World) (ht:P.underlying t=some (.slice e)) (hsz:(P.info? e).map (λi=>(i.zero,i.size,i.bytes))=some (some (.int .u8 0),1,1)) (a:Option Addr) (b cap n h:Nat) (L H:Int) (hL:L=n) (hH:H=h) (hn:n<=h) (hh:h<=cap):
  (Instr.slice t (.slice a b cap) (some (.int .i64 L)) (some (.int .i64 H)) none).run P w=.ok (.slice (cutA a cap n) (h - n) (cap - n)) w:=by
 obtain⟨i,d,k,c,f⟩:=Ue hsz;subst hL;subst hH;obtain⟨g,j⟩:(n:Int)<=(h:Int)/\(h:Int)<=(cap:Int):=by omega
 simp[Instr.slice,run_underlying ht,Instr.sliceBounds,run_sliceBound,sizeOf,typeInfo,d,c,g,j,cutA]
theorem IsB.cut {a:Option Addr} {j:Nat} (hv:IsB w (.slice a j cap) l) (n h:Nat) (hn:n<=h) (hh:h<=l.length):
  IsB w (.slice (cutA a cap n) (h - n) (cap - n)) ((l.take h).drop n):=by
 obtain⟨A,p,hv,B,C,g,q⟩:=hv;simp only[Value.slice.injEq] at hv;obtain⟨rfl,rfl,rfl⟩:=hv;have b:((l.take h).drop n).length=h - n:=by simp;omega
 refine⟨cutA a cap n,cap - n,by rw[b],by rw[b];omega,by omega,?_,?_⟩
 .intro c
  unfold cutA at c;split at c
  .omega
  .cases a with
   | none=>have:=g rfl;omega
   | some x=>cases c
 .intro x f
  unfold cutA at f;split at f
  .obtain⟨k,r⟩:=q x f;refine⟨λd=>k (by rw[b] at d;omega),λi m=>?_⟩;rw[b] at m;omega
  .cases a with
   | none=>cases f
   | some y =>
    simp only[Option.map_some,Option.some.injEq] at f;subst f;obtain⟨k,r⟩:=q y rfl
    refine⟨λd=>by rw[b] at d;have h1':=k (by omega);unfold Addr.add;split<;>simp[h1'],λi m=>?_⟩
    have o:=m;rw[b] at o;have h3:=r (n+i) (by omega)
    have s:(y.add n).block=y.block:=by unfold Addr.add;split<;>rfl
    have u:(y.add n).off=y.off+n:=by unfold Addr.add;split<;>simp_all
    have z:((l.take h).drop n)[i]=l[n+i]:=by simp
    rw[s,u,z,Nat.add_assoc];exact h3
theorem Zij {d:Option Tmp} {n:TypeId} {p:String} {o:Array Edge} (x:Operand) (st t e:TypeId)
 (hs:P.underlying st=some .string) (ht:P.underlying t=some (.slice e)) (q:P.underlying e=some (.int .u8)) (s:ByteArray) (hx:a.eval x=.string s) (hlen:s.size<=140737488355328)
 (h:∀cap w',s.size<=cap->cap<=maxLen->IsB w' (.slice (some ⟨w.heap.size,0,none⟩) s.size cap) s.data.toList->Below w.heap.size w w'->w.heap.size<w'.heap.size ->
 w'.heap[w.heap.size]?=some (.cells (bytesRow s cap) e ((bytesRow s cap).size,(bytesRow s cap).size+1)) ->
 wpList P ops Q rest (a.put d (.slice (some ⟨w.heap.size,0,none⟩) s.size cap)) w'):
  wpList P ops Q ({ dst:=d,op:=.convert st t x,type:=n,pos:=p,after:=o,guard:=none }::rest) a w:=by
 have b:=run_bytes_of_string (P:=P) w st t e s hs ht q;have hge:=grownCap_ge w s.size 0 e;have c:grownCap w s.size 0 e<=maxLen:=grownCap_le_maxLen w s.size 0 e (by unfold maxLen;omega);refine wpList_plain rfl λK r=>?_;unfold Oper.wp execOp;simp only[hx,b,Result.andThen_ok,Sem.run_bind,Sem.run_pure,Sem.run_map];generalize grownCap w s.size 0 e=cap at *;generalize m:(w.drew.alloc (.cells (bytesRow s cap) e ((bytesRow s cap).size,(bytesRow s cap).size+1)))=W;have f:W.heap[w.heap.size]?=some (.cells (bytesRow s cap) e ((bytesRow s cap).size,(bytesRow s cap).size+1)):=by rw[<-m];exact Vg w.drew _
 have g:Below w.heap.size w W:=by rw[<-m];exact((Ve _ _).drew).alloc (Va _) _
 have j:s.data.toList.length=s.size:=by rw[Array.length_toList];rfl
 refine r _ _ (h cap W hge c ⟨some ⟨w.heap.size,0,none⟩,cap,by rw[j],by rw[j];exact hge,c,λh=>(by cases h),?_⟩ g (by rw[<-m];simp) f);rintro y ⟨⟩;refine⟨λ_=>rfl,λi u=>?_⟩;have z:W.cell? ⟨w.heap.size,i,none⟩=(bytesRow s cap)[i]?:=Vc W _ _ _ _ _ f
 have k:i<s.data.size:=by simpa using u
 simp only[Nat.zero_add];rw[z,bytesRow,Array.getElem?_append_left (by simpa using k)];simp;exact⟨_,Array.getElem?_eq_getElem k,rfl⟩
end
theorem isB_cell {b o n:Nat} (h:IsB w (.slice (some ⟨b,o,none⟩) n cap) l) (i:Nat) (g:i<l.length):w.cell? ⟨b,o+i,none⟩=some (.int .u8 (l[i].toNat:Int)):=by obtain⟨j,f,c,_,_,_,d⟩:=h;simp only[Value.slice.injEq] at c;obtain⟨rfl,_,_⟩:=c;exact(d _ rfl).2 i g
theorem isB_lit (e:TypeId) (l:List UInt8) (h:l.length<=maxLen):IsB (w.alloc (.cells (bv l).toArray e)) (.slice (some ⟨w.heap.size,0,none⟩) l.length l.length) l:=(Mine.lit (e:=e) l (Va _) h).isB
theorem isBs_lit (E:TypeId) (us:List Value) (ls:List (List UInt8)) (hm:ls.length<=maxLen) (h:∀i,(b:i<ls.length)->∃u,us[i]?=some u/\IsB w u ls[i]):
  IsBs (w.alloc (.cells us.toArray E)) (.slice (some ⟨w.heap.size,0,none⟩) ls.length ls.length) ls:=by
 refine⟨some ⟨w.heap.size,0,none⟩,ls.length,rfl,Va _,hm,(λc=>(by cases c)),?_⟩;intro x d;obtain rfl:=Ud d;refine⟨λ_=>rfl,λi b=>?_⟩;obtain⟨u,f,g⟩:=h i b;refine⟨u,?_,g.alloc _⟩;simpa using f
theorem IsBs.below {ls:List (List UInt8)} (h:IsBs w v ls) (hb:Below w.heap.size w w'):IsBs w' v ls:=by obtain⟨a,cap,d,f,g,j,b⟩:=h;refine⟨a,cap,d,f,g,j,λx c=>⟨(b x c).1,λi k=>?_⟩⟩;obtain⟨u,m,n⟩:=(b x c).2 i k;exact⟨u,Zi hb _ _ m,n.below hb⟩
end
section
open Go.RowKit
variable {T T':Nat→Prop}{a b:World}
structure Zb (T:Nat->Prop) (w w':World):Prop where
 os:w'.os=w.os
 tape:w'.tape=w.tape
 output:w'.output=w.output
 size:w.heap.size<=w'.heap.size
 block:∀k,k<w.heap.size->¬T k->w'.heap[k]?=w.heap[k]?
theorem Zb.refl (T:Nat->Prop) (w:World):Zb T w w:=⟨rfl,rfl,rfl,Va _,λ_ _ _=>rfl⟩
theorem Zb.trans {c:World} (h:Zb T a b) (k:Zb T b c):Zb T a c :=
 ⟨k.os.trans h.os,k.tape.trans h.tape,k.output.trans h.output,Vk h.size k.size,λi d e=>(k.block i (Vm d h.size) e).trans (h.block i d e)⟩
theorem Zb.mono (h:Zb T a b) (d:∀k,k<a.heap.size->T k->T' k):Zb T' a b :=
 ⟨h.os,h.tape,h.output,h.size,λk c e=>h.block k c λf=>e (d k c f)⟩
theorem Zb.drew (h:Zb T a b):Zb T a b.drew:=⟨h.os,h.tape,h.output,h.size,h.block⟩
theorem Zb.below {B:Nat} (h:Zb T a b) (hB:B<=a.heap.size) (c:∀k,T k->B<=k):Below B a b :=
 ⟨h.os,h.tape,h.output,h.size,λk e=>h.block k (by omega) (λd=>by have:=c k d;omega)⟩
theorem Zb.of_below (h:Below a.heap.size a b):Zb T a b:=⟨h.os,h.tape,h.output,h.size,λk c _=>h.block k c⟩
theorem Zb.then {c:World} (h:Zb T a b) (k:Zb T' b c) (f:∀i,i<a.heap.size->T' i->T i):Zb T a c :=
 ⟨k.os.trans h.os,k.tape.trans h.tape,k.output.trans h.output,Vk h.size k.size,λi d e=>(k.block i (Vm d h.size) (λg=>e (f i d g))).trans (h.block i d e)⟩
theorem Za {w:World} {k:Nat} {o:Obj} (h:w.heap[k]?=some o):k<w.heap.size:=(Array.getElem?_eq_some_iff.1 h).1
end
section
open Go.RowKit
variable {w:World}{c:Array Value}{t:TypeId}
theorem Ze {g i:Nat} {fr:Nat × Nat} (h:w.heap[g]?=some (.cells c t fr)) (v:Value):(w.setCell ⟨g,i,none⟩ v).heap[g]?=some (.cells (c.setIfInBounds i v) t fr):=by simp only[World.setCell,Array.getElem?_modify,if_true,h];rfl
theorem Zf {g:Nat} (h:w.heap[g]?=some (.cells c t (0,0))) (i:Nat):w.frozen? ⟨g,i,none⟩=false:=by simp[World.frozen?,h]
theorem Xa (g:Nat):∀(a:List Value) (o:Nat) (w:World) (k:Nat),k≠g->(w.setCells g o a).heap[k]?=w.heap[k]?
 | [],o,w,k,h=>rfl
 | v::r,o,w,k,h=>by rw[World.setCells,Xa g r (o+1) _ k h];exact Vx _ _ _ _ h
theorem Zcl (g:Nat):∀(a:List Value) (o:Nat) (w:World),(w.setCells g o a).os=w.os/\(w.setCells g o a).tape=w.tape/\(w.setCells g o a).output=w.output/\(w.setCells g o a).heap.size=w.heap.size
 | [],o,w=>⟨rfl,rfl,rfl,rfl⟩
 | v::r,o,w=>by obtain⟨b,d,e,f⟩:=Zcl g r (o+1) (w.setCell ⟨g,o,none⟩ v);rw[World.setCells];exact⟨b,d,e,f.trans (by simp[World.setCell])⟩
theorem Zfy {α:Type} (L a:List α) (o j:Nat) (h:o<=L.length):(L.take o++(a++L.drop (o+a.length)))[j]?=if j<o then L[j]? else if j<o+a.length then a[j - o]? else L[j]?:=by
 rw[List.getElem?_append,List.length_take,Nat.min_eq_left h];by_cases b:j<o
 .rw[if_pos b,if_pos b,List.getElem?_take,if_pos b]
 .rw[if_neg b,if_neg b,List.getElem?_append]
  by_cases d:j<o+a.length
  .rw[if_pos (by omega),if_pos d]
  .rw[if_neg (by omega),if_neg d,List.getElem?_drop];congr 1;omega
theorem Zak (g:Nat) (t:TypeId):∀(e:List Value) (o:Nat) (w:World) (a:Array Value),w.heap[g]?=some (.cells a t (0,0))->o+e.length<=a.size ->
  ∃b:Array Value,(w.setCells g o e).heap[g]?=some (.cells b t (0,0))/\b.toList=a.toList.take o++(e++a.toList.drop (o+e.length))
 | [],o,w,a,h,_=>⟨a,h,by simp⟩
 | v::r,o,w,a,h,k=>by
  simp only[List.length_cons] at k;obtain⟨b,l,m⟩:=Zak g t r (o+1) (w.setCell ⟨g,o,none⟩ v) (a.setIfInBounds o v) (Ze h v) (by simp;omega);refine⟨b,l,?_⟩;rw[m,Array.toList_setIfInBounds];apply List.ext_getElem?;intro j;rw[Zfy _ _ _ _ (by simp;omega),Zfy _ _ _ _ (by simp;omega),List.getElem?_set,Array.length_toList,List.length_cons];by_cases f:j<o
  .rw[if_pos (by omega),if_neg (by omega),if_pos f]
  .by_cases i:j=o
   .subst i;rw[if_pos (by omega),if_pos rfl,if_pos (by omega),if_neg (by omega),if_pos (by omega),Nat.sub_self];rfl
   .by_cases d:j<o+1+r.length
    .rw[if_neg (by omega),if_pos d,if_neg f,if_pos (by omega),show j - o=(j - (o+1))+1 by omega,List.getElem?_cons_succ]
    .rw[if_neg (by omega),if_neg d,if_neg (by omega),if_neg f,if_neg (by omega)]
end
section
namespace UsCrc
def poly:Nat:=3988292384
def step (c:Nat):Nat:=if c % 2=1 then c / 2 ^^^ poly else c / 2
def steps:Nat->Nat->Nat
 | 0,c=>c
 | k+1,c=>steps k (step c)
def nib:List Nat:=[0,498536548,997073096,651767980,1994146192,1802195444,1303535960,1342533948,3988292384,4027552580,3604390888,3412177804,2607071920,2262029012,2685067896,3183342108]
def tab (c:Nat):Nat:=nib.getD (c % 16) 0 ^^^ c / 16
def byteStep (c x:Nat):Nat:=steps 8 (c ^^^ x)
def run (c:Nat) (l:List UInt8):Nat:=l.foldl (λc x=>byteStep c x.toNat) c
def ones:Nat:=4294967295
def crc (l:List UInt8):Nat:=ones ^^^ run ones l
theorem step_xor (a b:Nat):step (a ^^^ b)=step a ^^^ step b:=by
 have h:=@Nat.xor_mod_two_eq_one a b;unfold step;rw[Nat.xor_div_two]
 by_cases c:a % 2=1<;>by_cases d:b % 2=1
 .rw[if_neg (by rw[h];simp[c,d]),if_pos c,if_pos d];rw[Nat.xor_assoc,Nat.xor_comm (poly) (_ ^^^ _),Nat.xor_assoc,Nat.xor_self,Nat.xor_zero]
 .rw[if_pos (by rw[h];simp[c,d]),if_pos c,if_neg d];rw[Nat.xor_assoc,Nat.xor_assoc,Nat.xor_comm poly]
 .rw[if_pos (by rw[h];simp[c,d]),if_neg c,if_pos d];rw[Nat.xor_assoc]
 .rw[if_neg (by rw[h];simp[c,d]),if_neg c,if_neg d]
theorem steps_xor (k:Nat):∀a b:Nat,steps k (a ^^^ b)=steps k a ^^^ steps k b:=by
 induction k with
 | zero=>intro a b;rfl
 | succ k c=>intro a b;simp only[steps,step_xor,c]
theorem steps_shift (k:Nat):∀c:Nat,c % 2 ^ k=0->steps k c=c / 2 ^ k:=by
 induction k with
 | zero=>intro c _;simp[steps]
 | succ k a =>
  intro c h;have f:c % 2=0:=by have:2∣2 ^ (k+1):=⟨2 ^ k,by rw[Nat.pow_succ,Nat.mul_comm]⟩;have h3:=Nat.mod_mod_of_dvd c this;omega
  have b:step c=c / 2:=by unfold step;rw[if_neg (by omega)]
  have d:(c / 2) % 2 ^ k=0:=by
   have g:c % (2*2 ^ k)=c % 2+2*(c / 2 % 2 ^ k):=Nat.mod_mul;have e:2 ^ (k+1)=2*2 ^ k:=by rw[Nat.pow_succ,Nat.mul_comm]
   rw[e] at h;omega
  simp only[steps,b];rw[a _ d,Nat.div_div_eq_div_mul,Nat.pow_succ,Nat.mul_comm]
theorem low_xor_high (c:Nat):c=c % 16 ^^^ (c / 16*16):=by
 have:=Nat.two_pow_add_eq_or_of_lt (i:=4) (b:=c % 16) (by omega) (c / 16);apply Nat.eq_of_testBit_eq;intro i;rw[Nat.testBit_xor,show (16:Nat)=2 ^ 4 from rfl,Nat.testBit_mod_two_pow,Nat.testBit_mul_two_pow,Nat.testBit_div_two_pow]
 by_cases h:i<4
 .simp[h,Nat.not_le.2 h]
 .have a:4<=i:=by omega
  simp[h,a]
theorem steps4_low:∀i,i<16->steps 4 i=nib.getD i 0:=by decide
theorem tab_eq (c:Nat):tab c=steps 4 c:=by
 have e:=low_xor_high c;have a:steps 4 (c / 16*16)=c / 16:=by rw[steps_shift 4 _ (by omega)];omega
 have b:=steps4_low (c % 16) (by omega);unfold tab;rw[<-b]
 conv=>rhs;rw[e,steps_xor,a]
theorem steps_add (j k c:Nat):steps (j+k) c=steps k (steps j c):=by
 induction j generalizing c with
 | zero=>simp[steps]
 | succ j a=>rw[Nat.succ_add];simp only[steps];exact a _
theorem tab_tab (c:Nat):tab (tab c)=steps 8 c:=by rw[tab_eq,tab_eq,<-steps_add]
theorem step_lt (c:Nat) (h:c<4294967296):step c<4294967296:=by
 unfold step;split
 .exact Um (n:=32) (by omega) (by decide)
 .omega
theorem steps_lt (k:Nat):∀c,c<4294967296->steps k c<4294967296:=by
 induction k with
 | zero=>intro c h;exact h
 | succ k a=>intro c h;exact a _ (step_lt c h)
theorem byteStep_lt (c x:Nat) (h:c<4294967296) (hx:x<4294967296):byteStep c x<4294967296 :=
 steps_lt 8 _ (Um (n:=32) h hx)
theorem run_lt (l:List UInt8):∀c,c<4294967296->run c l<4294967296:=by
 induction l with
 | nil=>intro c h;exact h
 | cons x l a=>intro c h;exact a _ (byteStep_lt c _ h (by have:=x.toNat_lt;omega))
theorem run_append (l r:List UInt8) (c:Nat):run c (l++r)=run (run c l) r:=by simp[run]
end UsCrc
end
section
variable {write place kind:Nat}
def le:Nat->Nat->List UInt8
 | 0,_=>[]
 | k+1,n=>UInt8.ofNat n::le k (n / 256)
def leR:List UInt8->Nat
 | []=>0
 | b::r=>b.toNat+256*leR r
theorem Yg (k:Nat):∀n,(le k n).length=k:=by
 induction k with
 | zero=>intro n;rfl
 | succ k a=>intro n;simp[le,a]
theorem leR_lt (l:List UInt8):leR l<256 ^ l.length:=by
 induction l with
 | nil=>simp[leR]
 | cons b r a =>
  have:=b.toNat_lt;simp only[leR,List.length_cons,Nat.pow_succ];omega
theorem leR_le (k:Nat):∀n,n<256 ^ k->leR (le k n)=n:=by
 induction k with
 | zero=>intro n h;simp[le,leR] at h ⊢;omega
 | succ k a =>
  intro n h;rw[Nat.pow_succ] at h;simp only[le,leR];rw[a (n / 256) (by omega),UInt8.toNat_ofNat'];omega
theorem leR_append (a b:List UInt8):leR (a++b)=leR a+256 ^ a.length*leR b:=by
 induction a with
 | nil=>simp[leR]
 | cons x a c =>
  simp only[List.cons_append,leR,c,List.length_cons,Nat.pow_succ];rw[Nat.mul_add,Nat.add_assoc];congr 2;rw[Nat.mul_comm (256 ^ a.length) 256,Nat.mul_assoc]
def Zfn (b:List UInt8):List UInt8:=b.take 112++List.replicate (112 - b.length) 0
theorem pad112_length (b:List UInt8):(Zfn b).length=112:=by simp[Zfn];omega
theorem pad112_id {b:List UInt8} (h:b.length=112):Zfn b=b:=by simp[Zfn,h,List.take_of_length_le]
def fbody (write kp:Nat) (b:List UInt8):List UInt8:=le 8 write++(le 4 kp++Zfn b)
def mkF (write kp:Nat) (b:List UInt8):List UInt8:=le 4 (UsCrc.crc (fbody write kp b))++fbody write kp b
theorem fbody_length (write a:Nat) (b:List UInt8):(fbody write a b).length=124:=by simp[fbody,Yg,pad112_length]
theorem Xf (write a:Nat) (b:List UInt8):(mkF write a b).length=128:=by simp[mkF,Yg,fbody_length]
def Zao (L:List UInt8):Bool:=decide (leR (L.take 4)=UsCrc.crc (L.drop 4))
def Zm (L:List UInt8):Nat:=leR ((L.drop 4).take 8)
def fkp (L:List UInt8):Nat:=leR ((L.drop 12).take 4)
def Zav (L:List UInt8):Nat:=(L.getD 15 0).toNat
def Zp (L:List UInt8):Nat:=fkp L % 16777216
def Xv (L:List UInt8):List UInt8:=L.drop 16
theorem crc_lt (l:List UInt8):UsCrc.crc l<4294967296:=by unfold UsCrc.crc;exact Um (n:=32) (by decide) (UsCrc.run_lt l _ (by decide))
theorem mkF_drop4 (write a:Nat) (b:List UInt8):(mkF write a b).drop 4=fbody write a b:=by rw[mkF,List.drop_append_of_le_length (by simp[Yg]),List.drop_of_length_le (by simp[Yg]),List.nil_append]
theorem fright_mkF (write a:Nat) (b:List UInt8):Zao (mkF write a b)=true:=by unfold Zao;rw[mkF_drop4,decide_eq_true_eq,mkF,List.take_append_of_le_length (by simp[Yg]),List.take_of_length_le (by simp[Yg])];exact leR_le 4 _ (crc_lt _)
theorem Zdt (a:Nat) (b:List UInt8) (h:write<18446744073709551616):Zm (mkF write a b)=write:=by unfold Zm;rw[mkF_drop4,fbody,List.take_append_of_le_length (by simp[Yg]),List.take_of_length_le (by simp[Yg])];exact leR_le 8 _ h
theorem mkF_drop12 (write a:Nat) (b:List UInt8):(mkF write a b).drop 12=le 4 a++Zfn b:=by rw[show (12:Nat)=4+8 from rfl,<-List.drop_drop,mkF_drop4,fbody,List.drop_append_of_le_length (by simp[Yg]),List.drop_of_length_le (by simp[Yg]),List.nil_append]
theorem fkp_mkF (write:Nat) {a:Nat} (b:List UInt8) (h:a<4294967296):fkp (mkF write a b)=a:=by unfold fkp;rw[mkF_drop12,List.take_append_of_le_length (by simp[Yg]),List.take_of_length_le (by simp[Yg])];exact leR_le 4 _ h
theorem fbytes_mkF (write a:Nat) (b:List UInt8):Xv (mkF write a b)=Zfn b:=by unfold Xv;rw[show (16:Nat)=12+4 from rfl,<-List.drop_drop,mkF_drop12,List.drop_append_of_le_length (by simp[Yg]),List.drop_of_length_le (by simp[Yg]),List.nil_append]
theorem leR_four (l:List UInt8) (h:l.length=4):leR l / 16777216=(l.getD 3 0).toNat:=by
 match l,h with
 | [a,b,c,d],_ =>
  have:=a.toNat_lt;have:=b.toNat_lt;have:=c.toNat_lt;have:=d.toNat_lt;simp only[leR];show _=d.toNat
  omega
theorem fkind_eq {L:List UInt8} (h:L.length=128):Zav L=fkp L / 16777216:=by unfold Zav fkp;rw[leR_four _ (by simp[h])];simp only[List.getD_eq_getElem?_getD,List.getElem?_take,List.getElem?_drop];rfl
theorem fkind_mkF (b:List UInt8) (h:kind<256) (hp:place<16777216):Zav (mkF write (kind*16777216+place) b)=kind:=by rw[fkind_eq (Xf _ _ _),fkp_mkF _ _ (by omega)];omega
theorem Zfk (b:List UInt8) (h:kind<256) (hp:place<16777216):Zp (mkF write (kind*16777216+place) b)=place:=by rw[Zp,fkp_mkF _ _ (by omega)];omega
end
section
variable {l:List UInt8}
def zig (n:Int):Nat:=if 0<=n then (2*n).toNat else (-2*n - 1).toNat
def zag (u:Nat):Int:=if u % 2=0 then (u / 2:Nat) else -((u / 2:Nat):Int) - 1
def uv (u:Nat):List UInt8:=if u<128 then [UInt8.ofNat u] else UInt8.ofNat (u % 128+128)::uv (u / 128)
termination_by u
decreasing_by omega
def Zaq (n:Int):List UInt8:=uv (zig n)
theorem Zcn (u:Nat) (h:u<128):uv u=[UInt8.ofNat u]:=by rw[uv,if_pos h]
theorem uv_big (u:Nat) (h:¬u<128):uv u=UInt8.ofNat (u % 128+128)::uv (u / 128):=by rw[uv,if_neg h]
theorem uv_len (k:Nat):∀u,u<128 ^ (k+1)->1<=(uv u).length/\(uv u).length<=k+1:=by
 induction k with
 | zero=>intro u h;rw[Zcn u (by simpa using h)];simp
 | succ k b =>
  intro u h;by_cases a:u<128
  .rw[Zcn u a];simp
  .rw[uv_big u a];have:=b (u / 128) (by rw[Nat.pow_succ] at h;omega);simp only[List.length_cons];omega
theorem uv_len10 (u:Nat) (h:u<18446744073709551616):1<=(uv u).length/\(uv u).length<=10:=uv_len 9 u (by simp;omega)
theorem zig_lt (n:Int) (h1:-9223372036854775808<=n) (h2:n<=9223372036854775807):zig n<18446744073709551616:=by
 unfold zig;split<;>omega
theorem zag_zig (n:Int):zag (zig n)=n:=by
 unfold zig zag
 split<;>split<;>omega
theorem Zdi (n:Int) (h1:-9223372036854775808<=n) (h2:n<=9223372036854775807):1<=(Zaq n).length/\(Zaq n).length<=10:=uv_len10 _ (zig_lt n h1 h2)
def rdF (i U:Nat):List UInt8->Nat × Nat
 | []=>(0,0)
 | c::r=>if (i=9/\1<c.toNat)\/9<i then (0,0) else if c.toNat<128 then (U+c.toNat % 128*2 ^ (7*i),i+1) else rdF (i+1) (U+c.toNat % 128*2 ^ (7*i)) r
def dec (l:List UInt8):Option (Nat × Nat) :=
 if (rdF 0 0 l).2=0\/(1<(rdF 0 0 l).2/\l.getD ((rdF 0 0 l).2 - 1) 0=0) then none else some (rdF 0 0 l)
def pack (m:Int):Option (Nat × Nat)->Int × Int × Bool
 | some (u,k)=>(zag u,m+k,true)
 | none=>(0,0,false)
def takeI (l:List UInt8) (at_:Int):Int × Int × Bool :=
 if at_<0\/(l.length:Int)<at_ then (0,0,false) else pack at_ (dec (l.drop at_.toNat))
theorem takeI_out {n:Int} (h:n<0\/(l.length:Int)<n):takeI l n=(0,0,false):=by rw[takeI,if_pos h]
theorem takeI_in {m:Nat} (h:m<=l.length):takeI l m=pack m (dec (l.drop m)):=by rw[takeI,if_neg (by omega),Int.toNat_natCast]
theorem Zbl (u:Nat) (h:u<256):(UInt8.ofNat u).toNat=u:=by rw[UInt8.toNat_ofNat'];omega
theorem pow7 (i:Nat):2 ^ (7*(i+1))=128*2 ^ (7*i):=by rw[Nat.mul_add,Nat.pow_add,Nat.mul_comm]
theorem rdF_uv (r:List UInt8) (n:Nat):∀i U u,i+n=9->u<2 ^ (64 - 7*i)->rdF i U (uv u++r)=(U+u*2 ^ (7*i),i+(uv u).length):=by
 induction n with
 | zero =>
  intro i U u c b;obtain rfl:i=9:=by omega
  have d:u<2:=by simpa using b
  have e:=Zbl u (by omega);rw[Zcn u (by omega)];simp only[List.cons_append,rdF,List.nil_append,e];rw[if_neg (by omega),if_pos (by omega)];simp;omega
 | succ n f =>
  intro i U u c b;by_cases a:u<128
  .have e:=Zbl u (by omega);rw[Zcn u a];simp only[List.cons_append,rdF,List.nil_append,e];rw[if_neg (by omega),if_pos a,Nat.mod_eq_of_lt a];rfl
  .have e:=Zbl (u % 128+128) (by omega)
   rw[uv_big u a];simp only[List.cons_append,rdF,e];have g:2 ^ (64 - 7*i)=128*2 ^ (64 - 7*(i+1)):=by rw[show 64 - 7*i=64 - 7*(i+1)+7 by omega,Nat.pow_add,Nat.mul_comm]
   rw[if_neg (by omega),if_neg (by omega),f (i+1) _ _ (by omega) (by omega),pow7];simp only[Prod.mk.injEq,List.length_cons];refine⟨?_,by omega⟩;rw[show (u % 128+128) % 128=u % 128 by omega,<-Nat.mul_assoc,Nat.add_assoc,<-Nat.add_mul]
   congr 2;omega
theorem rdF_inv (l:List UInt8):∀i U u k,i<=9->rdF i U l=(u,k)->k≠0 ->
  i+1<=k/\k<=i+l.length/\∃d,u=U+d*2 ^ (7*i)/\d<2 ^ (64 - 7*i)/\((k=i+1\/l.getD (k - 1 - i) 0≠0)->l.take (k - i)=uv d):=by
 induction l with
 | nil=>intro i U u k _ h m;simp only[rdF,Prod.mk.injEq] at h;omega
 | cons c r o =>
  intro i U u k A h m;simp only[rdF] at h;split at h
  .simp only[Prod.mk.injEq] at h;omega
  .rename_i p
   have n:i<9->2 ^ (64 - 7*i)=128*2 ^ (64 - 7*(i+1)):=λq=>by rw[show 64 - 7*i=64 - 7*(i+1)+7 by omega,Nat.pow_add,Nat.mul_comm]
   split at h
   .rename_i g
    simp only[Prod.mk.injEq] at h;obtain⟨rfl,rfl⟩:=h;rw[Nat.mod_eq_of_lt g];refine⟨Va _,by simp,c.toNat,rfl,?_,λ_=>?_⟩
    .by_cases e:i=9
     .subst e;simp;omega
     .have:=n (by omega);have:1<=2 ^ (64 - 7*(i+1)):=Nat.one_le_two_pow;omega
    .rw[Zcn _ g];simp
   .rename_i g
    have e:i<9:=by
     by_cases e:i=9
     .exfalso;apply p;left;exact⟨e,by omega⟩
     .omega
    obtain⟨B,C,d,s,t,v⟩:=o (i+1) _ _ _ (by omega) h m;have h3:=n e
    refine⟨by omega,by simp only[List.length_cons];omega,c.toNat % 128+128*d,?_,by omega,λf=>?_⟩
    .rw[s,pow7,Nat.add_assoc,Nat.add_mul];congr 2;rw[<-Nat.mul_assoc,Nat.mul_comm d 128]
    .have b:r.getD (k - 1 - (i+1)) 0≠0:=by
      rcases f with f | f
      .omega
      .rw[show k - 1 - i=(k - 1 - (i+1))+1 by omega] at f
       simpa using f
     have a:=v (.inr b)
     have w:d≠0:=by
      intro x;rw[x,Zcn 0 (by omega)] at a;have j:k - (i+1)=1:=by have z:=Vs List.length a;simp at z;omega
      rw[j] at a;rw[show k - 1 - (i+1)=0 by omega] at b
      cases r with
      | nil=>simp at a
      | cons y r=>simp at a b;exact b a
     rw[show k - i=(k - (i+1))+1 by omega,List.take_succ_cons,a,uv_big (c.toNat % 128+128*d) (by omega)]
     congr 1
     .apply UInt8.toNat_inj.1
      rw[UInt8.toNat_ofNat'];have:=c.toNat_lt
      omega
     .congr 1;omega
theorem dec_uv (u:Nat) (h:u<18446744073709551616) (r:List UInt8):dec (uv u++r)=some (u,(uv u).length):=by
 have f:=rdF_uv r 9 0 0 u (by omega) (by simpa using h);have hl:=uv_len10 u h;simp only[Nat.mul_zero,Nat.pow_zero,Nat.mul_one,Nat.zero_add] at f;unfold dec;rw[f,if_neg];simp only;rintro(p | ⟨a,k⟩)
 .omega
 .have b:∀n u,u<128 ^ (n+1)->1<(uv u).length->(uv u++r).getD ((uv u).length - 1) 0≠0:=by
   intro n
   induction n with
   | zero=>intro u d a;rw[Zcn u (by simpa using d)] at a;simp at a
   | succ n m =>
    intro u d a;by_cases g:u<128
    .rw[Zcn u g] at a;simp at a
    .rw[uv_big u g] at a ⊢
     simp only[List.length_cons,Nat.add_sub_cancel,List.cons_append];rcases Ua 1 (uv (u / 128)).length with c | c
     .have:=m (u / 128) (by rw[Nat.pow_succ] at d;omega) c
      rw[show (uv (u / 128)).length=(uv (u / 128)).length - 1+1 by omega]
      simpa using this
     .have e:u / 128<128:=by
       rcases Ua (u / 128) 128 with i | i
       .exact i
       .rw[uv_big (u / 128) (by omega)] at c
        have:=uv_len n (u / 128 / 128);simp only[List.length_cons] at c
        have q:1<=(uv (u / 128 / 128)).length:=by
         rw[uv];split<;>simp
        omega
      rw[Zcn _ e];simp only[List.length_cons,List.length_nil];intro j;have o:(UInt8.ofNat (u / 128)).toNat=0:=by simp at j;rw[j];rfl
      rw[Zbl _ (by omega)] at o;omega
  exact b 9 u (by simp;omega) a k
end
section
open Go Go.RowKit
theorem xor_ones64 (a:Nat) (h:a<18446744073709551616):a ^^^ 18446744073709551615=18446744073709551615 - a:=by
 have b:(BitVec.ofNat 64 a ^^^ BitVec.allOnes 64).toNat=(~~~ BitVec.ofNat 64 a).toNat:=by rw[BitVec.xor_allOnes]
 rw[BitVec.toNat_xor,BitVec.toNat_not,BitVec.toNat_ofNat,BitVec.toNat_allOnes,Nat.mod_eq_of_lt (by omega)] at b;simpa using b
theorem xor_u64 (x y:Nat) (hx:x<18446744073709551616) (hy:y<18446744073709551616):bits .xor .u64 (x:Int) (y:Int)=((x ^^^ y:Nat):Int):=by simpa using u64_xor (x:Int) (y:Int) (by omega) (by omega) (by omega) (by omega)
theorem or_u64 (x y:Nat) (hx:x<18446744073709551616) (hy:y<18446744073709551616):bits .or .u64 (x:Int) (y:Int)=((x ||| y:Nat):Int):=by simpa using u64_or (x:Int) (y:Int) (by omega) (by omega) (by omega) (by omega)
theorem and_u64 (x y:Nat) (hx:x<18446744073709551616) (hy:y<18446744073709551616):bits .and .u64 (x:Int) (y:Int)=((x &&& y:Nat):Int):=by simpa using u64_and (x:Int) (y:Int) (by omega) (by omega) (by omega) (by omega)
theorem xor_u64_zero (n:Int) (h0:0<=n) (h1:n<18446744073709551616):bits .xor .u64 n 0=n:=by
 obtain⟨m,rfl⟩:=Ub h0;have:=xor_u64 m 0 (by omega) (by omega)
 simpa using this
theorem xor_u64_ones (n:Int) (h0:0<=n) (h1:n<18446744073709551616):bits .xor .u64 n 18446744073709551615=18446744073709551615 - n:=by
 obtain⟨m,rfl⟩:=Ub h0;have:=xor_u64 m 18446744073709551615 (by omega) (by omega)
 rw[xor_ones64 m (by omega)] at this;rw[show ((18446744073709551615:Nat):Int)=18446744073709551615 from rfl] at this
 rw[this];omega
theorem or128 (u:Nat):(u % 256) ||| 128=u % 128+128:=by
 have h:∀x:Fin 256,x.val ||| 128=x.val % 128+128:=by decide +kernel
 have h:=h ⟨u % 256,by omega⟩;simp only at h;rw[h];omega
theorem or128_u8 (u:Nat):bits .or .u8 ((u:Int) % 256) 128=(((UInt8.ofNat (u % 128+128)).toNat:Nat):Int):=by
 have h:=u8_or ((u:Int) % 256) 128 (by omega) (by omega) (by omega) (by omega);rw[h,UInt8.toNat_ofNat',show ((u:Int) % 256).toNat=u % 256 by omega,show (128:Int).toNat=128 from rfl,or128]
 omega
theorem and127_u8 (b:Nat) (hb:b<256):bits .and .u8 (b:Int) 127=((b % 128:Nat):Int):=by have h:=u8_and (b:Int) 127 (by omega) (by omega) (by omega) (by omega);rw[h,Int.toNat_natCast,show (127:Int).toNat=2 ^ 7 - 1 from rfl,Nat.and_two_pow_sub_one_eq_mod]
theorem Zba (n:Nat):IntKind.u64.wrap (n:Int)=((n % 18446744073709551616:Nat):Int):=by rw[IntKind.wrap_u64];omega
theorem or7 (U b k:Nat) (c:U<2 ^ (7*k)) (hb:b<256) (hk:k<=9) :
  bits .or .u64 (U:Int) (IntKind.u64.wrap (IntKind.u64.wrap (bits .and .u8 (b:Int) 127)*2 ^ (7*k)))=(((U+b % 128*2 ^ (7*k)) % 18446744073709551616:Nat):Int):=by
 have f:2 ^ (7*k)<=2 ^ 63:=Nat.pow_le_pow_right (by decide) (by omega);have a:(2:Nat) ^ 64=2 ^ (7*k)*2 ^ (64 - 7*k):=by rw[<-Nat.pow_add];congr 1;omega
 rw[and127_u8 b hb,Zba,Nat.mod_eq_of_lt (by omega:b % 128<18446744073709551616)];rw[show ((b % 128:Nat):Int)*2 ^ (7*k)=((b % 128*2 ^ (7*k):Nat):Int) by simp,Zba]
 have e:b % 128*2 ^ (7*k) % 18446744073709551616=2 ^ (7*k)*(b % 128 % 2 ^ (64 - 7*k)):=by rw[show (18446744073709551616:Nat)=2 ^ 64 from rfl,a,Nat.mul_comm (b % 128),Nat.mul_mod_mul_left]
 rw[or_u64 U _ (by omega) (Nat.mod_lt _ (by decide)),e,Nat.or_comm,<-Nat.two_pow_add_eq_or_of_lt c]
 have d:(U+b % 128*2 ^ (7*k)) % 18446744073709551616=2 ^ (7*k)*(b % 128 % 2 ^ (64 - 7*k))+U:=by
  rw[show (18446744073709551616:Nat)=2 ^ 64 from rfl,a,Nat.mul_comm (b % 128),Nat.mod_mul]
  rw[Nat.add_mul_mod_self_left,Nat.mod_eq_of_lt c,Nat.add_mul_div_left _ _ (Nat.two_pow_pos _),Nat.div_eq_of_lt c,Nat.zero_add,Nat.add_comm]
 rw[d]
theorem and1_u64 (u:Nat) (h:u<18446744073709551616):bits .and .u64 (u:Int) 1=((u % 2:Nat):Int):=by
 have h:=and_u64 u 1 h (by decide);rw[show ((1:Nat):Int)=1 from rfl] at h
 rw[h,show (1:Nat)=2 ^ 1 - 1 from rfl,Nat.and_two_pow_sub_one_eq_mod]
theorem xor_i64_zero (n:Int) (h0:0<=n) (h1:n<9223372036854775808):bits .xor .i64 n 0=n:=by
 obtain⟨m,rfl⟩:=Ub h0;show IntKind.i64.wrap (((BitVec.ofInt 64 (m:Int) ^^^ BitVec.ofInt 64 0).toNat:Nat):Int)=_
 rw[BitVec.toNat_xor,BitVec.ofInt_natCast,BitVec.toNat_ofNat,show (BitVec.ofInt 64 0).toNat=0 from rfl,Nat.xor_zero,Nat.mod_eq_of_lt (by omega),IntKind.wrap_i64]
 omega
theorem xor_i64_ones (n:Int) (h0:0<=n) (h1:n<9223372036854775808):bits .xor .i64 n (-1)=-n - 1:=by
 obtain⟨m,rfl⟩:=Ub h0;show IntKind.i64.wrap (((BitVec.ofInt 64 (m:Int) ^^^ BitVec.ofInt 64 (-1)).toNat:Nat):Int)=_
 rw[BitVec.toNat_xor,BitVec.ofInt_natCast,BitVec.toNat_ofNat,show (BitVec.ofInt 64 (-1)).toNat=18446744073709551615 from rfl,Nat.mod_eq_of_lt (by omega),xor_ones64 m (by omega),IntKind.wrap_i64]
 omega
theorem zag_walk (u:Nat) (h:u<18446744073709551616):bits .xor .i64 ((u:Int) / 2) (wrap64 (-wrap64 (bits .and .u64 (u:Int) 1)))=zag u:=by
 rw[and1_u64 u h];have e:∀x:Int,wrap64 x=IntKind.i64.wrap x:=λx=>(IntWalk.i64_left x).symm
 by_cases a:u % 2=0
 .rw[a,e,e,IntKind.wrap_i64,IntKind.wrap_i64]
  rw[show (-((((0:Nat):Int)+9223372036854775808) % 18446744073709551616 - 9223372036854775808)+9223372036854775808) % 18446744073709551616 - 9223372036854775808=0 from rfl]
  rw[xor_i64_zero _ (by omega) (by omega),zag,if_pos a];omega
 .rw[show u % 2=1 by omega,e,e,IntKind.wrap_i64,IntKind.wrap_i64]
  rw[show (-((((1:Nat):Int)+9223372036854775808) % 18446744073709551616 - 9223372036854775808)+9223372036854775808) % 18446744073709551616 - 9223372036854775808=-1 from rfl]
  rw[xor_i64_ones _ (by omega) (by omega),zag,if_neg a];omega
end
section
open Go.RowKit
variable {L:List UInt8}{w w':World}{g:Nat}{T:TypeId}
def Zh (w:World) (g:Nat) (T:TypeId) (L:List UInt8):Prop:=w.heap[g]?=some (.cells (bv L).toArray T (0,0))
def Zai (L:List UInt8) (o:Nat) (v:List UInt8):List UInt8:=L.take o++(v++L.drop (o+v.length))
theorem Zid {o:Nat} {v:List UInt8} (h:o+v.length<=L.length):(Zai L o v).length=L.length:=by simp only[Zai,List.length_append,List.length_take,List.length_drop];omega
theorem Zh.lt (h:Zh w g T L):g<w.heap.size:=Za h
theorem Zh.keep (h:Zh w g T L) (hw:w'.heap[g]?=w.heap[g]?):Zh w' g T L:=hw.trans h
theorem Zh.turned {S:Nat->Prop} (h:Zh w g T L) (ht:Zb S w w') (hS:¬S g):Zh w' g T L:=h.keep (ht.block g h.lt hS)
theorem Zh.below (h:Zh w g T L) (hb:Below w.heap.size w w'):Zh w' g T L:=h.keep (hb.block g h.lt)
theorem Zh.alloc (w:World) (T:TypeId) (L:List UInt8):Zh (w.alloc (.cells (bv L).toArray T)) w.heap.size T L:=Vg w _
theorem Zh.cell (h:Zh w g T L) (i:Nat) (a:i<L.length):w.cell? ⟨g,i,none⟩=some (.int .u8 (L[i].toNat:Int)):=by rw[Vc _ _ _ _ _ _ h,List.getElem?_toArray];exact Zfj L i a
theorem Zh.there (h:Zh w g T L) (o n:Nat) (hn:o+n<=L.length):w.there g o n:=λj a =>
 ⟨by rw[h.cell (o+j) (by omega)];rfl,Zf h _⟩
theorem Zh.range (h:Zh w g T L):w.rangeAt g 0 (bv L):=λj v a=>by
 have b:j<L.length:=by have:=(List.getElem?_eq_some_iff.1 a).1;simpa [bv] using this
 rw[Zfj L j b] at a;rw[Nat.zero_add,h.cell j b];exact a
theorem bv_take (L:List UInt8) (n:Nat):(bv L).take n=bv (L.take n):=by simp[bv]
theorem bv_drop (L:List UInt8) (n:Nat):(bv L).drop n=bv (L.drop n):=by simp[bv]
theorem Zh.lay (h:Zh w g T L) (o:Nat) (v:List UInt8) (hv:o+v.length<=L.length):Zh (w.setCells g o (bv v)) g T (Zai L o v):=by
 obtain⟨a,b,c⟩:=Zak g T (bv v) o w (bv L).toArray h (by rw[List.size_toArray,Zk,Zk];exact hv);unfold Zh;rw[b];have e:a=(bv (Zai L o v)).toArray:=by apply Array.ext';rw[c,List.toList_toArray,List.toList_toArray,bv_take,Zk,bv_drop,Zai,Zgo,Zgo]
 rw[e]
theorem Zu (w:World) (g o:Nat) (a:List Value):Zb (·=g) w (w.setCells g o a):=by obtain⟨b,c,d,e⟩:=Zcl g a o w;exact⟨b,c,d,Nat.le_of_eq e.symm,λk h f=>Xa g a o w k f⟩
theorem Zh.isB (h:Zh w g T L) (o n cap:Nat) (hn:o+n<=L.length) (hc:n<=cap) (hm:cap<=maxLen):IsB w (.slice (some ⟨g,o,none⟩) n cap) ((L.drop o).take n):=by
 have a:((L.drop o).take n).length=n:=by simp;omega
 refine⟨some ⟨g,o,none⟩,cap,by rw[a],by omega,hm,λe=>(by cases e),?_⟩;rintro x ⟨⟩;refine⟨λ_=>rfl,λi b=>?_⟩;rw[a] at b;show w.cell? ⟨g,o+i,none⟩=_
 rw[h.cell (o+i) (by omega)];simp
section
variable {P : Program}
theorem run_copy_row (h:Zh w g T L) (o n cap:Nat) (hn:o+n<=L.length) {u:Value} {l:List UInt8} (hu:IsB w u l) (t e A:TypeId) (ht:P.underlying t=some (.slice e))
 (B:(P.info? e).map (λi=>(i.zero,i.size,i.bytes))=some (some (.int .u8 0),1,1)) (hl:l.length<=9223372036854775807):
  (Builtin.copy_ #[t,t] A #[.slice (some ⟨g,o,none⟩) n cap,u]).run P w=.ok (.int .i64 ((l.take n).length:Int)) (w.setCells g o (bv (l.take n))):=by
 obtain⟨i,v,G,p,C⟩:=Ue B;have q:∀w,(sizeOf e).run P w=.ok 1 w:=λw=>by simp[sizeOf,typeInfo,v,p]
 have d:(Builtin.lenOf u).run P w=.ok l.length w:=by obtain⟨a,c,rfl,_⟩:=hu;simp[Builtin.lenOf]
 have f:(l.take n).length=min n l.length:=by simp
 have b:(Builtin.firstCells 1 (min n l.length) u).run P w=.ok (bv (l.take n)).toArray w:=by
  obtain⟨a,c,rfl,D,E,k,y⟩:=hu
  have r:IsB w (.slice a (l.take n).length c) (l.take n):=⟨a,c,rfl,by omega,E,k,λx z=>⟨λH=>(y x z).1 (by omega),λi v=>by
   have F:=(y x z).2 i (by omega)
   rw[F];simp⟩⟩
  have:=Zfq (P:=P) r w rfl;rw[f] at this
  cases a<;>simpa [Builtin.firstCells] using this
 have m:=run_storeCells_cells (P:=P) g o (bv (l.take n)) 0 w (λj s=>(h.there o n hn j (by rw[Zk] at s;omega)).1) (λj s=>(h.there o n hn j (by rw[Zk] at s;omega)).2) (Yq _);simp only[Nat.add_zero] at m;unfold Builtin.copy_;rw[f];rw[Nat.min_comm] at b;simp only[Nat.min_def] at b ⊢;simp[run_underlying ht,q,d,m,goInt,Nat.min_def,b]
 split<;>split<;>omega
end
theorem le_snoc (k:Nat):∀n,le (k+1) n=le k n++[UInt8.ofNat (n / 256 ^ k)]:=by
 induction k with
 | zero=>intro n;simp[le]
 | succ k a =>
  intro n;rw[le,a (n / 256),Nat.div_div_eq_div_mul]
  conv=>rhs;rw[le]
  rw[List.cons_append,Nat.pow_succ,Nat.mul_comm (256 ^ k)]
theorem pow_256 (k:Nat):(2:Nat) ^ (8*k)=256 ^ k:=by rw[Nat.pow_mul]
theorem shr_byte (n k:Nat):(n:Int) / 2 ^ (8*k) % 256=(((UInt8.ofNat (n / 256 ^ k)).toNat:Nat):Int):=by
 rw[UInt8.toNat_ofNat',<-pow_256];have:(n:Int) / 2 ^ (8*k)=((n / 2 ^ (8*k):Nat):Int):=by simp
 rw[this];omega
theorem leR_snoc (l:List UInt8) (b:UInt8):leR (l++[b])=leR l+b.toNat*256 ^ l.length:=by rw[leR_append,leR,leR,Nat.mul_zero,Nat.add_zero,Nat.mul_comm]
theorem or_shl (U b k:Nat) (a:U<256 ^ k) (hb:b<256) (hk:k<8):
  bits .or .u64 (U:Int) (IntKind.u64.wrap ((b:Int)*2 ^ (8*k)))=((U+b*256 ^ k:Nat):Int):=by
 have c:(256:Nat) ^ k*256<=18446744073709551616:=by rw[<-Nat.pow_succ];exact Vk (Nat.pow_le_pow_right (by omega) (by omega:k+1<=8)) (by decide)
 have d:b*256 ^ k<=255*256 ^ k:=Ug _ (by omega);rw[show ((b:Int)*2 ^ (8*k))=((b*256 ^ k:Nat):Int) by rw[<-pow_256];simp,Zba,Nat.mod_eq_of_lt (by omega)]
 rw[or_u64 U _ (by omega) (by omega),Nat.or_comm];have h3:=Nat.two_pow_add_eq_or_of_lt (i:=8*k) (b:=U) (by rw[pow_256];exact a) b
 rw[pow_256,Nat.mul_comm (256 ^ k) b] at h3;rw[<-h3,Nat.add_comm]
end
section
open Go.RowKit
theorem Zhs (w:World) (g:Nat) (T:TypeId) (L:List UInt8) (o a cap n:Nat) (h:Zh w g T L) (hl:o+a<=L.length) (h8:a<=8) (hn:n<18446744073709551616) :
  Calls Tryz.prog 122 #[.slice (some ⟨g,o,none⟩) a cap,.int .u64 (n:Int)] w λe w'=>e=.returned (.tuple #[])/\Zh w' g T (Zai L o (le a n))/\Zb (·=g) w w':=by
 suffices hs:Calls Tryz.prog 122 #[.slice (some ⟨g,o,none⟩) a cap,.int .u64 (n:Int)] w λe w'=>e=.returned (.tuple #[])/\w'=w.setCells g o (bv (le a n)) by refine hs.mono ?_;rintro e w' ⟨rfl,rfl⟩;exact⟨rfl,h.lay o _ (by rw[Yg];exact hl),Zu w g o _⟩
 have b:=h.there o a hl;have HT:=Hd b;clear b h;go_enter Tryz.func122,Tryz.ntmps122;go_wp2;go_loopw [7] (λi wr=>∃k:Nat,k<=a/\i=.int .i64 k/\wr=w.setCells g o (bv (le k n))) (λi _=>a - (intOf i).toNat)
 case atStart=>exact⟨0,Vl _,rfl,rfl⟩
 case round =>
  obtain⟨k,q,rfl,rfl⟩:=hrel;by_cases f:k<a
  .obtain⟨c,d⟩:=HT.out k f
   have j:∃v,(w.setCells g o (bv (le k n))).cell? ⟨g,o+k,none⟩=some v:=Option.isSome_iff_exists.1 (World.isSome_setCells g _ _ _ _ c);obtain⟨v,j⟩:=j;have r:(w.setCells g o (bv (le k n))).frozen? ⟨g,o+k,none⟩=false:=by rw[World.frozen?_setCells];exact d
   have l:(w.setCells g o (bv (le k n))).setCell ⟨g,o+k,none⟩ (.int .u8 ((n:Int) / 2 ^ (8*k) % 256))=w.setCells g o (bv (le (k+1) n)):=by have m:=Lib.setCells_snoc_w g (.int .u8 ((n:Int) / 2 ^ (8*k) % 256)) (bv (le k n)) o w;rw[Zk,Yg] at m;rw[m,shr_byte,le_snoc,Zgo];rfl
   have p:=Hd l;clear l c d;generalize w.setCells g o (bv (le k n))=W at *;have s:(k:Int)<(a:Int):=by omega
   go_wp2;go_roundw
   case rel=>exact⟨k+1,by omega,by go_num,p.out⟩
   case measure=>simp[intOf];omega
  .obtain rfl:k=a:=by omega
   go_wp2;go_end0;exact⟨rfl,rfl⟩
theorem told_any (w:World) (v:Value) (l:List UInt8) (hv:IsB w v l) (h8:l.length<=8) :
  Calls Tryz.prog 80 #[v] w λe q=>e=.returned (.int .u64 (leR l:Nat))/\w=q:=by
 obtain⟨a,r,rfl,A,s,d,n⟩:=hv;unfold maxLen at s;have Hc:=Hd n
 clear n;go_enter Tryz.func80,Tryz.ntmps80;go_wp2;go_loop [3,8] (λu i=>∃k U:Nat,k<=l.length/\i=.int .i64 k/\u=.int .u64 (U:Nat)/\Hid (U=leR (l.take k))) (λ_ i=>l.length - (intOf i).toNat)
 case atStart=>exact⟨0,0,Vl _,rfl,rfl,Hd rfl⟩
 case round =>
  obtain⟨k,U,o,rfl,rfl,j⟩:=hrel;by_cases f:k<l.length
  .obtain⟨x,rfl⟩:∃x,a=some x:=by
    cases a with
    | none=>have:=d rfl;omega
    | some x=>exact⟨x,rfl⟩
   obtain⟨B,C,t⟩:=x;obtain⟨p,g⟩:=Hc.out _ rfl;obtain rfl:t=none:=p (by omega);clear p;have hcell:=g k f
   simp only at hcell;clear g Hc;have D:(k:Int)<(l.length:Int):=by omega
   have c:U<256 ^ k:=by have:=leR_lt (l.take k);rw[j.out];rw[List.length_take,Nat.min_eq_left o] at this;exact this
   have y:=or_shl U (l[k]).toNat k c (l[k]).toNat_lt (by omega);have h:U+(l[k]).toNat*256 ^ k=leR (l.take (k+1)):=by rw[List.take_succ_eq_append_getElem f,leR_snoc,List.length_take,Nat.min_eq_left o,j.out]
   have m:=Hd h;clear h c;have z:(l[k]).toNat<256:=(l[k]).toNat_lt;generalize (l[k]).toNat=b at *;generalize U+b*256 ^ k=V at *;go_wp2;go_round
   case rel=>exact⟨k+1,V,by omega,by go_num,rfl,m⟩
   case measure=>simp[intOf];omega
  .obtain rfl:k=l.length:=by omega
   have:=j.out;rw[List.take_length] at this;subst this;go_wp2;go_ret;exact⟨rfl,rfl⟩
end
section
open Go.RowKit
theorem crc_round (R b:Nat) (j:R<4294967296) (hb:b<256):∃a c k l d f m o:Nat,
  bits .xor .u32 (R:Int) (b:Int)=(a:Int)/\bits .and .u32 (a:Int) 15=(c:Int)/\c<16/\UsCrc.nib.getD c 0=k/\(a:Int) / 16=(l:Int) /\
  bits .xor .u32 (k:Int) (l:Int)=(d:Int)/\bits .and .u32 (d:Int) 15=(f:Int)/\f<16/\UsCrc.nib.getD f 0=m/\(d:Int) / 16=(o:Int) /\
  bits .xor .u32 (m:Int) (o:Int)=((UsCrc.byteStep R b:Nat):Int):=by
 have p:∀i,i<16->UsCrc.nib.getD i 0<4294967296:=by decide
 have g:∀x y:Nat,x<4294967296->y<4294967296->bits .xor .u32 (x:Int) (y:Int)=((x ^^^ y:Nat):Int):=λx y s u=>by simpa using u32_xor (x:Int) (y:Int) (by omega) (by omega) (by omega) (by omega)
 have q:∀x:Nat,x<4294967296->bits .and .u32 (x:Int) 15=((x % 16:Nat):Int):=λx s=>by have h:=u32_and (x:Int) 15 (by omega) (by omega) (by omega) (by omega);rw[h,Int.toNat_natCast,show (15:Int).toNat=2 ^ 4 - 1 from rfl,Nat.and_two_pow_sub_one_eq_mod]
 have r:R ^^^ b<4294967296:=Um (n:=32) j (by omega);have t:UsCrc.tab (R ^^^ b)<4294967296:=by rw[UsCrc.tab_eq];exact UsCrc.steps_lt 4 _ r
 refine⟨R ^^^ b,(R ^^^ b) % 16,_,(R ^^^ b) / 16,UsCrc.tab (R ^^^ b),UsCrc.tab (R ^^^ b) % 16,_,UsCrc.tab (R ^^^ b) / 16,
  g R b j (by omega),q _ r,by omega,rfl,by omega,?_,q _ t,by omega,rfl,by omega,?_⟩
 .exact g _ _ (p _ (by omega)) (by omega)
 .rw[g _ _ (p _ (by omega)) (by omega)];have e:=UsCrc.tab_tab (R ^^^ b);rw[UsCrc.byteStep,<-e];rfl
theorem crc_parts (v:Value) (ls:List (List UInt8)) (w:World) (hv:IsBs w v ls)
   (htab:∀i,(h:i<16)->w.cell? ⟨0,i,none⟩=some (.int .u32 ((UsCrc.nib.getD i 0:Nat):Int))) :
    Calls Tryz.prog 123 #[v] w λe P=>e=.returned (.int .u32 (UsCrc.crc ls.flatten))/\w=P:=by
  obtain⟨a,Q,rfl,hl,z,q,F⟩:=hv
  unfold maxLen at z
  have l:=Hd htab
  clear htab
  have G:=Hd F
  clear F
  go_enter Tryz.func123,Tryz.ntmps123
  go_wp2
  go_loop [3,10] (λc i=>∃k:Nat,k<=ls.length/\i=.int .i64 k/\c=.int .u32 (UsCrc.run UsCrc.ones (ls.take k).flatten:Nat)) (λ_ i=>ls.length - (intOf i).toNat)
  case atStart=>exact⟨0,Vl _,rfl,rfl⟩
  case round =>
    obtain⟨k,hk,rfl,rfl⟩:=hrel
    by_cases r:k<ls.length
    . obtain⟨x,rfl⟩:∃x,a=some x:=by
        cases a with
        | none=>have:=q rfl;omega
        | some x=>exact⟨x,rfl⟩
      obtain⟨xb,xo,T⟩:=x
      obtain⟨s,d⟩:=G.out _ rfl
      obtain rfl:T=none:=s (by omega)
      clear s
      obtain⟨u,o,H,I,rfl,U,A,p,t⟩:=d k r
      unfold maxLen at A
      have y:=Hd t
      clear t d G
      simp only at o
      have hp:(k:Int)<(ls.length:Int):=by omega
      go_wp2
      go_loop [3,16] (λc i=>∃j:Nat,j<=ls[k].length/\i=.int .i64 j/\c=.int .u32 (UsCrc.run UsCrc.ones ((ls.take k).flatten++ls[k].take j):Nat)) (λ_ i=>ls[k].length - (intOf i).toNat)
      case atStart=>exact⟨0,Vl _,rfl,by simp⟩
      case round =>
        obtain⟨j,hj,rfl,rfl⟩:=hrel
        by_cases m:j<ls[k].length
        . obtain⟨x,rfl⟩:∃x,H=some x:=by
            cases H with
            | none=>have:=p rfl;omega
            | some x=>exact⟨x,rfl⟩
          obtain⟨V,W,B⟩:=x
          obtain⟨s,d⟩:=y.out _ rfl
          obtain rfl:B=none:=s (by omega)
          clear s
          have g:=d j m
          simp only at g
          clear d y
          have X:(j:Int)<(ls[k].length:Int):=by omega
          have J:=UsCrc.run_lt ((ls.take k).flatten++ls[k].take j) UsCrc.ones (by decide)
          generalize L:UsCrc.run UsCrc.ones ((ls.take k).flatten++ls[k].take j)=R at *
          have Y:=Hd L
          clear L
          have C:(ls[k][j]).toNat<256:=(ls[k][j]).toNat_lt
          have f:UsCrc.run UsCrc.ones ((ls.take k).flatten++ls[k].take (j+1))=UsCrc.byteStep R (ls[k][j]).toNat:=by
            rw[List.take_succ_eq_append_getElem m,<-List.append_assoc,UsCrc.run_append,Y.out];rfl
          generalize (ls[k][j]).toNat=b at *
          obtain⟨c1,D,Z,q1,c2,E,t2,q2,h1,h2,h3,M,h5,h6,h7,h8,N,a0,a1⟩:=crc_round R b J C
          have a3:w.cell? ⟨0,D,none⟩=some (.int .u32 (Z:Int)):=M▸l.out D h3
          have a4:w.cell? ⟨0,E,none⟩=some (.int .u32 (t2:Int)):=N▸l.out E h8
          have a5:(b:Int) % 4294967296=(b:Int):=by omega
          clear M N
          have Hs:=Hd f
          clear f
          generalize UsCrc.byteStep R b=S at *
          have a6:(D:Int)<16:=by omega
          have a7:(E:Int)<16:=by omega
          go_wp2
          go_round
          case rel=>exact⟨j+1,by omega,by go_num,by rw[Hs.out]⟩
          case measure=>simp[intOf];omega
        . obtain rfl:j=ls[k].length:=by omega
          go_wp2
          go_round
          case rel=>exact⟨k+1,by omega,by go_num,by rw[List.take_length,List.take_succ_eq_append_getElem r,List.flatten_append];simp⟩
          case measure=>simp[intOf];omega
    . obtain rfl:k=ls.length:=by omega
      rw[List.take_length]
      have J:=UsCrc.run_lt ls.flatten UsCrc.ones (by decide)
      have O:bits .xor .u32 IntKind.u32.max ((UsCrc.run UsCrc.ones ls.flatten:Nat):Int)=((UsCrc.crc ls.flatten:Nat):Int):=by
        have h:=u32_xor 4294967295 ((UsCrc.run UsCrc.ones ls.flatten:Nat):Int) (by omega) (by omega) (by omega) (by omega)
        have z:IntKind.u32.max=4294967295:=by decide
        rw[z,h];rfl
      have Hx:=Hd O
      clear O
      generalize UsCrc.run UsCrc.ones ls.flatten=R at *
      go_wp2
      go_ret
      exact⟨Vs (λn=>Ending.returned (.int .u32 n)) Hx.out,rfl⟩
end
section
open Go.RowKit
variable {tmps:Array Value}{L l:List UInt8}{g:Nat}{fn:Func}{T t:TypeId}{p:Addr}{v:Value}
theorem info_byte':(Tryz.prog.info? 5).map (λi=>(i.zero,i.size,i.bytes))=some (some (.int .u8 0),1,1):=by kernel_rfl
theorem Zj:(Tryz.prog.info? 159).map (·.size)=some 128:=by kernel_rfl
def Xc:List UInt8:=List.replicate 128 0
theorem Yu:Xc.length=128:=List.length_replicate
theorem zero_frame (w:World):(zeroValue 159).run Tryz.prog w=.ok (.agg (bv Xc).toArray) w:=by kernel_rfl
def Nib (w:World):Prop:=∀i,(h:i<16)->w.cell? ⟨0,i,none⟩=some (.int .u32 ((UsCrc.nib.getD i 0:Nat):Int))
theorem Nib.below {w w':World} (h:Nib w) (hb:Below w.heap.size w w'):Nib w':=λi b=>Zi hb _ _ (h i b)
section
variable {ops : Array Oper} {w : World} {Q : Exit → Act → World → Prop} {a : Act} {o : Oper} {rest : List Oper}
theorem wpList_val (v:Value) (w':World) (hg:o.guard=none) (b:(execOp a.eval o).run Tryz.prog w=.ok (.value v) w') (h:wpList Tryz.prog ops Q rest (a.put o.dst v) w'):wpList Tryz.prog ops Q (o::rest) a w :=
 wpList_plain hg λ_ c=>by unfold Oper.wp;rw[b];exact c _ _ h
theorem Zz (hg:o.guard=none) (b:o.op=.alloc 159)
 (h:wpList Tryz.prog ops Q rest (a.put o.dst (.pointer (some ⟨w.heap.size,0,none⟩))) (w.alloc (.cells (bv Xc).toArray 159))):wpList Tryz.prog ops Q (o::rest) a w:=by
 refine wpList_val _ _ hg ?_ h;unfold execOp;simp only[b,Instr.alloc,Sem.run_bind,zero_frame,Result.andThen_ok];rfl
end
theorem Zh.run_store {w:World} (h:Zh w g T L) (hl:l.length=L.length):(storeCells ⟨g,0,none⟩ (bv l)).run Tryz.prog w=.ok () (w.setCells g 0 (bv l)):=by have b:=run_storeCells_cells (P:=Tryz.prog) g 0 (bv l) 0 w (λj c=>(h.there 0 L.length (by omega) j (by rw[Zk] at c;omega)).1) (λj c=>(h.there 0 L.length (by omega) j (by rw[Zk] at c;omega)).2) (Yq l);simpa using b
theorem layB_all (hl:l.length=L.length):Zai L 0 l=l:=by unfold Zai;rw[List.take_zero,List.nil_append,List.drop_of_length_le (by omega),List.append_nil]
theorem Zh.store {w:World} (h:Zh w g T L) (hl:l.length=L.length):Zh (w.setCells g 0 (bv l)) g T l:=by have:=h.lay 0 l (by omega);rw[layB_all hl] at this;exact this
theorem Zh.run_load {w:World} (h:Zh w g 159 L) (hl:L.length=128):(loadVar 159 ⟨g,0,none⟩).run Tryz.prog w=.ok (.agg (bv L).toArray) w :=
 Uh w g _ _ _ (0,0) _ h Tryz.underlying159 rfl (by rw[Zj,List.size_toArray,Zk,hl])
section
variable {P : Program}
theorem Zhu {a:Tmp} {w:World} (hr:fn.results=#[.cell a t]) (b:tmps.getD a undef=.pointer (some p)) (hv:(loadVar t p).run P w=.ok v w):
  (results fn tmps).run P w=.ok v w:=by
 unfold results;simp only[hr,List.mapM_toArray,List.mapM_cons,List.mapM_nil,b,asAddr,Sem.run_bind,Sem.run_pure,Result.andThen_ok,hv,bind_assoc,pure_bind,Sem.run_map];rfl
theorem Zdz {a:Tmp} {w:World} {b c:Tmp} (hr:fn.results=#[.cell a t,.tmp b,.tmp c]) (d:tmps.getD a undef=.pointer (some p)) (hv:(loadVar t p).run P w=.ok v w):
  (results fn tmps).run P w=.ok (.tuple #[v,tmps.getD b undef,tmps.getD c undef]) w:=by
 unfold results;simp only[hr,List.mapM_toArray,List.mapM_cons,List.mapM_nil,d,asAddr,Sem.run_bind,Sem.run_pure,Result.andThen_ok,hv,bind_assoc,pure_bind,Sem.run_map];rfl
end
theorem layB_mid {a m r v:List UInt8} {o:Nat} (b:a.length=o) (h:m.length=v.length):Zai (a++(m++r)) o v=a++(v++r):=by unfold Zai;rw[List.take_left' b,<-List.append_assoc a m r,List.drop_left' (by rw[List.length_append];omega)]
theorem layB_zeros (write c:Nat) (b:List UInt8):
  Zai (Zai (Zai (Zai Xc 4 (le 8 write)) 12 (le 4 c)) 16 (b.take 112)) 0 (le 4 (UsCrc.crc ((Zai (Zai (Zai Xc 4 (le 8 write)) 12 (le 4 c)) 16 (b.take 112)).drop 4)))=mkF write c b:=by
 have d:=Yg 8 write;have h4:=Yg 4 c;have h:(b.take 112).length<=112:=by simp;omega
 have f:Xc=List.replicate 4 0++(List.replicate 8 0++(List.replicate 4 0++(List.replicate (b.take 112).length 0++List.replicate (112 - (b.take 112).length) 0))):=by unfold Xc;simp only[List.replicate_append_replicate];congr 1;omega
 have e:Zai (Zai (Zai Xc 4 (le 8 write)) 12 (le 4 c)) 16 (b.take 112)=List.replicate 4 0++fbody write c b:=by rw[f,layB_mid (by simp) (by simp[d])];rw[<-List.append_assoc,layB_mid (by simp[d]) (by simp[h4])];rw[<-List.append_assoc,<-List.append_assoc,List.append_assoc,layB_mid (by simp[d,h4]) (by simp)];unfold fbody Zfn;rw[List.append_assoc,List.append_assoc,show 112 - (b.take 112).length=112 - b.length by simp;omega]
 rw[e,List.drop_left' (by simp)];unfold mkF Zai;rw[List.take_zero,List.nil_append,Yg,List.drop_left' (by simp)]
theorem or_kind (c d:Nat) (hk:c<=3) (hp:d<16777216):bits .or .i64 ((c:Int)*16777216) (d:Int)=((c*16777216+d:Nat):Int):=by
 show IntKind.i64.wrap (((BitVec.ofInt 64 ((c:Int)*16777216) ||| BitVec.ofInt 64 (d:Int)).toNat:Nat):Int)=_
 rw[show ((c:Int)*16777216)=((c*16777216:Nat):Int) by simp,BitVec.toNat_or,BitVec.ofInt_natCast,BitVec.ofInt_natCast,BitVec.toNat_ofNat,BitVec.toNat_ofNat,Nat.mod_eq_of_lt (by omega),Nat.mod_eq_of_lt (by omega)]
 have e:=Nat.two_pow_add_eq_or_of_lt (i:=24) (b:=d) hp c;rw[show (2:Nat) ^ 24*c=c*16777216 by omega] at e
 rw[<-e,IntKind.wrap_i64];omega
theorem Zfl (w:World) (write f d:Nat) (v:Value) (b:List UInt8) (hw:write<18446744073709551616) (hk:f<=3) (hp:d<16777216) (hb:IsB w v b) (hn:Nib w):
  Calls Tryz.prog 91 #[.int .u64 (write:Int),.int .i64 (f:Int),.int .i64 (d:Int),v] w λe w'=>e=.returned (.agg (bv (mkF write (f*16777216+d) b)).toArray)/\Below w.heap.size w w':=by
 have y:=Yu;have hle:=Yg 8 write;go_enter Tryz.func91,Tryz.ntmps91;go_wp2_with (refine Zz rfl rfl ?_);have z:Below w.heap.size w ((w.alloc (.cells (bv Xc).toArray 159)).alloc (.cells (bv Xc).toArray 159)):=((Ve _ _).alloc (Va _) _).alloc (by simp) _;have A:Zh ((w.alloc (.cells (bv Xc).toArray 159)).alloc (.cells (bv Xc).toArray 159)) w.heap.size 159 Xc:=(Zh.alloc _ _ _).below ((Ve _ _).alloc (Va _) _);have C:Zh ((w.alloc (.cells (bv Xc).toArray 159)).alloc (.cells (bv Xc).toArray 159)) (w.heap.size+1) 159 Xc:=by have:=Zh.alloc (w.alloc (.cells (bv Xc).toArray 159)) 159 Xc;simpa using this
 refine(Zhs _ (w.heap.size+1) 159 Xc 4 8 124 write C (by omega) (by omega) hw).mono ?_;rintro e w1 ⟨rfl,D,J⟩;have hR1:=A.turned J (by omega)
 have n:=z.trans (J.below (B:=w.heap.size) (by simp;omega) (λk hk=>by omega));clear A C z J;have hor:=or_kind f d hk hp;have a0:f*16777216+d<4294967296:=by omega
 generalize m:f*16777216+d=h at *;have Hkp:=Hd m
 clear m;have V:((h:Nat):Int) % 4294967296=(h:Int):=by omega
 have E:(Zai Xc 4 (le 8 write)).length=128:=(Zid (by omega)).trans y;go_wp2_with fail;refine(Zhs _ (w.heap.size+1) 159 _ 12 4 116 h D (by omega) (by omega) (by omega)).mono ?_;rintro e W ⟨rfl,q,M⟩;have hR2:=hR1.turned M (by omega);have hB2:=n.trans (M.below (B:=w.heap.size) n.size (λk hk=>by omega));have F:(Zai (Zai Xc 4 (le 8 write)) 12 (le 4 h)).length=128:=(Zid (by rw[Yg];omega)).trans E;clear hR1 D n M hor;have hb2:=hb.below hB2;have hcp:=run_copy_row q 16 112 112 (by omega) hb2 77 5 3 Tryz.underlying77 info_byte' (by obtain⟨a,c,_,h1,h2,_⟩:=hb;unfold maxLen at h2;omega);have hF3:=q.lay 16 (b.take 112) (by simp;omega);have t3:=Zu W (w.heap.size+1) 16 (bv (b.take 112));have hR3:=hR2.turned t3 (by omega);have hB3:=hB2.trans (t3.below (B:=w.heap.size) hB2.size (λk hk=>by omega));have G:(Zai (Zai (Zai Xc 4 (le 8 write)) 12 (le 4 h)) 16 (b.take 112)).length=128:=(Zid (by simp;omega)).trans F;have HL:=Hd (layB_zeros write h b);generalize W.setCells (w.heap.size+1) 16 (bv (b.take 112))=x at *;generalize Zai (Zai (Zai Xc 4 (le 8 write)) 12 (le 4 h)) 16 (b.take 112)=L3 at *;clear q hR2 hB2 t3 hb2 E F y hle;go_upto_region 5 with fail;clear hcp;have hcl:=crc_lt (L3.drop 4);have N:(L3.drop 4).length=124:=by simp[G]
 have X:IsBs (x.alloc (.cells #[.slice (some ⟨w.heap.size+1,4,none⟩) 124 124] 77)).drew (.slice (some ⟨x.heap.size,0,none⟩) 1 1) [L3.drop 4] :=
  isBs_lit (w:=x) 77 [.slice (some ⟨w.heap.size+1,4,none⟩) 124 124] [L3.drop 4] (by simp[maxLen]) (λi hi=>by
   obtain rfl:i=0:=by simpa using hi
   refine⟨_,rfl,?_⟩;have:=hF3.isB 4 124 124 (by omega) (Va _) (by simp[maxLen])
   rw[List.take_of_length_le (by omega)] at this
   exact this)
 have H:Zh (x.alloc (.cells #[.slice (some ⟨w.heap.size+1,4,none⟩) 124 124] 77)).drew (w.heap.size+1) 159 L3:=hF3.below ((Ve _ _).alloc (Va _) _).drew;have I:Zh (x.alloc (.cells #[.slice (some ⟨w.heap.size+1,4,none⟩) 124 124] 77)).drew w.heap.size 159 Xc:=hR3.below ((Ve _ _).alloc (Va _) _).drew;have j:Below w.heap.size w (x.alloc (.cells #[.slice (some ⟨w.heap.size+1,4,none⟩) 124 124] 77)).drew:=(hB3.alloc hB3.size _).drew;have hC:=crc_parts _ _ _ X (hn.below j);rw[show [L3.drop 4].flatten=L3.drop 4 by simp] at hC
 have Y:=Hd hC;clear X hC hR3 hF3 hB3;generalize UsCrc.crc (L3.drop 4)=c at *;obtain⟨Z,O⟩:0+4<=L3.length/\c<18446744073709551616:=by omega
 have HN:=Hd (Zhs _ (w.heap.size+1) 159 L3 0 4 128 c H Z (by omega) O);have R:IntKind.u64.wrap (c:Int)=(c:Int):=by rw[Zba,Nat.mod_eq_of_lt O]
 clear H Z O hcl N;go_region_with (first | (go_at_call 123;((with_reducible refine Y.out.mono ?_);rintro e wx ⟨rfl,rfl⟩)) | (go_at_call 122;((with_reducible refine HN.out.mono ?_);rintro e w5 ⟨rfl,r,S⟩)));have hR5:=I.turned S (by omega)
 have s:=j.trans (S.below (B:=w.heap.size) j.size (λk hk=>by omega));rw[HL.out] at r;have hl5:=Xf write h b;generalize hm:mkF write h b=u at *;have HK:=Hd (And.intro Hkp.out hm);clear hm;clear I j S Y HN G HL R;have hrg:=r.range;have U:(bv u).length=128:=by rw[Zk,hl5]
 have a1:=hR5.run_store (l:=u) (by rw[hl5,Yu]);have hR6:=hR5.store (l:=u) (by rw[hl5,Yu]);have hB6:=s.trans ((Zu w5 w.heap.size 0 (bv u)).below (B:=w.heap.size) s.size (λk hk=>by omega));have hv:=hR6.run_load hl5;generalize w5.setCells w.heap.size 0 (bv u)=w6 at *;clear r hR6 hR5 s;go_wp2_with (refine wpList_load_mid rfl 159 (.tmp 9) rfl (w.heap.size+1) 0 rfl (bv u) _ hrg Tryz.underlying159 rfl (by rw[Zj,U]) ?_);refine Vn (v:=.agg (bv u).toArray) (Zhu Tryz.results91 rfl hv) rfl ⟨?_,hB6⟩;rw[HK.out.1,HK.out.2]
end
section
open Go.RowKit
theorem Xj (w:World) (L:List UInt8) (hl:L.length=128) :
  Calls Tryz.prog 77 #[.agg (bv L).toArray] w λe w'=>e=.returned (.int .u64 (Zm L:Nat))/\Below w.heap.size w w':=by
 have a:=Zh.alloc w 159 L;have ht:=told_any _ _ _ (a.isB 4 8 124 (by omega) (by omega) (by simp[maxLen])) (by simp;omega);have HT:=Hd ht;have b:Below w.heap.size w (w.alloc (.cells (bv L).toArray 159)):=(Ve _ _).alloc (Va _) _;clear ht a;go_enter Tryz.func77,Tryz.ntmps77;go_wp2_with fail;refine HT.out.mono ?_;rintro e w' ⟨rfl,rfl⟩;go_wp2_with fail;go_ret;exact⟨rfl,b⟩
theorem fkind_any (w:World) (L:List UInt8) (hl:L.length=128) :
  Calls Tryz.prog 114 #[.agg (bv L).toArray] w λe w'=>e=.returned (.int .i64 (Zav L:Nat))/\Below w.heap.size w w':=by
 have b:=Zh.alloc w 159 L;have hc:=b.cell 15 (by omega);have a:(L[15]'(by omega)).toNat=Zav L:=by unfold Zav;rw[List.getD_eq_getElem?_getD,List.getElem?_eq_getElem (by omega)];rfl
 rw[a] at hc;have c:Zav L<256:=by rw[<-a];exact UInt8.toNat_lt _
 have d:Below w.heap.size w (w.alloc (.cells (bv L).toArray 159)):=(Ve _ _).alloc (Va _) _;generalize Zav L=k at *;clear b a;go_enter Tryz.func114,Tryz.ntmps114;go_wp2_with fail;go_ret;exact⟨rfl,d⟩
theorem int_beq (r c:Nat):((r:Int)==(c:Int))=decide (r=c):=by rw[Bool.eq_iff_iff];simp;omega
theorem and_place (n:Nat) (h:n<4294967296):bits .and .u64 (n:Int) 16777215=((n % 16777216:Nat):Int):=by
 have a:=and_u64 n 16777215 (by omega) (by omega);rw[show ((16777215:Nat):Int)=16777215 from rfl] at a
 rw[a,show (16777215:Nat)=2 ^ 24 - 1 from rfl,Nat.and_two_pow_sub_one_eq_mod]
theorem fkp_lt (L:List UInt8) (hl:L.length=128):fkp L<4294967296:=by
 have:=leR_lt ((L.drop 12).take 4);rw[show ((L.drop 12).take 4).length=4 by simp[hl]] at this
 exact this
theorem fwrite_lt (L:List UInt8) (hl:L.length=128):Zm L<18446744073709551616:=by
 have:=leR_lt ((L.drop 4).take 8);rw[show ((L.drop 4).take 8).length=8 by simp[hl]] at this
 exact this
theorem Zgs (L:List UInt8):Zp L<16777216:=Nat.mod_lt _ (by decide)
theorem Qg (w:World) (L:List UInt8) (hl:L.length=128) :
  Calls Tryz.prog 78 #[.agg (bv L).toArray] w λe w'=>e=.returned (.int .i64 (Zp L:Nat))/\Below w.heap.size w w':=by
 have a:=Zh.alloc w 159 L;have ht:=told_any _ _ _ (a.isB 12 4 116 (by omega) (by omega) (by simp[maxLen])) (by simp;omega);have HT:=Hd ht;have c:Below w.heap.size w (w.alloc (.cells (bv L).toArray 159)):=(Ve _ _).alloc (Va _) _;have hand:=and_place (fkp L) (fkp_lt L hl);unfold fkp at hand;have hlt:=Zgs L;have b:leR ((L.drop 12).take 4) % 16777216=Zp L:=rfl;rw[b] at hand;clear ht a b;generalize Zp L=k at *;go_enter Tryz.func78,Tryz.ntmps78;go_wp2_with fail;refine HT.out.mono ?_;rintro e w' ⟨rfl,rfl⟩;go_wp2_with fail;go_ret;exact⟨rfl,c⟩
theorem fbytes_any (w:World) (L:List UInt8) (hl:L.length=128) :
  Calls Tryz.prog 81 #[.agg (bv L).toArray] w λe a=>e=.returned (.slice (some ⟨w.heap.size,16,none⟩) 112 112)/\a=w.alloc (.cells (bv L).toArray 159):=by
 go_enter Tryz.func81,Tryz.ntmps81;go_wp2_with fail;go_ret;exact⟨rfl,rfl⟩
theorem fright_any (w:World) (L:List UInt8) (hl:L.length=128) (hn:Nib w) :
  Calls Tryz.prog 113 #[.agg (bv L).toArray] w λe w'=>e=.returned (.bool (Zao L))/\Below w.heap.size w w':=by
 obtain⟨W1,a⟩:∃W1,W1=w.alloc (.cells (bv L).toArray 159):=⟨_,rfl⟩;have g:Zh W1 w.heap.size 159 L:=by rw[a];exact Zh.alloc w 159 L
 have b:Below w.heap.size w W1:=by rw[a];exact(Ve _ _).alloc (Va _) _
 have h:(L.drop 4).length=124:=by simp[hl]
 have j:IsBs (W1.alloc (.cells #[.slice (some ⟨w.heap.size,4,none⟩) 124 124] 77)).drew (.slice (some ⟨W1.heap.size,0,none⟩) 1 1) [L.drop 4] :=
  isBs_lit (w:=W1) 77 [.slice (some ⟨w.heap.size,4,none⟩) 124 124] [L.drop 4] (by simp[maxLen]) (λi l=>by
   obtain rfl:i=0:=by simpa using l
   refine⟨_,rfl,?_⟩;have:=g.isB 4 124 124 (by omega) (Va _) (by simp[maxLen])
   rw[List.take_of_length_le (by omega)] at this
   exact this)
 have f:=g.isB 0 4 128 (by omega) (by omega) (by simp[maxLen]);rw[List.drop_zero] at f;have d:Below w.heap.size w (W1.alloc (.cells #[.slice (some ⟨w.heap.size,4,none⟩) 124 124] 77)).drew:=(b.alloc b.size _).drew;have hT1:=Hd (told_any W1.drew _ _ f (by simp;omega));have hT2:=Hd (told_any (W1.alloc (.cells #[.slice (some ⟨w.heap.size,4,none⟩) 124 124] 77)).drew _ _ (f.alloc _) (by simp;omega));have hC:=crc_parts _ _ _ j (hn.below d);rw[show [L.drop 4].flatten=L.drop 4 by simp] at hC
 have m:=Hd hC;have hcl:=crc_lt (L.drop 4);have n:Hid (Zao L=decide (leR (L.take 4)=UsCrc.crc (L.drop 4))):=rfl;have o:IntKind.u64.wrap ((UsCrc.crc (L.drop 4):Nat):Int)=((UsCrc.crc (L.drop 4):Nat):Int):=by rw[Zba,Nat.mod_eq_of_lt (by omega)]
 generalize UsCrc.crc (L.drop 4)=c at *;generalize leR (L.take 4)=r at *;clear j hC f hcl g h;go_enter Tryz.func113,Tryz.ntmps113;go_upto_region 1 with fail;rw[<-a];clear a;go_region_with (first | (go_at_call 123;((with_reducible refine m.out.mono ?_);rintro e k ⟨rfl,rfl⟩)) | (go_at_call 80;((with_reducible refine hT1.out.mono ?_);rintro e k ⟨rfl,rfl⟩)) | (go_at_call 80;((with_reducible refine hT2.out.mono ?_);rintro e k ⟨rfl,rfl⟩)))
 all_goals go_wp2
 all_goals go_ret
 all_goals
  refine⟨?_,d⟩
  rw[n.out]
  show Ending.returned (.bool ((r:Int)==(c:Int)))=_
  rw[int_beq]
end
section
open Go.RowKit
theorem le_wrap (n:Int):IntKind.u64.wrap n=((n % 18446744073709551616).toNat:Nat):=by rw[IntKind.wrap_u64];omega
def Xl (write blocks:Nat) (seq:Int):List UInt8:=mkF write (1*16777216+blocks) (le 8 (seq % 18446744073709551616).toNat)
theorem run_make8 (w:World):(Instr.makeSlice 77 (.int .i64 8) (.int .i64 8)).run Tryz.prog w=.ok (.slice (some ⟨w.heap.size,0,none⟩) 8 8) (w.alloc (.cells (bv (List.replicate 8 0)).toArray 5)):=by kernel_rfl
theorem marked_any (w:World) (write a:Nat) (seq:Int) (h1:write<18446744073709551616) (h2:a<16777216) (hn:Nib w) :
  Calls Tryz.prog 94 #[.int .u64 (write:Int),.int .i64 (a:Int),.int .i64 seq] w λe w'=>e=.returned (.agg (bv (Xl write a seq)).toArray)/\Below w.heap.size w w':=by
 have m:=λw=>run_make8 w;have hws:=le_wrap seq;have t:Hid (Xl write a seq=mkF write (1*16777216+a) (le 8 (seq % 18446744073709551616).toNat)):=Hd rfl;have o:(seq % 18446744073709551616).toNat<18446744073709551616:=by omega
 generalize (seq % 18446744073709551616).toNat=n at *;go_enter Tryz.func94,Tryz.ntmps94;go_wp2_with (refine Zz rfl rfl ?_);have h:Below w.heap.size w ((w.alloc (.cells (bv Xc).toArray 159)).alloc (.cells (bv [0,0,0,0,0,0,0,0]).toArray 5)):=((Ve _ _).alloc (Va _) _).alloc (by simp) _
 have i:Zh ((w.alloc (.cells (bv Xc).toArray 159)).alloc (.cells (bv [0,0,0,0,0,0,0,0]).toArray 5)) w.heap.size 159 Xc:=(Zh.alloc _ _ _).below ((Ve _ _).alloc (Va _) _);have j:Zh ((w.alloc (.cells (bv Xc).toArray 159)).alloc (.cells (bv [0,0,0,0,0,0,0,0]).toArray 5)) (w.heap.size+1) 5 [0,0,0,0,0,0,0,0]:=by have:=Zh.alloc (w.alloc (.cells (bv Xc).toArray 159)) 5 [0,0,0,0,0,0,0,0];simpa using this
 refine(Zhs _ (w.heap.size+1) 5 _ 0 8 8 n j (by simp) (by omega) o).mono ?_;rintro e u ⟨rfl,d,p⟩;rw[layB_all (by simp[Yg])] at d;have hR1:=i.turned p (by omega)
 have b:=h.trans (p.below (B:=w.heap.size) (by simp;omega) (λk x=>by omega));have hle:=Yg 8 n;have hb1:=d.isB 0 8 8 (by omega) (by omega) (by simp[maxLen]);rw[List.drop_zero,List.take_of_length_le (by omega)] at hb1;have HF:=Hd (Zfl u write 1 a _ _ h1 (by omega) h2 hb1 (hn.below b));clear i j h p hws m hle hb1 d;go_wp2_with fail;refine HF.out.mono ?_;rintro e r ⟨rfl,f⟩;have hR2:=hR1.below (f.mono (Va _));have hB3:=b.trans (f.mono b.size);rw[<-t.out];have c:(Xl write a seq).length=128:=Xf _ _ _;generalize s:Xl write a seq=g at *;have HK:=Hd s;clear s;have hst:=hR2.run_store (l:=g) (by rw[c,Yu]);have hR6:=hR2.store (l:=g) (by rw[c,Yu]);have y:(bv g).length=128:=by rw[Zk,c]
 have q:=hB3.trans ((Zu r w.heap.size 0 (bv g)).below (B:=w.heap.size) hB3.size (λk x=>by omega));have hv:=hR6.run_load c;generalize r.setCells w.heap.size 0 (bv g)=z at *;clear hR6 hR2 hR1 b f hB3 HF;go_wp2_with fail;exact Vn (v:=.agg (bv g).toArray) (Zhu Tryz.results94 rfl hv) rfl ⟨by rw[HK.out],q⟩
end
section
open Go.RowKit
variable {w w':World}{l b:List UInt8}{n i:Nat}
structure Dk where
 n:Nat
 safe:List UInt8
 now:List UInt8
 hung:List (Nat × List UInt8)
 ops:Nat
 cut:Int
 off:Bool
def sec (l:List UInt8) (i:Nat):List UInt8:=(l.drop (i*128)).take 128
def Zaj (l:List UInt8) (i:Nat) (b:List UInt8):List UInt8:=l.take (i*128)++(b++l.drop (i*128+128))
structure Dk.Ok (D:Dk):Prop where
 n1:1<=D.n
 nm:D.n<=16384
 safe:D.safe.length=D.n*128
 now:D.now.length=D.n*128
 hung:∀x∈D.hung,x.1<D.n/\x.2.length=128
 loose:D.hung.length<=D.ops
 ops:D.ops<=1048576
 c1:-9223372036854775808<=D.cut
 c2:D.cut<=9223372036854775807
theorem Qh (hl:l.length=n*128) (a:i<n):(sec l i).length=128:=by simp only[sec,List.length_take,List.length_drop];omega
theorem Qd (hl:l.length=n*128) (hb:b.length=128) (a:i<n):(Zaj l i b).length=n*128:=by simp only[Zaj,List.length_append,List.length_take,List.length_drop];omega
theorem Qp (hl:l.length=n*128) (hb:b.length=128) (a:i<n):sec (Zaj l i b) i=b:=by unfold sec Zaj;rw[List.drop_append_of_le_length (by simp;omega)];rw[List.drop_eq_nil_of_le (by simp;omega),List.nil_append,List.take_append_of_le_length (by omega),List.take_of_length_le (by omega)]
theorem Xg {j:Nat} (hl:l.length=n*128) (hb:b.length=128) (a:i<n) (hj:j<n) (hne:j≠i):sec (Zaj l i b) j=sec l j:=by
 apply List.ext_getElem?;intro k;simp only[sec,Zaj,List.getElem?_take,List.getElem?_drop,List.getElem?_append,List.length_take]
 split<;>try rfl
 rcases Nat.lt_or_gt_of_ne hne with h | h
 .rw[if_pos (by omega),if_pos (by omega)]
 .rw[if_neg (by omega),if_neg (by omega)];congr 1;omega
def Qz (w:World) (g cap n:Nat) (l:List UInt8):Prop :=
 ∃cur:Array Value,w.heap[g]?=some (.cells cur 108 (0,0))/\n<=cap/\cap<=maxLen/\cur.size=cap*128/\l.length=n*128/\cur.toList.take l.length=bv l
def looseV (k:Nat) (cs:List Value):Value:=.agg ((.int .i64 (k:Int))::cs).toArray
abbrev loose (x:Nat × List UInt8):Value:=looseV x.1 (bv x.2)
def Hung (w:World) (g:Nat) (L:List (Nat × List UInt8)):Prop :=
 ∃(es:List MapEntry) (clock:Nat),w.heap[g]?=some (.map es.toArray clock)/\es.length=L.length/\∀i (h:i<L.length),∃b,es[i]?=some ⟨.int .i64 (i:Int),loose L[i],b⟩
structure Ft where
 p:Nat
 S:Nat
 N:Nat
 M:Nat
 cS:Nat
 cN:Nat
def Ft.has (F:Ft) (k:Nat):Prop:=k=F.p\/k=F.S\/k=F.N\/k=F.M
structure Ft.Ok (F:Ft):Prop where
 pS:F.p≠F.S
 pN:F.p≠F.N
 pM:F.p≠F.M
 SN:F.S≠F.N
 SM:F.S≠F.M
 NM:F.N≠F.M
structure Xd (w:World) (F:Ft) (D:Dk):Prop where
 ft:F.Ok
 ok:D.Ok
 head:w.heap[F.p]?=some (.cells #[.slice (some ⟨F.S,0,none⟩) D.n F.cS,.slice (some ⟨F.N,0,none⟩) D.n F.cN,.map (some F.M),.int .i64 (D.ops:Int),.int .i64 D.cut,.bool D.off] 89 (0,0))
 safe:Qz w F.S F.cS D.n D.safe
 now:Qz w F.N F.cN D.n D.now
 hung:Hung w F.M D.hung
theorem Xd.lt {F:Ft} {D:Dk} (h:Xd w F D) {k:Nat} (hk:F.has k):k<w.heap.size:=by
 obtain⟨c,d,_⟩:=h.safe;obtain⟨f,a,_⟩:=h.now;obtain⟨g,j,e,_⟩:=h.hung;rcases hk with rfl | rfl | rfl | rfl
 .exact Za h.head
 .exact Za d
 .exact Za a
 .exact Za e
theorem Xd.keep {F:Ft} {D:Dk} (h:Xd w F D) (hw:∀k,F.has k->w'.heap[k]?=w.heap[k]?):Xd w' F D:=by have a:=hw F.p (.inl rfl);have hS:=hw F.S (.inr (.inl rfl));have hN:=hw F.N (.inr (.inr (.inl rfl)));have hM:=hw F.M (.inr (.inr (.inr rfl)));exact⟨h.ft,h.ok,a.trans h.head,by unfold Qz;rw[hS];exact h.safe,by unfold Qz;rw[hN];exact h.now,by unfold Hung;rw[hM];exact h.hung⟩
theorem Xd.below {F:Ft} {D:Dk} (h:Xd w F D) (hb:Below w.heap.size w w'):Xd w' F D:=h.keep λk a=>hb.block k (h.lt a)
theorem Xd.drew {F:Ft} {D:Dk} (h:Xd w F D):Xd w.drew F D:=h.keep λ_ _=>rfl
abbrev Ft.ptr (F:Ft):Value:=.pointer (some ⟨F.p,0,none⟩)
theorem Xd.cells {F:Ft} {D:Dk} (h:Xd w F D):
  w.cell? ⟨F.p,0,none⟩=some (.slice (some ⟨F.S,0,none⟩) D.n F.cS)/\w.cell? ⟨F.p,1,none⟩=some (.slice (some ⟨F.N,0,none⟩) D.n F.cN)/\w.cell? ⟨F.p,2,none⟩=some (.map (some F.M)) /\
   w.cell? ⟨F.p,3,none⟩=some (.int .i64 (D.ops:Int))/\w.cell? ⟨F.p,4,none⟩=some (.int .i64 D.cut)/\w.cell? ⟨F.p,5,none⟩=some (.bool D.off):=by
 refine⟨?_,?_,?_,?_,?_,?_⟩<;>· rw[Vc _ _ _ _ _ _ h.head];rfl
end
section
open Go.RowKit
theorem findNow_none (L:List MapEntry):∀(a k n:Nat),(∀j (h:j<L.length),(L[j]).key=.int .i64 ((a+j:Nat):Int))->n>=a+L.length ->
  Instr.findNow (.int .i64) (.int .i64 (n:Int)) L k=some none:=by
 induction L with
 | nil=>intro a k n b h;rfl
 | cons e r c =>
  intro a k n b h;have h0:=b 0 (by simp)
  simp only[List.getElem_cons_zero,Nat.add_zero] at h0;simp only[List.length_cons] at h;have d:(((n:Nat):Int)==((a:Nat):Int))=false:=beq_eq_false_iff_ne.2 (by omega)
  simp only[Instr.findNow,h0,Instr.sameNow,d,if_true];exact c (a+1) (k+1) n (λj f=>by have:=b (j+1) (by simp;omega);simpa [Nat.add_assoc,Nat.add_comm 1] using this) (by omega)
section
variable {w : World} {M : Nat} {L : List (Nat × List UInt8)}
set_option maxRecDepth 100000 in
theorem run_len_hung (h:Hung w M L) (ty:TypeId):(Builtin.len_ #[87] ty #[.map (some M)]).run Tryz.prog w=.ok (.int .i64 (L.length:Int)) w:=by obtain⟨es,cl,hm,hl,_⟩:=h;rw[run_len_map (P:=Tryz.prog) (w:=w) 87 ty M es.toArray cl Tryz.underlying87 hm];simp[goInt,hl]
theorem run_put_hung (h:Hung w M L) (x:Nat × List UInt8):∃c a,w.heap[M]?=some (.map c a) /\
  (Instr.mapUpdate 87 (.map (some M)) (.int .i64 (L.length:Int)) (loose x)).run Tryz.prog w=.ok () { w with heap:=w.heap.setIfInBounds M (.map (c.push ⟨.int .i64 (L.length:Int),loose x,a⟩) (a+1)) } /\
   Hung { w with heap:=w.heap.setIfInBounds M (.map (c.push ⟨.int .i64 (L.length:Int),loose x,a⟩) (a+1)) } M (L++[x]):=by
 obtain⟨c,a,e,g,l⟩:=h;have m:∀j (h:j<c.length),(c[j]).key=.int .i64 ((0+j:Nat):Int):=λj n=>by obtain⟨b,f⟩:=l j (by omega);rw[List.getElem?_eq_getElem n] at f;rw[Ud f,Nat.zero_add]
 have o:=findNow_none c 0 0 L.length m (by omega);refine⟨c.toArray,a,e,?_,?_⟩
 .simp[Instr.mapUpdate,run_underlying Tryz.underlying87,Go.MapKept.run_getObj_map e,Go.MapKept.run_checkKey (P:=Tryz.prog) (k:=.int .i64 (L.length:Int)) Tryz.underlying3 (by simp[Go.MapKept.IsKey]),Vz (P:=Tryz.prog) Tryz.underlying3 o,Go.MapKept.run_setObj_map _ e,Result.andThen]
 .have hlt:=Za e
  refine⟨c++[⟨.int .i64 (L.length:Int),loose x,a⟩],a+1,?_,by simp[g],λi p=>?_⟩
  .show (w.heap.setIfInBounds M _)[M]?=_
   rw[Array.getElem?_setIfInBounds_self_of_lt hlt];simp
  .by_cases d:i<L.length
   .obtain⟨b,f⟩:=l i d;exact⟨b,by rw[List.getElem?_append_left (by omega),List.getElem_append_left d];exact f⟩
   .have:i=L.length:=by simp at p;omega
    subst this;exact⟨a,by rw[List.getElem?_append_right (by omega)];simp[g]⟩
end
end
section
open Go.RowKit
variable {w:World}{F:Ft}
theorem Zbt (w:World) (F:Ft) (D:Dk) (h:Xd w F D):Calls Tryz.prog 41 #[F.ptr] w λe a=>e=.returned (.int .i64 (D.n:Int))/\w=a:=by obtain⟨b,c,d,f,g,i⟩:=h.cells;go_enter Tryz.func41,Tryz.ntmps41;go_wp2;go_ret;exact⟨rfl,rfl⟩
theorem has_any (w:World) (F:Ft) (D:Dk) (h:Xd w F D) (a:Int) (h1:-9223372036854775808<=a) (h2:a<=9223372036854775807):
  Calls Tryz.prog 59 #[F.ptr,.int .i64 a] w λe c=>e=.returned (.bool (decide (0<=a/\a<D.n)))/\w=c:=by
 obtain⟨f,g,i,j,k,l⟩:=h.cells;by_cases b:0<=a
 .have d:decide (0<=a)=true:=by simp[b]
  go_enter Tryz.func59,Tryz.ntmps59;go_wp2;go_ret;exact⟨by simp[b],rfl⟩
 .have d:decide (0<=a)=false:=by simp;omega
  go_enter Tryz.func59,Tryz.ntmps59;go_wp2;go_ret;exact⟨by simp[b],rfl⟩
theorem turned_p (w:World) (F:Ft) (i:Nat) (v:Value):Zb (·=F.p) w (w.setCell ⟨F.p,i,none⟩ v) :=
 ⟨rfl,rfl,rfl,by simp[World.setCell],λk b a=>Vx _ _ _ _ a⟩
theorem Zb.has_of_p {w':World} (h:Zb (·=F.p) w w'):Zb F.has w w':=h.mono λ_ _ e=>.inl e
theorem Xd.put_off {D:Dk} (h:Xd w F D) (b:Bool):Xd (w.setCell ⟨F.p,5,none⟩ (.bool b)) F { D with off:=b }:=by have k:=h.ft;have ht:=turned_p w F 5 (.bool b);have a:∀j,j≠F.p->(w.setCell ⟨F.p,5,none⟩ (.bool b)).heap[j]?=w.heap[j]?:=λj c=>Vx _ _ _ _ c;exact⟨h.ft,⟨h.ok.n1,h.ok.nm,h.ok.safe,h.ok.now,h.ok.hung,h.ok.loose,h.ok.ops,h.ok.c1,h.ok.c2⟩,Ze h.head _,by unfold Qz;rw[a _ k.pS.symm];exact h.safe,by unfold Qz;rw[a _ k.pN.symm];exact h.now,by unfold Hung;rw[a _ k.pM.symm];exact h.hung⟩
theorem Xd.put_ops {D:Dk} (h:Xd w F D) (o:Nat) (h1:D.hung.length<=o) (h2:o<=1048576):Xd (w.setCell ⟨F.p,3,none⟩ (.int .i64 (o:Int))) F { D with ops:=o }:=by have k:=h.ft;have a:∀j,j≠F.p->(w.setCell ⟨F.p,3,none⟩ (.int .i64 (o:Int))).heap[j]?=w.heap[j]?:=λj b=>Vx _ _ _ _ b;exact⟨h.ft,⟨h.ok.n1,h.ok.nm,h.ok.safe,h.ok.now,h.ok.hung,h1,h2,h.ok.c1,h.ok.c2⟩,Ze h.head _,by unfold Qz;rw[a _ k.pS.symm];exact h.safe,by unfold Qz;rw[a _ k.pN.symm];exact h.now,by unfold Hung;rw[a _ k.pM.symm];exact h.hung⟩
def Dk.gone (D:Dk):Bool:=D.off||(decide (0<=D.cut)&&decide (D.cut<=(D.ops:Int)))
theorem Zcy (w:World) (F:Ft) (D:Dk) (h:Xd w F D):
  Calls Tryz.prog 143 #[F.ptr] w λe w'=>e=.returned (.int .i64 (if D.gone then 43 else 0))/\Xd w' F { D with off:=D.gone }/\Zb (·=F.p) w w':=by
 obtain⟨l,m,n,o,q,r⟩:=h.cells;have f5:=Zf h.head 5
 have i:=h.put_off D.gone;have ht:=turned_p w F 5 (.bool D.gone);generalize b:D.gone=g at *;unfold Dk.gone at b;have HD:=Hd (And.intro i.drew ht.drew);clear i ht;have ho6:=h.ok.ops;have hcu:=h.ok.c1;have hcv:=h.ok.c2;clear h;generalize D.cut=a at *;generalize D.ops=c at *;generalize D.off=off at *
 cases off with
 | true =>
  obtain rfl:g=true:=by simpa using b.symm
  clear b;go_enter Tryz.func143,Tryz.ntmps143;go_wp2;go_region;go_wp2;go_ret;exact⟨rfl,HD.out⟩
 | false =>
  by_cases d:0<=a
  .by_cases f:a<=(c:Int)
   .obtain rfl:g=true:=by simpa [d,f] using b.symm
    have j:decide (0<=a)=true:=by simp[d]
    have k:decide (a<=(c:Int))=true:=by simp[f]
    clear b;go_enter Tryz.func143,Tryz.ntmps143;go_wp2;go_region;go_wp2;go_ret;exact⟨rfl,HD.out⟩
   .obtain rfl:g=false:=by simpa [d,f] using b.symm
    have j:decide (0<=a)=true:=by simp[d]
    have k:decide (a<=(c:Int))=false:=by simpa using f
    clear b;go_enter Tryz.func143,Tryz.ntmps143;go_wp2;go_region;go_wp2;go_ret;exact⟨rfl,HD.out⟩
  .obtain rfl:g=false:=by simpa [d] using b.symm
   have j:decide (0<=a)=false:=by simpa using d
   clear b;go_enter Tryz.func143,Tryz.ntmps143;go_wp2;go_region;go_wp2;go_ret;exact⟨rfl,HD.out⟩
end
section
open Go.RowKit
variable {cap n g:Nat}{l:List UInt8}{F:Ft}
theorem Zem:(Tryz.prog.info? 108).map (λi=>i.size)=some 128:=by kernel_rfl
def Dk.write (D:Dk) (at_:Int) (l:List UInt8):Int × Dk :=
 if D.gone then (43,{ D with off:=true })
 else if ¬(0<=at_/\at_<D.n) then (41,{ D with off:=false })
 else if l.length≠128 then (42,{ D with off:=false })
 else if 1048576<=D.ops then (44,{ D with off:=false })
 else (0,{ D with off:=false,now:=Zaj D.now at_.toNat l,hung:=D.hung++[(at_.toNat,l)],ops:=D.ops+1 })
theorem IsB.row {w:World} {a:Option Addr} (h:IsB w (.slice a n cap) l) (h0:0<l.length):∃B o,a=some ⟨B,o,none⟩/\w.rangeAt B o (bv l):=by
 obtain⟨q,e,f,r,s,i,k⟩:=h;simp only[Value.slice.injEq] at f;obtain⟨rfl,rfl,rfl⟩:=f
 cases a with
 | none=>have:=i rfl;omega
 | some x =>
  obtain⟨m,b⟩:=k x rfl;obtain⟨B,o,p⟩:=x;have:p=none:=m h0
  subst this;refine⟨B,o,rfl,λj v d=>?_⟩;have c:j<l.length:=by have:=(List.getElem?_eq_some_iff.1 d).1;simpa [bv] using this
  rw[Zfj l j c] at d;rw[b j c];exact d
theorem run_arrayAt (W:World) (a:Option Addr) (cap:Nat):(Instr.arrayAt 108 (.slice a 128 cap)).run Tryz.prog W=.ok (.pointer a) W:=by unfold Instr.arrayAt;simp only[Sem.run_bind,run_underlying Tryz.underlying108,Result.andThen];rfl
theorem Qz.there {w:World} (h:Qz w g cap n l) (k:Nat) (hk:k<n):w.there g (k*128) 128:=by obtain⟨c,b,d,e,f,i,m⟩:=h;intro j p;refine⟨?_,Zf b _⟩;rw[Vc _ _ _ _ _ _ b,Array.getElem?_eq_getElem (by omega)];rfl
theorem Qz.range {w:World} (h:Qz w g cap n l) (k:Nat) (hk:k<n):w.rangeAt g (k*128) (bv (sec l k)):=by
 obtain⟨d,f,p,q,r,i,m⟩:=h;intro j v c;rw[Vc _ _ _ _ _ _ f];have b:j<(sec l k).length:=by have:=(List.getElem?_eq_some_iff.1 c).1;simpa [bv] using this
 rw[Qh i hk] at b;have e:(bv l)[k*128+j]?=some v:=by rw[<-c];simp only[bv,sec,List.getElem?_map,List.getElem?_take,List.getElem?_drop,if_pos b]
 rw[<-m,List.getElem?_take,if_pos (by omega)] at e;simpa using e
theorem IsB.turned_p {w w':World} {D:Dk} {v:Value} (hv:IsB w v l) (h:Xd w F D) (ht:Zb (·=F.p) w w'):IsB w' v l:=by
 obtain⟨a,cap,rfl,f,k,m,c⟩:=hv;refine⟨a,cap,rfl,f,k,m,λx d=>⟨(c x d).1,λi q=>?_⟩⟩;have hcell:=(c x d).2 i q
 have b:x.block≠F.p:=by
  intro e;rw[e,Vc _ _ _ _ _ _ h.head] at hcell;have hlt:=(Array.getElem?_eq_some_iff.1 hcell).1
  simp only[List.size_toArray,List.length_cons,List.length_nil] at hlt;generalize x.off+i=j at hcell hlt
  rcases(show j=0\/j=1\/j=2\/j=3\/j=4\/j=5 by omega) with rfl | rfl | rfl | rfl | rfl | rfl<;>simp at hcell
 have hlt:=World.block_lt_of_cell? w _ hcell;rw[<-hcell];exact World.cell?_of_block (ht.block x.block hlt b)
theorem turned_now (w:World) (F:Ft) (o:Nat) (b:List Value):Zb F.has w (w.setCells F.N o b):=by obtain⟨c,d,f,h⟩:=Zcl F.N b o w;exact⟨c,d,f,Nat.le_of_eq h.symm,λk j i=>Xa F.N b o w k (λe=>i (.inr (.inr (.inl e))))⟩
theorem Qz.put {w:World} {b:List UInt8} (h:Qz w g cap n l) (k:Nat) (hk:k<n) (hb:b.length=128):Qz (w.setCells g (k*128) (bv b)) g cap n (Zaj l k b):=by
 obtain⟨e,t,u,v,B,m,y⟩:=h;have f:(bv b).length=128:=by rw[Zk,hb]
 obtain⟨d,z,s⟩:=Zak g 108 (bv b) (k*128) w e t (by omega);have p:d.size=cap*128:=by rw[<-Array.length_toList,s];simp only[List.length_append,List.length_take,List.length_drop,f,Array.length_toList];omega
 refine⟨d,z,u,v,p,Qd m hb hk,?_⟩;rw[Qd m hb hk,s];apply List.ext_getElem?;intro j;have c:∀x:List UInt8,∀i:Nat,(bv x)[i]?=(x[i]?).map λb=>Value.int .u8 (b.toNat:Int):=λx i=>by simp[bv]
 have A:Zaj l k b=l.take (k*128)++(b++l.drop (k*128+b.length)):=by rw[Zaj,hb]
 rw[List.getElem?_take,Zfy _ _ _ _ (by simp;omega),A,c (l.take (k*128)++(b++l.drop (k*128+b.length))),Zfy _ _ _ _ (by omega),f,hb];by_cases q:j<n*128
 .have r:e.toList[j]?=(bv l)[j]?:=by rw[<-y,List.getElem?_take,m,if_pos q]
  rw[if_pos q,r,c,c];split
  .rfl
  .split<;>rfl
 .rw[if_neg q,if_neg (by omega),if_neg (by omega),List.getElem?_eq_none (by omega)];rfl
theorem Xd.put_now {w:World} {D:Dk} (h:Xd w F D) (k:Nat) (b:List UInt8) (hk:k<D.n) (hb:b.length=128):Xd (w.setCells F.N (k*128) (bv b)) F { D with now:=Zaj D.now k b }:=by have f:=h.ft;have c:∀j,j≠F.N->(w.setCells F.N (k*128) (bv b)).heap[j]?=w.heap[j]?:=λj d=>Xa _ _ _ _ _ d;exact⟨f,⟨h.ok.n1,h.ok.nm,h.ok.safe,Qd h.ok.now hb hk,h.ok.hung,h.ok.loose,h.ok.ops,h.ok.c1,h.ok.c2⟩,(c _ f.pN).trans h.head,by unfold Qz;rw[c _ f.SN];exact h.safe,h.now.put k hk hb,by unfold Hung;rw[c _ f.NM.symm];exact h.hung⟩
theorem fill_at (P:Nat->Nat->Value) (e:List Value):∀(d:Array Value) (b k:Nat),b+k+e.length<=d.size ->
  ((e.zipIdx k).foldl (λa (c,j)=>a.setIfInBounds (b+j) c) d).toList=d.toList.take (b+k)++(e++d.toList.drop (b+k+e.length)):=by
 induction e with
 | nil=>intro d b k h;simp
 | cons c r p =>
  intro d b k h;simp only[List.length_cons] at h;rw[List.zipIdx_cons,List.foldl_cons,p _ b (k+1) (by simp;omega)];apply List.ext_getElem?;intro j;rw[Nat.add_assoc b k 1 |>.symm,Zfy _ _ _ _ (by simp;omega),Zfy _ _ _ _ (by simp;omega),Array.toList_setIfInBounds,List.getElem?_set,Array.length_toList,List.length_cons];by_cases i:j<b+k
  .rw[if_pos (by omega),if_neg (by omega),if_pos i]
  .by_cases m:j=b+k
   .subst m;rw[if_pos (by omega),if_pos rfl,if_pos (by omega),if_neg (by omega),if_pos (by omega),Nat.sub_self];rfl
   .by_cases f:j<b+k+1+r.length
    .rw[if_neg (by omega),if_pos f,if_neg i,if_pos (by omega),show j - (b+k)=(j - (b+k+1))+1 by omega,List.getElem?_cons_succ]
    .rw[if_neg (by omega),if_neg f,if_neg (by omega),if_neg i,if_neg (by omega)]
theorem run_build_write (w:World) (k:Nat) (b:List Value) (h:b.length=128):(Instr.build 111 #[(0,.int .i64 (k:Int)),(1,.agg b.toArray)]).run Tryz.prog w=.ok (looseV k b) w:=by
 obtain⟨Z,c,j⟩:∃Z:List Value,Z.length=128/\∀w,(zeroValue 111).run Tryz.prog w=.ok (.agg ((.int .i64 0)::Z).toArray) w:=⟨List.replicate 128 (.int .u8 0),by simp,λw=>by kernel_rfl⟩
 obtain⟨d,e,i⟩:∃d,Tryz.prog.underlying 111=some (.struct d)/\∀w,(Array.mapM (λf:Field=>do pure (f.offset,<-sizeOf f.type)) d:Sem (Array (Nat × Nat))).run Tryz.prog w=.ok #[(0,1),(1,128)] w :=
  ⟨_,Tryz.underlying111,λw=>by kernel_rfl⟩
 unfold Instr.build;simp only[Sem.run_bind,j,Result.andThen_ok,run_underlying e,i];have hf:=fill_at (λ_ _=>undef) b ((.int .i64 (k:Int))::Z).toArray 1 0 (by simp[h,c])
 have q:(Value.agg b.toArray).cells.size=128:=by simpa [Value.cells] using h
 have m:(((Value.agg b.toArray).cells.zipIdx).foldl (λ(a:Array Value) (x:Value × Nat)=>a.setIfInBounds (1+x.2) x.1) ((.int .i64 (k:Int))::Z).toArray)=((.int .i64 (k:Int))::b).toArray:=by
  apply Array.ext';rw[show (Value.agg b.toArray).cells.zipIdx=(b.zipIdx 0).toArray by simp[Value.cells],List.foldl_toArray,hf]
  simp[h,c]
 have p:Instr.fill (#[(0,1),(1,128)][·]?) (Value.agg ((.int .i64 0)::Z).toArray).cells #[(0,Value.int .i64 (k:Int)),(1,Value.agg b.toArray)].toList=some ((.int .i64 (k:Int))::b).toArray:=by rw[<-m];simp[Instr.fill,Value.cells,h,c]
 rw[p];rfl
section
variable {ops : Array Oper} {w : World} {Q : Act → Prop} {a : Act} {o : Oper} {rest : List Oper}
theorem still_value (v:Value) (hw:Region.wanted o (yielded ops a.tmps)=true) (b:(execOp a.eval o).run Tryz.prog w=.ok (.value v) w) (h:wpStill Tryz.prog ops w Q rest (a.put o.dst v)):wpStill Tryz.prog ops w Q (o::rest) a:=by refine wpStill_step λK c=>?_;rw[if_pos hw,Oper.still,b,Oper.stillUpon_value];exact c _ h
theorem still_load (e:TypeId) (x:Operand) (f:o.op=.load e x) (b n:Nat) (hx:a.eval x=.pointer (some ⟨b,n,none⟩)) (c:List Value) (d:TypeDesc) (hg:o.guard=none) (hc:w.rangeAt b n c)
 (hu:Tryz.prog.underlying e=some d) (i:d.isRow=true) (j:(Tryz.prog.info? e).map (·.size)=some c.length) (h:wpStill Tryz.prog ops w Q rest (a.put o.dst (.agg c.toArray))):wpStill Tryz.prog ops w Q (o::rest) a:=by
 refine still_value (.agg c.toArray) (by simp[Region.wanted,hg]) ?_ h;unfold execOp;simp only[f,hx,Instr.loadAt,Instr.sureAddr,Sem.run_bind,Sem.run_pure,Result.andThen_ok,run_loadVar_mid w b n e c d hc hu i j]
theorem still_build_write (x y:Operand) (c:o.op=.build 111 #[(0,x),(1,y)]) (k:Nat) (b:List Value) (hx:a.eval x=.int .i64 (k:Int)) (hy:a.eval y=.agg b.toArray) (hg:o.guard=none) (hl:b.length=128)
 (h:wpStill Tryz.prog ops w Q rest (a.put o.dst (looseV k b))):wpStill Tryz.prog ops w Q (o::rest) a:=by
 refine still_value (looseV k b) (by simp[Region.wanted,hg]) ?_ h;unfold execOp;simp only[c,hx,hy,List.map_toArray,List.map_cons,List.map_nil,Sem.run_bind,run_build_write w k b hl,Result.andThen_ok];rfl
end
theorem Xd.put_hung {w w3:World} {D:Dk} (h:Xd w F D) (x:Nat × List UInt8) (hx:x.1<D.n/\x.2.length=128) (i:D.ops<1048576) (hH:Hung w3 F.M (D.hung++[x])) (hw:∀j,j≠F.M->w3.heap[j]?=w.heap[j]?):
  Xd (w3.setCell ⟨F.p,3,none⟩ (.int .i64 ((D.ops:Int)+1))) F { D with hung:=D.hung++[x],ops:=D.ops+1 }:=by
 have f:=h.ft;have d:((D.ops:Int)+1)=((D.ops+1:Nat):Int):=by omega
 rw[d];have c:∀j,j≠F.p->(w3.setCell ⟨F.p,3,none⟩ (.int .i64 ((D.ops+1:Nat):Int))).heap[j]?=w3.heap[j]?:=λj e=>Vx _ _ _ _ e
 refine⟨f,⟨h.ok.n1,h.ok.nm,h.ok.safe,h.ok.now,λy b=>?_,?_,?_,h.ok.c1,h.ok.c2⟩,?_,?_,?_,?_⟩
 .rcases List.mem_append.1 b with b | b
  .exact h.ok.hung y b
  .rw[List.mem_singleton.1 b];exact hx
 .have:=h.ok.loose;simp only[List.length_append,List.length_singleton];omega
 .show D.ops+1<=1048576
  omega
 .exact Ze ((hw _ f.pM).trans h.head) _
 .unfold Qz;rw[c _ f.pS.symm,hw _ f.SM];exact h.safe
 .unfold Qz;rw[c _ f.pN.symm,hw _ f.NM];exact h.now
 .unfold Hung;rw[c _ f.pM.symm];exact hH
theorem write_any (w:World) (F:Ft) (D:Dk) (h:Xd w F D) (d:Int) (v:Value) (l:List UInt8) (hv:IsB w v l) (h1:-9223372036854775808<=d) (h2:d<=9223372036854775807):
  Calls Tryz.prog 121 #[F.ptr,.int .i64 d,v] w λe w'=>e=.returned (.int .i64 (D.write d l).1)/\Xd w' F (D.write d l).2/\Zb F.has w w':=by
 have V:=hv;obtain⟨a,cap,rfl,a5,X,a3,Y⟩:=V;clear Y;unfold maxLen at X;by_cases i:D.gone=true
 .have C:D.write d l=(43,{ D with off:=true }):=by simp[Dk.write,i]
  rw[C];go_enter Tryz.func121,Tryz.ntmps121;go_wp2_with fail;refine(Zcy w F D h).mono ?_;rintro e q ⟨rfl,b,c⟩;rw[if_pos i];go_wp2_with fail;go_ret;exact⟨rfl,i▸b,c.has_of_p⟩
 .replace i:D.gone=false:=by simpa using i
  by_cases m:0<=d/\d<(D.n:Int)
  .obtain⟨k,rfl⟩:=Ub m.1
   have G:k<D.n:=by omega
   by_cases L:l.length=128
   .by_cases f:1048576<=D.ops
    .have C:D.write k l=(44,{ D with off:=false }):=by simp only[Dk.write,i];simp[G,L,f]
     rw[C];go_enter Tryz.func121,Tryz.ntmps121;go_wp2_with fail;refine(Zcy w F D h).mono ?_;rintro e q ⟨rfl,b,c⟩;rw[i] at b ⊢;go_wp2_with fail;refine(has_any q F _ b k h1 h2).mono ?_;rintro e Z ⟨rfl,rfl⟩;rw[Vd m];obtain⟨u,x,y,r,z,A⟩:=b.cells;have hd:decide ((1048576:Int)<=(D.ops:Int))=true:=by simp;omega
     go_wp2_with fail;go_ret;exact⟨rfl,b,c.has_of_p⟩
    .have C:D.write k l=(0,{ D with off:=false,now:=Zaj D.now k l,hung:=D.hung++[(k,l)],ops:=D.ops+1 }):=by simp only[Dk.write,i];simp[G,L,f]
     rw[C];obtain⟨B,o,rfl,a0⟩:=hv.row (by omega);go_enter Tryz.func121,Tryz.ntmps121;go_wp2_with fail;refine(Zcy w F D h).mono ?_;rintro e q ⟨rfl,b,c⟩;have hv1:=hv.turned_p h c
     rw[i] at b ⊢;go_wp2_with fail;refine(has_any q F _ b k h1 h2).mono ?_;rintro e Z ⟨rfl,rfl⟩;rw[Vd m];obtain⟨B',o',a1,H⟩:=hv1.row (by omega);obtain⟨rfl,rfl⟩:B=B'/\o=o':=by simpa using a1
     obtain⟨u,x,y,r,z,A⟩:=b.cells;have hd:decide ((1048576:Int)<=(D.ops:Int))=false:=by simp;omega
     have R:∀W,(Instr.arrayAt 108 (.slice (some ⟨B,o,none⟩) 128 cap)).run Tryz.prog W=.ok (.pointer (some ⟨B,o,none⟩)) W:=λW=>by exact run_arrayAt W _ _
     have s:(bv l).length=128:=by rw[Zk,L]
     obtain⟨i0,i1⟩:(0:Int)<=(k:Int)/\(k:Int)<(D.n:Int):=by omega
     go_wp2_with fail;refine wp_region_still_tail 9 (by kernel_rfl) (by kernel_rfl) ?_;simp only[List.take_succ_cons,List.take_zero,List.drop_succ_cons,List.drop_zero];change wpStill _ _ q.drew (λa'=>wpList _ _ _ _ a' q.drew) _ _;have hd1':=b.drew
     have I:=c.drew;have t:q.drew.rangeAt B o (bv l):=H;obtain⟨u,x,y,r,z,A⟩:=hd1'.cells;dsimp only at u x y r z A;generalize q.drew=W at *;clear b c H hv1;iterate 7 still_step
     refine still_load 108 (.tmp 34) rfl B o rfl (bv l) _ rfl t Tryz.underlying108 rfl (by rw[Zem,s]) ?_;simp only[Act.put,List.setIfInBounds_toArray,List.set_cons_zero,List.set_cons_succ];still_step;refine wpStill_nil ?_;refine wpList_store_mid rfl 108 (.tmp 36) (.tmp 35) rfl F.N (k*128) (bv l).toArray rfl rfl (by rw[List.size_toArray,s];exact hd1'.now.there k G) (by rw[Zem,List.size_toArray,s]) (all_oneCell_toArray (Yq l)) ?_;have hd2:=hd1'.put_now k l G L
     have S:=(I.has_of_p).trans (turned_now W F (k*128) (bv l));dsimp only at hd2;rw[List.toList_toArray];generalize W.setCells F.N (k*128) (bv l)=W2 at *;clear hd1' I t u x y r z A R;obtain⟨u,x,y,r,z,A⟩:=hd2.cells;dsimp only at u x y r z A;refine wpList_nil ?_;go_wp2_with fail;refine wp_region_still_tail 18 (by kernel_rfl) (by kernel_rfl) ?_;simp only[List.take_succ_cons,List.take_zero,List.drop_succ_cons,List.drop_zero];change wpStill _ _ W2.drew (λa'=>wpList _ _ _ _ a' W2.drew) _ _;have hd3:=hd2.drew;have ht3:=S.drew;clear u x y r z A S hd2;generalize W2.drew=P at *;obtain⟨u,x,y,r,z,A⟩:=hd3.cells;dsimp only at u x y r z A;have hlen:=run_len_hung hd3.hung 3;obtain⟨es,cl,hm,O,hH⟩:=run_put_hung hd3.hung (k,l);dsimp only at hlen O hH;have J:P.rangeAt F.N (k*128) (bv l):=by have:=hd3.now.range k G;rw[Qp h.ok.now L G] at this;exact this
     iterate 16 still_step
     refine still_load 108 (.tmp 52) rfl F.N (k*128) rfl (bv l) _ rfl J Tryz.underlying108 rfl (by rw[Zem,s]) ?_;simp only[Act.put,List.setIfInBounds_toArray,List.set_cons_zero,List.set_cons_succ];refine still_build_write (.tmp 46) (.tmp 53) rfl k (bv l) rfl rfl rfl s ?_;simp only[Act.put,List.setIfInBounds_toArray,List.set_cons_zero,List.set_cons_succ];refine wpStill_nil ?_
     obtain⟨W4,a4,a2,E,T⟩:∃W4,(Instr.mapUpdate 87 (.map (some F.M)) (.int .i64 (D.hung.length:Int)) (looseV k (bv l))).run Tryz.prog P=.ok () W4/\Hung W4 F.M (D.hung++[(k,l)])/\(∀j,j≠F.M->W4.heap[j]?=P.heap[j]?)/\Zb F.has P W4 :=
      ⟨_,O,hH,λj hj=>(MapKept.heap_set hm).2 j hj,rfl,rfl,rfl,by simp,λj _ hn=>(MapKept.heap_set hm).2 j (λe=>hn (.inr (.inr (.inr e))))⟩
     have U:=hd3.put_hung (k,l) ⟨G,L⟩ (Nat.lt_of_not_le f) a2 E;have htf:=(ht3.trans T).trans (turned_p W4 F 3 (.int .i64 ((D.ops:Int)+1))).has_of_p;have g3:W4.cell? ⟨F.p,3,none⟩=some (.int .i64 (D.ops:Int)):=(World.cell?_of_block (w:=P) (E F.p h.ft.pM)).trans r;have f3:W4.frozen? ⟨F.p,3,none⟩=false:=(World.frozen?_of_block (w:=P) (E F.p h.ft.pM)).trans (Zf hd3.head 3);clear O hH hm E T ht3 hd3 hlen J u x y r z A a0;go_wp2_with fail;go_ret;exact⟨rfl,U,htf⟩
   .have C:D.write k l=(42,{ D with off:=false }):=by simp only[Dk.write,i];simp[G,L]
    rw[C];go_enter Tryz.func121,Tryz.ntmps121;go_wp2_with fail;refine(Zcy w F D h).mono ?_;rintro e q ⟨rfl,b,c⟩;rw[i] at b ⊢;go_wp2_with fail;refine(has_any q F _ b k h1 h2).mono ?_;rintro e Z ⟨rfl,rfl⟩;rw[Vd m];have a6:((l.length:Int) != 128)=true:=by simp;omega
    go_wp2_with fail;go_ret;exact⟨rfl,b,c.has_of_p⟩
  .have C:D.write d l=(41,{ D with off:=false }):=by simp only[Dk.write,i];simp[m]
   rw[C];go_enter Tryz.func121,Tryz.ntmps121;go_wp2_with fail;refine(Zcy w F D h).mono ?_;rintro e q ⟨rfl,b,c⟩;rw[i] at b ⊢;go_wp2_with fail;refine(has_any q F _ b d h1 h2).mono ?_;rintro e Z ⟨rfl,rfl⟩;rw[Vb m];go_wp2_with fail;go_ret;exact⟨rfl,b,c.has_of_p⟩
end
section
open Go.RowKit
variable {v:Value}{l:List UInt8}
section
variable {ops : Array Oper} {w : World} {Q : Exit → Act → World → Prop} {a : Act} {o : Oper} {rest : List Oper}
theorem wpList_value (v:Value) (w':World) (hg:o.guard=none) (b:(execOp a.eval o).run Tryz.prog w=.ok (.value v) w') (h:wpList Tryz.prog ops Q rest (a.put o.dst v) w'):wpList Tryz.prog ops Q (o::rest) a w :=
 wpList_plain hg λ_ c=>by unfold Oper.wp;rw[b];exact c _ _ h
theorem wpList_skip (w':World) (hg:o.guard=none) (b:(execOp a.eval o).run Tryz.prog w=.ok .skip w') (h:wpList Tryz.prog ops Q rest (a.put o.dst undef) w'):wpList Tryz.prog ops Q (o::rest) a w :=
 wpList_plain hg λ_ c=>by unfold Oper.wp;rw[b];exact c _ _ h
theorem Zil (hg:o.guard=none) (b:o.op=.alloc 108)
 (h:∀Z:List Value,Z.length=128->wpList Tryz.prog ops Q rest (a.put o.dst (.pointer (some ⟨w.heap.size,0,none⟩))) (w.alloc (.cells Z.toArray 108))):wpList Tryz.prog ops Q (o::rest) a w:=by
 obtain⟨Z,c,d⟩:∃Z:List Value,Z.length=128/\∀w,(zeroValue 108).run Tryz.prog w=.ok (.agg Z.toArray) w:=⟨List.replicate 128 (.int .u8 0),by simp,λw=>by kernel_rfl⟩;refine wpList_value _ _ hg ?_ (h Z c);unfold execOp;simp only[b,Instr.alloc,Sem.run_bind,d,Result.andThen_ok];rfl
theorem Yo (d:TypeId) (x y:Operand) (e:o.op=.store d x y) (c b:Array Value) (hx:a.eval x=.pointer (some ⟨w.heap.size,0,none⟩)) (hy:a.eval y=.agg b) (hg:o.guard=none)
 (f:(Tryz.prog.info? d).map (·.size)=some b.size) (hc:c.size=b.size) (h1:b.all (·.oneCell')=true)
 (h:wpList Tryz.prog ops Q rest (a.put o.dst undef) (w.alloc (.cells b d))):wpList Tryz.prog ops Q (o::rest) a (w.alloc (.cells c d)):=by
 refine wpList_skip _ hg ?_ h;unfold execOp;simp only[e,hx,hy,Sem.run_bind,run_storeAt_new w d c b f hc h1,Result.andThen_ok];rfl
end
def Dk.read (D:Dk) (at_:Int):List UInt8 × Int:=if D.off then ([],43) else if 0<=at_/\at_<D.n then (sec D.now at_.toNat,0) else ([],41)
def Got (w w':World) (v:Value) (l:List UInt8):Prop :=
 (l=[]/\v=.slice none 0 0/\w'=w)\/(l.length=128/\v=.slice (some ⟨w.heap.size,0,none⟩) 128 128/\w'=w.alloc (.cells (bv l).toArray 108))
theorem Got.below {w w':World} (h:Got w w' v l):Below w.heap.size w w':=by
 rcases h with ⟨_,_,rfl⟩ | ⟨_,_,rfl⟩
 .exact Ve _ _
 .exact(Ve _ _).alloc (Va _) _
theorem Got.isB {w w':World} (h:Got w w' v l):IsB w' v l:=by
 rcases h with ⟨rfl,rfl,rfl⟩ | ⟨b,rfl,rfl⟩
 .exact IsB.nil _
 .refine⟨some ⟨w.heap.size,0,none⟩,128,by rw[b],by omega,by simp[maxLen],λe=>(by cases e),?_⟩;rintro x ⟨⟩;refine⟨λ_=>rfl,λi c=>?_⟩;rw[Vc _ _ _ _ _ _ (Vg w _)];simp only[Nat.zero_add,List.getElem?_toArray];exact Zfj l i c
theorem read_any (w:World) (F:Ft) (D:Dk) (h:Xd w F D) (b:Int) (h1:-9223372036854775808<=b) (h2:b<=9223372036854775807):
  Calls Tryz.prog 34 #[F.ptr,.int .i64 b] w λe q=>∃v,e=.returned (.tuple #[v,.int .i64 (D.read b).2])/\Got w q v (D.read b).1:=by
 obtain⟨s,t,u,x,y,j⟩:=h.cells
 cases d:D.off with
 | true =>
  have f:D.read b=([],43):=by simp[Dk.read,d]
  rw[f];rw[d] at j;clear d f;go_enter Tryz.func34,Tryz.ntmps34;go_wp2_with fail;go_ret2;exact⟨_,rfl,.inl ⟨rfl,rfl,rfl⟩⟩
 | false =>
  rw[d] at j;by_cases c:0<=b/\b<(D.n:Int)
  .obtain⟨k,rfl⟩:=Ub c.1
   have i:k<D.n:=by omega
   have f:D.read k=(sec D.now k,0):=by simp[Dk.read,d,i]
   rw[f];clear d f;have hrg:=h.now.range k i
   have m:=Qh h.ok.now i;generalize sec D.now k=l at *;have g:(bv l).length=128:=by rw[Zk,m]
   obtain⟨z,A⟩:(0:Int)<=(k:Int)/\(k:Int)<(D.n:Int):=by omega
   go_enter Tryz.func34,Tryz.ntmps34;go_wp2_with fail;refine(has_any w F D h k h1 h2).mono ?_;rintro e r ⟨rfl,rfl⟩;rw[Vd c];go_wp2_with (first | (refine wpList_load_mid rfl 108 (.tmp 25) rfl F.N (k*128) rfl (bv l) _ hrg Tryz.underlying108 rfl (by rw[Zem,g]) ?_) | (refine Zil rfl rfl ?_;intro Z p) | (refine Yo 108 (.tmp 6) (.tmp 26) rfl _ (bv l).toArray rfl rfl rfl (by rw[Zem,List.size_toArray,g]) (by rw[List.size_toArray,List.size_toArray,g,p]) (all_oneCell_toArray (Yq l)) ?_;clear p));go_ret2;exact⟨_,rfl,.inr ⟨m,rfl,rfl⟩⟩
  .have f:D.read b=([],41):=by simp only[Dk.read,d];simp[c]
   rw[f];clear d f;go_enter Tryz.func34,Tryz.ntmps34;go_wp2_with fail;refine(has_any w F D h b h1 h2).mono ?_;rintro e r ⟨rfl,rfl⟩;rw[Vb c];go_wp2_with fail;go_ret2;exact⟨_,rfl,.inl ⟨rfl,rfl,rfl⟩⟩
end
section
open Go.RowKit
variable {w:World}{cap n g:Nat}{l l':List UInt8}{F:Ft}
def Dk.flush (D:Dk):Int × Dk :=
 if D.gone then (43,{ D with off:=true })
 else if 1048576<=D.ops then (44,{ D with off:=false })
 else (0,{ D with off:=false,safe:=D.now,hung:=[],ops:=D.ops+1 })
theorem Qz.cells (h:Qz w g cap n l):∀j v,(bv l)[j]?=some v->w.cell? ((⟨g,0,none⟩:Addr).add j)=some v:=by
 obtain⟨c,d,i,k,m,o,f⟩:=h;intro j v a;have e:(⟨g,0,none⟩:Addr).add j=⟨g,0+j,none⟩:=Addr.add_mid g 0 j
 rw[e,Nat.zero_add,Vc _ _ _ _ _ _ d];have b:j<l.length:=by have:=(List.getElem?_eq_some_iff.1 a).1;simpa [bv] using this
 rw[<-f,List.getElem?_take,if_pos b] at a;simpa using a
theorem Qz.lay (h:Qz w g cap n l) (hl':l'.length=n*128):Qz (w.setCells g 0 (bv l')) g cap n l':=by
 obtain⟨b,f,d,i,k,m,o⟩:=h;have c:(bv l').length=n*128:=by rw[Zk,hl']
 have p:n*128<=cap*128:=Ug _ d;obtain⟨a,j,e⟩:=Zak g 108 (bv l') 0 w b f (by omega);refine⟨a,j,d,i,?_,hl',?_⟩
 .rw[<-Array.length_toList,e];simp only[List.length_append,List.length_take,List.length_drop,c,Array.length_toList];omega
 .rw[e,List.take_zero,List.nil_append,List.take_append_of_le_length (by omega),List.take_of_length_le (by omega)]
theorem run_copy_sects {S b N a:Nat} (hS:Qz w S b n l) (hN:Qz w N a n l') (i:TypeId):
  (Builtin.copy_ #[86,86] i #[.slice (some ⟨S,0,none⟩) n b,.slice (some ⟨N,0,none⟩) n a]).run Tryz.prog w=.ok (.int .i64 (n:Int)) (w.setCells S 0 (bv l')):=by
 have c:(bv l').length=n*128:=by obtain⟨_,_,_,_,_,c,_⟩:=hN;rw[Zk,c]
 have d:=Uc (P:=Tryz.prog) w 128 n ⟨N,0,none⟩ n a (bv l') c hN.cells;obtain⟨k,h,m,p,q,_,_⟩:=hS;have r:n*128<=b*128:=Ug _ m;have hst:=run_storeCells_cells (P:=Tryz.prog) S 0 (bv l') 0 w (λj o=>by rw[Vc _ _ _ _ _ _ h,Array.getElem?_eq_getElem (by omega)];rfl) (λj o=>Zf h _) (Yq l');have e:∀w,(sizeOf 108).run Tryz.prog w=.ok 128 w:=λw=>by kernel_rfl
 have f:∀w:World,(Builtin.lenOf (.slice (some ⟨N,0,none⟩) n a)).run Tryz.prog w=.ok n w:=λw=>rfl;simp only[Nat.add_zero] at hst;unfold Builtin.copy_;simp[run_underlying Tryz.underlying86,e,f,d,hst,goInt,Nat.min_self]
theorem run_clear_hung {M:Nat} {L:List (Nat × List UInt8)} (h:Hung w M L):∃w',(∀b,(Builtin.clear_ #[87] b #[.map (some M)]).run Tryz.prog w=.ok (.tuple #[]) w')/\Hung w' M []/\(∀j,j≠M->w'.heap[j]?=w.heap[j]?)/\Zb (·=M) w w':=by obtain⟨k,c,a,m,o⟩:=h;refine⟨{ w with heap:=w.heap.setIfInBounds M (.map #[] c) },λb=>?_,⟨[],c,(MapKept.heap_set a).1,rfl,λi d=>by simp at d⟩,λj e=>(MapKept.heap_set a).2 j e,rfl,rfl,rfl,by simp,λj _ f=>(MapKept.heap_set a).2 j f⟩;unfold Builtin.clear_;simp[run_underlying Tryz.underlying87,MapKept.run_getObj_map a,MapKept.run_setObj_map _ a]
theorem turned_safe (w:World) (F:Ft) (o:Nat) (a:List Value):Zb F.has w (w.setCells F.S o a):=by obtain⟨b,c,d,f⟩:=Zcl F.S a o w;exact⟨b,c,d,Nat.le_of_eq f.symm,λk i h=>Xa F.S a o w k (λe=>h (.inr (.inl e)))⟩
theorem Xd.lay_safe {D:Dk} (h:Xd w F D) (l:List UInt8) (hl:l.length=D.n*128):Xd (w.setCells F.S 0 (bv l)) F { D with safe:=l }:=by have f:=h.ft;have a:∀j,j≠F.S->(w.setCells F.S 0 (bv l)).heap[j]?=w.heap[j]?:=λj b=>Xa _ _ _ _ _ b;exact⟨f,⟨h.ok.n1,h.ok.nm,hl,h.ok.now,h.ok.hung,h.ok.loose,h.ok.ops,h.ok.c1,h.ok.c2⟩,(a _ f.pS).trans h.head,h.safe.lay hl,by unfold Qz;rw[a _ f.SN.symm];exact h.now,by unfold Hung;rw[a _ f.SM.symm];exact h.hung⟩
theorem Xd.clear_hung {w':World} {D:Dk} (h:Xd w F D) (hH:Hung w' F.M []) (hw:∀j,j≠F.M->w'.heap[j]?=w.heap[j]?):Xd w' F { D with hung:=[] }:=by have f:=h.ft;exact⟨f,⟨h.ok.n1,h.ok.nm,h.ok.safe,h.ok.now,λx a=>(by cases a),Vl _,h.ok.ops,h.ok.c1,h.ok.c2⟩,(hw _ f.pM).trans h.head,by unfold Qz;rw[hw _ f.SM];exact h.safe,by unfold Qz;rw[hw _ f.NM];exact h.now,hH⟩
theorem flush_any (w:World) (F:Ft) (D:Dk) (h:Xd w F D):
  Calls Tryz.prog 124 #[F.ptr] w λe w'=>e=.returned (.int .i64 D.flush.1)/\Xd w' F D.flush.2/\Zb F.has w w':=by
 by_cases f:D.gone=true
 .have s:D.flush=(43,{ D with off:=true }):=by simp[Dk.flush,f]
  rw[s];go_enter Tryz.func124,Tryz.ntmps124;go_wp2_with fail;refine(Zcy w F D h).mono ?_;rintro e t ⟨rfl,a,c⟩;rw[if_pos f];go_wp2_with fail;go_ret;exact⟨rfl,f▸a,c.has_of_p⟩
 .replace f:D.gone=false:=by simpa using f
  by_cases b:1048576<=D.ops
  .have s:D.flush=(44,{ D with off:=false }):=by simp[Dk.flush,f,b]
   rw[s];go_enter Tryz.func124,Tryz.ntmps124;go_wp2_with fail;refine(Zcy w F D h).mono ?_;rintro e t ⟨rfl,a,c⟩;rw[f] at a ⊢;obtain⟨k,m,o,j,q,r⟩:=a.cells;have z:decide ((1048576:Int)<=(D.ops:Int))=true:=by simp;omega
   go_wp2_with fail;go_ret;exact⟨rfl,a,c.has_of_p⟩
  .have s:D.flush=(0,{ D with off:=false,safe:=D.now,hung:=[],ops:=D.ops+1 }):=by simp[Dk.flush,f,b]
   rw[s];go_enter Tryz.func124,Tryz.ntmps124;go_wp2_with fail;refine(Zcy w F D h).mono ?_;rintro e t ⟨rfl,a,c⟩;rw[f] at a ⊢;obtain⟨k,m,o,j,q,r⟩:=a.cells;have z:decide ((1048576:Int)<=(D.ops:Int))=false:=by simp;omega
   go_wp2_with fail;refine wp_region_still_tail 8 (by kernel_rfl) (by kernel_rfl) ?_;simp only[List.take_succ_cons,List.take_zero,List.drop_succ_cons,List.drop_zero];change wpStill _ _ t.drew (λA=>wpList _ _ _ _ A t.drew) _ _;have hd2:=a.drew
   have u:=c.has_of_p.drew;clear k m o j q r a c;generalize t.drew=W at *;obtain⟨k,m,o,j,q,r⟩:=hd2.cells;dsimp only at k m o j q r;iterate 8 still_step
   refine wpStill_nil ?_;have hcp:=run_copy_sects hd2.safe hd2.now
   have d:=hd2.lay_safe D.now h.ok.now;have ht3:=u.trans (turned_safe W F 0 (bv D.now));dsimp only at hcp d;generalize W.setCells F.S 0 (bv D.now)=y at *;clear k m o j q r hd2 u;obtain⟨k,m,o,j,q,r⟩:=d.cells;dsimp only at k m o j q r;obtain⟨x,B,hH,i,v⟩:=run_clear_hung d.hung;have hd4:=(d.clear_hung hH i).put_ops (D.ops+1) (Vl _) (Nat.lt_of_not_le b);have ht5:=(ht3.trans (v.mono λ_ _ e=>.inr (.inr (.inr e)))).trans (turned_p x F 3 (.int .i64 ((D.ops+1:Nat):Int))).has_of_p;have E:x.cell? ⟨F.p,3,none⟩=some (.int .i64 (D.ops:Int)):=(World.cell?_of_block (w:=y) (i F.p h.ft.pM)).trans j;have G:x.frozen? ⟨F.p,3,none⟩=false:=(World.frozen?_of_block (w:=y) (i F.p h.ft.pM)).trans (Zf d.head 3);have hops:=h.ok.ops;dsimp only at hd4;rw[show ((D.ops+1:Nat):Int)=(D.ops:Int)+1 by omega] at hd4 ht5
   have C:=Hd (And.intro hd4 ht5);clear d ht3 v hH i hd4 ht5;go_wp2_with fail;go_ret;exact⟨rfl,C.out⟩
end
section
open Go.RowKit
variable {w w':World}{F:Ft}{p:Nat}
structure Jn where
 D:Dk
 last:Nat
 seq:Int
 off:Int
def Dk.blocks (D:Dk):Nat:=(D.n - 2) / 2
def Dk.home (D:Dk) (i:Nat):Nat:=2+D.blocks+i
def Jn.lay (J:Jn) (k:Nat) (L:List UInt8):Jn:=if J.off=0 then { J with D:=(J.D.write k L).2,off:=(J.D.write k L).1 } else J
def Jn.flush (J:Jn):Jn:=if J.off=0 then { J with D:=J.D.flush.2,off:=J.D.flush.1 } else J
structure JAt (w:World) (F:Ft) (p:Nat) (J:Jn):Prop where
 apart:¬F.has p
 head:w.heap[p]?=some (.cells #[F.ptr,.int .u64 (J.last:Int),.int .i64 J.seq,.int .i64 J.off] 158 (0,0))
 disk:Xd w F J.D
def JT (F:Ft) (p:Nat) (k:Nat):Prop:=F.has k\/k=p
theorem JAt.lt {J:Jn} (h:JAt w F p J) {k:Nat} (hk:JT F p k):k<w.heap.size:=by
 rcases hk with hk | rfl
 .exact h.disk.lt hk
 .exact Za h.head
theorem JAt.keep {J:Jn} (h:JAt w F p J) (hw:∀k,JT F p k->w'.heap[k]?=w.heap[k]?):JAt w' F p J :=
 ⟨h.apart,(hw p (.inr rfl)).trans h.head,h.disk.keep λk a=>hw k (.inl a)⟩
theorem JAt.turned {J:Jn} {T:Nat->Prop} (h:JAt w F p J) (ht:Zb T w w') (b:∀k,JT F p k->¬T k):JAt w' F p J :=
 h.keep λk a=>ht.block k (h.lt a) (b k a)
theorem JAt.below {J:Jn} (h:JAt w F p J) (hb:Below w.heap.size w w'):JAt w' F p J:=h.keep λk a=>hb.block k (h.lt a)
theorem JAt.drew {J:Jn} (h:JAt w F p J):JAt w.drew F p J:=h.keep λ_ _=>rfl
theorem JAt.cells {J:Jn} (h:JAt w F p J):
  w.cell? ⟨p,0,none⟩=some F.ptr/\w.cell? ⟨p,1,none⟩=some (.int .u64 (J.last:Int))/\w.cell? ⟨p,2,none⟩=some (.int .i64 J.seq)/\w.cell? ⟨p,3,none⟩=some (.int .i64 J.off):=by
 refine⟨?_,?_,?_,?_⟩<;>· rw[Vc _ _ _ _ _ _ h.head];rfl
abbrev jptr (p:Nat):Value:=.pointer (some ⟨p,0,none⟩)
theorem Zc (w:World) (p i:Nat) (v:Value):Zb (·=p) w (w.setCell ⟨p,i,none⟩ v) :=
 ⟨rfl,rfl,rfl,by simp[World.setCell],λk b a=>Vx _ _ _ _ a⟩
theorem JAt.put_disk {J:Jn} (h:JAt w F p J) {D:Dk} (a:Xd w' F D) (ht:Zb F.has w w'):JAt w' F p { J with D:=D } :=
 ⟨h.apart,(ht.block p (Za h.head) h.apart).trans h.head,a⟩
theorem JAt.put_off {J:Jn} (h:JAt w F p J) (e:Int):JAt (w.setCell ⟨p,3,none⟩ (.int .i64 e)) F p { J with off:=e } :=
 ⟨h.apart,Ze h.head _,h.disk.keep λk a=>Vx _ _ _ _ (λe=>h.apart (by rw[e] at a;exact a))⟩
theorem JAt.put_last {J:Jn} (h:JAt w F p J) (n:Nat):JAt (w.setCell ⟨p,1,none⟩ (.int .u64 (n:Int))) F p { J with last:=n } :=
 ⟨h.apart,Ze h.head _,h.disk.keep λk a=>Vx _ _ _ _ (λe=>h.apart (by rw[e] at a;exact a))⟩
theorem JAt.put_seq {J:Jn} (h:JAt w F p J) (n:Int):JAt (w.setCell ⟨p,2,none⟩ (.int .i64 n)) F p { J with seq:=n } :=
 ⟨h.apart,Ze h.head _,h.disk.keep λk a=>Vx _ _ _ _ (λe=>h.apart (by rw[e] at a;exact a))⟩
theorem Zb.jt (p:Nat) (h:Zb F.has w w'):Zb (JT F p) w w':=h.mono λ_ _ e=>.inl e
theorem Zb.jp (F:Ft) (h:Zb (·=p) w w'):Zb (JT F p) w w':=h.mono λ_ _ e=>.inr e
theorem Zbp (w:World) (F:Ft) (p:Nat) (J:Jn) (h:JAt w F p J) (h2:2<=J.D.n):Calls Tryz.prog 79 #[jptr p] w λe w'=>e=.returned (.int .i64 (J.D.blocks:Int))/\w=w':=by
 obtain⟨c,d,f,g⟩:=h.cells;have hn:=h.disk.ok.nm
 have a:(J.D.blocks:Int)=((J.D.n:Int) - 2) / 2:=by unfold Dk.blocks;omega
 rw[a];clear a;have HS:=Hd (Zbt w F J.D h.disk)
 clear h;have b:(0:Int)<=(J.D.n:Int) - 2:=by omega
 go_enter Tryz.func79,Tryz.ntmps79;go_wp2_with fail;refine HS.out.mono ?_;rintro e w' ⟨rfl,rfl⟩;go_wp2_with fail;go_ret;exact⟨rfl,rfl⟩
theorem home_any (w:World) (F:Ft) (p:Nat) (J:Jn) (h:JAt w F p J) (h2:2<=J.D.n) (i:Nat) (d:i<=16777216):Calls Tryz.prog 92 #[jptr p,.int .i64 (i:Int)] w λe w'=>e=.returned (.int .i64 (J.D.home i:Int))/\w=w':=by
 have f:=h.disk.ok.nm;have a:(J.D.home i:Int)=2+(J.D.blocks:Int)+(i:Int):=by unfold Dk.home;omega
 rw[a];have g:(J.D.blocks:Int)<=8191:=by unfold Dk.blocks;omega
 have c:=Hd (Zbp w F p J h h2);clear a h;generalize J.D.blocks=b at *;go_enter Tryz.func92,Tryz.ntmps92;go_wp2_with fail;refine c.out.mono ?_;rintro e w' ⟨rfl,rfl⟩;go_wp2_with fail;go_ret;exact⟨rfl,rfl⟩
theorem lay_any (w:World) (F:Ft) (p:Nat) (J:Jn) (h:JAt w F p J) (k:Nat) (hk:k<=33554432) (L:List UInt8) (hl:L.length=128):
  Calls Tryz.prog 90 #[jptr p,.int .i64 (k:Int),.agg (bv L).toArray] w λe w'=>e=.returned (.tuple #[])/\JAt w' F p (J.lay k L)/\Zb (JT F p) w w':=by
 obtain⟨W1,a⟩:∃W1,W1=w.alloc (.cells (bv L).toArray 159):=⟨_,rfl⟩;have g:Zh W1 w.heap.size 159 L:=by rw[a];exact Zh.alloc w 159 L
 have b:Below w.heap.size w W1:=by rw[a];exact(Ve _ _).alloc (Va _) _
 have c:=h.below b;obtain⟨o,q,r,m⟩:=c.cells;by_cases d:J.off=0
 .have f:J.lay k L={ J with D:=(J.D.write k L).2,off:=(J.D.write k L).1 }:=by simp[Jn.lay,d]
  rw[f];rw[d] at m;have hb:=g.isB 0 128 128 (by omega) (by omega) (by simp[maxLen])
  rw[List.drop_zero,List.take_of_length_le (by omega)] at hb;have HW:=Hd (write_any W1.drew F J.D c.disk.drew k _ L hb (by omega) (by omega))
  clear hb g d f;go_enter Tryz.func90,Tryz.ntmps90;go_upto_region 1 with fail;rw[<-a];clear a;go_wp2_with fail;go_region_with (first | (go_at_call 121;((with_reducible refine HW.out.mono ?_);rintro e j ⟨rfl,i,l⟩;have j2:=c.drew.put_disk i l;have s:j.cell? ⟨p,3,none⟩=some (.int .i64 J.off):=j2.cells.2.2.2;have f3:=Zf j2.head 3)))
  go_end0;exact⟨rfl,j2.put_off _,((Zb.of_below (T:=JT F p) b).drew.trans (l.jt p)).trans ((Zc j p 3 _).jp F)⟩
 .have f:J.lay k L=J:=by simp[Jn.lay,d]
  rw[f];have t:(J.off==0)=false:=by simpa using d
  have n:=Hd (And.intro c (Zb.of_below (T:=JT F p) b));clear f h g c;go_enter Tryz.func90,Tryz.ntmps90;go_upto_region 1 with fail;rw[<-a];clear a;go_wp2_with fail;go_end0;exact⟨rfl,n.out⟩
theorem Zfm (w:World) (F:Ft) (p:Nat) (J:Jn) (h:JAt w F p J):
  Calls Tryz.prog 93 #[jptr p] w λe w'=>e=.returned (.tuple #[])/\JAt w' F p J.flush/\Zb (JT F p) w w':=by
 obtain⟨j,k,l,g⟩:=h.cells;by_cases a:J.off=0
 .have b:J.flush={ J with D:=J.D.flush.2,off:=J.D.flush.1 }:=by simp[Jn.flush,a]
  rw[b];rw[a] at g;have HW:=Hd (flush_any w F J.D h.disk)
  clear a b;go_enter Tryz.func93,Tryz.ntmps93;go_wp2_with fail;refine HW.out.mono ?_;rintro e d ⟨rfl,c,f⟩;have j2:=h.put_disk c f
  have m:d.cell? ⟨p,3,none⟩=some (.int .i64 J.off):=j2.cells.2.2.2;have f3:=Zf j2.head 3;go_wp2_with fail;go_end0;exact⟨rfl,j2.put_off _,(f.jt p).trans ((Zc d p 3 _).jp F)⟩
 .have b:J.flush=J:=by simp[Jn.flush,a]
  rw[b];have n:(J.off==0)=false:=by simpa using a
  have i:=Hd h;clear b h;go_enter Tryz.func93,Tryz.ntmps93;go_wp2_with fail;go_end0;exact⟨rfl,i.out,Zb.refl _ _⟩
end
end Go.Proofs.YtfaobkmojlhbnaaGreatDoor
