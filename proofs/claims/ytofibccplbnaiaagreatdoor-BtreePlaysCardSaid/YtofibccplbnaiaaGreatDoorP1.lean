/- Contracts of the functions that the statements of this seat reach, part 1: each says what the call answers and what it leaves of the memory. -/
import Derived.Test.YtofibccplbnaiaaGreatDoorChecked
import Derived.WalkKit
import Derived.Lib.Hide
import Derived.WalkSpells
import Derived.Deep.MidRow
import Derived.Laws.AppendOwn
import Derived.Lib.VarintMem
import Derived.Deep.WholeRow
import Derived.Deep.RegionWith
import Derived.Deep.Cut
import Derived.WideLaws
import Derived.MapKept
import Derived.RegionTactic
import Derived.BigRegion
import Derived.BigQuiet
import Derived.StillTailTactics
set_option linter.unusedVariables false
set_option linter.unusedSimpArgs false
set_option maxRecDepth 100000
set_option maxHeartbeats 64000000
namespace Go.Proofs.YtofibccplbnaiaaGreatDoor
section
open Go.RowKit
theorem zA {α : Type} (l : List α) (i : Nat) (a : α) : l.toArray.setIfInBounds i a = (l.set i a).toArray := List.setIfInBounds_toArray ..
theorem zB {α : Type} (a b : α) (l : List α) : (a :: l).set 0 b = b :: l := rfl
theorem zC {α : Type} (a b : α) (l : List α) (i : Nat) : (a :: l).set (i + 1) b = a :: l.set i b := rfl
theorem Hd {p : Prop} (h : p) : Hid p := Lib.hid h
section
variable {P : Program}
theorem Zdw (w:World) (base:Nat) (t xt ty e:TypeId) (i:TypeInfo) (z:Value) (size bytes:Nat) (d:TypeDesc) (ht:P.underlying t=some (.slice e))
  (hxt:P.underlying xt=some d) (hd:d=.slice e∨d=.string) (hi:P.info? e=some i) (hz:i.zero=some z)
  (hsize:i.size=size) (hby:i.bytes=bytes) (hzs:z.cells.size=size) (hsz:0<size)
  (v:Value) (n:Nat) (xs:List Value) (hown:w.ownsRow base e size v n xs)
  (x:Value) (m:Nat) (news:List Value) (hlen:∀w':World,(Builtin.lenOf x).run P w'=.ok m w') (hl:news.length=m*size)
  (hf:∀w':World,w'.heap=w.heap→(Builtin.firstCells size m x).run P w'=.ok news.toArray w') (h1:∀u∈news,u.oneCell'=true)
  (h63:n+m≤maxLen) (hbytes:(n+m)*bytes≤140737488355328) (hbase:base≤w.heap.size) :
  ∃v' w',(Builtin.append_ #[t,xt] ty #[v,x]).run P w=.ok v' w'∧w'.ownsRow base e size v' (n+m) (xs++news)∧w.grownBy w' v.ownBlock ∧
   (v'=.slice none 0 0↔v=.slice none 0 0∧m=0)∧(v'.ownBlock=v.ownBlock∨v'.ownBlock=some w.heap.size):=by
 subst hsize;subst hby;have hf1:=hf w rfl
 have hf2:=hf w.drew rfl;clear hf;have hsmall:n+m≤9223372036854775807:=by simp only[maxLen] at h63;omega
 have hlen2:(xs++news).length=(n+m)*i.size:=by rw[List.length_append,hown.1,hl,Nat.add_mul]
 have grown:∀(old:Nat),old<n+m→∀(row:Option Nat),
   (w.drew.alloc (.cells (xs.toArray++news.toArray++Builtin.zeroCells z.cells (grownCap w (n+m) old e - (n+m))) e)).ownsRow base e i.size
    (.slice (some ⟨w.heap.size,0,none⟩) (n+m) (grownCap w (n+m) old e)) (n+m) (xs++news) ∧
   w.grownBy (w.drew.alloc (.cells (xs.toArray++news.toArray++Builtin.zeroCells z.cells (grownCap w (n+m) old e - (n+m))) e)) row:=by
  intro old ho row
  have hge:=grownCap_ge w (n+m) old e
  have hcm:grownCap w (n+m) old e≤maxLen:=grownCap_le_maxLen w (n+m) old e h63
  refine⟨⟨hlen2,.inr ⟨w.heap.size,_,_,rfl,hbase,heap_alloc_new w.drew _,hge,hcm,?_,?_⟩⟩,⟨rfl,rfl,rfl,by simp,fun k hk _=>Below.heap_alloc w.drew _ k hk⟩⟩
  ·simp only[Array.size_append,List.size_toArray,size_zeroCells,hzs,hown.1,hl,←Nat.add_mul];congr 1;omega
  ·simp only[Array.toList_append,List.append_assoc];rw[←List.append_assoc,←hlen2];exact List.take_left
 rcases hown.2 with ⟨rfl,rfl⟩ | ⟨g,cap,cur,rfl,hbg,hg,hnc,hcm,hcs,htake⟩
 ·have hx:xs=[]:=List.eq_nil_of_length_eq_zero (by simpa using hown.1)
  subst hx;by_cases hm:m=0
  ·subst hm
   have hn:news=[]:=List.eq_nil_of_length_eq_zero (by simpa using hl);subst hn;refine⟨.slice none 0 0,w,?_,World.ownsRow_nil w base e i.size,⟨rfl,rfl,rfl,Nat.le_refl _,fun _ _ _=>rfl⟩,by simp,.inl rfl⟩
   rcases hd with rfl | rfl<;>simp[Builtin.append_,run_underlying ht,run_underlying hxt,sizeOf,typeInfo,hi,hlen,hf1]
  ·have h63':¬(9223372036854775807<(m:Int)):=by omega
   have hfit:Builtin.nextslicecap m 0*i.bytes≤281474976710656:=growslice_fits (by omega) (by simpa using hbytes);have h48':¬(281474976710656<Builtin.nextslicecap m 0*i.bytes):=by omega
   have hgr:=grown 0 (by omega) (Value.ownBlock (.slice none 0 0));simp only[Nat.zero_add,List.nil_append,Array.empty_append] at hgr ⊢;refine⟨_,_,?_,hgr.1,hgr.2,by simp[hm],.inr rfl⟩
   rcases hd with rfl | rfl<;>simp[Builtin.append_,run_underlying ht,run_underlying hxt,sizeOf,typeInfo,zeroValue,hi,hz,hlen,hm,h63',h48',Question.forced,run_firstCells_none,hf2,newRow,grownCap]
 ·by_cases hroom:n+m≤cap
  ·have hfit:n*i.size+news.length≤cur.size:=by rw[hl,hcs,←Nat.add_mul];exact Nat.mul_le_mul_right _ hroom
   have hst:=run_storeCells_at P g (n*i.size) e news 0 cur w hg (by simpa using hfit) h1;simp only[Nat.add_zero] at hst;refine⟨.slice (some ⟨g,0,none⟩) (n+m) cap,w.setRow g (cur.toList.take (n*i.size)++news++cur.toList.drop (n*i.size+news.length)).toArray,?_,⟨hlen2,.inr ⟨g,cap,_,rfl,hbg,setRow_heap w g cur _ e _ hg,hroom,hcm,?_,?_⟩⟩,⟨rfl,rfl,rfl,by simp,fun k _ hk=>setRow_other w g k _ (fun e=>hk (by simp[Value.ownBlock,e]))⟩,by simp,.inl rfl⟩
   ·rcases hd with rfl | rfl<;>simp[Builtin.append_,run_underlying ht,run_underlying hxt,sizeOf,typeInfo,hi,hlen,hroom,hf1,Addr.add_lit,hst]
   ·simp only[List.size_toArray,List.length_append,List.length_take,List.length_drop,Array.length_toList];omega
   ·rw[htake,←hlen2];exact List.take_left
  ·have holds:∀j u,xs[j]?=some u→w.cell? ((⟨g,0,none⟩:Addr).add j)=some u:=hown.cells (g:=g) rfl
   have hn:¬(n+m≤cap):=by omega
   have h63':¬(9223372036854775807<((n:Int)+(m:Int))):=by omega
   have hfit:Builtin.nextslicecap (n+m) cap*i.bytes≤281474976710656:=growslice_fits (by omega) hbytes;have h48':¬(281474976710656<Builtin.nextslicecap (n+m) cap*i.bytes):=by omega
   have hfo:=run_firstCells_some (P:=P) w.drew i.size n ⟨g,0,none⟩ n cap xs hown.1 (by simpa using holds);have hgr:=grown cap (by omega) (Value.ownBlock (.slice (some ⟨g,0,none⟩) n cap));refine⟨_,_,?_,hgr.1,hgr.2,by simp,.inr rfl⟩
   rcases hd with rfl | rfl<;>simp[Builtin.append_,run_underlying ht,run_underlying hxt,sizeOf,typeInfo,zeroValue,hi,hz,hlen,hn,h63',h48',Question.forced,hf2,hfo,newRow,grownCap]
   all_goals
    congr 2
    apply Array.ext'
    simp[List.append_assoc]
def bv (l:List UInt8):List Value:=l.map fun b=>.int .u8 (b.toNat:Int)
theorem Zl (l:List UInt8):(bv l).length=l.length:=by simp[bv]
theorem Zea (l r:List UInt8):bv (l++r)=bv l++bv r:=by simp[bv]
theorem Yk (l:List UInt8):∀u∈bv l,u.oneCell'=true:=by intro u hu;obtain⟨_,_,rfl⟩:=List.mem_map.1 hu;rfl
theorem Zef (l:List UInt8) (i:Nat) (h:i<l.length):(bv l)[i]?=some (.int .u8 (l[i].toNat:Int)):=by simp[bv,h]
def IsB (w:World) (v:Value) (l:List UInt8):Prop :=
 ∃a cap,v=.slice a l.length cap∧l.length≤cap∧cap≤maxLen∧(a=none→cap=0) ∧
  ∀x,a=some x→(0<l.length→x.spot=none)∧∀i,(h:i<l.length)→w.cell? ⟨x.block,x.off+i,none⟩=some (.int .u8 (l[i].toNat:Int))
def IsBs (w:World) (v:Value) (ls:List (List UInt8)):Prop :=
 ∃a cap,v=.slice a ls.length cap∧ls.length≤cap∧cap≤maxLen∧(a=none→cap=0) ∧
  ∀x,a=some x→(0<ls.length→x.spot=none)∧∀i,(h:i<ls.length)→∃u,w.cell? ⟨x.block,x.off+i,none⟩=some u∧IsB w u ls[i]
def Qs (e:TypeId) (base:Nat) (w:World) (v:Value) (l:List UInt8):Prop:=w.ownsRow base e 1 v l.length (bv l)
theorem IsB.nil (w:World):IsB w (.slice none 0 0) []:=⟨none,0,rfl,Nat.le_refl _,by simp[maxLen],fun _=>rfl,fun x h=>by cases h⟩
theorem IsB.of_cells {w w':World} {v:Value} {l:List UInt8} (h:IsB w v l) (hw:∀a u,w.cell? a=some u→w'.cell? a=some u):IsB w' v l:=by obtain⟨a,cap,hv,hl,hm,hn,hc⟩:=h;exact⟨a,cap,hv,hl,hm,hn,fun x hx=>⟨(hc x hx).1,fun i hi=>hw _ _ ((hc x hx).2 i hi)⟩⟩
theorem Zi {w w':World} (hb:Below w.heap.size w w') (a:Addr) (u:Value) (h:w.cell? a=some u):w'.cell? a=some u :=
 (hb.cell (World.block_lt_of_cell? w a h)).trans h
theorem IsB.below {w w':World} {v:Value} {l:List UInt8} (h:IsB w v l) (hb:Below w.heap.size w w'):IsB w' v l:=h.of_cells (Zi hb)
theorem IsB.alloc {w:World} {v:Value} {l:List UInt8} (h:IsB w v l) (o:Obj):IsB (w.alloc o) v l:=h.below ((Below.refl _ _).alloc (Nat.le_refl _) _)
theorem IsB.drew {w:World} {v:Value} {l:List UInt8} (h:IsB w v l):IsB w.drew v l:=h
theorem Qs.nil (e:TypeId) (base:Nat) (w:World):Qs e base w (.slice none 0 0) []:=World.ownsRow_nil w base e 1
theorem Qs.below {e:TypeId} {base:Nat} {w w':World} {v:Value} {l:List UInt8} (h:Qs e base w v l) (hb:Below w.heap.size w w'):Qs e base w' v l:=by
 obtain⟨h1,h2⟩:=h;refine⟨h1,?_⟩;rcases h2 with h2 | ⟨g,cap,cur,hv,hg,hh,r⟩
 ·exact .inl h2
 ·exact .inr ⟨g,cap,cur,hv,hg,by rw[hb.block g (Array.getElem?_eq_some_iff.1 hh).1];exact hh,r⟩
theorem Qs.isB {e:TypeId} {base:Nat} {w:World} {v:Value} {l:List UInt8} (h:Qs e base w v l):IsB w v l:=by
 rcases h.2 with ⟨rfl,hn⟩ | ⟨g,cap,cur,rfl,hb,hg,hnc,hcm,hcs,htake⟩
 ·have:l=[]:=List.eq_nil_of_length_eq_zero hn;subst this;exact IsB.nil w
 ·refine⟨some ⟨g,0,none⟩,cap,rfl,hnc,hcm,fun h=>(by cases h),?_⟩
  rintro x ⟨⟩;refine⟨fun _=>rfl,fun i hi=>?_⟩;have hc:=World.ownsRow.cells h (g:=g) rfl i _ (Zef l i hi)
  simpa [Addr.add_lit] using hc
theorem Qs.lt {e:TypeId} {base:Nat} {w:World} {v:Value} {l:List UInt8} (h:Qs e base w v l):∀k,v.ownBlock=some k→base≤k∧k<w.heap.size:=World.ownsRow.lt h
theorem Qs.lit {e:TypeId} {base:Nat} {w:World} (l:List UInt8) (hb:base≤w.heap.size) (hm:l.length≤maxLen) :
  Qs e base (w.alloc (.cells (bv l).toArray e)) (.slice (some ⟨w.heap.size,0,none⟩) l.length l.length) l:=by
 have:=World.ownsRow_lit (e:=e) (size:=1) (base:=base) w (bv l).toArray l.length hb hm (by simp[bv]);simpa [Qs] using this
theorem Qx {w:World} {v:Value} {l:List UInt8} (h:IsB w v l):∀w':World,w'.heap=w.heap→(Builtin.firstCells 1 l.length v).run P w'=.ok (bv l).toArray w':=by
 intro w' hw;obtain⟨a,cap,rfl,hl,hm,hn,hc⟩:=h
 cases a with
 | none =>
  have:l=[]:=List.eq_nil_of_length_eq_zero (by have:=hn rfl;omega);subst this;simp[Builtin.firstCells,bv]
 | some x =>
  by_cases h0:l=[]
  ·subst h0;simp[Builtin.firstCells,bv,loadCells,loadCellsFrom]
  obtain⟨b,o,s⟩:=x;obtain⟨hs,hc⟩:=hc _ rfl;obtain rfl:s=none:=hs (List.length_pos_iff.2 h0);refine run_firstCells_some (P:=P) w' 1 l.length _ _ _ (bv l) (by simp[bv]) ?_;intro j u hj;have hlt:j<l.length:=by have:=(List.getElem?_eq_some_iff.1 hj).1;simpa [bv] using this
  rw[Zef l j hlt] at hj;obtain rfl:=Option.some.inj hj;rw[Addr.add_lit,World.cell?_of_block (w:=w) (by rw[hw])];exact hc j hlt
theorem Zgn {w:World} {ops:Array Oper} {rest:List Oper} {o:Oper} {a:Act} {Q:Exit→Act→World→Prop} (hgd:o.guard=none) (s x:Operand) (t:TypeId)
  (ho:o.op=.call { callee:=.builtin .append,args:=#[s,x],argTypes:=#[t,t] })
  (base:Nat) (e:TypeId) (hP:(P.info? e).map (fun i=>(i.zero,i.size,i.bytes))=some (some (.int .u8 0),1,1)) (ht:P.underlying t=some (.slice e))
  (v:Value) (l:List UInt8) (hs:a.eval s=v) (hown:Qs e base w v l)
  (u:Value) (m:List UInt8) (hx:a.eval x=u) (hu:IsB w u m)
  (hlen:l.length+m.length≤140737488355328) (hbase:base≤w.heap.size)
  (h:∀v' w',Qs e base w' v' (l++m)→w.grownBy w' v.ownBlock→Below base w w'→(v'=.slice none 0 0↔v=.slice none 0 0∧m=[])→(v'.ownBlock=v.ownBlock∨v'.ownBlock=some w.heap.size)→wpList P ops Q rest (a.put o.dst v') w'):wpList P ops Q (o::rest) a w:=by
 obtain⟨i,hi,hz,hs1,hb1⟩:=info_parts hP
 obtain⟨v',w',hr,h2,h3,h4,h5⟩:=Zdw (P:=P) w base t t o.type e i (.int .u8 0) 1 1 _ ht ht (.inl rfl) hi hz hs1 hb1 rfl (by decide) v l.length (bv l) hown u m.length (bv m)
  (fun w'=>by obtain⟨a,cap,rfl,_⟩:=hu;simp[Builtin.lenOf]) (by simp[bv]) (Qx hu) (Yk m) (by unfold maxLen;omega) (by omega) hbase
 refine wpList_plain hgd fun K hK=>?_;unfold Oper.wp execOp;simp only[ho,resolve,invoke,builtin,Sem.run_bind,Sem.run_pure,Result.andThen_ok,List.map_toArray,List.map_cons,List.map_nil,hs,hx,hr];refine hK _ _ (h v' w' ?_ h3 ((Below.refl base w).grown h3 hbase fun k hk=>(hown.lt k hk).1) ?_ h5)
 ·rw[←Zea,←List.length_append] at h2;exact h2
 ·rw[h4];simp[List.length_eq_zero_iff]
theorem run_str {w:World} {v:Value} {l:List UInt8} (hv:IsB w v l) (src dst e:TypeId) (hs:P.underlying src=some (.slice e)) (he:P.underlying e=some (.int .u8)) (hd:P.underlying dst=some .string) :
  (convert src dst v).run P w=.ok (.string ⟨l.toArray⟩) w:=by
 obtain⟨a,cap,rfl,hl,hm,hn,hc⟩:=hv;rw[run_convert_bytes_string w src dst e _ _ _ hs he hd]
 cases a with
 | none =>
  have:l=[]:=List.eq_nil_of_length_eq_zero (by have:=hn rfl;omega);subst this;simp[Conv.bytesToString];rfl
 | some x =>
  by_cases h0:l=[]
  ·subst h0;simp[Conv.bytesToString,loadCells,loadCellsFrom];rfl
  obtain⟨b,o,s⟩:=x;obtain⟨hs,hc⟩:=hc _ rfl;obtain rfl:s=none:=hs (List.length_pos_iff.2 h0)
  have hlc:=run_loadCells_list (P:=P) w ⟨b,o,none⟩ (bv l) (by
   intro j u hj;have hlt:j<l.length:=by have:=(List.getElem?_eq_some_iff.1 hj).1;simpa [bv] using this
   rw[Zef l j hlt] at hj;obtain rfl:=Option.some.inj hj;rw[Addr.add_lit]
   exact hc j hlt)
  rw[Zl] at hlc;have e1:bv l=(l.map fun b=>(b.toNat:Int)).map (Value.int .u8):=by simp[bv]
  rw[e1] at hlc;rw[run_bytesToString w _ _ _ _ hlc,foldl_push_bytes]
  have e2:((l.map fun b=>(b.toNat:Int)).map fun n=>UInt8.ofNat n.toNat)=l:=by
   rw[List.map_map]
   conv=>rhs;rw[←List.map_id l]
   apply List.map_congr_left;intro b _;simp
  rw[e2];have e3:(ByteArray.empty.data++l.toArray)=l.toArray:=by rw[show ByteArray.empty.data=#[] from rfl,Array.empty_append]
  rw[e3]
def cutA (a:Option Addr) (cap n:Nat):Option Addr:=if cap=n then a else a.map (·.add n)
theorem run_cut_lh (w:World) {t e:TypeId} (ht:P.underlying t=some (.slice e)) (hsz:(P.info? e).map (fun i=>(i.zero,i.size,i.bytes))=some (some (.int .u8 0),1,1)) (a:Option Addr) (len cap n h:Nat) (L H:Int) (hL:L=n) (hH:H=h) (hn:n≤h) (hh:h≤cap) :
  (Instr.slice t (.slice a len cap) (some (.int .i64 L)) (some (.int .i64 H)) none).run P w=.ok (.slice (cutA a cap n) (h - n) (cap - n)) w:=by
 obtain⟨i,hi,hz,hs1,hb1⟩:=info_parts hsz;subst hL;subst hH;have h2:(n:Int)≤(h:Int):=by omega
 have h3:(h:Int)≤(cap:Int):=by omega
 simp[Instr.slice,run_underlying ht,Instr.sliceBounds,run_sliceBound,sizeOf,typeInfo,hi,hs1,h2,h3,cutA]
theorem IsB.cut {w:World} {a:Option Addr} {len cap:Nat} {l:List UInt8} (hv:IsB w (.slice a len cap) l) (n h:Nat) (hn:n≤h) (hh:h≤l.length) :
  IsB w (.slice (cutA a cap n) (h - n) (cap - n)) ((l.take h).drop n):=by
 obtain⟨a',cap',hv,hl,hm,hnil,hc⟩:=hv;simp only[Value.slice.injEq] at hv;obtain⟨rfl,rfl,rfl⟩:=hv;have hlen:((l.take h).drop n).length=h - n:=by simp;omega
 refine⟨cutA a cap n,cap - n,by rw[hlen],by rw[hlen];omega,by omega,?_,?_⟩
 ·intro hnone
  unfold cutA at hnone;split at hnone
  ·omega
  ·cases a with
   | none=>have:=hnil rfl;omega
   | some x=>cases hnone
 ·intro x hx
  unfold cutA at hx;split at hx
  ·obtain⟨h1,h2⟩:=hc x hx;refine⟨fun hpos=>h1 (by rw[hlen] at hpos;omega),fun i hi=>?_⟩;rw[hlen] at hi;omega
  ·cases a with
   | none=>cases hx
   | some y =>
    simp only[Option.map_some,Option.some.injEq] at hx;subst hx;obtain⟨h1,h2⟩:=hc y rfl
    refine⟨fun hpos=>by rw[hlen] at hpos;have h1':=h1 (by omega);unfold Addr.add;split<;>simp[h1'],fun i hi=>?_⟩
    have hi':=hi;rw[hlen] at hi';have h3:=h2 (n+i) (by omega)
    have e1:(y.add n).block=y.block:=by unfold Addr.add;split<;>rfl
    have e2:(y.add n).off=y.off+n:=by unfold Addr.add;split<;>simp_all
    have e3:((l.take h).drop n)[i]=l[n+i]:=by simp
    rw[e1,e2,e3,Nat.add_assoc];exact h3
theorem wpList_conv {w:World} {ops:Array Oper} {rest:List Oper} {d:Option Tmp} {ty:TypeId} {p:String} {af:Array Edge} {a:Act} {Q:Exit→Act→World→Prop} (x:Operand) (st t e:TypeId)
  (hs:P.underlying st=some .string) (ht:P.underlying t=some (.slice e)) (he:P.underlying e=some (.int .u8)) (s:ByteArray) (hx:a.eval x=.string s) (hlen:s.size≤140737488355328)
  (h:∀cap w',s.size≤cap→cap≤maxLen→IsB w' (.slice (some ⟨w.heap.size,0,none⟩) s.size cap) s.data.toList→Below w.heap.size w w'→w.heap.size<w'.heap.size →
   w'.heap[w.heap.size]?=some (.cells (bytesRow s cap) e ((bytesRow s cap).size,(bytesRow s cap).size+1)) →
   wpList P ops Q rest (a.put d (.slice (some ⟨w.heap.size,0,none⟩) s.size cap)) w') :
  wpList P ops Q ({ dst:=d,op:=.convert st t x,type:=ty,pos:=p,after:=af,guard:=none }::rest) a w:=by
 have hrun:=run_bytes_of_string (P:=P) w st t e s hs ht he;have hge:=grownCap_ge w s.size 0 e;have hcm:grownCap w s.size 0 e≤maxLen:=grownCap_le_maxLen w s.size 0 e (by unfold maxLen;omega);refine wpList_plain rfl fun K hK=>?_;unfold Oper.wp execOp;simp only[hx,hrun,Result.andThen_ok,Sem.run_bind,Sem.run_pure,Sem.run_map];generalize grownCap w s.size 0 e=cap at *;generalize hW:(w.drew.alloc (.cells (bytesRow s cap) e ((bytesRow s cap).size,(bytesRow s cap).size+1)))=W;have hat:W.heap[w.heap.size]?=some (.cells (bytesRow s cap) e ((bytesRow s cap).size,(bytesRow s cap).size+1)):=by rw[←hW];exact heap_alloc_new w.drew _
 have hbel:Below w.heap.size w W:=by rw[←hW];exact((Below.refl _ _).drew).alloc (Nat.le_refl _) _
 have hul:s.data.toList.length=s.size:=by rw[Array.length_toList];rfl
 refine hK _ _ (h cap W hge hcm ⟨some ⟨w.heap.size,0,none⟩,cap,by rw[hul],by rw[hul];exact hge,hcm,fun h=>(by cases h),?_⟩ hbel (by rw[←hW];simp) hat);rintro y ⟨⟩;refine⟨fun _=>rfl,fun i hi=>?_⟩;have hc:W.cell? ⟨w.heap.size,i,none⟩=(bytesRow s cap)[i]?:=cell_of_row W _ _ _ _ _ hat
 have hi2:i<s.data.size:=by simpa using hi
 simp only[Nat.zero_add];rw[hc,bytesRow,Array.getElem?_append_left (by simpa using hi2)];simp;exact⟨_,Array.getElem?_eq_getElem hi2,rfl⟩
end
theorem isB_cell {w:World} {b o n cap:Nat} {l:List UInt8} (h:IsB w (.slice (some ⟨b,o,none⟩) n cap) l) (i:Nat) (hi:i<l.length):w.cell? ⟨b,o+i,none⟩=some (.int .u8 (l[i].toNat:Int)):=by obtain⟨a',cap',hv',_,_,_,hc'⟩:=h;simp only[Value.slice.injEq] at hv';obtain⟨rfl,_,_⟩:=hv';exact(hc' _ rfl).2 i hi
theorem isB_byte (w:World) (E:TypeId) (n:Int) (x:UInt8) (h:n=((x.toNat:Nat):Int)):IsB (w.alloc (.cells #[.int .u8 n] E)) (.slice (some ⟨w.heap.size,0,none⟩) 1 1) [x]:=by rw[h];exact(Qs.lit (e:=E) [x] (Nat.le_refl _) (by simp[maxLen])).isB
theorem isBs_lit {w:World} (E:TypeId) (us:List Value) (ls:List (List UInt8)) (hm:ls.length≤maxLen) (h:∀i,(hi:i<ls.length)→∃u,us[i]?=some u∧IsB w u ls[i]) :
  IsBs (w.alloc (.cells us.toArray E)) (.slice (some ⟨w.heap.size,0,none⟩) ls.length ls.length) ls:=by
 refine⟨some ⟨w.heap.size,0,none⟩,ls.length,rfl,Nat.le_refl _,hm,(fun hn=>(by cases hn)),?_⟩;intro x hx;obtain rfl:=Option.some.inj hx;refine⟨fun _=>rfl,fun i hi=>?_⟩;obtain⟨u,hu,hb⟩:=h i hi;refine⟨u,?_,hb.alloc _⟩;simpa using hu
theorem IsBs.below {w w':World} {v:Value} {ls:List (List UInt8)} (h:IsBs w v ls) (hb:Below w.heap.size w w'):IsBs w' v ls:=by obtain⟨a,cap,hv,hl,hm,hn,hc⟩:=h;refine⟨a,cap,hv,hl,hm,hn,fun x hx=>⟨(hc x hx).1,fun i hi=>?_⟩⟩;obtain⟨u,h1,h2⟩:=(hc x hx).2 i hi;exact⟨u,Zi hb _ _ h1,h2.below hb⟩
end
section
open Go.RowKit
structure Zb (T:Nat→Prop) (w w':World):Prop where
 os:w'.os=w.os
 tape:w'.tape=w.tape
 output:w'.output=w.output
 size:w.heap.size≤w'.heap.size
 block:∀k,k<w.heap.size→¬T k→w'.heap[k]?=w.heap[k]?
theorem Zb.refl (T:Nat→Prop) (w:World):Zb T w w:=⟨rfl,rfl,rfl,Nat.le_refl _,fun _ _ _=>rfl⟩
theorem Zb.trans {T:Nat→Prop} {a b c:World} (h:Zb T a b) (k:Zb T b c):Zb T a c :=
 ⟨k.os.trans h.os,k.tape.trans h.tape,k.output.trans h.output,Nat.le_trans h.size k.size,fun i hi hn=>(k.block i (Nat.lt_of_lt_of_le hi h.size) hn).trans (h.block i hi hn)⟩
theorem Zb.mono {T T':Nat→Prop} {a b:World} (h:Zb T a b) (hT:∀k,k<a.heap.size→T k→T' k):Zb T' a b :=
 ⟨h.os,h.tape,h.output,h.size,fun k hk hn=>h.block k hk fun ht=>hn (hT k hk ht)⟩
theorem Zb.drew {T:Nat→Prop} {a b:World} (h:Zb T a b):Zb T a b.drew:=⟨h.os,h.tape,h.output,h.size,h.block⟩
theorem Zb.below {T:Nat→Prop} {a b:World} {B:Nat} (h:Zb T a b) (hB:B≤a.heap.size) (hT:∀k,T k→B≤k):Below B a b :=
 ⟨h.os,h.tape,h.output,h.size,fun k hk=>h.block k (by omega) (fun ht=>by have:=hT k ht;omega)⟩
theorem Zb.of_below {T:Nat→Prop} {a b:World} (h:Below a.heap.size a b):Zb T a b:=⟨h.os,h.tape,h.output,h.size,fun k hk _=>h.block k hk⟩
theorem Zb.then {T T':Nat→Prop} {a b c:World} (h:Zb T a b) (k:Zb T' b c) (hT:∀i,i<a.heap.size→T' i→T i):Zb T a c :=
 ⟨k.os.trans h.os,k.tape.trans h.tape,k.output.trans h.output,Nat.le_trans h.size k.size,fun i hi hn=>(k.block i (Nat.lt_of_lt_of_le hi h.size) (fun ht=>hn (hT i hi ht))).trans (h.block i hi hn)⟩
theorem Za {w:World} {k:Nat} {o:Obj} (h:w.heap[k]?=some o):k<w.heap.size:=(Array.getElem?_eq_some_iff.1 h).1
end
section
open Go.RowKit
theorem Ze {w:World} {g i:Nat} {c:Array Value} {t:TypeId} {fr:Nat × Nat} (h:w.heap[g]?=some (.cells c t fr)) (v:Value):(w.setCell ⟨g,i,none⟩ v).heap[g]?=some (.cells (c.setIfInBounds i v) t fr):=by simp only[World.setCell,Array.getElem?_modify,if_true,h];rfl
theorem Zf {w:World} {g:Nat} {c:Array Value} {t:TypeId} (h:w.heap[g]?=some (.cells c t (0,0))) (i:Nat):w.frozen? ⟨g,i,none⟩=false:=by simp[World.frozen?,h]
theorem Xg (g:Nat):∀(vs:List Value) (o:Nat) (w:World) (k:Nat),k≠g→(w.setCells g o vs).heap[k]?=w.heap[k]?
 | [],o,w,k,h=>rfl
 | v::r,o,w,k,h=>by rw[World.setCells,Xg g r (o+1) _ k h];exact Below.heap_setCell _ _ _ _ h
theorem Zdh (g:Nat):∀(vs:List Value) (o:Nat) (w:World),(w.setCells g o vs).os=w.os∧(w.setCells g o vs).tape=w.tape∧(w.setCells g o vs).output=w.output∧(w.setCells g o vs).heap.size=w.heap.size
 | [],o,w=>⟨rfl,rfl,rfl,rfl⟩
 | v::r,o,w=>by obtain⟨h1,h2,h3,h4⟩:=Zdh g r (o+1) (w.setCell ⟨g,o,none⟩ v);rw[World.setCells];exact⟨h1,h2,h3,h4.trans (by simp[World.setCell])⟩
theorem Zet {α:Type} (L vs:List α) (o j:Nat) (h:o≤L.length):(L.take o++(vs++L.drop (o+vs.length)))[j]?=if j<o then L[j]? else if j<o+vs.length then vs[j - o]? else L[j]?:=by
 rw[List.getElem?_append,List.length_take,Nat.min_eq_left h];by_cases h1:j<o
 ·rw[if_pos h1,if_pos h1,List.getElem?_take,if_pos h1]
 ·rw[if_neg h1,if_neg h1,List.getElem?_append]
  by_cases h2:j<o+vs.length
  ·rw[if_pos (by omega),if_pos h2]
  ·rw[if_neg (by omega),if_neg h2,List.getElem?_drop];congr 1;omega
theorem Zaj (g:Nat) (t:TypeId):∀(vs:List Value) (o:Nat) (w:World) (cur:Array Value),w.heap[g]?=some (.cells cur t (0,0))→o+vs.length≤cur.size →
  ∃cur':Array Value,(w.setCells g o vs).heap[g]?=some (.cells cur' t (0,0))∧cur'.toList=cur.toList.take o++(vs++cur.toList.drop (o+vs.length))
 | [],o,w,cur,h,_=>⟨cur,h,by simp⟩
 | v::r,o,w,cur,h,hl=>by
  simp only[List.length_cons] at hl;obtain⟨cur',h1,h2⟩:=Zaj g t r (o+1) (w.setCell ⟨g,o,none⟩ v) (cur.setIfInBounds o v) (Ze h v) (by simp;omega);refine⟨cur',h1,?_⟩;rw[h2,Array.toList_setIfInBounds];apply List.ext_getElem?;intro j;rw[Zet _ _ _ _ (by simp;omega),Zet _ _ _ _ (by simp;omega),List.getElem?_set,Array.length_toList,List.length_cons];by_cases hj:j<o
  ·rw[if_pos (by omega),if_neg (by omega),if_pos hj]
  ·by_cases hjo:j=o
   ·subst hjo;rw[if_pos (by omega),if_pos rfl,if_pos (by omega),if_neg (by omega),if_pos (by omega),Nat.sub_self];rfl
   ·by_cases hjr:j<o+1+r.length
    ·rw[if_neg (by omega),if_pos hjr,if_neg hj,if_pos (by omega),show j - o=(j - (o+1))+1 by omega,List.getElem?_cons_succ]
    ·rw[if_neg (by omega),if_neg hjr,if_neg (by omega),if_neg hj,if_neg (by omega)]
end
section
namespace UsCrc
def poly:Nat:=3988292384
def step (c:Nat):Nat:=if c % 2=1 then c / 2 ^^^ poly else c / 2
def Zcq:Nat→Nat→Nat
 | 0,c=>c
 | k+1,c=>Zcq k (step c)
def nib:List Nat:=[0,498536548,997073096,651767980,1994146192,1802195444,1303535960,1342533948,3988292384,4027552580,3604390888,3412177804,2607071920,2262029012,2685067896,3183342108]
def tab (c:Nat):Nat:=nib.getD (c % 16) 0 ^^^ c / 16
def byteStep (c x:Nat):Nat:=Zcq 8 (c ^^^ x)
def run (c:Nat) (l:List UInt8):Nat:=l.foldl (fun c x=>byteStep c x.toNat) c
def ones:Nat:=4294967295
def crc (l:List UInt8):Nat:=ones ^^^ run ones l
theorem step_xor (a b:Nat):step (a ^^^ b)=step a ^^^ step b:=by
 have h:=@Nat.xor_mod_two_eq_one a b;unfold step;rw[Nat.xor_div_two]
 by_cases ha:a % 2=1<;>by_cases hb:b % 2=1
 ·rw[if_neg (by rw[h];simp[ha,hb]),if_pos ha,if_pos hb];rw[Nat.xor_assoc,Nat.xor_comm (poly) (_ ^^^ _),Nat.xor_assoc,Nat.xor_self,Nat.xor_zero]
 ·rw[if_pos (by rw[h];simp[ha,hb]),if_pos ha,if_neg hb];rw[Nat.xor_assoc,Nat.xor_assoc,Nat.xor_comm poly]
 ·rw[if_pos (by rw[h];simp[ha,hb]),if_neg ha,if_pos hb];rw[Nat.xor_assoc]
 ·rw[if_neg (by rw[h];simp[ha,hb]),if_neg ha,if_neg hb]
theorem steps_xor (k:Nat):∀a b:Nat,Zcq k (a ^^^ b)=Zcq k a ^^^ Zcq k b:=by
 induction k with
 | zero=>intro a b;rfl
 | succ k ih=>intro a b;simp only[Zcq,step_xor,ih]
theorem steps_shift (k:Nat):∀c:Nat,c % 2 ^ k=0→Zcq k c=c / 2 ^ k:=by
 induction k with
 | zero=>intro c _;simp[Zcq]
 | succ k ih =>
  intro c h;have h2:c % 2=0:=by have:2∣2 ^ (k+1):=⟨2 ^ k,by rw[Nat.pow_succ,Nat.mul_comm]⟩;have h3:=Nat.mod_mod_of_dvd c this;omega
  have hs:step c=c / 2:=by unfold step;rw[if_neg (by omega)]
  have h4:(c / 2) % 2 ^ k=0:=by
   have h5:c % (2*2 ^ k)=c % 2+2*(c / 2 % 2 ^ k):=Nat.mod_mul;have h6:2 ^ (k+1)=2*2 ^ k:=by rw[Nat.pow_succ,Nat.mul_comm]
   rw[h6] at h;omega
  simp only[Zcq,hs];rw[ih _ h4,Nat.div_div_eq_div_mul,Nat.pow_succ,Nat.mul_comm]
theorem low_xor_high (c:Nat):c=c % 16 ^^^ (c / 16*16):=by
 have:=Nat.two_pow_add_eq_or_of_lt (i:=4) (b:=c % 16) (by omega) (c / 16);apply Nat.eq_of_testBit_eq;intro i;rw[Nat.testBit_xor,show (16:Nat)=2 ^ 4 from rfl,Nat.testBit_mod_two_pow,Nat.testBit_mul_two_pow,Nat.testBit_div_two_pow]
 by_cases h:i<4
 ·simp[h,Nat.not_le.2 h]
 ·have h':4≤i:=by omega
  simp[h,h']
theorem steps4_low:∀i,i<16→Zcq 4 i=nib.getD i 0:=by decide
theorem tab_eq (c:Nat):tab c=Zcq 4 c:=by
 have e:=low_xor_high c;have h1:Zcq 4 (c / 16*16)=c / 16:=by rw[steps_shift 4 _ (by omega)];omega
 have h2:=steps4_low (c % 16) (by omega);unfold tab;rw[←h2]
 conv=>rhs;rw[e,steps_xor,h1]
theorem steps_add (j k c:Nat):Zcq (j+k) c=Zcq k (Zcq j c):=by
 induction j generalizing c with
 | zero=>simp[Zcq]
 | succ j ih=>rw[Nat.succ_add];simp only[Zcq];exact ih _
theorem tab_tab (c:Nat):tab (tab c)=Zcq 8 c:=by rw[tab_eq,tab_eq,←steps_add]
theorem step_lt (c:Nat) (h:c<4294967296):step c<4294967296:=by
 unfold step;split
 ·exact Nat.xor_lt_two_pow (n:=32) (by omega) (by decide)
 ·omega
theorem steps_lt (k:Nat):∀c,c<4294967296→Zcq k c<4294967296:=by
 induction k with
 | zero=>intro c h;exact h
 | succ k ih=>intro c h;exact ih _ (step_lt c h)
theorem byteStep_lt (c x:Nat) (h:c<4294967296) (hx:x<4294967296):byteStep c x<4294967296 :=
 steps_lt 8 _ (Nat.xor_lt_two_pow (n:=32) h hx)
theorem run_lt (l:List UInt8):∀c,c<4294967296→run c l<4294967296:=by
 induction l with
 | nil=>intro c h;exact h
 | cons x l ih=>intro c h;exact ih _ (byteStep_lt c _ h (by have:=x.toNat_lt;omega))
theorem run_append (l r:List UInt8) (c:Nat):run c (l++r)=run (run c l) r:=by simp[run]
end UsCrc
end
section
def le:Nat→Nat→List UInt8
 | 0,_=>[]
 | k+1,n=>UInt8.ofNat n::le k (n / 256)
def leR:List UInt8→Nat
 | []=>0
 | b::r=>b.toNat+256*leR r
theorem Yh (k:Nat):∀n,(le k n).length=k:=by
 induction k with
 | zero=>intro n;rfl
 | succ k ih=>intro n;simp[le,ih]
theorem leR_lt (l:List UInt8):leR l<256 ^ l.length:=by
 induction l with
 | nil=>simp[leR]
 | cons b r ih =>
  have:=b.toNat_lt;simp only[leR,List.length_cons,Nat.pow_succ];omega
theorem leR_le (k:Nat):∀n,n<256 ^ k→leR (le k n)=n:=by
 induction k with
 | zero=>intro n h;simp[le,leR] at h ⊢;omega
 | succ k ih =>
  intro n h;rw[Nat.pow_succ] at h;simp only[le,leR];rw[ih (n / 256) (by omega),UInt8.toNat_ofNat'];omega
theorem leR_append (a b:List UInt8):leR (a++b)=leR a+256 ^ a.length*leR b:=by
 induction a with
 | nil=>simp[leR]
 | cons x a ih =>
  simp only[List.cons_append,leR,ih,List.length_cons,Nat.pow_succ];rw[Nat.mul_add,Nat.add_assoc];congr 2;rw[Nat.mul_comm (256 ^ a.length) 256,Nat.mul_assoc]
def Zel (b:List UInt8):List UInt8:=b.take 112++List.replicate (112 - b.length) 0
theorem pad112_length (b:List UInt8):(Zel b).length=112:=by simp[Zel];omega
theorem pad112_id {b:List UInt8} (h:b.length=112):Zel b=b:=by simp[Zel,h,List.take_of_length_le]
def fbody (write kp:Nat) (b:List UInt8):List UInt8:=le 8 write++(le 4 kp++Zel b)
def mkF (write kp:Nat) (b:List UInt8):List UInt8:=le 4 (UsCrc.crc (fbody write kp b))++fbody write kp b
theorem fbody_length (write kp:Nat) (b:List UInt8):(fbody write kp b).length=124:=by simp[fbody,Yh,pad112_length]
theorem Xd (write kp:Nat) (b:List UInt8):(mkF write kp b).length=128:=by simp[mkF,Yh,fbody_length]
def Zao (L:List UInt8):Bool:=decide (leR (L.take 4)=UsCrc.crc (L.drop 4))
def Zm (L:List UInt8):Nat:=leR ((L.drop 4).take 8)
def fkp (L:List UInt8):Nat:=leR ((L.drop 12).take 4)
def Zas (L:List UInt8):Nat:=(L.getD 15 0).toNat
def Zp (L:List UInt8):Nat:=fkp L % 16777216
def Xy (L:List UInt8):List UInt8:=L.drop 16
theorem crc_lt (l:List UInt8):UsCrc.crc l<4294967296:=by unfold UsCrc.crc;exact Nat.xor_lt_two_pow (n:=32) (by decide) (UsCrc.run_lt l _ (by decide))
theorem mkF_drop4 (write kp:Nat) (b:List UInt8):(mkF write kp b).drop 4=fbody write kp b:=by rw[mkF,List.drop_append_of_le_length (by simp[Yh]),List.drop_of_length_le (by simp[Yh]),List.nil_append]
theorem fright_mkF (write kp:Nat) (b:List UInt8):Zao (mkF write kp b)=true:=by unfold Zao;rw[mkF_drop4,decide_eq_true_eq,mkF,List.take_append_of_le_length (by simp[Yh]),List.take_of_length_le (by simp[Yh])];exact leR_le 4 _ (crc_lt _)
theorem Zcx {write:Nat} (kp:Nat) (b:List UInt8) (h:write<18446744073709551616):Zm (mkF write kp b)=write:=by unfold Zm;rw[mkF_drop4,fbody,List.take_append_of_le_length (by simp[Yh]),List.take_of_length_le (by simp[Yh])];exact leR_le 8 _ h
theorem mkF_drop12 (write kp:Nat) (b:List UInt8):(mkF write kp b).drop 12=le 4 kp++Zel b:=by rw[show (12:Nat)=4+8 from rfl,←List.drop_drop,mkF_drop4,fbody,List.drop_append_of_le_length (by simp[Yh]),List.drop_of_length_le (by simp[Yh]),List.nil_append]
theorem fkp_mkF (write:Nat) {kp:Nat} (b:List UInt8) (h:kp<4294967296):fkp (mkF write kp b)=kp:=by unfold fkp;rw[mkF_drop12,List.take_append_of_le_length (by simp[Yh]),List.take_of_length_le (by simp[Yh])];exact leR_le 4 _ h
theorem fbytes_mkF (write kp:Nat) (b:List UInt8):Xy (mkF write kp b)=Zel b:=by unfold Xy;rw[show (16:Nat)=12+4 from rfl,←List.drop_drop,mkF_drop12,List.drop_append_of_le_length (by simp[Yh]),List.drop_of_length_le (by simp[Yh]),List.nil_append]
theorem leR_four (l:List UInt8) (h:l.length=4):leR l / 16777216=(l.getD 3 0).toNat:=by
 match l,h with
 | [a,b,c,d],_ =>
  have:=a.toNat_lt;have:=b.toNat_lt;have:=c.toNat_lt;have:=d.toNat_lt;simp only[leR];show _=d.toNat
  omega
theorem fkind_eq {L:List UInt8} (h:L.length=128):Zas L=fkp L / 16777216:=by unfold Zas fkp;rw[leR_four _ (by simp[h])];simp only[List.getD_eq_getElem?_getD,List.getElem?_take,List.getElem?_drop];rfl
theorem fkind_mkF {write kind place:Nat} (b:List UInt8) (h:kind<256) (hp:place<16777216):Zas (mkF write (kind*16777216+place) b)=kind:=by rw[fkind_eq (Xd _ _ _),fkp_mkF _ _ (by omega)];omega
theorem Zeh {write kind place:Nat} (b:List UInt8) (h:kind<256) (hp:place<16777216):Zp (mkF write (kind*16777216+place) b)=place:=by rw[Zp,fkp_mkF _ _ (by omega)];omega
end
section
end
section
open Go Go.RowKit
theorem xor_u64 (x y:Nat) (hx:x<18446744073709551616) (hy:y<18446744073709551616):bits .xor .u64 (x:Int) (y:Int)=((x ^^^ y:Nat):Int):=by simpa using u64_xor (x:Int) (y:Int) (by omega) (by omega) (by omega) (by omega)
theorem or_u64 (x y:Nat) (hx:x<18446744073709551616) (hy:y<18446744073709551616):bits .or .u64 (x:Int) (y:Int)=((x ||| y:Nat):Int):=by simpa using u64_or (x:Int) (y:Int) (by omega) (by omega) (by omega) (by omega)
theorem and_u64 (x y:Nat) (hx:x<18446744073709551616) (hy:y<18446744073709551616):bits .and .u64 (x:Int) (y:Int)=((x &&& y:Nat):Int):=by simpa using u64_and (x:Int) (y:Int) (by omega) (by omega) (by omega) (by omega)
theorem Zct (n:Nat):IntKind.u64.wrap (n:Int)=((n % 18446744073709551616:Nat):Int):=by rw[IntKind.wrap_u64];omega
end
section
open Go.RowKit
def Zh (w:World) (g:Nat) (T:TypeId) (L:List UInt8):Prop:=w.heap[g]?=some (.cells (bv L).toArray T (0,0))
def Zai (L:List UInt8) (o:Nat) (v:List UInt8):List UInt8:=L.take o++(v++L.drop (o+v.length))
theorem Zgs {L:List UInt8} {o:Nat} {v:List UInt8} (h:o+v.length≤L.length):(Zai L o v).length=L.length:=by simp only[Zai,List.length_append,List.length_take,List.length_drop];omega
theorem Zh.lt {w:World} {g:Nat} {T:TypeId} {L:List UInt8} (h:Zh w g T L):g<w.heap.size:=Za h
theorem Zh.keep {w w':World} {g:Nat} {T:TypeId} {L:List UInt8} (h:Zh w g T L) (hw:w'.heap[g]?=w.heap[g]?):Zh w' g T L:=hw.trans h
theorem Zh.turned {w w':World} {g:Nat} {T:TypeId} {L:List UInt8} {S:Nat→Prop} (h:Zh w g T L) (ht:Zb S w w') (hS:¬S g):Zh w' g T L:=h.keep (ht.block g h.lt hS)
theorem Zh.below {w w':World} {g:Nat} {T:TypeId} {L:List UInt8} (h:Zh w g T L) (hb:Below w.heap.size w w'):Zh w' g T L:=h.keep (hb.block g h.lt)
theorem Zh.alloc (w:World) (T:TypeId) (L:List UInt8):Zh (w.alloc (.cells (bv L).toArray T)) w.heap.size T L:=heap_alloc_new w _
theorem Zh.cell {w:World} {g:Nat} {T:TypeId} {L:List UInt8} (h:Zh w g T L) (i:Nat) (hi:i<L.length):w.cell? ⟨g,i,none⟩=some (.int .u8 (L[i].toNat:Int)):=by rw[cell_of_row _ _ _ _ _ _ h,List.getElem?_toArray];exact Zef L i hi
theorem Zh.there {w:World} {g:Nat} {T:TypeId} {L:List UInt8} (h:Zh w g T L) (o n:Nat) (hn:o+n≤L.length):w.there g o n:=fun j hj =>
 ⟨by rw[h.cell (o+j) (by omega)];rfl,Zf h _⟩
theorem Zh.range {w:World} {g:Nat} {T:TypeId} {L:List UInt8} (h:Zh w g T L):w.rangeAt g 0 (bv L):=fun j v hj=>by
 have hl:j<L.length:=by have:=(List.getElem?_eq_some_iff.1 hj).1;simpa [bv] using this
 rw[Zef L j hl] at hj;rw[Nat.zero_add,h.cell j hl];exact hj
theorem bv_take (L:List UInt8) (n:Nat):(bv L).take n=bv (L.take n):=by simp[bv]
theorem bv_drop (L:List UInt8) (n:Nat):(bv L).drop n=bv (L.drop n):=by simp[bv]
theorem Zh.lay {w:World} {g:Nat} {T:TypeId} {L:List UInt8} (h:Zh w g T L) (o:Nat) (v:List UInt8) (hv:o+v.length≤L.length):Zh (w.setCells g o (bv v)) g T (Zai L o v):=by
 obtain⟨cur,h1,h2⟩:=Zaj g T (bv v) o w (bv L).toArray h (by rw[List.size_toArray,Zl,Zl];exact hv);unfold Zh;rw[h1];have e:cur=(bv (Zai L o v)).toArray:=by apply Array.ext';rw[h2,List.toList_toArray,List.toList_toArray,bv_take,Zl,bv_drop,Zai,Zea,Zea]
 rw[e]
theorem Zu (w:World) (g o:Nat) (vs:List Value):Zb (·=g) w (w.setCells g o vs):=by obtain⟨h1,h2,h3,h4⟩:=Zdh g vs o w;exact⟨h1,h2,h3,Nat.le_of_eq h4.symm,fun k hk hn=>Xg g vs o w k hn⟩
theorem Zh.isB {w:World} {g:Nat} {T:TypeId} {L:List UInt8} (h:Zh w g T L) (o n cap:Nat) (hn:o+n≤L.length) (hc:n≤cap) (hm:cap≤maxLen):IsB w (.slice (some ⟨g,o,none⟩) n cap) ((L.drop o).take n):=by
 have hl:((L.drop o).take n).length=n:=by simp;omega
 refine⟨some ⟨g,o,none⟩,cap,by rw[hl],by omega,hm,fun e=>(by cases e),?_⟩;rintro x ⟨⟩;refine⟨fun _=>rfl,fun i hi=>?_⟩;rw[hl] at hi;show w.cell? ⟨g,o+i,none⟩=_
 rw[h.cell (o+i) (by omega)];simp
section
variable {P : Program}
theorem run_copy_row {w:World} {g:Nat} {T:TypeId} {L:List UInt8} (h:Zh w g T L) (o n cap:Nat) (hn:o+n≤L.length) {u:Value} {l:List UInt8} (hu:IsB w u l) (t e ty:TypeId) (ht:P.underlying t=some (.slice e))
  (hP:(P.info? e).map (fun i=>(i.zero,i.size,i.bytes))=some (some (.int .u8 0),1,1)) (hl:l.length≤9223372036854775807) :
  (Builtin.copy_ #[t,t] ty #[.slice (some ⟨g,o,none⟩) n cap,u]).run P w=.ok (.int .i64 ((l.take n).length:Int)) (w.setCells g o (bv (l.take n))):=by
 obtain⟨i,hi,hz,hs1,hb1⟩:=info_parts hP;have hsz:∀w,(sizeOf e).run P w=.ok 1 w:=fun w=>by simp[sizeOf,typeInfo,hi,hs1]
 have hlen:(Builtin.lenOf u).run P w=.ok l.length w:=by obtain⟨a,c,rfl,_⟩:=hu;simp[Builtin.lenOf]
 have htl:(l.take n).length=min n l.length:=by simp
 have hfc:(Builtin.firstCells 1 (min n l.length) u).run P w=.ok (bv (l.take n)).toArray w:=by
  obtain⟨a,c,rfl,hl1,hm,hnil,hc⟩:=hu
  have hu2:IsB w (.slice a (l.take n).length c) (l.take n):=⟨a,c,rfl,by omega,hm,hnil,fun x hx=>⟨fun hp=>(hc x hx).1 (by omega),fun i hi=>by
   have h3:=(hc x hx).2 i (by omega)
   rw[h3];simp⟩⟩
  have:=Qx (P:=P) hu2 w rfl;rw[htl] at this
  cases a<;>simpa [Builtin.firstCells] using this
 have hst:=run_storeCells_cells (P:=P) g o (bv (l.take n)) 0 w (fun j hj=>(h.there o n hn j (by rw[Zl] at hj;omega)).1) (fun j hj=>(h.there o n hn j (by rw[Zl] at hj;omega)).2) (Yk _);simp only[Nat.add_zero] at hst;unfold Builtin.copy_;rw[htl];rw[Nat.min_comm] at hfc;simp only[Nat.min_def] at hfc ⊢;simp[run_underlying ht,hsz,hlen,hst,goInt,Nat.min_def,hfc]
 split<;>split<;>omega
end
theorem le_snoc (k:Nat):∀n,le (k+1) n=le k n++[UInt8.ofNat (n / 256 ^ k)]:=by
 induction k with
 | zero=>intro n;simp[le]
 | succ k ih =>
  intro n;rw[le,ih (n / 256),Nat.div_div_eq_div_mul]
  conv=>rhs;rw[le]
  rw[List.cons_append,Nat.pow_succ,Nat.mul_comm (256 ^ k)]
theorem pow_256 (k:Nat):(2:Nat) ^ (8*k)=256 ^ k:=by rw[Nat.pow_mul]
theorem shr_byte (n k:Nat):(n:Int) / 2 ^ (8*k) % 256=(((UInt8.ofNat (n / 256 ^ k)).toNat:Nat):Int):=by
 rw[UInt8.toNat_ofNat',←pow_256];have:(n:Int) / 2 ^ (8*k)=((n / 2 ^ (8*k):Nat):Int):=by simp
 rw[this];omega
theorem leR_snoc (l:List UInt8) (b:UInt8):leR (l++[b])=leR l+b.toNat*256 ^ l.length:=by rw[leR_append,leR,leR,Nat.mul_zero,Nat.add_zero,Nat.mul_comm]
theorem or_shl (U b k:Nat) (hU:U<256 ^ k) (hb:b<256) (hk:k<8) :
  bits .or .u64 (U:Int) (IntKind.u64.wrap ((b:Int)*2 ^ (8*k)))=((U+b*256 ^ k:Nat):Int):=by
 have h1:(256:Nat) ^ k*256≤18446744073709551616:=by rw[←Nat.pow_succ];exact Nat.le_trans (Nat.pow_le_pow_right (by omega) (by omega:k+1≤8)) (by decide)
 have h2:b*256 ^ k≤255*256 ^ k:=Nat.mul_le_mul_right _ (by omega);rw[show ((b:Int)*2 ^ (8*k))=((b*256 ^ k:Nat):Int) by rw[←pow_256];simp,Zct,Nat.mod_eq_of_lt (by omega)]
 rw[or_u64 U _ (by omega) (by omega),Nat.or_comm];have h3:=Nat.two_pow_add_eq_or_of_lt (i:=8*k) (b:=U) (by rw[pow_256];exact hU) b
 rw[pow_256,Nat.mul_comm (256 ^ k) b] at h3;rw[←h3,Nat.add_comm]
end
section
open Go.RowKit
theorem Zgh (w:World) (g:Nat) (T:TypeId) (L:List UInt8) (o len cap n:Nat) (h:Zh w g T L) (hl:o+len≤L.length) (h8:len≤8) (hn:n<18446744073709551616) :
  Calls Tryz.prog 97 #[.slice (some ⟨g,o,none⟩) len cap,.int .u64 (n:Int)] w fun e w'=>e=.returned (.tuple #[])∧Zh w' g T (Zai L o (le len n))∧Zb (·=g) w w':=by
 suffices hs:Calls Tryz.prog 97 #[.slice (some ⟨g,o,none⟩) len cap,.int .u64 (n:Int)] w fun e w'=>e=.returned (.tuple #[])∧w'=w.setCells g o (bv (le len n)) by refine hs.mono ?_;rintro e w' ⟨rfl,rfl⟩;exact⟨rfl,h.lay o _ (by rw[Yh];exact hl),Zu w g o _⟩
 have hth:=h.there o len hl;have HT:=Hd hth;clear hth h;go_enter Tryz.func97,Tryz.ntmps97;go_wp2;go_loopw [7] (fun i wr=>∃k:Nat,k≤len∧i=.int .i64 k∧wr=w.setCells g o (bv (le k n))) (fun i _=>len - (intOf i).toNat)
 case atStart=>exact⟨0,Nat.zero_le _,rfl,rfl⟩
 case round =>
  obtain⟨k,hk,rfl,rfl⟩:=hrel;by_cases hlt:k<len
  ·obtain⟨hc1,hc2⟩:=HT.out k hlt
   have g1:∃v,(w.setCells g o (bv (le k n))).cell? ⟨g,o+k,none⟩=some v:=Option.isSome_iff_exists.1 (World.isSome_setCells g _ _ _ _ hc1);obtain⟨v,g1⟩:=g1;have g2:(w.setCells g o (bv (le k n))).frozen? ⟨g,o+k,none⟩=false:=by rw[World.frozen?_setCells];exact hc2
   have e1:(w.setCells g o (bv (le k n))).setCell ⟨g,o+k,none⟩ (.int .u8 ((n:Int) / 2 ^ (8*k) % 256))=w.setCells g o (bv (le (k+1) n)):=by have h3:=Lib.setCells_snoc_w g (.int .u8 ((n:Int) / 2 ^ (8*k) % 256)) (bv (le k n)) o w;rw[Zl,Yh] at h3;rw[h3,shr_byte,le_snoc,Zea];rfl
   have E1:=Hd e1;clear e1 hc1 hc2;generalize w.setCells g o (bv (le k n))=W at *;have hp:(k:Int)<(len:Int):=by omega
   go_wp2;go_roundw
   case rel=>exact⟨k+1,by omega,by go_num,E1.out⟩
   case measure=>simp[intOf];omega
  ·obtain rfl:k=len:=by omega
   go_wp2;go_end0;exact⟨rfl,rfl⟩
theorem told_any (w:World) (v:Value) (l:List UInt8) (hv:IsB w v l) (h8:l.length≤8) :
  Calls Tryz.prog 72 #[v] w fun e w'=>e=.returned (.int .u64 (leR l:Nat))∧w=w':=by
 obtain⟨a,cap,rfl,hl,hm,hnil,hc⟩:=hv;unfold maxLen at hm;have Hc:=Hd hc
 clear hc;go_enter Tryz.func72,Tryz.ntmps72;go_wp2;go_loop [3,8] (fun u i=>∃k U:Nat,k≤l.length∧i=.int .i64 k∧u=.int .u64 (U:Nat)∧Hid (U=leR (l.take k))) (fun _ i=>l.length - (intOf i).toNat)
 case atStart=>exact⟨0,0,Nat.zero_le _,rfl,rfl,Hd rfl⟩
 case round =>
  obtain⟨k,U,hk,rfl,rfl,HU⟩:=hrel;by_cases hlt:k<l.length
  ·obtain⟨x,rfl⟩:∃x,a=some x:=by
    cases a with
    | none=>have:=hnil rfl;omega
    | some x=>exact⟨x,rfl⟩
   obtain⟨xb,xo,xs⟩:=x;obtain⟨hs,hcs⟩:=Hc.out _ rfl;obtain rfl:xs=none:=hs (by omega);clear hs;have hcell:=hcs k hlt
   simp only at hcell;clear hcs Hc;have hp:(k:Int)<(l.length:Int):=by omega
   have hUlt:U<256 ^ k:=by have:=leR_lt (l.take k);rw[HU.out];rw[List.length_take,Nat.min_eq_left hk] at this;exact this
   have hor:=or_shl U (l[k]).toNat k hUlt (l[k]).toNat_lt (by omega);have hst:U+(l[k]).toNat*256 ^ k=leR (l.take (k+1)):=by rw[List.take_succ_eq_append_getElem hlt,leR_snoc,List.length_take,Nat.min_eq_left hk,HU.out]
   have Hst:=Hd hst;clear hst hUlt;have hb8:(l[k]).toNat<256:=(l[k]).toNat_lt;generalize (l[k]).toNat=b at *;generalize U+b*256 ^ k=V at *;go_wp2;go_round
   case rel=>exact⟨k+1,V,by omega,by go_num,rfl,Hst⟩
   case measure=>simp[intOf];omega
  ·obtain rfl:k=l.length:=by omega
   have:=HU.out;rw[List.take_length] at this;subst this;go_wp2;go_ret;exact⟨rfl,rfl⟩
end
section
open Go.RowKit
theorem crc_round (R b:Nat) (hR:R<4294967296) (hb:b<256):∃c1 n1 t1 q1 c2 n2 t2 q2:Nat,
  bits .xor .u32 (R:Int) (b:Int)=(c1:Int)∧bits .and .u32 (c1:Int) 15=(n1:Int)∧n1<16∧UsCrc.nib.getD n1 0=t1∧(c1:Int) / 16=(q1:Int) ∧
  bits .xor .u32 (t1:Int) (q1:Int)=(c2:Int)∧bits .and .u32 (c2:Int) 15=(n2:Int)∧n2<16∧UsCrc.nib.getD n2 0=t2∧(c2:Int) / 16=(q2:Int) ∧
  bits .xor .u32 (t2:Int) (q2:Int)=((UsCrc.byteStep R b:Nat):Int):=by
 have nl:∀i,i<16→UsCrc.nib.getD i 0<4294967296:=by decide
 have xo:∀x y:Nat,x<4294967296→y<4294967296→bits .xor .u32 (x:Int) (y:Int)=((x ^^^ y:Nat):Int):=fun x y hx hy=>by simpa using u32_xor (x:Int) (y:Int) (by omega) (by omega) (by omega) (by omega)
 have an:∀x:Nat,x<4294967296→bits .and .u32 (x:Int) 15=((x % 16:Nat):Int):=fun x hx=>by have h:=u32_and (x:Int) 15 (by omega) (by omega) (by omega) (by omega);rw[h,Int.toNat_natCast,show (15:Int).toNat=2 ^ 4 - 1 from rfl,Nat.and_two_pow_sub_one_eq_mod]
 have h1:R ^^^ b<4294967296:=Nat.xor_lt_two_pow (n:=32) hR (by omega);have h2:UsCrc.tab (R ^^^ b)<4294967296:=by rw[UsCrc.tab_eq];exact UsCrc.steps_lt 4 _ h1
 refine⟨R ^^^ b,(R ^^^ b) % 16,_,(R ^^^ b) / 16,UsCrc.tab (R ^^^ b),UsCrc.tab (R ^^^ b) % 16,_,UsCrc.tab (R ^^^ b) / 16,
  xo R b hR (by omega),an _ h1,by omega,rfl,by omega,?_,an _ h2,by omega,rfl,by omega,?_⟩
 ·exact xo _ _ (nl _ (by omega)) (by omega)
 ·rw[xo _ _ (nl _ (by omega)) (by omega)];have e:=UsCrc.tab_tab (R ^^^ b);rw[UsCrc.byteStep,←e];rfl
theorem crc_parts (v:Value) (ls:List (List UInt8)) (w:World) (hv:IsBs w v ls)
   (htab:∀i,(h:i<16)→w.cell? ⟨0,i,none⟩=some (.int .u32 ((UsCrc.nib.getD i 0:Nat):Int))) :
    Calls Tryz.prog 98 #[v] w fun e w'=>e=.returned (.int .u32 (UsCrc.crc ls.flatten))∧w=w':=by
  obtain⟨a,cap,rfl,hl,hm,hnil,hc⟩:=hv
  unfold maxLen at hm
  have Htab:=Hd htab
  clear htab
  have Hc:=Hd hc
  clear hc
  go_enter Tryz.func98,Tryz.ntmps98
  go_wp2
  go_loop [3,10] (fun c i=>∃k:Nat,k≤ls.length∧i=.int .i64 k∧c=.int .u32 (UsCrc.run UsCrc.ones (ls.take k).flatten:Nat)) (fun _ i=>ls.length - (intOf i).toNat)
  case atStart=>exact⟨0,Nat.zero_le _,rfl,rfl⟩
  case round =>
    obtain⟨k,hk,rfl,rfl⟩:=hrel
    by_cases hlt:k<ls.length
    · obtain⟨x,rfl⟩:∃x,a=some x:=by
        cases a with
        | none=>have:=hnil rfl;omega
        | some x=>exact⟨x,rfl⟩
      obtain⟨xb,xo,xs⟩:=x
      obtain⟨hs,hcs⟩:=Hc.out _ rfl
      obtain rfl:xs=none:=hs (by omega)
      clear hs
      obtain⟨u,hcell,a2,cap2,rfl,hl2,hm2,hnil2,hc2⟩:=hcs k hlt
      unfold maxLen at hm2
      have Hc2:=Hd hc2
      clear hc2 hcs Hc
      simp only at hcell
      have hp:(k:Int)<(ls.length:Int):=by omega
      go_wp2
      go_loop [3,16] (fun c i=>∃j:Nat,j≤ls[k].length∧i=.int .i64 j∧c=.int .u32 (UsCrc.run UsCrc.ones ((ls.take k).flatten++ls[k].take j):Nat)) (fun _ i=>ls[k].length - (intOf i).toNat)
      case atStart=>exact⟨0,Nat.zero_le _,rfl,by simp⟩
      case round =>
        obtain⟨j,hj,rfl,rfl⟩:=hrel
        by_cases hlt2:j<ls[k].length
        · obtain⟨x,rfl⟩:∃x,a2=some x:=by
            cases a2 with
            | none=>have:=hnil2 rfl;omega
            | some x=>exact⟨x,rfl⟩
          obtain⟨xb2,xo2,xs2⟩:=x
          obtain⟨hs,hcs⟩:=Hc2.out _ rfl
          obtain rfl:xs2=none:=hs (by omega)
          clear hs
          have hcell2:=hcs j hlt2
          simp only at hcell2
          clear hcs Hc2
          have hp2:(j:Int)<(ls[k].length:Int):=by omega
          have hr:=UsCrc.run_lt ((ls.take k).flatten++ls[k].take j) UsCrc.ones (by decide)
          generalize hR:UsCrc.run UsCrc.ones ((ls.take k).flatten++ls[k].take j)=R at *
          have HR:=Hd hR
          clear hR
          have hb8:(ls[k][j]).toNat<256:=(ls[k][j]).toNat_lt
          have hstep:UsCrc.run UsCrc.ones ((ls.take k).flatten++ls[k].take (j+1))=UsCrc.byteStep R (ls[k][j]).toNat:=by
            rw[List.take_succ_eq_append_getElem hlt2,←List.append_assoc,UsCrc.run_append,HR.out];rfl
          generalize (ls[k][j]).toNat=b at *
          obtain⟨c1,n1,t1,q1,c2,n2,t2,q2,h1,h2,h3,h4,h5,h6,h7,h8,h9,h10,h11⟩:=crc_round R b hr hb8
          have hn1:w.cell? ⟨0,n1,none⟩=some (.int .u32 (t1:Int)):=h4▸Htab.out n1 h3
          have hn2:w.cell? ⟨0,n2,none⟩=some (.int .u32 (t2:Int)):=h9▸Htab.out n2 h8
          have hm0:(b:Int) % 4294967296=(b:Int):=by omega
          clear h4 h9
          have Hs:=Hd hstep
          clear hstep
          generalize UsCrc.byteStep R b=S at *
          have h3':(n1:Int)<16:=by omega
          have h8':(n2:Int)<16:=by omega
          go_wp2
          go_round
          case rel=>exact⟨j+1,by omega,by go_num,by rw[Hs.out]⟩
          case measure=>simp[intOf];omega
        · obtain rfl:j=ls[k].length:=by omega
          go_wp2
          go_round
          case rel=>exact⟨k+1,by omega,by go_num,by rw[List.take_length,List.take_succ_eq_append_getElem hlt,List.flatten_append];simp⟩
          case measure=>simp[intOf];omega
    · obtain rfl:k=ls.length:=by omega
      rw[List.take_length]
      have hr:=UsCrc.run_lt ls.flatten UsCrc.ones (by decide)
      have hx:bits .xor .u32 IntKind.u32.max ((UsCrc.run UsCrc.ones ls.flatten:Nat):Int)=((UsCrc.crc ls.flatten:Nat):Int):=by
        have h:=u32_xor 4294967295 ((UsCrc.run UsCrc.ones ls.flatten:Nat):Int) (by omega) (by omega) (by omega) (by omega)
        have hm:IntKind.u32.max=4294967295:=by decide
        rw[hm,h];rfl
      have Hx:=Hd hx
      clear hx
      generalize UsCrc.run UsCrc.ones ls.flatten=R at *
      go_wp2
      go_ret
      exact⟨congrArg (fun n=>Ending.returned (.int .u32 n)) Hx.out,rfl⟩
end
section
open Go.RowKit
theorem info_byte':(Tryz.prog.info? 5).map (fun i=>(i.zero,i.size,i.bytes))=some (some (.int .u8 0),1,1):=by kernel_rfl
theorem Zk:(Tryz.prog.info? 128).map (·.size)=some 128:=by kernel_rfl
def Yz:List UInt8:=List.replicate 128 0
theorem Yu:Yz.length=128:=List.length_replicate
theorem zero_frame (w:World):(zeroValue 128).run Tryz.prog w=.ok (.agg (bv Yz).toArray) w:=by kernel_rfl
def Nib (w:World):Prop:=∀i,(h:i<16)→w.cell? ⟨0,i,none⟩=some (.int .u32 ((UsCrc.nib.getD i 0:Nat):Int))
theorem Nib.below {w w':World} (h:Nib w) (hb:Below w.heap.size w w'):Nib w':=fun i hi=>Zi hb _ _ (h i hi)
section
variable {ops : Array Oper} {w : World} {Q : Exit → Act → World → Prop} {a : Act} {o : Oper} {rest : List Oper}
theorem wpList_val (v:Value) (w':World) (hg:o.guard=none) (he:(execOp a.eval o).run Tryz.prog w=.ok (.value v) w') (h:wpList Tryz.prog ops Q rest (a.put o.dst v) w'):wpList Tryz.prog ops Q (o::rest) a w :=
 wpList_plain hg fun _ hK=>by unfold Oper.wp;rw[he];exact hK _ _ h
theorem Zz (hg:o.guard=none) (ho:o.op=.alloc 128)
  (h:wpList Tryz.prog ops Q rest (a.put o.dst (.pointer (some ⟨w.heap.size,0,none⟩))) (w.alloc (.cells (bv Yz).toArray 128))):wpList Tryz.prog ops Q (o::rest) a w:=by
 refine wpList_val _ _ hg ?_ h;unfold execOp;simp only[ho,Instr.alloc,Sem.run_bind,zero_frame,Result.andThen_ok];rfl
end
theorem Zh.run_store {w:World} {g:Nat} {T:TypeId} {L:List UInt8} (h:Zh w g T L) {l:List UInt8} (hl:l.length=L.length):(storeCells ⟨g,0,none⟩ (bv l)).run Tryz.prog w=.ok () (w.setCells g 0 (bv l)):=by have hst:=run_storeCells_cells (P:=Tryz.prog) g 0 (bv l) 0 w (fun j hj=>(h.there 0 L.length (by omega) j (by rw[Zl] at hj;omega)).1) (fun j hj=>(h.there 0 L.length (by omega) j (by rw[Zl] at hj;omega)).2) (Yk l);simpa using hst
theorem layB_all {L l:List UInt8} (hl:l.length=L.length):Zai L 0 l=l:=by unfold Zai;rw[List.take_zero,List.nil_append,List.drop_of_length_le (by omega),List.append_nil]
theorem Zh.store {w:World} {g:Nat} {T:TypeId} {L:List UInt8} (h:Zh w g T L) {l:List UInt8} (hl:l.length=L.length):Zh (w.setCells g 0 (bv l)) g T l:=by have:=h.lay 0 l (by omega);rw[layB_all hl] at this;exact this
theorem Zh.run_load {w:World} {g:Nat} {L:List UInt8} (h:Zh w g 128 L) (hl:L.length=128):(loadVar 128 ⟨g,0,none⟩).run Tryz.prog w=.ok (.agg (bv L).toArray) w :=
 run_loadVar_row w g _ _ _ (0,0) _ h Tryz.underlying128 rfl (by rw[Zk,List.size_toArray,Zl,hl])
section
variable {P : Program}
theorem Zgj {fn:Func} {tmps:Array Value} {a:Tmp} {t:TypeId} {p:Addr} {v:Value} {w:World} (hr:fn.results=#[.cell a t]) (ha:tmps.getD a undef=.pointer (some p)) (hv:(loadVar t p).run P w=.ok v w) :
  (results fn tmps).run P w=.ok v w:=by
 unfold results;simp only[hr,List.mapM_toArray,List.mapM_cons,List.mapM_nil,ha,asAddr,Sem.run_bind,Sem.run_pure,Result.andThen_ok,hv,bind_assoc,pure_bind,Sem.run_map];rfl
theorem Zde {fn:Func} {tmps:Array Value} {a:Tmp} {t:TypeId} {p:Addr} {v:Value} {w:World} {b c:Tmp} (hr:fn.results=#[.cell a t,.tmp b,.tmp c]) (ha:tmps.getD a undef=.pointer (some p)) (hv:(loadVar t p).run P w=.ok v w) :
  (results fn tmps).run P w=.ok (.tuple #[v,tmps.getD b undef,tmps.getD c undef]) w:=by
 unfold results;simp only[hr,List.mapM_toArray,List.mapM_cons,List.mapM_nil,ha,asAddr,Sem.run_bind,Sem.run_pure,Result.andThen_ok,hv,bind_assoc,pure_bind,Sem.run_map];rfl
end
theorem layB_mid {a m r v:List UInt8} {o:Nat} (ho:a.length=o) (h:m.length=v.length):Zai (a++(m++r)) o v=a++(v++r):=by unfold Zai;rw[List.take_left' ho,←List.append_assoc a m r,List.drop_left' (by rw[List.length_append];omega)]
theorem layB_zeros (write kp:Nat) (b:List UInt8) :
  Zai (Zai (Zai (Zai Yz 4 (le 8 write)) 12 (le 4 kp)) 16 (b.take 112)) 0 (le 4 (UsCrc.crc ((Zai (Zai (Zai Yz 4 (le 8 write)) 12 (le 4 kp)) 16 (b.take 112)).drop 4)))=mkF write kp b:=by
 have h8:=Yh 8 write;have h4:=Yh 4 kp;have hb:(b.take 112).length≤112:=by simp;omega
 have e0:Yz=List.replicate 4 0++(List.replicate 8 0++(List.replicate 4 0++(List.replicate (b.take 112).length 0++List.replicate (112 - (b.take 112).length) 0))):=by unfold Yz;simp only[List.replicate_append_replicate];congr 1;omega
 have e:Zai (Zai (Zai Yz 4 (le 8 write)) 12 (le 4 kp)) 16 (b.take 112)=List.replicate 4 0++fbody write kp b:=by rw[e0,layB_mid (by simp) (by simp[h8])];rw[←List.append_assoc,layB_mid (by simp[h8]) (by simp[h4])];rw[←List.append_assoc,←List.append_assoc,List.append_assoc,layB_mid (by simp[h8,h4]) (by simp)];unfold fbody Zel;rw[List.append_assoc,List.append_assoc,show 112 - (b.take 112).length=112 - b.length by simp;omega]
 rw[e,List.drop_left' (by simp)];unfold mkF Zai;rw[List.take_zero,List.nil_append,Yh,List.drop_left' (by simp)]
theorem or_kind (kind place:Nat) (hk:kind≤3) (hp:place<16777216):bits .or .i64 ((kind:Int)*16777216) (place:Int)=((kind*16777216+place:Nat):Int):=by
 show IntKind.i64.wrap (((BitVec.ofInt 64 ((kind:Int)*16777216) ||| BitVec.ofInt 64 (place:Int)).toNat:Nat):Int)=_
 rw[show ((kind:Int)*16777216)=((kind*16777216:Nat):Int) by simp,BitVec.toNat_or,BitVec.ofInt_natCast,BitVec.ofInt_natCast,BitVec.toNat_ofNat,BitVec.toNat_ofNat,Nat.mod_eq_of_lt (by omega),Nat.mod_eq_of_lt (by omega)]
 have h3:=Nat.two_pow_add_eq_or_of_lt (i:=24) (b:=place) hp kind;rw[show (2:Nat) ^ 24*kind=kind*16777216 by omega] at h3
 rw[←h3,IntKind.wrap_i64];omega
theorem Zei (w:World) (write kind place:Nat) (v:Value) (b:List UInt8) (hw:write<18446744073709551616) (hk:kind≤3) (hp:place<16777216) (hb:IsB w v b) (hn:Nib w) :
  Calls Tryz.prog 65 #[.int .u64 (write:Int),.int .i64 (kind:Int),.int .i64 (place:Int),v] w fun e w'=>e=.returned (.agg (bv (mkF write (kind*16777216+place) b)).toArray)∧Below w.heap.size w w':=by
 have hL0:=Yu;have hle:=Yh 8 write;go_enter Tryz.func65,Tryz.ntmps65;go_wp2_with (refine Zz rfl rfl ?_);have hB0:Below w.heap.size w ((w.alloc (.cells (bv Yz).toArray 128)).alloc (.cells (bv Yz).toArray 128)):=((Below.refl _ _).alloc (Nat.le_refl _) _).alloc (by simp) _;have hR0:Zh ((w.alloc (.cells (bv Yz).toArray 128)).alloc (.cells (bv Yz).toArray 128)) w.heap.size 128 Yz:=(Zh.alloc _ _ _).below ((Below.refl _ _).alloc (Nat.le_refl _) _);have hF0:Zh ((w.alloc (.cells (bv Yz).toArray 128)).alloc (.cells (bv Yz).toArray 128)) (w.heap.size+1) 128 Yz:=by have:=Zh.alloc (w.alloc (.cells (bv Yz).toArray 128)) 128 Yz;simpa using this
 refine(Zgh _ (w.heap.size+1) 128 Yz 4 8 124 write hF0 (by omega) (by omega) hw).mono ?_;rintro e w1 ⟨rfl,hF1,t1⟩;have hR1:=hR0.turned t1 (by omega)
 have hB1:=hB0.trans (t1.below (B:=w.heap.size) (by simp;omega) (fun k hk=>by omega));clear hR0 hF0 hB0 t1;have hor:=or_kind kind place hk hp;have hkp:kind*16777216+place<4294967296:=by omega
 generalize hkpe:kind*16777216+place=kp at *;have Hkp:=Hd hkpe
 clear hkpe;have hmod:((kp:Nat):Int) % 4294967296=(kp:Int):=by omega
 have hl1:(Zai Yz 4 (le 8 write)).length=128:=(Zgs (by omega)).trans hL0;go_wp2_with fail;refine(Zgh _ (w.heap.size+1) 128 _ 12 4 116 kp hF1 (by omega) (by omega) (by omega)).mono ?_;rintro e w2 ⟨rfl,hF2,t2⟩;have hR2:=hR1.turned t2 (by omega);have hB2:=hB1.trans (t2.below (B:=w.heap.size) hB1.size (fun k hk=>by omega));have hl2:(Zai (Zai Yz 4 (le 8 write)) 12 (le 4 kp)).length=128:=(Zgs (by rw[Yh];omega)).trans hl1;clear hR1 hF1 hB1 t2 hor;have hb2:=hb.below hB2;have hcp:=run_copy_row hF2 16 112 112 (by omega) hb2 106 5 3 Tryz.underlying106 info_byte' (by obtain⟨a,c,_,h1,h2,_⟩:=hb;unfold maxLen at h2;omega);have hF3:=hF2.lay 16 (b.take 112) (by simp;omega);have t3:=Zu w2 (w.heap.size+1) 16 (bv (b.take 112));have hR3:=hR2.turned t3 (by omega);have hB3:=hB2.trans (t3.below (B:=w.heap.size) hB2.size (fun k hk=>by omega));have hl3:(Zai (Zai (Zai Yz 4 (le 8 write)) 12 (le 4 kp)) 16 (b.take 112)).length=128:=(Zgs (by simp;omega)).trans hl2;have HL:=Hd (layB_zeros write kp b);generalize w2.setCells (w.heap.size+1) 16 (bv (b.take 112))=w3 at *;generalize Zai (Zai (Zai Yz 4 (le 8 write)) 12 (le 4 kp)) 16 (b.take 112)=L3 at *;clear hF2 hR2 hB2 t3 hb2 hl1 hl2 hL0 hle;go_upto_region 5 with fail;clear hcp;have hcl:=crc_lt (L3.drop 4);have hl4:(L3.drop 4).length=124:=by simp[hl3]
 have hX:IsBs (w3.alloc (.cells #[.slice (some ⟨w.heap.size+1,4,none⟩) 124 124] 106)).drew (.slice (some ⟨w3.heap.size,0,none⟩) 1 1) [L3.drop 4] :=
  isBs_lit (w:=w3) 106 [.slice (some ⟨w.heap.size+1,4,none⟩) 124 124] [L3.drop 4] (by simp[maxLen]) (fun i hi=>by
   obtain rfl:i=0:=by simpa using hi
   refine⟨_,rfl,?_⟩;have:=hF3.isB 4 124 124 (by omega) (Nat.le_refl _) (by simp[maxLen])
   rw[List.take_of_length_le (by omega)] at this
   exact this)
 have hF4:Zh (w3.alloc (.cells #[.slice (some ⟨w.heap.size+1,4,none⟩) 124 124] 106)).drew (w.heap.size+1) 128 L3:=hF3.below ((Below.refl _ _).alloc (Nat.le_refl _) _).drew;have hR4:Zh (w3.alloc (.cells #[.slice (some ⟨w.heap.size+1,4,none⟩) 124 124] 106)).drew w.heap.size 128 Yz:=hR3.below ((Below.refl _ _).alloc (Nat.le_refl _) _).drew;have hB4:Below w.heap.size w (w3.alloc (.cells #[.slice (some ⟨w.heap.size+1,4,none⟩) 124 124] 106)).drew:=(hB3.alloc hB3.size _).drew;have hC:=crc_parts _ _ _ hX (hn.below hB4);rw[show [L3.drop 4].flatten=L3.drop 4 by simp] at hC
 have HC:=Hd hC;clear hX hC hR3 hF3 hB3;generalize UsCrc.crc (L3.drop 4)=c at *;have c0:0+4≤L3.length:=by omega
 have c2:c<18446744073709551616:=by omega
 have HN:=Hd (Zgh _ (w.heap.size+1) 128 L3 0 4 128 c hF4 c0 (by omega) c2);have hwc:IntKind.u64.wrap (c:Int)=(c:Int):=by rw[Zct,Nat.mod_eq_of_lt c2]
 clear hF4 c0 c2 hcl hl4;go_region_with (first | (go_at_call 98;((with_reducible refine HC.out.mono ?_);rintro e wx ⟨rfl,rfl⟩)) | (go_at_call 97;((with_reducible refine HN.out.mono ?_);rintro e w5 ⟨rfl,hF5,t5⟩)));have hR5:=hR4.turned t5 (by omega)
 have hB5:=hB4.trans (t5.below (B:=w.heap.size) hB4.size (fun k hk=>by omega));rw[HL.out] at hF5;have hl5:=Xd write kp b;generalize hm:mkF write kp b=L5 at *;have HK:=Hd (And.intro Hkp.out hm);clear hm;clear hR4 hB4 t5 HC HN hl3 HL hwc;have hrg:=hF5.range;have hlb:(bv L5).length=128:=by rw[Zl,hl5]
 have hst:=hR5.run_store (l:=L5) (by rw[hl5,Yu]);have hR6:=hR5.store (l:=L5) (by rw[hl5,Yu]);have hB6:=hB5.trans ((Zu w5 w.heap.size 0 (bv L5)).below (B:=w.heap.size) hB5.size (fun k hk=>by omega));have hv:=hR6.run_load hl5;generalize w5.setCells w.heap.size 0 (bv L5)=w6 at *;clear hF5 hR6 hR5 hB5;go_wp2_with (refine wpList_load_mid rfl 128 (.tmp 9) rfl (w.heap.size+1) 0 rfl (bv L5) _ hrg Tryz.underlying128 rfl (by rw[Zk,hlb]) ?_);refine bodyPost_ret (v:=.agg (bv L5).toArray) (Zgj Tryz.results65 rfl hv) rfl ⟨?_,hB6⟩;rw[HK.out.1,HK.out.2]
end
section
open Go.RowKit
theorem Xi (w:World) (L:List UInt8) (hl:L.length=128) :
  Calls Tryz.prog 70 #[.agg (bv L).toArray] w fun e w'=>e=.returned (.int .u64 (Zm L:Nat))∧Below w.heap.size w w':=by
 have hr:=Zh.alloc w 128 L;have ht:=told_any _ _ _ (hr.isB 4 8 124 (by omega) (by omega) (by simp[maxLen])) (by simp;omega);have HT:=Hd ht;have hB:Below w.heap.size w (w.alloc (.cells (bv L).toArray 128)):=(Below.refl _ _).alloc (Nat.le_refl _) _;clear ht hr;go_enter Tryz.func70,Tryz.ntmps70;go_wp2_with fail;refine HT.out.mono ?_;rintro e w' ⟨rfl,rfl⟩;go_wp2_with fail;go_ret;exact⟨rfl,hB⟩
theorem fkind_any (w:World) (L:List UInt8) (hl:L.length=128) :
  Calls Tryz.prog 102 #[.agg (bv L).toArray] w fun e w'=>e=.returned (.int .i64 (Zas L:Nat))∧Below w.heap.size w w':=by
 have hr:=Zh.alloc w 128 L;have hc:=hr.cell 15 (by omega);have e15:(L[15]'(by omega)).toNat=Zas L:=by unfold Zas;rw[List.getD_eq_getElem?_getD,List.getElem?_eq_getElem (by omega)];rfl
 rw[e15] at hc;have hlt:Zas L<256:=by rw[←e15];exact UInt8.toNat_lt _
 have hB:Below w.heap.size w (w.alloc (.cells (bv L).toArray 128)):=(Below.refl _ _).alloc (Nat.le_refl _) _;generalize Zas L=k at *;clear hr e15;go_enter Tryz.func102,Tryz.ntmps102;go_wp2_with fail;go_ret;exact⟨rfl,hB⟩
theorem int_beq (r c:Nat):((r:Int)==(c:Int))=decide (r=c):=by rw[Bool.eq_iff_iff];simp;omega
theorem and_place (n:Nat) (h:n<4294967296):bits .and .u64 (n:Int) 16777215=((n % 16777216:Nat):Int):=by
 have h2:=and_u64 n 16777215 (by omega) (by omega);rw[show ((16777215:Nat):Int)=16777215 from rfl] at h2
 rw[h2,show (16777215:Nat)=2 ^ 24 - 1 from rfl,Nat.and_two_pow_sub_one_eq_mod]
theorem fkp_lt (L:List UInt8) (hl:L.length=128):fkp L<4294967296:=by
 have:=leR_lt ((L.drop 12).take 4);rw[show ((L.drop 12).take 4).length=4 by simp[hl]] at this
 exact this
theorem fwrite_lt (L:List UInt8) (hl:L.length=128):Zm L<18446744073709551616:=by
 have:=leR_lt ((L.drop 4).take 8);rw[show ((L.drop 4).take 8).length=8 by simp[hl]] at this
 exact this
theorem Zfl (L:List UInt8):Zp L<16777216:=Nat.mod_lt _ (by decide)
theorem Qg (w:World) (L:List UInt8) (hl:L.length=128) :
  Calls Tryz.prog 71 #[.agg (bv L).toArray] w fun e w'=>e=.returned (.int .i64 (Zp L:Nat))∧Below w.heap.size w w':=by
 have hr:=Zh.alloc w 128 L;have ht:=told_any _ _ _ (hr.isB 12 4 116 (by omega) (by omega) (by simp[maxLen])) (by simp;omega);have HT:=Hd ht;have hB:Below w.heap.size w (w.alloc (.cells (bv L).toArray 128)):=(Below.refl _ _).alloc (Nat.le_refl _) _;have hand:=and_place (fkp L) (fkp_lt L hl);unfold fkp at hand;have hlt:=Zfl L;have e1:leR ((L.drop 12).take 4) % 16777216=Zp L:=rfl;rw[e1] at hand;clear ht hr e1;generalize Zp L=k at *;go_enter Tryz.func71,Tryz.ntmps71;go_wp2_with fail;refine HT.out.mono ?_;rintro e w' ⟨rfl,rfl⟩;go_wp2_with fail;go_ret;exact⟨rfl,hB⟩
theorem fbytes_any (w:World) (L:List UInt8) (hl:L.length=128) :
  Calls Tryz.prog 73 #[.agg (bv L).toArray] w fun e w'=>e=.returned (.slice (some ⟨w.heap.size,16,none⟩) 112 112)∧w'=w.alloc (.cells (bv L).toArray 128):=by
 go_enter Tryz.func73,Tryz.ntmps73;go_wp2_with fail;go_ret;exact⟨rfl,rfl⟩
theorem fright_any (w:World) (L:List UInt8) (hl:L.length=128) (hn:Nib w) :
  Calls Tryz.prog 101 #[.agg (bv L).toArray] w fun e w'=>e=.returned (.bool (Zao L))∧Below w.heap.size w w':=by
 obtain⟨W1,hW1⟩:∃W1,W1=w.alloc (.cells (bv L).toArray 128):=⟨_,rfl⟩;have hr:Zh W1 w.heap.size 128 L:=by rw[hW1];exact Zh.alloc w 128 L
 have hB1:Below w.heap.size w W1:=by rw[hW1];exact(Below.refl _ _).alloc (Nat.le_refl _) _
 have hl4:(L.drop 4).length=124:=by simp[hl]
 have hX:IsBs (W1.alloc (.cells #[.slice (some ⟨w.heap.size,4,none⟩) 124 124] 106)).drew (.slice (some ⟨W1.heap.size,0,none⟩) 1 1) [L.drop 4] :=
  isBs_lit (w:=W1) 106 [.slice (some ⟨w.heap.size,4,none⟩) 124 124] [L.drop 4] (by simp[maxLen]) (fun i hi=>by
   obtain rfl:i=0:=by simpa using hi
   refine⟨_,rfl,?_⟩;have:=hr.isB 4 124 124 (by omega) (Nat.le_refl _) (by simp[maxLen])
   rw[List.take_of_length_le (by omega)] at this
   exact this)
 have hb:=hr.isB 0 4 128 (by omega) (by omega) (by simp[maxLen]);rw[List.drop_zero] at hb;have hB2:Below w.heap.size w (W1.alloc (.cells #[.slice (some ⟨w.heap.size,4,none⟩) 124 124] 106)).drew:=(hB1.alloc hB1.size _).drew;have hT1:=Hd (told_any W1.drew _ _ hb (by simp;omega));have hT2:=Hd (told_any (W1.alloc (.cells #[.slice (some ⟨w.heap.size,4,none⟩) 124 124] 106)).drew _ _ (hb.alloc _) (by simp;omega));have hC:=crc_parts _ _ _ hX (hn.below hB2);rw[show [L.drop 4].flatten=L.drop 4 by simp] at hC
 have HC:=Hd hC;have hcl:=crc_lt (L.drop 4);have Hf:Hid (Zao L=decide (leR (L.take 4)=UsCrc.crc (L.drop 4))):=rfl;have hwc:IntKind.u64.wrap ((UsCrc.crc (L.drop 4):Nat):Int)=((UsCrc.crc (L.drop 4):Nat):Int):=by rw[Zct,Nat.mod_eq_of_lt (by omega)]
 generalize UsCrc.crc (L.drop 4)=c at *;generalize leR (L.take 4)=r at *;clear hX hC hb hcl hr hl4;go_enter Tryz.func101,Tryz.ntmps101;go_upto_region 1 with fail;rw[←hW1];clear hW1;go_region_with (first | (go_at_call 98;((with_reducible refine HC.out.mono ?_);rintro e wx ⟨rfl,rfl⟩)) | (go_at_call 72;((with_reducible refine hT1.out.mono ?_);rintro e wx ⟨rfl,rfl⟩)) | (go_at_call 72;((with_reducible refine hT2.out.mono ?_);rintro e wx ⟨rfl,rfl⟩)))
 all_goals go_wp2
 all_goals go_ret
 all_goals
  refine⟨?_,hB2⟩
  rw[Hf.out]
  show Ending.returned (.bool ((r:Int)==(c:Int)))=_
  rw[int_beq]
end
section
open Go.RowKit
theorem le_wrap (n:Int):IntKind.u64.wrap n=((n % 18446744073709551616).toNat:Nat):=by rw[IntKind.wrap_u64];omega
def Xk (write blocks:Nat) (seq:Int):List UInt8:=mkF write (1*16777216+blocks) (le 8 (seq % 18446744073709551616).toNat)
theorem run_make8 (w:World):(Instr.makeSlice 106 (.int .i64 8) (.int .i64 8)).run Tryz.prog w=.ok (.slice (some ⟨w.heap.size,0,none⟩) 8 8) (w.alloc (.cells (bv (List.replicate 8 0)).toArray 5)):=by kernel_rfl
theorem marked_any (w:World) (write blocks:Nat) (seq:Int) (h1:write<18446744073709551616) (h2:blocks<16777216) (hn:Nib w) :
  Calls Tryz.prog 68 #[.int .u64 (write:Int),.int .i64 (blocks:Int),.int .i64 seq] w fun e w'=>e=.returned (.agg (bv (Xk write blocks seq)).toArray)∧Below w.heap.size w w':=by
 have hmk:=fun w=>run_make8 w;have hws:=le_wrap seq;have Hm:Hid (Xk write blocks seq=mkF write (1*16777216+blocks) (le 8 (seq % 18446744073709551616).toNat)):=Hd rfl;have hn8:(seq % 18446744073709551616).toNat<18446744073709551616:=by omega
 generalize (seq % 18446744073709551616).toNat=n at *;go_enter Tryz.func68,Tryz.ntmps68;go_wp2_with (refine Zz rfl rfl ?_);have hB0:Below w.heap.size w ((w.alloc (.cells (bv Yz).toArray 128)).alloc (.cells (bv [0,0,0,0,0,0,0,0]).toArray 5)):=((Below.refl _ _).alloc (Nat.le_refl _) _).alloc (by simp) _
 have hR0:Zh ((w.alloc (.cells (bv Yz).toArray 128)).alloc (.cells (bv [0,0,0,0,0,0,0,0]).toArray 5)) w.heap.size 128 Yz:=(Zh.alloc _ _ _).below ((Below.refl _ _).alloc (Nat.le_refl _) _);have hF0:Zh ((w.alloc (.cells (bv Yz).toArray 128)).alloc (.cells (bv [0,0,0,0,0,0,0,0]).toArray 5)) (w.heap.size+1) 5 [0,0,0,0,0,0,0,0]:=by have:=Zh.alloc (w.alloc (.cells (bv Yz).toArray 128)) 5 [0,0,0,0,0,0,0,0];simpa using this
 refine(Zgh _ (w.heap.size+1) 5 _ 0 8 8 n hF0 (by simp) (by omega) hn8).mono ?_;rintro e w1 ⟨rfl,hF1,t1⟩;rw[layB_all (by simp[Yh])] at hF1;have hR1:=hR0.turned t1 (by omega)
 have hB1:=hB0.trans (t1.below (B:=w.heap.size) (by simp;omega) (fun k hk=>by omega));have hle:=Yh 8 n;have hb1:=hF1.isB 0 8 8 (by omega) (by omega) (by simp[maxLen]);rw[List.drop_zero,List.take_of_length_le (by omega)] at hb1;have HF:=Hd (Zei w1 write 1 blocks _ _ h1 (by omega) h2 hb1 (hn.below hB1));clear hR0 hF0 hB0 t1 hws hmk hle hb1 hF1;go_wp2_with fail;refine HF.out.mono ?_;rintro e w2 ⟨rfl,hB2⟩;have hR2:=hR1.below (hB2.mono (Nat.le_refl _));have hB3:=hB1.trans (hB2.mono hB1.size);rw[←Hm.out];have hl5:(Xk write blocks seq).length=128:=Xd _ _ _;generalize hm:Xk write blocks seq=L5 at *;have HK:=Hd hm;clear hm;have hst:=hR2.run_store (l:=L5) (by rw[hl5,Yu]);have hR6:=hR2.store (l:=L5) (by rw[hl5,Yu]);have hlb:(bv L5).length=128:=by rw[Zl,hl5]
 have hB6:=hB3.trans ((Zu w2 w.heap.size 0 (bv L5)).below (B:=w.heap.size) hB3.size (fun k hk=>by omega));have hv:=hR6.run_load hl5;generalize w2.setCells w.heap.size 0 (bv L5)=w6 at *;clear hR6 hR2 hR1 hB1 hB2 hB3 HF;go_wp2_with fail;exact bodyPost_ret (v:=.agg (bv L5).toArray) (Zgj Tryz.results68 rfl hv) rfl ⟨by rw[HK.out],hB6⟩
end
section
open Go.RowKit
structure Dk where
 n:Nat
 safe:List UInt8
 now:List UInt8
 hung:List (Nat × List UInt8)
 ops:Nat
 cut:Int
 off:Bool
def sec (l:List UInt8) (i:Nat):List UInt8:=(l.drop (i*128)).take 128
def Zam (l:List UInt8) (i:Nat) (b:List UInt8):List UInt8:=l.take (i*128)++(b++l.drop (i*128+128))
structure Dk.Ok (D:Dk):Prop where
 n1:1≤D.n
 nm:D.n≤16384
 safe:D.safe.length=D.n*128
 now:D.now.length=D.n*128
 hung:∀x∈D.hung,x.1<D.n∧x.2.length=128
 loose:D.hung.length≤D.ops
 ops:D.ops≤1048576
 c1:-9223372036854775808≤D.cut
 c2:D.cut≤9223372036854775807
theorem Qh {l:List UInt8} {n i:Nat} (hl:l.length=n*128) (hi:i<n):(sec l i).length=128:=by simp only[sec,List.length_take,List.length_drop];omega
theorem Qn {l b:List UInt8} {n i:Nat} (hl:l.length=n*128) (hb:b.length=128) (hi:i<n):(Zam l i b).length=n*128:=by simp only[Zam,List.length_append,List.length_take,List.length_drop];omega
theorem Qp {l b:List UInt8} {n i:Nat} (hl:l.length=n*128) (hb:b.length=128) (hi:i<n):sec (Zam l i b) i=b:=by unfold sec Zam;rw[List.drop_append_of_le_length (by simp;omega)];rw[List.drop_eq_nil_of_le (by simp;omega),List.nil_append,List.take_append_of_le_length (by omega),List.take_of_length_le (by omega)]
theorem Xf {l b:List UInt8} {n i j:Nat} (hl:l.length=n*128) (hb:b.length=128) (hi:i<n) (hj:j<n) (hne:j≠i):sec (Zam l i b) j=sec l j:=by
 apply List.ext_getElem?;intro k;simp only[sec,Zam,List.getElem?_take,List.getElem?_drop,List.getElem?_append,List.length_take]
 split<;>try rfl
 rcases Nat.lt_or_gt_of_ne hne with h | h
 ·rw[if_pos (by omega),if_pos (by omega)]
 ·rw[if_neg (by omega),if_neg (by omega)];congr 1;omega
def Zaa (w:World) (g cap n:Nat) (l:List UInt8):Prop :=
 ∃cur:Array Value,w.heap[g]?=some (.cells cur 177 (0,0))∧n≤cap∧cap≤maxLen∧cur.size=cap*128∧l.length=n*128∧cur.toList.take l.length=bv l
def looseV (k:Nat) (cs:List Value):Value:=.agg ((.int .i64 (k:Int))::cs).toArray
abbrev loose (x:Nat × List UInt8):Value:=looseV x.1 (bv x.2)
def Hung (w:World) (g:Nat) (L:List (Nat × List UInt8)):Prop :=
 ∃(es:List MapEntry) (clock:Nat),w.heap[g]?=some (.map es.toArray clock)∧es.length=L.length∧∀i (h:i<L.length),∃b,es[i]?=some ⟨.int .i64 (i:Int),loose L[i],b⟩
structure Ft where
 p:Nat
 S:Nat
 N:Nat
 M:Nat
 cS:Nat
 cN:Nat
def Ft.has (F:Ft) (k:Nat):Prop:=k=F.p∨k=F.S∨k=F.N∨k=F.M
structure Ft.Ok (F:Ft):Prop where
 pS:F.p≠F.S
 pN:F.p≠F.N
 pM:F.p≠F.M
 SN:F.S≠F.N
 SM:F.S≠F.M
 NM:F.N≠F.M
structure Xv (w:World) (F:Ft) (D:Dk):Prop where
 ft:F.Ok
 ok:D.Ok
 head:w.heap[F.p]?=some (.cells #[.slice (some ⟨F.S,0,none⟩) D.n F.cS,.slice (some ⟨F.N,0,none⟩) D.n F.cN,.map (some F.M),.int .i64 (D.ops:Int),.int .i64 D.cut,.bool D.off] 122 (0,0))
 safe:Zaa w F.S F.cS D.n D.safe
 now:Zaa w F.N F.cN D.n D.now
 hung:Hung w F.M D.hung
theorem Xv.lt {w:World} {F:Ft} {D:Dk} (h:Xv w F D) {k:Nat} (hk:F.has k):k<w.heap.size:=by
 obtain⟨c,hc,_⟩:=h.safe;obtain⟨c',hc',_⟩:=h.now;obtain⟨es,cl,hm,_⟩:=h.hung;rcases hk with rfl | rfl | rfl | rfl
 ·exact Za h.head
 ·exact Za hc
 ·exact Za hc'
 ·exact Za hm
theorem Xv.keep {w w':World} {F:Ft} {D:Dk} (h:Xv w F D) (hw:∀k,F.has k→w'.heap[k]?=w.heap[k]?):Xv w' F D:=by have hp:=hw F.p (.inl rfl);have hS:=hw F.S (.inr (.inl rfl));have hN:=hw F.N (.inr (.inr (.inl rfl)));have hM:=hw F.M (.inr (.inr (.inr rfl)));exact⟨h.ft,h.ok,hp.trans h.head,by unfold Zaa;rw[hS];exact h.safe,by unfold Zaa;rw[hN];exact h.now,by unfold Hung;rw[hM];exact h.hung⟩
theorem Xv.below {w w':World} {F:Ft} {D:Dk} (h:Xv w F D) (hb:Below w.heap.size w w'):Xv w' F D:=h.keep fun k hk=>hb.block k (h.lt hk)
theorem Xv.drew {w:World} {F:Ft} {D:Dk} (h:Xv w F D):Xv w.drew F D:=h.keep fun _ _=>rfl
abbrev Ft.ptr (F:Ft):Value:=.pointer (some ⟨F.p,0,none⟩)
theorem Xv.cells {w:World} {F:Ft} {D:Dk} (h:Xv w F D) :
  w.cell? ⟨F.p,0,none⟩=some (.slice (some ⟨F.S,0,none⟩) D.n F.cS)∧w.cell? ⟨F.p,1,none⟩=some (.slice (some ⟨F.N,0,none⟩) D.n F.cN)∧w.cell? ⟨F.p,2,none⟩=some (.map (some F.M)) ∧
   w.cell? ⟨F.p,3,none⟩=some (.int .i64 (D.ops:Int))∧w.cell? ⟨F.p,4,none⟩=some (.int .i64 D.cut)∧w.cell? ⟨F.p,5,none⟩=some (.bool D.off):=by
 refine⟨?_,?_,?_,?_,?_,?_⟩<;>· rw[cell_of_row _ _ _ _ _ _ h.head];rfl
end
section
open Go.RowKit
theorem findNow_none (L:List MapEntry):∀(base k n:Nat),(∀j (h:j<L.length),(L[j]).key=.int .i64 ((base+j:Nat):Int))→n≥base+L.length →
  Instr.findNow (.int .i64) (.int .i64 (n:Int)) L k=some none:=by
 induction L with
 | nil=>intro base k n hk h;rfl
 | cons e r ih =>
  intro base k n hk h;have h0:=hk 0 (by simp)
  simp only[List.getElem_cons_zero,Nat.add_zero] at h0;simp only[List.length_cons] at h;have hb:(((n:Nat):Int)==((base:Nat):Int))=false:=beq_eq_false_iff_ne.2 (by omega)
  simp only[Instr.findNow,h0,Instr.sameNow,hb,if_true];exact ih (base+1) (k+1) n (fun j hj=>by have:=hk (j+1) (by simp;omega);simpa [Nat.add_assoc,Nat.add_comm 1] using this) (by omega)
section
variable {w : World} {M : Nat} {L : List (Nat × List UInt8)}
set_option maxRecDepth 100000 in
theorem run_len_hung (h:Hung w M L) (ty:TypeId):(Builtin.len_ #[120] ty #[.map (some M)]).run Tryz.prog w=.ok (.int .i64 (L.length:Int)) w:=by obtain⟨es,cl,hm,hl,_⟩:=h;rw[run_len_map (P:=Tryz.prog) (w:=w) 120 ty M es.toArray cl Tryz.underlying120 hm];simp[goInt,hl]
theorem run_put_hung (h:Hung w M L) (x:Nat × List UInt8):∃es cl,w.heap[M]?=some (.map es cl) ∧
  (Instr.mapUpdate 120 (.map (some M)) (.int .i64 (L.length:Int)) (loose x)).run Tryz.prog w=.ok () { w with heap:=w.heap.setIfInBounds M (.map (es.push ⟨.int .i64 (L.length:Int),loose x,cl⟩) (cl+1)) } ∧
   Hung { w with heap:=w.heap.setIfInBounds M (.map (es.push ⟨.int .i64 (L.length:Int),loose x,cl⟩) (cl+1)) } M (L++[x]):=by
 obtain⟨es,cl,hm,hl,he⟩:=h;have hk:∀j (h:j<es.length),(es[j]).key=.int .i64 ((0+j:Nat):Int):=fun j hj=>by obtain⟨b,hb⟩:=he j (by omega);rw[List.getElem?_eq_getElem hj] at hb;rw[Option.some.inj hb,Nat.zero_add]
 have hf:=findNow_none es 0 0 L.length hk (by omega);refine⟨es.toArray,cl,hm,?_,?_⟩
 ·simp[Instr.mapUpdate,run_underlying Tryz.underlying120,Go.MapKept.run_getObj_map hm,Go.MapKept.run_checkKey (P:=Tryz.prog) (k:=.int .i64 (L.length:Int)) Tryz.underlying3 (by simp[Go.MapKept.IsKey]),Go.MapKept.run_findKey (P:=Tryz.prog) Tryz.underlying3 hf,Go.MapKept.run_setObj_map _ hm,Result.andThen]
 ·have hlt:=Za hm
  refine⟨es++[⟨.int .i64 (L.length:Int),loose x,cl⟩],cl+1,?_,by simp[hl],fun i hi=>?_⟩
  ·show (w.heap.setIfInBounds M _)[M]?=_
   rw[Array.getElem?_setIfInBounds_self_of_lt hlt];simp
  ·by_cases hi':i<L.length
   ·obtain⟨b,hb⟩:=he i hi';exact⟨b,by rw[List.getElem?_append_left (by omega),List.getElem_append_left hi'];exact hb⟩
   ·have:i=L.length:=by simp at hi;omega
    subst this;exact⟨cl,by rw[List.getElem?_append_right (by omega)];simp[hl]⟩
end
end
section
open Go.RowKit
theorem Zex (w:World) (F:Ft) (D:Dk) (h:Xv w F D):Calls Tryz.prog 62 #[F.ptr] w fun e w'=>e=.returned (.int .i64 (D.n:Int))∧w=w':=by obtain⟨c0,c1,c2,c3,c4,c5⟩:=h.cells;go_enter Tryz.func62,Tryz.ntmps62;go_wp2;go_ret;exact⟨rfl,rfl⟩
theorem has_any (w:World) (F:Ft) (D:Dk) (h:Xv w F D) (at_:Int) (h1:-9223372036854775808≤at_) (h2:at_≤9223372036854775807) :
  Calls Tryz.prog 117 #[F.ptr,.int .i64 at_] w fun e w'=>e=.returned (.bool (decide (0≤at_∧at_<D.n)))∧w=w':=by
 obtain⟨c0,c1,c2,c3,c4,c5⟩:=h.cells;by_cases h0:0≤at_
 ·have hd:decide (0≤at_)=true:=by simp[h0]
  go_enter Tryz.func117,Tryz.ntmps117;go_wp2;go_ret;exact⟨by simp[h0],rfl⟩
 ·have hd:decide (0≤at_)=false:=by simp;omega
  go_enter Tryz.func117,Tryz.ntmps117;go_wp2;go_ret;exact⟨by simp[h0],rfl⟩
theorem turned_p (w:World) (F:Ft) (i:Nat) (v:Value):Zb (·=F.p) w (w.setCell ⟨F.p,i,none⟩ v) :=
 ⟨rfl,rfl,rfl,by simp[World.setCell],fun k hk hn=>Below.heap_setCell _ _ _ _ hn⟩
theorem Zb.has_of_p {w w':World} {F:Ft} (h:Zb (·=F.p) w w'):Zb F.has w w':=h.mono fun _ _ e=>.inl e
theorem Xv.put_off {w:World} {F:Ft} {D:Dk} (h:Xv w F D) (b:Bool):Xv (w.setCell ⟨F.p,5,none⟩ (.bool b)) F { D with off:=b }:=by have k:=h.ft;have ht:=turned_p w F 5 (.bool b);have ho:∀j,j≠F.p→(w.setCell ⟨F.p,5,none⟩ (.bool b)).heap[j]?=w.heap[j]?:=fun j hj=>Below.heap_setCell _ _ _ _ hj;exact⟨h.ft,⟨h.ok.n1,h.ok.nm,h.ok.safe,h.ok.now,h.ok.hung,h.ok.loose,h.ok.ops,h.ok.c1,h.ok.c2⟩,Ze h.head _,by unfold Zaa;rw[ho _ k.pS.symm];exact h.safe,by unfold Zaa;rw[ho _ k.pN.symm];exact h.now,by unfold Hung;rw[ho _ k.pM.symm];exact h.hung⟩
theorem Xv.put_ops {w:World} {F:Ft} {D:Dk} (h:Xv w F D) (o:Nat) (h1:D.hung.length≤o) (h2:o≤1048576):Xv (w.setCell ⟨F.p,3,none⟩ (.int .i64 (o:Int))) F { D with ops:=o }:=by have k:=h.ft;have ho:∀j,j≠F.p→(w.setCell ⟨F.p,3,none⟩ (.int .i64 (o:Int))).heap[j]?=w.heap[j]?:=fun j hj=>Below.heap_setCell _ _ _ _ hj;exact⟨h.ft,⟨h.ok.n1,h.ok.nm,h.ok.safe,h.ok.now,h.ok.hung,h1,h2,h.ok.c1,h.ok.c2⟩,Ze h.head _,by unfold Zaa;rw[ho _ k.pS.symm];exact h.safe,by unfold Zaa;rw[ho _ k.pN.symm];exact h.now,by unfold Hung;rw[ho _ k.pM.symm];exact h.hung⟩
def Dk.gone (D:Dk):Bool:=D.off||(decide (0≤D.cut)&&decide (D.cut≤(D.ops:Int)))
theorem Zcf (w:World) (F:Ft) (D:Dk) (h:Xv w F D) :
  Calls Tryz.prog 116 #[F.ptr] w fun e w'=>e=.returned (.int .i64 (if D.gone then 43 else 0))∧Xv w' F { D with off:=D.gone }∧Zb (·=F.p) w w':=by
 obtain⟨c0,c1,c2,c3,c4,c5⟩:=h.cells;have f5:=Zf h.head 5
 have hd:=h.put_off D.gone;have ht:=turned_p w F 5 (.bool D.gone);generalize hg:D.gone=g at *;unfold Dk.gone at hg;have HD:=Hd (And.intro hd.drew ht.drew);clear hd ht;have ho6:=h.ok.ops;have hcu:=h.ok.c1;have hcv:=h.ok.c2;clear h;generalize D.cut=cut at *;generalize D.ops=ops at *;generalize D.off=off at *
 cases off with
 | true =>
  obtain rfl:g=true:=by simpa using hg.symm
  clear hg;go_enter Tryz.func116,Tryz.ntmps116;go_wp2;go_region;go_wp2;go_ret;exact⟨rfl,HD.out⟩
 | false =>
  by_cases h0:0≤cut
  ·by_cases h1:cut≤(ops:Int)
   ·obtain rfl:g=true:=by simpa [h0,h1] using hg.symm
    have d0:decide (0≤cut)=true:=by simp[h0]
    have d1:decide (cut≤(ops:Int))=true:=by simp[h1]
    clear hg;go_enter Tryz.func116,Tryz.ntmps116;go_wp2;go_region;go_wp2;go_ret;exact⟨rfl,HD.out⟩
   ·obtain rfl:g=false:=by simpa [h0,h1] using hg.symm
    have d0:decide (0≤cut)=true:=by simp[h0]
    have d1:decide (cut≤(ops:Int))=false:=by simpa using h1
    clear hg;go_enter Tryz.func116,Tryz.ntmps116;go_wp2;go_region;go_wp2;go_ret;exact⟨rfl,HD.out⟩
  ·obtain rfl:g=false:=by simpa [h0] using hg.symm
   have d0:decide (0≤cut)=false:=by simpa using h0
   clear hg;go_enter Tryz.func116,Tryz.ntmps116;go_wp2;go_region;go_wp2;go_ret;exact⟨rfl,HD.out⟩
end
section
open Go.RowKit
theorem Zdl:(Tryz.prog.info? 177).map (fun i=>i.size)=some 128:=by kernel_rfl
def Dk.write (D:Dk) (at_:Int) (l:List UInt8):Int × Dk :=
 if D.gone then (43,{ D with off:=true })
 else if ¬(0≤at_∧at_<D.n) then (41,{ D with off:=false })
 else if l.length≠128 then (42,{ D with off:=false })
 else if 1048576≤D.ops then (44,{ D with off:=false })
 else (0,{ D with off:=false,now:=Zam D.now at_.toNat l,hung:=D.hung++[(at_.toNat,l)],ops:=D.ops+1 })
theorem IsB.row {w:World} {a:Option Addr} {n cap:Nat} {l:List UInt8} (h:IsB w (.slice a n cap) l) (h0:0<l.length):∃B o,a=some ⟨B,o,none⟩∧w.rangeAt B o (bv l):=by
 obtain⟨a',cap',hv,hl,hm,hn,hc⟩:=h;simp only[Value.slice.injEq] at hv;obtain⟨rfl,rfl,rfl⟩:=hv
 cases a with
 | none=>have:=hn rfl;omega
 | some x =>
  obtain⟨hs,hcell⟩:=hc x rfl;obtain⟨B,o,sp⟩:=x;have:sp=none:=hs h0
  subst this;refine⟨B,o,rfl,fun j v hj=>?_⟩;have hjl:j<l.length:=by have:=(List.getElem?_eq_some_iff.1 hj).1;simpa [bv] using this
  rw[Zef l j hjl] at hj;rw[hcell j hjl];exact hj
theorem run_arrayAt (W:World) (a:Option Addr) (cap:Nat):(Instr.arrayAt 177 (.slice a 128 cap)).run Tryz.prog W=.ok (.pointer a) W:=by unfold Instr.arrayAt;simp only[Sem.run_bind,run_underlying Tryz.underlying177,Result.andThen];rfl
theorem Zaa.there {w:World} {g cap n:Nat} {l:List UInt8} (h:Zaa w g cap n l) (k:Nat) (hk:k<n):w.there g (k*128) 128:=by obtain⟨cur,hg,hn,hm,hs,hl,ht⟩:=h;intro j hj;refine⟨?_,Zf hg _⟩;rw[cell_of_row _ _ _ _ _ _ hg,Array.getElem?_eq_getElem (by omega)];rfl
theorem Zaa.range {w:World} {g cap n:Nat} {l:List UInt8} (h:Zaa w g cap n l) (k:Nat) (hk:k<n):w.rangeAt g (k*128) (bv (sec l k)):=by
 obtain⟨cur,hg,hn,hm,hs,hl,ht⟩:=h;intro j v hj;rw[cell_of_row _ _ _ _ _ _ hg];have hj2:j<(sec l k).length:=by have:=(List.getElem?_eq_some_iff.1 hj).1;simpa [bv] using this
 rw[Qh hl hk] at hj2;have e:(bv l)[k*128+j]?=some v:=by rw[←hj];simp only[bv,sec,List.getElem?_map,List.getElem?_take,List.getElem?_drop,if_pos hj2]
 rw[←ht,List.getElem?_take,if_pos (by omega)] at e;simpa using e
theorem IsB.turned_p {w w':World} {F:Ft} {D:Dk} {v:Value} {l:List UInt8} (hv:IsB w v l) (h:Xv w F D) (ht:Zb (·=F.p) w w'):IsB w' v l:=by
 obtain⟨a,cap,rfl,hl,hm,hn,hc⟩:=hv;refine⟨a,cap,rfl,hl,hm,hn,fun x hx=>⟨(hc x hx).1,fun i hi=>?_⟩⟩;have hcell:=(hc x hx).2 i hi
 have hne:x.block≠F.p:=by
  intro e;rw[e,cell_of_row _ _ _ _ _ _ h.head] at hcell;have hlt:=(Array.getElem?_eq_some_iff.1 hcell).1
  simp only[List.size_toArray,List.length_cons,List.length_nil] at hlt;generalize x.off+i=j at hcell hlt
  rcases(show j=0∨j=1∨j=2∨j=3∨j=4∨j=5 by omega) with rfl | rfl | rfl | rfl | rfl | rfl<;>simp at hcell
 have hlt:=World.block_lt_of_cell? w _ hcell;rw[←hcell];exact World.cell?_of_block (ht.block x.block hlt hne)
theorem turned_now (w:World) (F:Ft) (o:Nat) (vs:List Value):Zb F.has w (w.setCells F.N o vs):=by obtain⟨h1,h2,h3,h4⟩:=Zdh F.N vs o w;exact⟨h1,h2,h3,Nat.le_of_eq h4.symm,fun k hk hn=>Xg F.N vs o w k (fun e=>hn (.inr (.inr (.inl e))))⟩
theorem Zaa.put {w:World} {g cap n:Nat} {l b:List UInt8} (h:Zaa w g cap n l) (k:Nat) (hk:k<n) (hb:b.length=128):Zaa (w.setCells g (k*128) (bv b)) g cap n (Zam l k b):=by
 obtain⟨cur,hg,hn,hm,hs,hl,ht⟩:=h;have hbl:(bv b).length=128:=by rw[Zl,hb]
 obtain⟨cur',h1,h2⟩:=Zaj g 177 (bv b) (k*128) w cur hg (by omega);have hsz:cur'.size=cap*128:=by rw[←Array.length_toList,h2];simp only[List.length_append,List.length_take,List.length_drop,hbl,Array.length_toList];omega
 refine⟨cur',h1,hn,hm,hsz,Qn hl hb hk,?_⟩;rw[Qn hl hb hk,h2];apply List.ext_getElem?;intro j;have hget:∀x:List UInt8,∀i:Nat,(bv x)[i]?=(x[i]?).map fun b=>Value.int .u8 (b.toNat:Int):=fun x i=>by simp[bv]
 have hp:Zam l k b=l.take (k*128)++(b++l.drop (k*128+b.length)):=by rw[Zam,hb]
 rw[List.getElem?_take,Zet _ _ _ _ (by simp;omega),hp,hget (l.take (k*128)++(b++l.drop (k*128+b.length))),Zet _ _ _ _ (by omega),hbl,hb];by_cases hj:j<n*128
 ·have hlb:cur.toList[j]?=(bv l)[j]?:=by rw[←ht,List.getElem?_take,hl,if_pos hj]
  rw[if_pos hj,hlb,hget,hget];split
  ·rfl
  ·split<;>rfl
 ·rw[if_neg hj,if_neg (by omega),if_neg (by omega),List.getElem?_eq_none (by omega)];rfl
theorem Xv.put_now {w:World} {F:Ft} {D:Dk} (h:Xv w F D) (k:Nat) (b:List UInt8) (hk:k<D.n) (hb:b.length=128):Xv (w.setCells F.N (k*128) (bv b)) F { D with now:=Zam D.now k b }:=by have f:=h.ft;have ho:∀j,j≠F.N→(w.setCells F.N (k*128) (bv b)).heap[j]?=w.heap[j]?:=fun j hj=>Xg _ _ _ _ _ hj;exact⟨f,⟨h.ok.n1,h.ok.nm,h.ok.safe,Qn h.ok.now hb hk,h.ok.hung,h.ok.loose,h.ok.ops,h.ok.c1,h.ok.c2⟩,(ho _ f.pN).trans h.head,by unfold Zaa;rw[ho _ f.SN];exact h.safe,h.now.put k hk hb,by unfold Hung;rw[ho _ f.NM.symm];exact h.hung⟩
theorem fill_at (P:Nat→Nat→Value) (cs:List Value):∀(base:Array Value) (off k:Nat),off+k+cs.length≤base.size →
  ((cs.zipIdx k).foldl (fun a (c,j)=>a.setIfInBounds (off+j) c) base).toList=base.toList.take (off+k)++(cs++base.toList.drop (off+k+cs.length)):=by
 induction cs with
 | nil=>intro base off k h;simp
 | cons c r ih =>
  intro base off k h;simp only[List.length_cons] at h;rw[List.zipIdx_cons,List.foldl_cons,ih _ off (k+1) (by simp;omega)];apply List.ext_getElem?;intro j;rw[Nat.add_assoc off k 1 |>.symm,Zet _ _ _ _ (by simp;omega),Zet _ _ _ _ (by simp;omega),Array.toList_setIfInBounds,List.getElem?_set,Array.length_toList,List.length_cons];by_cases hj:j<off+k
  ·rw[if_pos (by omega),if_neg (by omega),if_pos hj]
  ·by_cases hjo:j=off+k
   ·subst hjo;rw[if_pos (by omega),if_pos rfl,if_pos (by omega),if_neg (by omega),if_pos (by omega),Nat.sub_self];rfl
   ·by_cases hjr:j<off+k+1+r.length
    ·rw[if_neg (by omega),if_pos hjr,if_neg hj,if_pos (by omega),show j - (off+k)=(j - (off+k+1))+1 by omega,List.getElem?_cons_succ]
    ·rw[if_neg (by omega),if_neg hjr,if_neg (by omega),if_neg hj,if_neg (by omega)]
theorem run_build_write (w:World) (k:Nat) (cs:List Value) (h:cs.length=128):(Instr.build 179 #[(0,.int .i64 (k:Int)),(1,.agg cs.toArray)]).run Tryz.prog w=.ok (looseV k cs) w:=by
 obtain⟨Z,hZ,hz⟩:∃Z:List Value,Z.length=128∧∀w,(zeroValue 179).run Tryz.prog w=.ok (.agg ((.int .i64 0)::Z).toArray) w:=⟨List.replicate 128 (.int .u8 0),by simp,fun w=>by kernel_rfl⟩
 obtain⟨fs,hfs,hpl⟩:∃fs,Tryz.prog.underlying 179=some (.struct fs)∧∀w,(Array.mapM (fun f:Field=>do pure (f.offset,←sizeOf f.type)) fs:Sem (Array (Nat × Nat))).run Tryz.prog w=.ok #[(0,1),(1,128)] w :=
  ⟨_,Tryz.underlying179,fun w=>by kernel_rfl⟩
 unfold Instr.build;simp only[Sem.run_bind,hz,Result.andThen_ok,run_underlying hfs,hpl];have hf:=fill_at (fun _ _=>undef) cs ((.int .i64 (k:Int))::Z).toArray 1 0 (by simp[h,hZ])
 have hs:(Value.agg cs.toArray).cells.size=128:=by simpa [Value.cells] using h
 have h1:(((Value.agg cs.toArray).cells.zipIdx).foldl (fun(a:Array Value) (x:Value × Nat)=>a.setIfInBounds (1+x.2) x.1) ((.int .i64 (k:Int))::Z).toArray)=((.int .i64 (k:Int))::cs).toArray:=by
  apply Array.ext';rw[show (Value.agg cs.toArray).cells.zipIdx=(cs.zipIdx 0).toArray by simp[Value.cells],List.foldl_toArray,hf]
  simp[h,hZ]
 have h2:Instr.fill (#[(0,1),(1,128)][·]?) (Value.agg ((.int .i64 0)::Z).toArray).cells #[(0,Value.int .i64 (k:Int)),(1,Value.agg cs.toArray)].toList=some ((.int .i64 (k:Int))::cs).toArray:=by rw[←h1];simp[Instr.fill,Value.cells,h,hZ]
 rw[h2];rfl
section
variable {ops : Array Oper} {w : World} {Q : Act → Prop} {a : Act} {o : Oper} {rest : List Oper}
theorem still_value (v:Value) (hw:Region.wanted o (yielded ops a.tmps)=true) (he:(execOp a.eval o).run Tryz.prog w=.ok (.value v) w) (h:wpStill Tryz.prog ops w Q rest (a.put o.dst v)):wpStill Tryz.prog ops w Q (o::rest) a:=by refine wpStill_step fun K hK=>?_;rw[if_pos hw,Oper.still,he,Oper.stillUpon_value];exact hK _ h
theorem still_load (ty:TypeId) (x:Operand) (ho:o.op=.load ty x) (b n:Nat) (hx:a.eval x=.pointer (some ⟨b,n,none⟩)) (cs:List Value) (d:TypeDesc) (hg:o.guard=none) (hc:w.rangeAt b n cs)
  (hu:Tryz.prog.underlying ty=some d) (hd:d.isRow=true) (hi:(Tryz.prog.info? ty).map (·.size)=some cs.length) (h:wpStill Tryz.prog ops w Q rest (a.put o.dst (.agg cs.toArray))):wpStill Tryz.prog ops w Q (o::rest) a:=by
 refine still_value (.agg cs.toArray) (by simp[Region.wanted,hg]) ?_ h;unfold execOp;simp only[ho,hx,Instr.loadAt,Instr.sureAddr,Sem.run_bind,Sem.run_pure,Result.andThen_ok,run_loadVar_mid w b n ty cs d hc hu hd hi]
theorem still_build_write (x y:Operand) (ho:o.op=.build 179 #[(0,x),(1,y)]) (k:Nat) (cs:List Value) (hx:a.eval x=.int .i64 (k:Int)) (hy:a.eval y=.agg cs.toArray) (hg:o.guard=none) (hl:cs.length=128)
  (h:wpStill Tryz.prog ops w Q rest (a.put o.dst (looseV k cs))):wpStill Tryz.prog ops w Q (o::rest) a:=by
 refine still_value (looseV k cs) (by simp[Region.wanted,hg]) ?_ h;unfold execOp;simp only[ho,hx,hy,List.map_toArray,List.map_cons,List.map_nil,Sem.run_bind,run_build_write w k cs hl,Result.andThen_ok];rfl
end
theorem Xv.put_hung {w w3:World} {F:Ft} {D:Dk} (h:Xv w F D) (x:Nat × List UInt8) (hx:x.1<D.n∧x.2.length=128) (ho:D.ops<1048576) (hH:Hung w3 F.M (D.hung++[x])) (hw:∀j,j≠F.M→w3.heap[j]?=w.heap[j]?) :
  Xv (w3.setCell ⟨F.p,3,none⟩ (.int .i64 ((D.ops:Int)+1))) F { D with hung:=D.hung++[x],ops:=D.ops+1 }:=by
 have f:=h.ft;have e1:((D.ops:Int)+1)=((D.ops+1:Nat):Int):=by omega
 rw[e1];have hs:∀j,j≠F.p→(w3.setCell ⟨F.p,3,none⟩ (.int .i64 ((D.ops+1:Nat):Int))).heap[j]?=w3.heap[j]?:=fun j hj=>Below.heap_setCell _ _ _ _ hj
 refine⟨f,⟨h.ok.n1,h.ok.nm,h.ok.safe,h.ok.now,fun y hy=>?_,?_,?_,h.ok.c1,h.ok.c2⟩,?_,?_,?_,?_⟩
 ·rcases List.mem_append.1 hy with hy | hy
  ·exact h.ok.hung y hy
  ·rw[List.mem_singleton.1 hy];exact hx
 ·have:=h.ok.loose;simp only[List.length_append,List.length_singleton];omega
 ·show D.ops+1≤1048576
  omega
 ·exact Ze ((hw _ f.pM).trans h.head) _
 ·unfold Zaa;rw[hs _ f.pS.symm,hw _ f.SM];exact h.safe
 ·unfold Zaa;rw[hs _ f.pN.symm,hw _ f.NM];exact h.now
 ·unfold Hung;rw[hs _ f.pM.symm];exact hH
theorem write_any (w:World) (F:Ft) (D:Dk) (h:Xv w F D) (at_:Int) (v:Value) (l:List UInt8) (hv:IsB w v l) (h1:-9223372036854775808≤at_) (h2:at_≤9223372036854775807) :
  Calls Tryz.prog 96 #[F.ptr,.int .i64 at_,v] w fun e w'=>e=.returned (.int .i64 (D.write at_ l).1)∧Xv w' F (D.write at_ l).2∧Zb F.has w w':=by
 have hvv:=hv;obtain⟨a,cap,rfl,hlc,hmx,hnil,hcc⟩:=hvv;clear hcc;unfold maxLen at hmx;by_cases hg:D.gone=true
 ·have e1:D.write at_ l=(43,{ D with off:=true }):=by simp[Dk.write,hg]
  rw[e1];go_enter Tryz.func96,Tryz.ntmps96;go_wp2_with fail;refine(Zcf w F D h).mono ?_;rintro e w1 ⟨rfl,hd1,ht1⟩;rw[if_pos hg];go_wp2_with fail;go_ret;exact⟨rfl,hg▸hd1,ht1.has_of_p⟩
 ·replace hg:D.gone=false:=by simpa using hg
  by_cases hin:0≤at_∧at_<(D.n:Int)
  ·obtain⟨k,rfl⟩:=Int.eq_ofNat_of_zero_le hin.1
   have hk:k<D.n:=by omega
   by_cases h8:l.length=128
   ·by_cases hfull:1048576≤D.ops
    ·have e1:D.write k l=(44,{ D with off:=false }):=by simp only[Dk.write,hg];simp[hk,h8,hfull]
     rw[e1];go_enter Tryz.func96,Tryz.ntmps96;go_wp2_with fail;refine(Zcf w F D h).mono ?_;rintro e w1 ⟨rfl,hd1,ht1⟩;rw[hg] at hd1 ⊢;go_wp2_with fail;refine(has_any w1 F _ hd1 k h1 h2).mono ?_;rintro e w2 ⟨rfl,rfl⟩;rw[decide_eq_true hin];obtain⟨c0,c1,c2,c3,c4,c5⟩:=hd1.cells;have hd:decide ((1048576:Int)≤(D.ops:Int))=true:=by simp;omega
     go_wp2_with fail;go_ret;exact⟨rfl,hd1,ht1.has_of_p⟩
    ·have e1:D.write k l=(0,{ D with off:=false,now:=Zam D.now k l,hung:=D.hung++[(k,l)],ops:=D.ops+1 }):=by simp only[Dk.write,hg];simp[hk,h8,hfull]
     rw[e1];obtain⟨B,o,rfl,hrg⟩:=hv.row (by omega);go_enter Tryz.func96,Tryz.ntmps96;go_wp2_with fail;refine(Zcf w F D h).mono ?_;rintro e w1 ⟨rfl,hd1,ht1⟩;have hv1:=hv.turned_p h ht1
     rw[hg] at hd1 ⊢;go_wp2_with fail;refine(has_any w1 F _ hd1 k h1 h2).mono ?_;rintro e w2 ⟨rfl,rfl⟩;rw[decide_eq_true hin];obtain⟨B',o',hbo,hrg1⟩:=hv1.row (by omega);obtain⟨rfl,rfl⟩:B=B'∧o=o':=by simpa using hbo
     obtain⟨c0,c1,c2,c3,c4,c5⟩:=hd1.cells;have hd:decide ((1048576:Int)≤(D.ops:Int))=false:=by simp;omega
     have harr:∀W,(Instr.arrayAt 177 (.slice (some ⟨B,o,none⟩) 128 cap)).run Tryz.prog W=.ok (.pointer (some ⟨B,o,none⟩)) W:=fun W=>by exact run_arrayAt W _ _
     have hl8:(bv l).length=128:=by rw[Zl,h8]
     have i0:(0:Int)≤(k:Int):=by omega
     have i1:(k:Int)<(D.n:Int):=by omega
     go_wp2_with fail;refine wp_region_still_tail 9 (by kernel_rfl) (by kernel_rfl) ?_;simp only[List.take_succ_cons,List.take_zero,List.drop_succ_cons,List.drop_zero];change wpStill _ _ w1.drew (fun a'=>wpList _ _ _ _ a' w1.drew) _ _;have hd1':=hd1.drew
     have ht1':=ht1.drew;have hrg1':w1.drew.rangeAt B o (bv l):=hrg1;obtain⟨c0,c1,c2,c3,c4,c5⟩:=hd1'.cells;dsimp only at c0 c1 c2 c3 c4 c5;generalize w1.drew=W at *;clear hd1 ht1 hrg1 hv1;iterate 7 still_step
     refine still_load 177 (.tmp 34) rfl B o rfl (bv l) _ rfl hrg1' Tryz.underlying177 rfl (by rw[Zdl,hl8]) ?_;simp only[Act.put,List.setIfInBounds_toArray,List.set_cons_zero,List.set_cons_succ];still_step;refine wpStill_nil ?_;refine wpList_store_mid rfl 177 (.tmp 36) (.tmp 35) rfl F.N (k*128) (bv l).toArray rfl rfl (by rw[List.size_toArray,hl8];exact hd1'.now.there k hk) (by rw[Zdl,List.size_toArray,hl8]) (all_oneCell_toArray (Yk l)) ?_;have hd2:=hd1'.put_now k l hk h8
     have ht2:=(ht1'.has_of_p).trans (turned_now W F (k*128) (bv l));dsimp only at hd2;rw[List.toList_toArray];generalize W.setCells F.N (k*128) (bv l)=W2 at *;clear hd1' ht1' hrg1' c0 c1 c2 c3 c4 c5 harr;obtain⟨c0,c1,c2,c3,c4,c5⟩:=hd2.cells;dsimp only at c0 c1 c2 c3 c4 c5;refine wpList_nil ?_;go_wp2_with fail;refine wp_region_still_tail 18 (by kernel_rfl) (by kernel_rfl) ?_;simp only[List.take_succ_cons,List.take_zero,List.drop_succ_cons,List.drop_zero];change wpStill _ _ W2.drew (fun a'=>wpList _ _ _ _ a' W2.drew) _ _;have hd3:=hd2.drew;have ht3:=ht2.drew;clear c0 c1 c2 c3 c4 c5 ht2 hd2;generalize W2.drew=W3 at *;obtain⟨c0,c1,c2,c3,c4,c5⟩:=hd3.cells;dsimp only at c0 c1 c2 c3 c4 c5;have hlen:=run_len_hung hd3.hung 3;obtain⟨es,cl,hm,hmu,hH⟩:=run_put_hung hd3.hung (k,l);dsimp only at hlen hmu hH;have hrg3:W3.rangeAt F.N (k*128) (bv l):=by have:=hd3.now.range k hk;rw[Qp h.ok.now h8 hk] at this;exact this
     iterate 16 still_step
     refine still_load 177 (.tmp 52) rfl F.N (k*128) rfl (bv l) _ rfl hrg3 Tryz.underlying177 rfl (by rw[Zdl,hl8]) ?_;simp only[Act.put,List.setIfInBounds_toArray,List.set_cons_zero,List.set_cons_succ];refine still_build_write (.tmp 46) (.tmp 53) rfl k (bv l) rfl rfl rfl hl8 ?_;simp only[Act.put,List.setIfInBounds_toArray,List.set_cons_zero,List.set_cons_succ];refine wpStill_nil ?_
     obtain⟨W4,hmu',hH',hw4,ht4⟩:∃W4,(Instr.mapUpdate 120 (.map (some F.M)) (.int .i64 (D.hung.length:Int)) (looseV k (bv l))).run Tryz.prog W3=.ok () W4∧Hung W4 F.M (D.hung++[(k,l)])∧(∀j,j≠F.M→W4.heap[j]?=W3.heap[j]?)∧Zb F.has W3 W4 :=
      ⟨_,hmu,hH,fun j hj=>(MapKept.heap_set hm).2 j hj,rfl,rfl,rfl,by simp,fun j _ hn=>(MapKept.heap_set hm).2 j (fun e=>hn (.inr (.inr (.inr e))))⟩
     have hfin:=hd3.put_hung (k,l) ⟨hk,h8⟩ (Nat.lt_of_not_le hfull) hH' hw4;have htf:=(ht3.trans ht4).trans (turned_p W4 F 3 (.int .i64 ((D.ops:Int)+1))).has_of_p;have g3:W4.cell? ⟨F.p,3,none⟩=some (.int .i64 (D.ops:Int)):=(World.cell?_of_block (w:=W3) (hw4 F.p h.ft.pM)).trans c3;have f3:W4.frozen? ⟨F.p,3,none⟩=false:=(World.frozen?_of_block (w:=W3) (hw4 F.p h.ft.pM)).trans (Zf hd3.head 3);clear hmu hH hm hw4 ht4 ht3 hd3 hlen hrg3 c0 c1 c2 c3 c4 c5 hrg;go_wp2_with fail;go_ret;exact⟨rfl,hfin,htf⟩
   ·have e1:D.write k l=(42,{ D with off:=false }):=by simp only[Dk.write,hg];simp[hk,h8]
    rw[e1];go_enter Tryz.func96,Tryz.ntmps96;go_wp2_with fail;refine(Zcf w F D h).mono ?_;rintro e w1 ⟨rfl,hd1,ht1⟩;rw[hg] at hd1 ⊢;go_wp2_with fail;refine(has_any w1 F _ hd1 k h1 h2).mono ?_;rintro e w2 ⟨rfl,rfl⟩;rw[decide_eq_true hin];have hne:((l.length:Int) != 128)=true:=by simp;omega
    go_wp2_with fail;go_ret;exact⟨rfl,hd1,ht1.has_of_p⟩
  ·have e1:D.write at_ l=(41,{ D with off:=false }):=by simp only[Dk.write,hg];simp[hin]
   rw[e1];go_enter Tryz.func96,Tryz.ntmps96;go_wp2_with fail;refine(Zcf w F D h).mono ?_;rintro e w1 ⟨rfl,hd1,ht1⟩;rw[hg] at hd1 ⊢;go_wp2_with fail;refine(has_any w1 F _ hd1 at_ h1 h2).mono ?_;rintro e w2 ⟨rfl,rfl⟩;rw[decide_eq_false hin];go_wp2_with fail;go_ret;exact⟨rfl,hd1,ht1.has_of_p⟩
end
section
open Go.RowKit
section
variable {ops : Array Oper} {w : World} {Q : Exit → Act → World → Prop} {a : Act} {o : Oper} {rest : List Oper}
theorem wpList_value (v:Value) (w':World) (hg:o.guard=none) (he:(execOp a.eval o).run Tryz.prog w=.ok (.value v) w') (h:wpList Tryz.prog ops Q rest (a.put o.dst v) w'):wpList Tryz.prog ops Q (o::rest) a w :=
 wpList_plain hg fun _ hK=>by unfold Oper.wp;rw[he];exact hK _ _ h
theorem wpList_skip (w':World) (hg:o.guard=none) (he:(execOp a.eval o).run Tryz.prog w=.ok .skip w') (h:wpList Tryz.prog ops Q rest (a.put o.dst undef) w'):wpList Tryz.prog ops Q (o::rest) a w :=
 wpList_plain hg fun _ hK=>by unfold Oper.wp;rw[he];exact hK _ _ h
theorem Zha (hg:o.guard=none) (ho:o.op=.alloc 177)
  (h:∀Z:List Value,Z.length=128→wpList Tryz.prog ops Q rest (a.put o.dst (.pointer (some ⟨w.heap.size,0,none⟩))) (w.alloc (.cells Z.toArray 177))):wpList Tryz.prog ops Q (o::rest) a w:=by
 obtain⟨Z,hZ,hz⟩:∃Z:List Value,Z.length=128∧∀w,(zeroValue 177).run Tryz.prog w=.ok (.agg Z.toArray) w:=⟨List.replicate 128 (.int .u8 0),by simp,fun w=>by kernel_rfl⟩;refine wpList_value _ _ hg ?_ (h Z hZ);unfold execOp;simp only[ho,Instr.alloc,Sem.run_bind,hz,Result.andThen_ok];rfl
theorem Yn (ty:TypeId) (x y:Operand) (ho:o.op=.store ty x y) (c c':Array Value) (hx:a.eval x=.pointer (some ⟨w.heap.size,0,none⟩)) (hy:a.eval y=.agg c') (hg:o.guard=none)
  (hi:(Tryz.prog.info? ty).map (·.size)=some c'.size) (hc:c.size=c'.size) (h1:c'.all (·.oneCell')=true)
  (h:wpList Tryz.prog ops Q rest (a.put o.dst undef) (w.alloc (.cells c' ty))):wpList Tryz.prog ops Q (o::rest) a (w.alloc (.cells c ty)):=by
 refine wpList_skip _ hg ?_ h;unfold execOp;simp only[ho,hx,hy,Sem.run_bind,run_storeAt_new w ty c c' hi hc h1,Result.andThen_ok];rfl
end
def Dk.read (D:Dk) (at_:Int):List UInt8 × Int:=if D.off then ([],43) else if 0≤at_∧at_<D.n then (sec D.now at_.toNat,0) else ([],41)
def Got (w w':World) (v:Value) (l:List UInt8):Prop :=
 (l=[]∧v=.slice none 0 0∧w'=w)∨(l.length=128∧v=.slice (some ⟨w.heap.size,0,none⟩) 128 128∧w'=w.alloc (.cells (bv l).toArray 177))
theorem Got.below {w w':World} {v:Value} {l:List UInt8} (h:Got w w' v l):Below w.heap.size w w':=by
 rcases h with ⟨_,_,rfl⟩ | ⟨_,_,rfl⟩
 ·exact Below.refl _ _
 ·exact(Below.refl _ _).alloc (Nat.le_refl _) _
theorem Got.isB {w w':World} {v:Value} {l:List UInt8} (h:Got w w' v l):IsB w' v l:=by
 rcases h with ⟨rfl,rfl,rfl⟩ | ⟨hl,rfl,rfl⟩
 ·exact IsB.nil _
 ·refine⟨some ⟨w.heap.size,0,none⟩,128,by rw[hl],by omega,by simp[maxLen],fun e=>(by cases e),?_⟩;rintro x ⟨⟩;refine⟨fun _=>rfl,fun i hi=>?_⟩;rw[cell_of_row _ _ _ _ _ _ (heap_alloc_new w _)];simp only[Nat.zero_add,List.getElem?_toArray];exact Zef l i hi
theorem read_any (w:World) (F:Ft) (D:Dk) (h:Xv w F D) (at_:Int) (h1:-9223372036854775808≤at_) (h2:at_≤9223372036854775807) :
  Calls Tryz.prog 100 #[F.ptr,.int .i64 at_] w fun e w'=>∃v,e=.returned (.tuple #[v,.int .i64 (D.read at_).2])∧Got w w' v (D.read at_).1:=by
 obtain⟨c0,c1,c2,c3,c4,c5⟩:=h.cells
 cases ho:D.off with
 | true =>
  have e1:D.read at_=([],43):=by simp[Dk.read,ho]
  rw[e1];rw[ho] at c5;clear ho e1;go_enter Tryz.func100,Tryz.ntmps100;go_wp2_with fail;go_ret2;exact⟨_,rfl,.inl ⟨rfl,rfl,rfl⟩⟩
 | false =>
  rw[ho] at c5;by_cases hin:0≤at_∧at_<(D.n:Int)
  ·obtain⟨k,rfl⟩:=Int.eq_ofNat_of_zero_le hin.1
   have hk:k<D.n:=by omega
   have e1:D.read k=(sec D.now k,0):=by simp[Dk.read,ho,hk]
   rw[e1];clear ho e1;have hrg:=h.now.range k hk
   have hl:=Qh h.ok.now hk;generalize sec D.now k=l at *;have hl8:(bv l).length=128:=by rw[Zl,hl]
   have i0:(0:Int)≤(k:Int):=by omega
   have i1:(k:Int)<(D.n:Int):=by omega
   go_enter Tryz.func100,Tryz.ntmps100;go_wp2_with fail;refine(has_any w F D h k h1 h2).mono ?_;rintro e w1 ⟨rfl,rfl⟩;rw[decide_eq_true hin];go_wp2_with (first | (refine wpList_load_mid rfl 177 (.tmp 25) rfl F.N (k*128) rfl (bv l) _ hrg Tryz.underlying177 rfl (by rw[Zdl,hl8]) ?_) | (refine Zha rfl rfl ?_;intro Z hZ) | (refine Yn 177 (.tmp 6) (.tmp 26) rfl _ (bv l).toArray rfl rfl rfl (by rw[Zdl,List.size_toArray,hl8]) (by rw[List.size_toArray,List.size_toArray,hl8,hZ]) (all_oneCell_toArray (Yk l)) ?_;clear hZ));go_ret2;exact⟨_,rfl,.inr ⟨hl,rfl,rfl⟩⟩
  ·have e1:D.read at_=([],41):=by simp only[Dk.read,ho];simp[hin]
   rw[e1];clear ho e1;go_enter Tryz.func100,Tryz.ntmps100;go_wp2_with fail;refine(has_any w F D h at_ h1 h2).mono ?_;rintro e w1 ⟨rfl,rfl⟩;rw[decide_eq_false hin];go_wp2_with fail;go_ret2;exact⟨_,rfl,.inl ⟨rfl,rfl,rfl⟩⟩
end
section
open Go.RowKit
def Dk.flush (D:Dk):Int × Dk :=
 if D.gone then (43,{ D with off:=true })
 else if 1048576≤D.ops then (44,{ D with off:=false })
 else (0,{ D with off:=false,safe:=D.now,hung:=[],ops:=D.ops+1 })
theorem Zaa.cells {w:World} {g cap n:Nat} {l:List UInt8} (h:Zaa w g cap n l):∀j v,(bv l)[j]?=some v→w.cell? ((⟨g,0,none⟩:Addr).add j)=some v:=by
 obtain⟨cur,hg,hn,hm,hs,hl,ht⟩:=h;intro j v hj;have e:(⟨g,0,none⟩:Addr).add j=⟨g,0+j,none⟩:=Addr.add_mid g 0 j
 rw[e,Nat.zero_add,cell_of_row _ _ _ _ _ _ hg];have hjl:j<l.length:=by have:=(List.getElem?_eq_some_iff.1 hj).1;simpa [bv] using this
 rw[←ht,List.getElem?_take,if_pos hjl] at hj;simpa using hj
theorem Zaa.lay {w:World} {g cap n:Nat} {l l':List UInt8} (h:Zaa w g cap n l) (hl':l'.length=n*128):Zaa (w.setCells g 0 (bv l')) g cap n l':=by
 obtain⟨cur,hg,hn,hm,hs,hl,ht⟩:=h;have hbl:(bv l').length=n*128:=by rw[Zl,hl']
 have hc:n*128≤cap*128:=Nat.mul_le_mul_right _ hn;obtain⟨cur',h1,h2⟩:=Zaj g 177 (bv l') 0 w cur hg (by omega);refine⟨cur',h1,hn,hm,?_,hl',?_⟩
 ·rw[←Array.length_toList,h2];simp only[List.length_append,List.length_take,List.length_drop,hbl,Array.length_toList];omega
 ·rw[h2,List.take_zero,List.nil_append,List.take_append_of_le_length (by omega),List.take_of_length_le (by omega)]
theorem run_copy_sects {w:World} {S cS N cN n:Nat} {l l':List UInt8} (hS:Zaa w S cS n l) (hN:Zaa w N cN n l') (ty:TypeId) :
  (Builtin.copy_ #[119,119] ty #[.slice (some ⟨S,0,none⟩) n cS,.slice (some ⟨N,0,none⟩) n cN]).run Tryz.prog w=.ok (.int .i64 (n:Int)) (w.setCells S 0 (bv l')):=by
 have hl:(bv l').length=n*128:=by obtain⟨_,_,_,_,_,hl,_⟩:=hN;rw[Zl,hl]
 have hfc:=run_firstCells_some (P:=Tryz.prog) w 128 n ⟨N,0,none⟩ n cN (bv l') hl hN.cells;obtain⟨cur,hg,hn,hm,hs,_,_⟩:=hS;have hc:n*128≤cS*128:=Nat.mul_le_mul_right _ hn;have hst:=run_storeCells_cells (P:=Tryz.prog) S 0 (bv l') 0 w (fun j hj=>by rw[cell_of_row _ _ _ _ _ _ hg,Array.getElem?_eq_getElem (by omega)];rfl) (fun j hj=>Zf hg _) (Yk l');have hsz:∀w,(sizeOf 177).run Tryz.prog w=.ok 128 w:=fun w=>by kernel_rfl
 have hlo:∀w:World,(Builtin.lenOf (.slice (some ⟨N,0,none⟩) n cN)).run Tryz.prog w=.ok n w:=fun w=>rfl;simp only[Nat.add_zero] at hst;unfold Builtin.copy_;simp[run_underlying Tryz.underlying119,hsz,hlo,hfc,hst,goInt,Nat.min_self]
theorem run_clear_hung {w:World} {M:Nat} {L:List (Nat × List UInt8)} (h:Hung w M L):∃w',(∀ty,(Builtin.clear_ #[120] ty #[.map (some M)]).run Tryz.prog w=.ok (.tuple #[]) w')∧Hung w' M []∧(∀j,j≠M→w'.heap[j]?=w.heap[j]?)∧Zb (·=M) w w':=by obtain⟨es,cl,hm,hl,he⟩:=h;refine⟨{ w with heap:=w.heap.setIfInBounds M (.map #[] cl) },fun ty=>?_,⟨[],cl,(MapKept.heap_set hm).1,rfl,fun i hi=>by simp at hi⟩,fun j hj=>(MapKept.heap_set hm).2 j hj,rfl,rfl,rfl,by simp,fun j _ hn=>(MapKept.heap_set hm).2 j hn⟩;unfold Builtin.clear_;simp[run_underlying Tryz.underlying120,MapKept.run_getObj_map hm,MapKept.run_setObj_map _ hm]
theorem turned_safe (w:World) (F:Ft) (o:Nat) (vs:List Value):Zb F.has w (w.setCells F.S o vs):=by obtain⟨h1,h2,h3,h4⟩:=Zdh F.S vs o w;exact⟨h1,h2,h3,Nat.le_of_eq h4.symm,fun k hk hn=>Xg F.S vs o w k (fun e=>hn (.inr (.inl e)))⟩
theorem Xv.lay_safe {w:World} {F:Ft} {D:Dk} (h:Xv w F D) (l:List UInt8) (hl:l.length=D.n*128):Xv (w.setCells F.S 0 (bv l)) F { D with safe:=l }:=by have f:=h.ft;have ho:∀j,j≠F.S→(w.setCells F.S 0 (bv l)).heap[j]?=w.heap[j]?:=fun j hj=>Xg _ _ _ _ _ hj;exact⟨f,⟨h.ok.n1,h.ok.nm,hl,h.ok.now,h.ok.hung,h.ok.loose,h.ok.ops,h.ok.c1,h.ok.c2⟩,(ho _ f.pS).trans h.head,h.safe.lay hl,by unfold Zaa;rw[ho _ f.SN.symm];exact h.now,by unfold Hung;rw[ho _ f.SM.symm];exact h.hung⟩
theorem Xv.clear_hung {w w':World} {F:Ft} {D:Dk} (h:Xv w F D) (hH:Hung w' F.M []) (hw:∀j,j≠F.M→w'.heap[j]?=w.heap[j]?):Xv w' F { D with hung:=[] }:=by have f:=h.ft;exact⟨f,⟨h.ok.n1,h.ok.nm,h.ok.safe,h.ok.now,fun x hx=>(by cases hx),Nat.zero_le _,h.ok.ops,h.ok.c1,h.ok.c2⟩,(hw _ f.pM).trans h.head,by unfold Zaa;rw[hw _ f.SM];exact h.safe,by unfold Zaa;rw[hw _ f.NM];exact h.now,hH⟩
theorem flush_any (w:World) (F:Ft) (D:Dk) (h:Xv w F D) :
  Calls Tryz.prog 99 #[F.ptr] w fun e w'=>e=.returned (.int .i64 D.flush.1)∧Xv w' F D.flush.2∧Zb F.has w w':=by
 by_cases hg:D.gone=true
 ·have e1:D.flush=(43,{ D with off:=true }):=by simp[Dk.flush,hg]
  rw[e1];go_enter Tryz.func99,Tryz.ntmps99;go_wp2_with fail;refine(Zcf w F D h).mono ?_;rintro e w1 ⟨rfl,hd1,ht1⟩;rw[if_pos hg];go_wp2_with fail;go_ret;exact⟨rfl,hg▸hd1,ht1.has_of_p⟩
 ·replace hg:D.gone=false:=by simpa using hg
  by_cases hfull:1048576≤D.ops
  ·have e1:D.flush=(44,{ D with off:=false }):=by simp[Dk.flush,hg,hfull]
   rw[e1];go_enter Tryz.func99,Tryz.ntmps99;go_wp2_with fail;refine(Zcf w F D h).mono ?_;rintro e w1 ⟨rfl,hd1,ht1⟩;rw[hg] at hd1 ⊢;obtain⟨c0,c1,c2,c3,c4,c5⟩:=hd1.cells;have hd:decide ((1048576:Int)≤(D.ops:Int))=true:=by simp;omega
   go_wp2_with fail;go_ret;exact⟨rfl,hd1,ht1.has_of_p⟩
  ·have e1:D.flush=(0,{ D with off:=false,safe:=D.now,hung:=[],ops:=D.ops+1 }):=by simp[Dk.flush,hg,hfull]
   rw[e1];go_enter Tryz.func99,Tryz.ntmps99;go_wp2_with fail;refine(Zcf w F D h).mono ?_;rintro e w1 ⟨rfl,hd1,ht1⟩;rw[hg] at hd1 ⊢;obtain⟨c0,c1,c2,c3,c4,c5⟩:=hd1.cells;have hd:decide ((1048576:Int)≤(D.ops:Int))=false:=by simp;omega
   go_wp2_with fail;refine wp_region_still_tail 8 (by kernel_rfl) (by kernel_rfl) ?_;simp only[List.take_succ_cons,List.take_zero,List.drop_succ_cons,List.drop_zero];change wpStill _ _ w1.drew (fun a'=>wpList _ _ _ _ a' w1.drew) _ _;have hd2:=hd1.drew
   have ht2:=ht1.has_of_p.drew;clear c0 c1 c2 c3 c4 c5 hd1 ht1;generalize w1.drew=W at *;obtain⟨c0,c1,c2,c3,c4,c5⟩:=hd2.cells;dsimp only at c0 c1 c2 c3 c4 c5;iterate 8 still_step
   refine wpStill_nil ?_;have hcp:=run_copy_sects hd2.safe hd2.now
   have hd3:=hd2.lay_safe D.now h.ok.now;have ht3:=ht2.trans (turned_safe W F 0 (bv D.now));dsimp only at hcp hd3;generalize W.setCells F.S 0 (bv D.now)=W2 at *;clear c0 c1 c2 c3 c4 c5 hd2 ht2;obtain⟨c0,c1,c2,c3,c4,c5⟩:=hd3.cells;dsimp only at c0 c1 c2 c3 c4 c5;obtain⟨W3,hcl,hH,hw3,ht4⟩:=run_clear_hung hd3.hung;have hd4:=(hd3.clear_hung hH hw3).put_ops (D.ops+1) (Nat.zero_le _) (Nat.lt_of_not_le hfull);have ht5:=(ht3.trans (ht4.mono fun _ _ e=>.inr (.inr (.inr e)))).trans (turned_p W3 F 3 (.int .i64 ((D.ops+1:Nat):Int))).has_of_p;have g3:W3.cell? ⟨F.p,3,none⟩=some (.int .i64 (D.ops:Int)):=(World.cell?_of_block (w:=W2) (hw3 F.p h.ft.pM)).trans c3;have f3:W3.frozen? ⟨F.p,3,none⟩=false:=(World.frozen?_of_block (w:=W2) (hw3 F.p h.ft.pM)).trans (Zf hd3.head 3);have hops:=h.ok.ops;dsimp only at hd4;rw[show ((D.ops+1:Nat):Int)=(D.ops:Int)+1 by omega] at hd4 ht5
   have HF:=Hd (And.intro hd4 ht5);clear hd3 ht3 ht4 hH hw3 hd4 ht5;go_wp2_with fail;go_ret;exact⟨rfl,HF.out⟩
end
section
open Go.RowKit
structure Jn where
 D:Dk
 last:Nat
 seq:Int
 off:Int
def Dk.blocks (D:Dk):Nat:=(D.n - 2) / 2
def Dk.home (D:Dk) (i:Nat):Nat:=2+D.blocks+i
def Jn.lay (J:Jn) (k:Nat) (L:List UInt8):Jn:=if J.off=0 then { J with D:=(J.D.write k L).2,off:=(J.D.write k L).1 } else J
def Jn.flush (J:Jn):Jn:=if J.off=0 then { J with D:=J.D.flush.2,off:=J.D.flush.1 } else J
structure JAt (w:World) (F:Ft) (p:Nat) (J:Jn):Prop where
 apart:¬F.has p
 head:w.heap[p]?=some (.cells #[F.ptr,.int .u64 (J.last:Int),.int .i64 J.seq,.int .i64 J.off] 125 (0,0))
 disk:Xv w F J.D
def JT (F:Ft) (p:Nat) (k:Nat):Prop:=F.has k∨k=p
theorem JAt.lt {w:World} {F:Ft} {p:Nat} {J:Jn} (h:JAt w F p J) {k:Nat} (hk:JT F p k):k<w.heap.size:=by
 rcases hk with hk | rfl
 ·exact h.disk.lt hk
 ·exact Za h.head
theorem JAt.keep {w w':World} {F:Ft} {p:Nat} {J:Jn} (h:JAt w F p J) (hw:∀k,JT F p k→w'.heap[k]?=w.heap[k]?):JAt w' F p J :=
 ⟨h.apart,(hw p (.inr rfl)).trans h.head,h.disk.keep fun k hk=>hw k (.inl hk)⟩
theorem JAt.turned {w w':World} {F:Ft} {p:Nat} {J:Jn} {T:Nat→Prop} (h:JAt w F p J) (ht:Zb T w w') (hT:∀k,JT F p k→¬T k):JAt w' F p J :=
 h.keep fun k hk=>ht.block k (h.lt hk) (hT k hk)
theorem JAt.below {w w':World} {F:Ft} {p:Nat} {J:Jn} (h:JAt w F p J) (hb:Below w.heap.size w w'):JAt w' F p J:=h.keep fun k hk=>hb.block k (h.lt hk)
theorem JAt.drew {w:World} {F:Ft} {p:Nat} {J:Jn} (h:JAt w F p J):JAt w.drew F p J:=h.keep fun _ _=>rfl
theorem JAt.cells {w:World} {F:Ft} {p:Nat} {J:Jn} (h:JAt w F p J) :
  w.cell? ⟨p,0,none⟩=some F.ptr∧w.cell? ⟨p,1,none⟩=some (.int .u64 (J.last:Int))∧w.cell? ⟨p,2,none⟩=some (.int .i64 J.seq)∧w.cell? ⟨p,3,none⟩=some (.int .i64 J.off):=by
 refine⟨?_,?_,?_,?_⟩<;>· rw[cell_of_row _ _ _ _ _ _ h.head];rfl
abbrev jptr (p:Nat):Value:=.pointer (some ⟨p,0,none⟩)
theorem Zd (w:World) (p i:Nat) (v:Value):Zb (·=p) w (w.setCell ⟨p,i,none⟩ v) :=
 ⟨rfl,rfl,rfl,by simp[World.setCell],fun k hk hn=>Below.heap_setCell _ _ _ _ hn⟩
theorem JAt.put_disk {w w':World} {F:Ft} {p:Nat} {J:Jn} (h:JAt w F p J) {D:Dk} (hd:Xv w' F D) (ht:Zb F.has w w'):JAt w' F p { J with D:=D } :=
 ⟨h.apart,(ht.block p (Za h.head) h.apart).trans h.head,hd⟩
theorem JAt.put_off {w:World} {F:Ft} {p:Nat} {J:Jn} (h:JAt w F p J) (e:Int):JAt (w.setCell ⟨p,3,none⟩ (.int .i64 e)) F p { J with off:=e } :=
 ⟨h.apart,Ze h.head _,h.disk.keep fun k hk=>Below.heap_setCell _ _ _ _ (fun e=>h.apart (by rw[e] at hk;exact hk))⟩
theorem JAt.put_last {w:World} {F:Ft} {p:Nat} {J:Jn} (h:JAt w F p J) (n:Nat):JAt (w.setCell ⟨p,1,none⟩ (.int .u64 (n:Int))) F p { J with last:=n } :=
 ⟨h.apart,Ze h.head _,h.disk.keep fun k hk=>Below.heap_setCell _ _ _ _ (fun e=>h.apart (by rw[e] at hk;exact hk))⟩
theorem JAt.put_seq {w:World} {F:Ft} {p:Nat} {J:Jn} (h:JAt w F p J) (n:Int):JAt (w.setCell ⟨p,2,none⟩ (.int .i64 n)) F p { J with seq:=n } :=
 ⟨h.apart,Ze h.head _,h.disk.keep fun k hk=>Below.heap_setCell _ _ _ _ (fun e=>h.apart (by rw[e] at hk;exact hk))⟩
theorem Zb.jt {w w':World} {F:Ft} (p:Nat) (h:Zb F.has w w'):Zb (JT F p) w w':=h.mono fun _ _ e=>.inl e
theorem Zb.jp {w w':World} (F:Ft) {p:Nat} (h:Zb (·=p) w w'):Zb (JT F p) w w':=h.mono fun _ _ e=>.inr e
theorem Zbi (w:World) (F:Ft) (p:Nat) (J:Jn) (h:JAt w F p J) (h2:2≤J.D.n):Calls Tryz.prog 63 #[jptr p] w fun e w'=>e=.returned (.int .i64 (J.D.blocks:Int))∧w=w':=by
 obtain⟨c0,c1,c2,c3⟩:=h.cells;have hn:=h.disk.ok.nm
 have e1:(J.D.blocks:Int)=((J.D.n:Int) - 2) / 2:=by unfold Dk.blocks;omega
 rw[e1];clear e1;have HS:=Hd (Zex w F J.D h.disk)
 clear h;have h2':(0:Int)≤(J.D.n:Int) - 2:=by omega
 go_enter Tryz.func63,Tryz.ntmps63;go_wp2_with fail;refine HS.out.mono ?_;rintro e w' ⟨rfl,rfl⟩;go_wp2_with fail;go_ret;exact⟨rfl,rfl⟩
theorem home_any (w:World) (F:Ft) (p:Nat) (J:Jn) (h:JAt w F p J) (h2:2≤J.D.n) (i:Nat) (hi:i≤16777216):Calls Tryz.prog 66 #[jptr p,.int .i64 (i:Int)] w fun e w'=>e=.returned (.int .i64 (J.D.home i:Int))∧w=w':=by
 have hn:=h.disk.ok.nm;have e1:(J.D.home i:Int)=2+(J.D.blocks:Int)+(i:Int):=by unfold Dk.home;omega
 rw[e1];have hb:(J.D.blocks:Int)≤8191:=by unfold Dk.blocks;omega
 have HB:=Hd (Zbi w F p J h h2);clear e1 h;generalize J.D.blocks=b at *;go_enter Tryz.func66,Tryz.ntmps66;go_wp2_with fail;refine HB.out.mono ?_;rintro e w' ⟨rfl,rfl⟩;go_wp2_with fail;go_ret;exact⟨rfl,rfl⟩
theorem lay_any (w:World) (F:Ft) (p:Nat) (J:Jn) (h:JAt w F p J) (k:Nat) (hk:k≤33554432) (L:List UInt8) (hl:L.length=128) :
  Calls Tryz.prog 64 #[jptr p,.int .i64 (k:Int),.agg (bv L).toArray] w fun e w'=>e=.returned (.tuple #[])∧JAt w' F p (J.lay k L)∧Zb (JT F p) w w':=by
 obtain⟨W1,hW1⟩:∃W1,W1=w.alloc (.cells (bv L).toArray 128):=⟨_,rfl⟩;have hr:Zh W1 w.heap.size 128 L:=by rw[hW1];exact Zh.alloc w 128 L
 have hB1:Below w.heap.size w W1:=by rw[hW1];exact(Below.refl _ _).alloc (Nat.le_refl _) _
 have h1:=h.below hB1;obtain⟨c0,c1,c2,c3⟩:=h1.cells;by_cases h0:J.off=0
 ·have e1:J.lay k L={ J with D:=(J.D.write k L).2,off:=(J.D.write k L).1 }:=by simp[Jn.lay,h0]
  rw[e1];rw[h0] at c3;have hb:=hr.isB 0 128 128 (by omega) (by omega) (by simp[maxLen])
  rw[List.drop_zero,List.take_of_length_le (by omega)] at hb;have HW:=Hd (write_any W1.drew F J.D h1.disk.drew k _ L hb (by omega) (by omega))
  clear hb hr h0 e1;go_enter Tryz.func64,Tryz.ntmps64;go_upto_region 1 with fail;rw[←hW1];clear hW1;go_wp2_with fail;go_region_with (first | (go_at_call 96;((with_reducible refine HW.out.mono ?_);rintro e w2 ⟨rfl,hd2,t2⟩;have j2:=h1.drew.put_disk hd2 t2;have g3:w2.cell? ⟨p,3,none⟩=some (.int .i64 J.off):=j2.cells.2.2.2;have f3:=Zf j2.head 3)))
  go_end0;exact⟨rfl,j2.put_off _,((Zb.of_below (T:=JT F p) hB1).drew.trans (t2.jt p)).trans ((Zd w2 p 3 _).jp F)⟩
 ·have e1:J.lay k L=J:=by simp[Jn.lay,h0]
  rw[e1];have hd:(J.off==0)=false:=by simpa using h0
  have HF:=Hd (And.intro h1 (Zb.of_below (T:=JT F p) hB1));clear e1 h hr h1;go_enter Tryz.func64,Tryz.ntmps64;go_upto_region 1 with fail;rw[←hW1];clear hW1;go_wp2_with fail;go_end0;exact⟨rfl,HF.out⟩
theorem Zej (w:World) (F:Ft) (p:Nat) (J:Jn) (h:JAt w F p J) :
  Calls Tryz.prog 67 #[jptr p] w fun e w'=>e=.returned (.tuple #[])∧JAt w' F p J.flush∧Zb (JT F p) w w':=by
 obtain⟨c0,c1,c2,c3⟩:=h.cells;by_cases h0:J.off=0
 ·have e1:J.flush={ J with D:=J.D.flush.2,off:=J.D.flush.1 }:=by simp[Jn.flush,h0]
  rw[e1];rw[h0] at c3;have HW:=Hd (flush_any w F J.D h.disk)
  clear h0 e1;go_enter Tryz.func67,Tryz.ntmps67;go_wp2_with fail;refine HW.out.mono ?_;rintro e w2 ⟨rfl,hd2,t2⟩;have j2:=h.put_disk hd2 t2
  have g3:w2.cell? ⟨p,3,none⟩=some (.int .i64 J.off):=j2.cells.2.2.2;have f3:=Zf j2.head 3;go_wp2_with fail;go_end0;exact⟨rfl,j2.put_off _,(t2.jt p).trans ((Zd w2 p 3 _).jp F)⟩
 ·have e1:J.flush=J:=by simp[Jn.flush,h0]
  rw[e1];have hd:(J.off==0)=false:=by simpa using h0
  have HF:=Hd h;clear e1 h;go_enter Tryz.func67,Tryz.ntmps67;go_wp2_with fail;go_end0;exact⟨rfl,HF.out,Zb.refl _ _⟩
end
section
open Go.RowKit
theorem info_frame3:(Tryz.prog.info? 128).map (fun i=>(i.zero,i.size,i.bytes))=some (some (.agg (bv Yz).toArray),128,128):=by kernel_rfl
structure Zaw (base:Nat) (w:World) (v:Value) (Ls:List (List UInt8)):Prop where
 lens:∀L∈Ls,L.length=128
 own:w.ownsRow base 128 128 v Ls.length (bv Ls.flatten)
theorem Zaw.nil (base:Nat) (w:World):Zaw base w (.slice none 0 0) []:=⟨fun _ h=>(by cases h),World.ownsRow_nil w base 128 128⟩
theorem Zaw.keep {base:Nat} {w w':World} {v:Value} {Ls:List (List UInt8)} (h:Zaw base w v Ls) (hw:∀k,base≤k→k<w.heap.size→w'.heap[k]?=w.heap[k]?):Zaw base w' v Ls:=by
 obtain⟨h0,h1,h2⟩:=h;refine⟨h0,h1,?_⟩;rcases h2 with h2 | ⟨g,cap,cur,hv,hg,hh,r⟩
 ·exact .inl h2
 ·exact .inr ⟨g,cap,cur,hv,hg,(hw g hg (Za hh)).trans hh,r⟩
theorem Zaw.turned {base:Nat} {w w':World} {v:Value} {Ls:List (List UInt8)} {T:Nat→Prop} (h:Zaw base w v Ls) (ht:Zb T w w') (hT:∀k,T k→k<base):Zaw base w' v Ls :=
 h.keep fun k hk hl=>ht.block k hl fun e=>by have:=hT k e;omega
theorem Zaw.below {base:Nat} {w w':World} {v:Value} {Ls:List (List UInt8)} (h:Zaw base w v Ls) (hb:Below w.heap.size w w'):Zaw base w' v Ls:=h.keep fun k _ hl=>hb.block k hl
theorem Zaw.drew {base:Nat} {w:World} {v:Value} {Ls:List (List UInt8)} (h:Zaw base w v Ls):Zaw base w.drew v Ls:=h.keep fun _ _ _=>rfl
theorem flat_get {Ls:List (List UInt8)} (h:∀L∈Ls,L.length=128):∀i (hi:i<Ls.length),(Ls.flatten.drop (i*128)).take 128=Ls[i]:=by
 induction Ls with
 | nil=>intro i hi;simp at hi
 | cons L r ih =>
  intro i hi;have hL:=h L (List.mem_cons_self ..)
  rw[List.flatten_cons]
  cases i with
  | zero=>rw[Nat.zero_mul,List.drop_zero,List.take_left' hL];rfl
  | succ i =>
   rw[show (i+1)*128=128+i*128 by omega,←List.drop_drop,List.drop_left' hL,ih (fun x hx=>h x (List.mem_cons_of_mem _ hx)) i (by simpa using hi)]
   rfl
theorem Zaw.range {base:Nat} {w:World} {v:Value} {Ls:List (List UInt8)} (h:Zaw base w v Ls):v=.slice none 0 0∧Ls=[] ∨
  ∃g cap,v=.slice (some ⟨g,0,none⟩) Ls.length cap∧Ls.length≤cap∧cap≤maxLen∧base≤g∧∀i (hi:i<Ls.length),w.rangeAt g (i*128) (bv Ls[i]):=by
 obtain⟨h0,h1,h2⟩:=h;rcases h2 with ⟨h2,h3⟩ | ⟨g,cap,cur,hv,hg,hh,hnc,hcm,hcs,htake⟩
 ·exact .inl ⟨h2,List.eq_nil_of_length_eq_zero h3⟩
 ·refine .inr ⟨g,cap,hv,hnc,hcm,hg,fun i hi j u hj=>?_⟩
  have hL:=h0 Ls[i] (List.getElem_mem hi);have hlt:j<128:=by have:=(List.getElem?_eq_some_iff.1 hj).1;rw[Zl,hL] at this;exact this
  rw[←flat_get h0 i hi] at hj;rw[cell_of_row _ _ _ _ _ _ hh];have e:(bv Ls.flatten)[i*128+j]?=some u:=by rw[←hj];simp only[bv,List.getElem?_map,List.getElem?_take,List.getElem?_drop,if_pos hlt]
  rw[←htake,List.getElem?_take] at e;split at e
  ·simpa using e
  ·cases e
theorem Zaw.snoc {B:Nat} {w:World} {v:Value} {Ls:List (List UInt8)} (h:Zaw B w v Ls) (hB:B≤w.heap.size) (hL:Ls.length≤1000000) (L:List UInt8) (hl:L.length=128) (g:Nat) (hg:Zh w g 128 L) :
  ∃v' w',(Builtin.append_ #[137,137] 137 #[v,.slice (some ⟨g,0,none⟩) 1 1]).run Tryz.prog w=.ok v' w'∧Zaw B w' v' (Ls++[L])∧Zb (fun k=>B≤k) w w':=by
 obtain⟨i,hi,hz,hs,hb⟩:=info_parts (P:=Tryz.prog) (e:=128) info_frame3;have hcell:∀w':World,w'.heap=w.heap→∀j c,(bv L)[j]?=some c→w'.cell? ((⟨g,0,none⟩:Addr).add j)=some c:=fun w' hw j c hj=>by rw[Addr.add_mid,Nat.zero_add,cell_of_row w' _ _ _ _ _ (by rw[hw];exact hg)];simpa using hj
 obtain⟨v',w',hr,ho,hgr,_,_⟩:=Zdw (P:=Tryz.prog) w B 137 137 137 128 i _ 128 128 _ Tryz.underlying137 Tryz.underlying137 (.inl rfl) hi hz hs hb (by rw[Value.cells,List.size_toArray,Zl,Yu]) (by decide) v Ls.length (bv Ls.flatten) h.own
  (.slice (some ⟨g,0,none⟩) 1 1) 1 (bv L) (fun w'=>rfl) (by rw[Zl,hl]) (fun w' hw=>run_firstCells_some (P:=Tryz.prog) w' 128 1 ⟨g,0,none⟩ 1 1 (bv L) (by rw[Zl,hl]) (hcell w' hw)) (Yk L) (by simp[maxLen];omega) (by omega) hB
 refine⟨v',w',hr,⟨fun x hx=>?_,?_⟩,hgr.os,hgr.tape,hgr.output,hgr.size,fun k hk hn=>hgr.block k hk fun e=>hn ?_⟩
 ·rcases List.mem_append.1 hx with hx | hx
  ·exact h.lens x hx
  ·rw[List.mem_singleton.1 hx];exact hl
 ·rw[List.flatten_append,Zea,List.length_append];simpa using ho
 ·rcases h.own.2 with ⟨rfl,_⟩ | ⟨g',_,_,rfl,hb',_⟩
  ·cases e
  ·have:k=g':=by simpa [Value.ownBlock] using e
   omega
theorem Nib.apartD {w:World} {F:Ft} {D:Dk} (hn:Nib w) (h:Xv w F D):¬F.has 0:=by
 have h0:=hn 0 (by omega)
 have hbyte:∀(g cap n:Nat) (l:List UInt8),Zaa w g cap n l→1≤n→g≠0:=fun g cap n l hs hn1 e=>by
  have hr:=hs.range 0 (by omega);have hl:(sec l 0).length=128:=by obtain⟨_,_,_,_,_,hl,_⟩:=hs;exact Qh hl (by omega)
  have h2:=hr 0 _ (Zef (sec l 0) 0 (by omega));rw[e] at h2;simp only[Nat.zero_mul,Nat.zero_add] at h2;rw[h2] at h0;simp at h0
 rintro(e | e | e | e)
 ·have:=h.cells.1;rw[←e,h0] at this;cases this
 ·exact hbyte _ _ _ _ h.safe h.ok.n1 e.symm
 ·exact hbyte _ _ _ _ h.now h.ok.n1 e.symm
 ·obtain⟨es,cl,hm,_⟩:=h.hung;rw[e] at h0;simp[World.cell?,hm] at h0
theorem Nib.of_turned {w w':World} {T:Nat→Prop} (hn:Nib w) (ht:Zb T w w') (hT:¬T 0):Nib w':=fun i hi=>by have h0:=hn i hi;rw[←h0];exact World.cell?_of_block (ht.block _ (World.block_lt_of_cell? w _ h0) hT)
theorem Nib.turnedD {w w':World} {F:Ft} {D:Dk} (hn:Nib w) (h:Xv w F D) (ht:Zb F.has w w'):Nib w':=hn.of_turned ht (hn.apartD h)
theorem Nib.apart {w:World} {F:Ft} {p:Nat} {J:Jn} (hn:Nib w) (h:JAt w F p J):¬JT F p 0:=by
 have h0:=hn 0 (by omega);rintro(e | e)
 ·exact hn.apartD h.disk e
 ·have:=h.cells.1;rw[←e,h0] at this;cases this
theorem Nib.turned {w w':World} {F:Ft} {p:Nat} {J:Jn} (hn:Nib w) (h:JAt w F p J) (ht:Zb (JT F p) w w'):Nib w':=hn.of_turned ht (hn.apart h)
end
end Go.Proofs.YtofibccplbnaiaaGreatDoor
