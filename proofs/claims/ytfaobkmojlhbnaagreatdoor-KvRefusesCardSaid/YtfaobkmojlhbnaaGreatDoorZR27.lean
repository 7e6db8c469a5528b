/- Contracts of the functions that the statements of this seat reach, part 27: each says what the call answers and what it leaves of the memory. -/
import Derived.Test.YtfaobkmojlhbnaaGreatDoorZR25
import Derived.OwnWalkIn
import Derived.Lib.AppendZeros
import Derived.Test.YtfaobkmojlhbnaaGreatDoorZR17
import Derived.Test.YtfaobkmojlhbnaaGreatDoorZR4
import Derived.Test.YtfaobkmojlhbnaaGreatDoorZR18
import Derived.Test.YtfaobkmojlhbnaaGreatDoorZR2
import Derived.StillTailTactics
import Derived.LoopTactic
import Derived.Deep.Cut
import Derived.Deep.DeepCutAuto
import Derived.Deep.CutBlock
import Derived.Deep.RegionWith
import Derived.IntWalk
set_option linter.unusedVariables false
set_option linter.unusedSimpArgs false
set_option maxRecDepth 100000
set_option maxHeartbeats 64000000
namespace Go.Proofs.YtfaobkmojlhbnaaGreatDoor
section
open Go.RowKit Go.Shelf Go.Lib
def ownP (pb:Nat) (A:World) (k:Nat):Prop:=∃v,A.heap[pb]?=some (prsO v)/\v.ownBlock=some k
def ofT (t:Nat) (x:KV):KV:=(UInt8.ofNat t::x.1,x.2)
structure GathK (n:Nat) (J:Jn) (seq:Int) (B:List (List UInt8)) (F:Ft) (p:Nat) (f:Pf) (R:Rp) (tb sb:Nat) (sq wt:Int) (bs bp t pb:Nat) (w2:World) (pre:List KV) (W:World):Prop where
 kz:KZ n J seq B F p f R tb sb sq wt bs bp (t:Int) W
 row:∃v,W.heap[pb]?=some (prsO v)/\rkPr.Mine w2.heap.size W v (pre.map (ofT t))
 turned:Zb (λk=>PJ F p f k\/k=pb) w2 W
structure GathO (F:Ft) (p:Nat) (f:Pf) (tb sb bs bp pb N:Nat):Prop where
 low:LowZ F p f tb sb bs bp N
 lt:pb<N
 pj:¬PJ F p f pb
 ne:0≠pb/\tb≠pb/\sb≠pb/\bs≠pb/\bp≠pb
section
variable {n : Nat} {J : Jn} {seq : Int} {B : List (List UInt8)} {F : Ft} {p : Nat} {f : Pf} {R : Rp} {tb sb : Nat} {sq wt : Int} {bs bp t pb : Nat} {w2 W W' : World} {pre : List KV}
theorem ownP_stays (h:GathO F p f tb sb bs bp pb w2.heap.size):Stays (ownP pb) w2.heap.size (λk=>PJ F p f k\/w2.heap.size<=k):=λA d g a k e=>by
 obtain⟨v,b,c⟩:=e;have hl:=h.lt
 refine⟨v,(a.block pb (by omega) ?_).symm.trans b,c⟩;rintro(e | e)
 .exact h.pj e
 .omega
theorem GathK.lt (h:GathK n J seq B F p f R tb sb sq wt bs bp t pb w2 pre W) {k:Nat} (hk:ownP pb W k):w2.heap.size<=k/\k<W.heap.size:=by obtain⟨v,a,b⟩:=h.row;obtain⟨u,c,d⟩:=hk;cases a.symm.trans c;exact b.lt d
theorem GathK.own (hg:GathO F p f tb sb bs bp pb w2.heap.size) (h:GathK n J seq B F p f R tb sb sq wt bs bp t pb w2 pre W):∀k,ownP pb W k->¬PJ F p f k/\k<W.heap.size:=λk a=>⟨λe=>by have:=hg.low.pj k e;have:=(h.lt a).1;omega,(h.lt a).2⟩
theorem GathK.keep (hg:GathO F p f tb sb bs bp pb w2.heap.size) (h:GathK n J seq B F p f R tb sb sq wt bs bp t pb w2 pre W) (ht:Zb (λk=>(PJ F p f k\/w2.heap.size<=k)/\¬ownP pb W k) W W') (hz:KZ n J seq B F p f R tb sb sq wt bs bp (t:Int) W'):GathK n J seq B F p f R tb sb sq wt bs bp t pb w2 pre W':=by
 obtain⟨v,a,b⟩:=h.row;have hl:=hg.lt
 refine⟨hz,⟨v,Yk ht (λe=>e.1.elim hg.pj λe=>by omega) a,b.keep1 λk c=>ht.block k (b.lt c).2 λe=>e.2 ⟨v,a,c⟩⟩,h.turned.then ht λi d e=>e.1.elim .inl λe=>by omega⟩
theorem grownT {w w':World} {o:Option Nat} (h:w.grownBy w' o):Zb (λk=>o=some k) w w':=⟨h.os,h.tape,h.output,h.size,λk a b=>h.block k a (λe=>b e.symm)⟩
theorem GathK.step (hg:GathO F p f tb sb bs bp pb w2.heap.size) (h:GathK n J seq B F p f R tb sb sq wt bs bp t pb w2 pre W) (x:KV) (ht:t<=255) (hl:pre.length<=999) :
  ∃a m c l A o j,W.heap[pb]?=some (prsO (.slice a m c))/\(Builtin.append_ #[rkPr.S,rkPr.S] rkPr.S #[.slice a m c,.slice (some ⟨W.heap.size,0,none⟩) 1 1]).run Tryz.prog (W.alloc (.cells #[.int .i64 (t:Int),.string ⟨x.1.toArray⟩,.string ⟨x.2.toArray⟩] rkPr.T))=.ok (.slice l A o) j /\
   j.heap[pb]?=some (prsO (.slice a m c))/\TO (ownP pb) (λk=>k<w2.heap.size) W (j.setCell ⟨pb,0,none⟩ (.slice l A o))/\GathK n J seq B F p f R tb sb sq wt bs bp t pb w2 (pre++[x]) (j.setCell ⟨pb,0,none⟩ (.slice l A o)):=by
 obtain⟨v,y,C⟩:=h.row;obtain⟨a,c,rfl,_⟩:=C.is.form;have hsz:=h.turned.size
 have L:=hg.lt
 have s:=rkPr.lit W (ofT t x) #[.int .i64 (t:Int),.string ⟨x.1.toArray⟩,.string ⟨x.2.toArray⟩] (by
  show _=(prC (ofT t x)).toArray
  unfold prC ofT;rw[show (((UInt8.ofNat t::x.1,x.2):KV).1.headD 0).toNat=t by show (UInt8.ofNat t).toNat=t;rw[UInt8.toNat_ofNat'];omega]
  rfl)
 obtain⟨Y,j,M,z,D,E⟩:=(C.alloc (.cells #[.int .i64 (t:Int),.string ⟨x.1.toArray⟩,.string ⟨x.2.toArray⟩] rkPr.T)).app s (by simp;omega) (by simp;omega);obtain⟨l,o,rfl,_⟩:=z.is.form;have G:Zb (λ_=>False) W (W.alloc (.cells #[.int .i64 (t:Int),.string ⟨x.1.toArray⟩,.string ⟨x.2.toArray⟩] rkPr.T)):=Zcb _ _ _
 have q:=grownT D;have r:∀k,(Value.slice a (pre.map (ofT t)).length c).ownBlock=some k->w2.heap.size<=k:=λk d=>(C.lt d).1;have H:j.heap[pb]?=some (prsO (.slice a (pre.map (ofT t)).length c)):=Yk q (λe=>by have:=r _ e;omega) (Yk G id y);have h4:=Ze H (.slice l (pre.map (ofT t)++[ofT t x]).length o) (i:=0);have hs:=Zc j pb 0 (.slice l (pre.map (ofT t)++[ofT t x]).length o);have N:W.heap.size<j.heap.size:=by have:=q.size;simp at this;omega
 have b:Zb (λk=>(Value.slice a (pre.map (ofT t)).length c).ownBlock=some k\/k=pb) W (j.setCell ⟨pb,0,none⟩ (.slice l (pre.map (ofT t)++[ofT t x]).length o)):=((G.mono λ_ _ e=>e.elim).then q λ_ _ e=>.inl e).then hs λ_ _ e=>.inr e;have g:∀k,k<w2.heap.size->k≠pb->¬((Value.slice a (pre.map (ofT t)).length c).ownBlock=some k\/k=pb):=λk I w e=>e.elim (λe=>by have:=r _ e;omega) w;obtain⟨O,P,Q,U,V⟩:=hg.ne;have hlo:=hg.low;refine⟨a,_,c,l,_,o,j,y,M,H,⟨b.mono λk _ e=>e.elim (λe=>.inr ⟨_,y,e⟩) λe=>.inl (by omega),λk d=>?_⟩,⟨?_,⟨_,h4,?_⟩,h.turned.then b λi Z e=>e.elim (λe=>by have:=r _ e;omega) .inr⟩⟩
 .obtain⟨u,I,w⟩:=d
  cases h4.symm.trans I;rcases E with e | e
  .exact .inl ⟨_,y,by rw[<-e];exact w⟩
  .rw[e] at w;simp at w;exact .inr (by omega)
 .exact⟨h.kz.tr.turned b (λk d=>g k (d.elim (hlo.pj k) λe=>by rw[e];exact hlo.nib) (λe=>d.elim (λd=>hg.pj (e▸d)) λX=>O (X▸e))) (g _ hlo.htb P),Yk b (g _ hlo.hsb Q) h.kz.head,Yk b (g _ hlo.hbs U) h.kz.hbs,Yk b (g _ hlo.hbp V) h.kz.hbp⟩
 .rw[List.map_append]
  refine z.keep1 λk d=>hs.block k (z.lt d).2 λe=>?_;have:=(z.lt d).1
  omega
end
abbrev Rw:=Option Addr × Nat × Nat
def Rw.v (x:Rw):Value:=.slice x.1 x.2.1 x.2.2
def rkRw:RK Rw where
 T:=59
 S:=75
 n:=1
 C:=λx=>[x.v]
 z:=.slice none 0 0
 by_:=24
 npos:=by decide
 zc:=by kernel_rfl
 n4:=by decide
 b64:=by decide
 len:=λ_=>rfl
 one:=λx v hv=>by
  simp only[List.mem_cons,List.not_mem_nil,or_false] at hv
  subst hv
  rfl
 hS:=Tryz.underlying75
 hI:=by kernel_rfl
end
section
open Go.ChangeShapes Go.WideShapes Go.ChangeAt Go.RowKit Go.Deep
def rdStrR:Rd (List UInt8) where
 T:=9
 n:=1
 R:=λ_ cs x=>cs=[.string ⟨x.toArray⟩]/\x.length<=reachBytes
 size:=by kernel_rfl
 len:=λh=>by rw[h.1];rfl
 keep:=λh _=>h
 trod:=λh hl=>by
  obtain⟨s,h1,h2,h3⟩:=DataW.trod_string Tryz.underlying9 h
  refine⟨s.data.toList,by rw[h1],?_⟩
  exact hl _ (by rw[h2];simp[DataW.weights])
end
section
open Go.ChangeShapes Go.WideShapes Go.ChangeAt Go.RowKit Go.Deep
def rdBool:Rd Bool where
 T:=4
 n:=1
 R:=λ_ cs x=>cs=[.bool x]
 size:=by kernel_rfl
 len:=λh=>by rw[h];rfl
 keep:=λh _=>h
 trod:=λh _=>by
  obtain⟨b,h1,_⟩:=DataW.trod_bool Tryz.underlying4 h
  exact⟨b,h1⟩
end
section
open Go.ChangeShapes Go.WideShapes Go.ChangeAt Go.RowKit Go.Deep
structure PutR where
 space:Int
 key:List UInt8
 val:List UInt8
 long:Int
 gone:Bool
instance : Inhabited PutR := ⟨⟨default, default, default, default, default⟩⟩
def PutR.At (w:World) (x:PutR) (cs:List Value):Prop:=∃c0 c1 c2 c3 c4,cs=[c0,c1,c2,c3,c4]/\rdInt.R w [c0] x.space/\rdStrR.R w [c1] x.key/\rdStrR.R w [c2] x.val/\rdInt.R w [c3] x.long/\rdBool.R w [c4] x.gone
def rdPutR:Rd PutR where
 T:=91
 n:=5
 R:=λw cs x=>x.At w cs
 size:=by kernel_rfl
 len:=λh=>by
  obtain⟨c0,c1,c2,c3,c4,he,_⟩:=h
  rw[he];rfl
 keep:=λh hw=>by
  obtain⟨c0,c1,c2,c3,c4,he,k0,k1,k2,k3,k4⟩:=h
  exact⟨c0,c1,c2,c3,c4,he,rdInt.keep k0 hw,rdStrR.keep k1 hw,rdStrR.keep k2 hw,rdInt.keep k3 hw,rdBool.keep k4 hw⟩
 trod:=λ{H enc W m cs y} h hl=>by
  have hc:=trod_cells Tryz.underlying91 h
  rw[show Tryz.prog.cellsOf 91=5 by kernel_rfl] at hc
  match cs,hc with
  | [c0,c1,c2,c3,c4],_ =>
   obtain⟨n0,z0,f0,l0⟩:=Zft Tryz.underlying91 h hl 0 _ rfl
   change DataW.trod enc Tryz.prog W 0 (λ_=>true) true n0 3 (List.take (Tryz.prog.cellsOf 3) (List.drop 0 [c0,c1,c2,c3,c4]))=_ at f0
   rw[show Tryz.prog.cellsOf 3=1 from rdInt.size] at f0
   obtain⟨x0,h0⟩:=rdInt.trod (cs:=[c0]) f0 l0
   obtain⟨n1,z1,f1,l1⟩:=Zft Tryz.underlying91 h hl 1 _ rfl
   change DataW.trod enc Tryz.prog W 0 (λ_=>true) true n1 9 (List.take (Tryz.prog.cellsOf 9) (List.drop 1 [c0,c1,c2,c3,c4]))=_ at f1
   rw[show Tryz.prog.cellsOf 9=1 from rdStrR.size] at f1
   obtain⟨x1,h1⟩:=rdStrR.trod (cs:=[c1]) f1 l1
   obtain⟨n2,z2,f2,l2⟩:=Zft Tryz.underlying91 h hl 2 _ rfl
   change DataW.trod enc Tryz.prog W 0 (λ_=>true) true n2 9 (List.take (Tryz.prog.cellsOf 9) (List.drop 2 [c0,c1,c2,c3,c4]))=_ at f2
   rw[show Tryz.prog.cellsOf 9=1 from rdStrR.size] at f2
   obtain⟨x2,h2⟩:=rdStrR.trod (cs:=[c2]) f2 l2
   obtain⟨n3,z3,f3,l3⟩:=Zft Tryz.underlying91 h hl 3 _ rfl
   change DataW.trod enc Tryz.prog W 0 (λ_=>true) true n3 3 (List.take (Tryz.prog.cellsOf 3) (List.drop 3 [c0,c1,c2,c3,c4]))=_ at f3
   rw[show Tryz.prog.cellsOf 3=1 from rdInt.size] at f3
   obtain⟨x3,h3⟩:=rdInt.trod (cs:=[c3]) f3 l3
   obtain⟨n4,z4,f4,l4⟩:=Zft Tryz.underlying91 h hl 4 _ rfl
   change DataW.trod enc Tryz.prog W 0 (λ_=>true) true n4 4 (List.take (Tryz.prog.cellsOf 4) (List.drop 4 [c0,c1,c2,c3,c4]))=_ at f4
   rw[show Tryz.prog.cellsOf 4=1 from rdBool.size] at f4
   obtain⟨x4,h4⟩:=rdBool.trod (cs:=[c4]) f4 l4
   exact⟨⟨x0,x1,x2,x3,x4⟩,c0,c1,c2,c3,c4,rfl,h0,h1,h2,h3,h4⟩
def rdPutRs:Rd (List PutR):=rdPutR.slice (by decide) 42 Tryz.underlying42 (by kernel_rfl)
end
section
open Go.RowKit
theorem pick_any (w:World) (c:Int) (n:Nat) (h1:-9223372036854775808<=c) (h2:c<=9223372036854775807) (hn:0<n) (hm:n<=4611686018427387904) :
  Calls Tryz.prog 16 #[.int .i64 c,.int .i64 (n:Int)] w λe d=>e=.returned (.int .i64 (pickN c n:Int))/\w=d:=by
 by_cases a:c<0
 .have f:decide (c<0)=true:=by simpa using a
  have b:(pickN c n:Int)=(-(c+1)) % (n:Int):=by rw[pickN,if_pos a,Int.natCast_emod,Int.toNat_of_nonneg (by omega)]
  rw[b];have g:((n:Int)==0)=false:=by simp;omega
  go_enter Tryz.func16,Tryz.ntmps16;go_wp2;go_ret;exact⟨by rw[<-Int.neg_tmod,Int.tmod_eq_emod_of_nonneg (by omega)];rfl,rfl⟩
 .have f:decide (c<0)=false:=by simpa using a
  have b:(pickN c n:Int)=c % (n:Int):=by rw[pickN,if_neg a,Int.natCast_emod,Int.toNat_of_nonneg (by omega)]
  rw[b];go_enter Tryz.func16,Tryz.ntmps16;go_wp2;go_ret;exact⟨rfl,rfl⟩
def sizeK (c:Int):Nat:=256+pickN c 800
theorem sizeK_le (c:Int):256<=sizeK c/\sizeK c<=1055:=by have:pickN c 800<800:=pickN_lt _ (by decide);unfold sizeK;omega
theorem size12_any (w:World) (c:Int) (h1:-9223372036854775808<=c) (h2:c<=9223372036854775807) :
  Calls Tryz.prog 11 #[.int .i64 c] w λe b=>e=.returned (.int .i64 (sizeK c:Int))/\w=b:=by
 have d:=Hd (pick_any w c 800 h1 h2 (by decide) (by decide));obtain⟨q,a⟩:∃q,q=pickN c 800:=⟨_,rfl⟩;have f:q<800:=by rw[a];exact pickN_lt _ (by decide)
 have g:Hid (sizeK c=256+q):=Hd (by rw[sizeK,a]);have h:IntKind.i64.wrap (256+(q:Int))=256+(q:Int):=Vf _ (by omega);rw[g.out,show ((256+q:Nat):Int)=256+(q:Int) by omega]
 rw[<-a] at d;clear a;go_enter Tryz.func11,Tryz.ntmps11;go_wp2_with fail;refine d.out.mono ?_;rintro e b ⟨rfl,rfl⟩;go_wp2_with fail;go_ret;exact⟨rfl,rfl⟩
end
section
open Go.RowKit
variable {xs:List PutR}
def longV (n:Nat):List UInt8:=(List.range n).map λi=>UInt8.ofNat (97+i % 17)
theorem longV_succ (n:Nat):longV (n+1)=longV n++[UInt8.ofNat (97+n % 17)]:=by unfold longV;rw[List.range_succ,List.map_append];rfl
theorem Zgv (n:Nat):(longV n).length=n:=by unfold longV;simp
def flV (n k:Nat):List UInt8:=longV k++List.replicate (n - k) 0
theorem flV_len (n k:Nat) (h:k<=n):(flV n k).length=n:=by unfold flV;rw[List.length_append,Zgv,List.length_replicate];omega
theorem flV_all (n:Nat):flV n n=longV n:=by unfold flV;rw[Nat.sub_self,List.replicate_zero,List.append_nil]
theorem flV_set (n k:Nat) (h:k<n):(flV n k).set k (UInt8.ofNat (97+k % 17))=flV n (k+1):=by
 unfold flV;rw[longV_succ,show n - k=n - (k+1)+1 by omega,List.replicate_succ,List.set_append_right _ _ (by rw[Zgv];omega),Zgv,Nat.sub_self,List.set_cons_zero]
 simp
def rawPut (x:PutR):Ya:=⟨x.space,x.key,longV (pickN x.long 23*190)++x.val,x.gone⟩
def rightPut (p:Ya):Ya:=⟨(pickN p.sp 4*85:Nat),p.key.take 64,if p.gone then [] else p.val.take 4096,p.gone⟩
def Zck (raw:Bool) (x:PutR):Ya:=if raw then rawPut x else rightPut (rawPut x)
theorem putr_at {w:World} {a:Option Addr} {n cap:Nat} (h:Zei rdPutR w (.slice a n cap) xs) (i:Nat) (q:i<xs.length):∃b o,a=some ⟨b,o,none⟩/\w.cell? ⟨b,o+i*5,none⟩=some (.int .i64 xs[i].space)/\w.cell? ⟨b,o+i*5+1,none⟩=some (.string ⟨xs[i].key.toArray⟩) /\
  w.cell? ⟨b,o+i*5+2,none⟩=some (.string ⟨xs[i].val.toArray⟩)/\w.cell? ⟨b,o+i*5+3,none⟩=some (.int .i64 xs[i].long)/\w.cell? ⟨b,o+i*5+4,none⟩=some (.bool xs[i].gone)/\I64 xs[i].space/\I64 xs[i].long/\xs[i].key.length<=reachBytes/\xs[i].val.length<=reachBytes:=by
 obtain⟨J,e,f,M,O,r,P,d⟩:=h;simp only[Value.slice.injEq] at f;obtain⟨rfl,_,rfl⟩:=f
 cases a with
 | none=>have:=r rfl;omega
 | some x =>
  obtain⟨b,o,s⟩:=x;obtain⟨t,d⟩:=d _ rfl;obtain rfl:s=none:=t (by omega);obtain⟨Q,⟨R,S,T,U,u,rfl,y,z,A,B,C⟩,c⟩:=d i q;obtain⟨j,D⟩:=y;obtain⟨k,E⟩:=z;obtain⟨l,F⟩:=A;obtain⟨m,G⟩:=B;simp only[List.cons.injEq,and_true] at j k l m;have H:u=.bool xs[i].gone:=by simpa [rdBool] using C
  subst j k l m H;have I:rdPutR.n=5:=rfl
  rw[I] at c;exact⟨b,o,rfl,c 0 _ rfl,c 1 _ rfl,c 2 _ rfl,c 3 _ rfl,c 4 _ rfl,D,G,E,F⟩
structure PB (N:Nat) (w W:World) (g:Nat) (p:Ya) (v:Value) (L:List Ya):Prop where
 below:Below N w W
 box:W.heap[g]?=some (.cells #[.int .i64 p.sp,.string ⟨p.key.toArray⟩,.string ⟨p.val.toArray⟩,.bool p.gone] 66 (0,0))
 row:Zbe.Mine N W v L
 gN:N<=g
 apart:∀k,v.ownBlock=some k->k<g
section
variable {N : Nat} {w W W' : World} {g : Nat} {p p' : Ya} {v : Value} {L : List Ya}
theorem PB.step (h:PB N w W g p v L) (hb:Below W.heap.size W W'):PB N w W' g p v L :=
 ⟨h.below.trans (hb.mono (Vk h.gN (Nat.le_of_lt (Za h.box)))),(hb.block _ (Za h.box)).trans h.box,h.row.below hb,h.gN,h.apart⟩
theorem PB.put (h:PB N w W g p v L) (j:Nat) (u:Value) (hc:(#[Value.int .i64 p.sp,.string ⟨p.key.toArray⟩,.string ⟨p.val.toArray⟩,.bool p.gone]:Array Value).setIfInBounds j u=#[.int .i64 p'.sp,.string ⟨p'.key.toArray⟩,.string ⟨p'.val.toArray⟩,.bool p'.gone]):PB N w (W.setCell ⟨g,j,none⟩ u) g p' v L:=by have b:=Ze h.box (i:=j) u;rw[hc] at b;have c:∀k,k≠g->(W.setCell ⟨g,j,none⟩ u).heap[k]?=W.heap[k]?:=λk a=>Xa g [u] j W k a;have hr:=Zcl g [u] j W;refine⟨?_,b,h.row.keep1 λk a=>c k (by have:=h.apart k a;omega),h.gN,h.apart⟩;have hb:=h.below;exact⟨hr.1.trans hb.os,hr.2.1.trans hb.tape,hr.2.2.1.trans hb.output,by rw[show (W.setCell ⟨g,j,none⟩ u).heap.size=W.heap.size from hr.2.2.2];exact hb.size,λk a=>(c k (by have:=h.gN;omega)).trans (hb.block k a)⟩
theorem PB.cells (h:PB N w W g p v L):W.cell? ⟨g,0,none⟩=some (.int .i64 p.sp)/\W.cell? ⟨g,1,none⟩=some (.string ⟨p.key.toArray⟩)/\W.cell? ⟨g,2,none⟩=some (.string ⟨p.val.toArray⟩)/\W.cell? ⟨g,3,none⟩=some (.bool p.gone):=by
 refine⟨?_,?_,?_,?_⟩<;>· rw[Vc _ _ _ _ _ _ h.box];rfl
end
theorem puts_any (w:World) {v:Value} (h:Zei rdPutR w v xs) (raw:Bool):
  Calls Tryz.prog 18 #[v,.bool raw] w fun e w'=>∃u,e=.returned u∧Zbe.Mine w.heap.size w' u ((xs.take 12).map (Zck raw))∧Below w.heap.size w w':=by
 obtain⟨a,cap,rfl,hl1,hl2⟩:=h.form;unfold maxLen at hl2;have H:=Hd h
 clear h;go_enter Tryz.func18,Tryz.ntmps18;go_wp2_with fail;go_loopw [5,6] (fun x y wr=>∃i:Nat,i≤12∧i≤xs.length∧y=.int .i64 (i:Int)∧Zbe.Mine w.heap.size wr x ((xs.take i).map (Zck raw))∧Below w.heap.size w wr) (fun _ y _=>12 - (intOf y).toNat)
 case atStart=>exact⟨0,by omega,by omega,rfl,RK.Mine.nil _ _,Below.refl _ _⟩
 case round =>
  obtain⟨i,hi12,hil,rfl,hm,hb⟩:=hrel;obtain⟨au,nu,cu,rfl⟩:∃a n c,u5=.slice a n c:=by obtain⟨a1,c1,e1,_⟩:=hm.is.form;exact⟨_,_,_,e1⟩
  by_cases hlt:i<xs.length∧i<12
  ·obtain⟨h1,h2⟩:=hlt
   have d1:decide ((i:Int)<(xs.length:Int))=true:=decide_eq_true (by omega);have d2:decide ((i:Int)<12)=true:=decide_eq_true (by omega);have d3:decide (i<xs.length)=true:=decide_eq_true h1;have d4:decide (i<12)=true:=decide_eq_true h2;obtain⟨b,ofs,rfl,c0,c1,c2,c3,c4,i0,i3,l1,l2⟩:=putr_at (H.out.below hb) i h1;obtain⟨X,hX⟩:∃X,X=xs[i]:=⟨_,rfl⟩;rw[←hX] at c0 c1 c2 c3 c4 i0 i3 l1 l2;have HXS:Hid (xs.take (i+1)=xs.take i++[X]):=Hd (by rw[List.take_succ_eq_append_getElem h1,hX]);have e0:(0:Int)≤(i:Int):=by omega
   have e1:(i:Int)<(xs.length:Int):=by omega
   have HM:=Hd hm;have HB:=Hd hb;have hbl:b<wr.heap.size:=World.block_lt_of_cell? wr _ c0;have HAL:Hid (∀o,(wr.drew.alloc o).heap[b]?=wr.heap[b]?):=Hd fun o=>Below.heap_alloc wr.drew o b hbl;have hS0:wr.drew.heap[b]?=wr.heap[b]?:=rfl;clear hX hm hb;go_wp2_with fail;refine rgA (S:=(fun W=>W.heap[b]?=wr.heap[b]?)) rfl (fun hH=>?_);refine tkB 0 rfl (v:=?_) ?_ hH ?_;rotate_left
   ·intro w hSw;have q0:=(World.cell?_of_block (a:=⟨b,ofs+i*5,none⟩) hSw).trans c0;have q1:=(World.cell?_of_block (a:=⟨b,ofs+i*5+1,none⟩) hSw).trans c1;have q2:=(World.cell?_of_block (a:=⟨b,ofs+i*5+2,none⟩) hSw).trans c2;have q4:=(World.cell?_of_block (a:=⟨b,ofs+i*5+4,none⟩) hSw).trans c4;go_simp;try with_reducible rfl
   try simp only[Act.put,zA,zB,zC]
   refine tkB 1 rfl (v:=?_) ?_ hH ?_;rotate_left
   ·intro w hSw;have q0:=(World.cell?_of_block (a:=⟨b,ofs+i*5,none⟩) hSw).trans c0;have q1:=(World.cell?_of_block (a:=⟨b,ofs+i*5+1,none⟩) hSw).trans c1;have q2:=(World.cell?_of_block (a:=⟨b,ofs+i*5+2,none⟩) hSw).trans c2;have q4:=(World.cell?_of_block (a:=⟨b,ofs+i*5+4,none⟩) hSw).trans c4;go_simp;try with_reducible rfl
   try simp only[Act.put,zA,zB,zC]
   refine tkB 2 rfl (v:=?_) ?_ hH ?_;rotate_left
   ·intro w hSw;have q0:=(World.cell?_of_block (a:=⟨b,ofs+i*5,none⟩) hSw).trans c0;have q1:=(World.cell?_of_block (a:=⟨b,ofs+i*5+1,none⟩) hSw).trans c1;have q2:=(World.cell?_of_block (a:=⟨b,ofs+i*5+2,none⟩) hSw).trans c2;have q4:=(World.cell?_of_block (a:=⟨b,ofs+i*5+4,none⟩) hSw).trans c4;go_simp;try with_reducible rfl
   try simp only[Act.put,zA,zB,zC]
   refine tkB 3 rfl (v:=?_) ?_ hH ?_;rotate_left
   ·intro w hSw;have q0:=(World.cell?_of_block (a:=⟨b,ofs+i*5,none⟩) hSw).trans c0;have q1:=(World.cell?_of_block (a:=⟨b,ofs+i*5+1,none⟩) hSw).trans c1;have q2:=(World.cell?_of_block (a:=⟨b,ofs+i*5+2,none⟩) hSw).trans c2;have q4:=(World.cell?_of_block (a:=⟨b,ofs+i*5+4,none⟩) hSw).trans c4;go_simp;try with_reducible rfl
   try simp only[Act.put,zA,zB,zC]
   refine tkB 4 rfl (v:=?_) ?_ hH ?_;rotate_left
   ·intro w hSw;have q0:=(World.cell?_of_block (a:=⟨b,ofs+i*5,none⟩) hSw).trans c0;have q1:=(World.cell?_of_block (a:=⟨b,ofs+i*5+1,none⟩) hSw).trans c1;have q2:=(World.cell?_of_block (a:=⟨b,ofs+i*5+2,none⟩) hSw).trans c2;have q4:=(World.cell?_of_block (a:=⟨b,ofs+i*5+4,none⟩) hSw).trans c4;go_simp;try with_reducible rfl
   try simp only[Act.put,zA,zB,zC]
   refine tkB 5 rfl (v:=?_) ?_ hH ?_;rotate_left
   ·intro w hSw;have q0:=(World.cell?_of_block (a:=⟨b,ofs+i*5,none⟩) hSw).trans c0;have q1:=(World.cell?_of_block (a:=⟨b,ofs+i*5+1,none⟩) hSw).trans c1;have q2:=(World.cell?_of_block (a:=⟨b,ofs+i*5+2,none⟩) hSw).trans c2;have q4:=(World.cell?_of_block (a:=⟨b,ofs+i*5+4,none⟩) hSw).trans c4;go_simp;try with_reducible rfl
   try simp only[Act.put,zA,zB,zC]
   refine tkB 6 rfl (v:=?_) ?_ hH ?_;rotate_left
   ·intro w hSw;have q0:=(World.cell?_of_block (a:=⟨b,ofs+i*5,none⟩) hSw).trans c0;have q1:=(World.cell?_of_block (a:=⟨b,ofs+i*5+1,none⟩) hSw).trans c1;have q2:=(World.cell?_of_block (a:=⟨b,ofs+i*5+2,none⟩) hSw).trans c2;have q4:=(World.cell?_of_block (a:=⟨b,ofs+i*5+4,none⟩) hSw).trans c4;go_simp;try with_reducible rfl
   try simp only[Act.put,zA,zB,zC]
   refine tkB 7 rfl (v:=?_) ?_ hH ?_;rotate_left
   ·intro w hSw;have q0:=(World.cell?_of_block (a:=⟨b,ofs+i*5,none⟩) hSw).trans c0;have q1:=(World.cell?_of_block (a:=⟨b,ofs+i*5+1,none⟩) hSw).trans c1;have q2:=(World.cell?_of_block (a:=⟨b,ofs+i*5+2,none⟩) hSw).trans c2;have q4:=(World.cell?_of_block (a:=⟨b,ofs+i*5+4,none⟩) hSw).trans c4;go_simp;try with_reducible rfl
   try simp only[Act.put,zA,zB,zC]
   refine tkB 8 rfl (v:=?_) ?_ hH ?_;rotate_left
   ·intro w hSw;have q0:=(World.cell?_of_block (a:=⟨b,ofs+i*5,none⟩) hSw).trans c0;have q1:=(World.cell?_of_block (a:=⟨b,ofs+i*5+1,none⟩) hSw).trans c1;have q2:=(World.cell?_of_block (a:=⟨b,ofs+i*5+2,none⟩) hSw).trans c2;have q4:=(World.cell?_of_block (a:=⟨b,ofs+i*5+4,none⟩) hSw).trans c4;go_simp;try with_reducible rfl
   try simp only[Act.put,zA,zB,zC]
   refine tkB 9 rfl (v:=?_) ?_ hH ?_;rotate_left
   ·intro w hSw;have q0:=(World.cell?_of_block (a:=⟨b,ofs+i*5,none⟩) hSw).trans c0;have q1:=(World.cell?_of_block (a:=⟨b,ofs+i*5+1,none⟩) hSw).trans c1;have q2:=(World.cell?_of_block (a:=⟨b,ofs+i*5+2,none⟩) hSw).trans c2;have q4:=(World.cell?_of_block (a:=⟨b,ofs+i*5+4,none⟩) hSw).trans c4;go_simp;try with_reducible rfl
   try simp only[Act.put,zA,zB,zC]
   refine tkB 10 rfl (v:=?_) ?_ hH ?_;rotate_left
   ·intro w hSw;have q0:=(World.cell?_of_block (a:=⟨b,ofs+i*5,none⟩) hSw).trans c0;have q1:=(World.cell?_of_block (a:=⟨b,ofs+i*5+1,none⟩) hSw).trans c1;have q2:=(World.cell?_of_block (a:=⟨b,ofs+i*5+2,none⟩) hSw).trans c2;have q4:=(World.cell?_of_block (a:=⟨b,ofs+i*5+4,none⟩) hSw).trans c4;go_simp;try with_reducible rfl
   try simp only[Act.put,zA,zB,zC]
   refine tkB 11 rfl (v:=?_) ?_ hH ?_;rotate_left
   ·intro w hSw;have q0:=(World.cell?_of_block (a:=⟨b,ofs+i*5,none⟩) hSw).trans c0;have q1:=(World.cell?_of_block (a:=⟨b,ofs+i*5+1,none⟩) hSw).trans c1;have q2:=(World.cell?_of_block (a:=⟨b,ofs+i*5+2,none⟩) hSw).trans c2;have q4:=(World.cell?_of_block (a:=⟨b,ofs+i*5+4,none⟩) hSw).trans c4;go_simp;try with_reducible rfl
   try simp only[Act.put,zA,zB,zC]
   refine tkB 12 rfl (v:=?_) ?_ hH ?_;rotate_left
   ·intro w hSw;have q0:=(World.cell?_of_block (a:=⟨b,ofs+i*5,none⟩) hSw).trans c0;have q1:=(World.cell?_of_block (a:=⟨b,ofs+i*5+1,none⟩) hSw).trans c1;have q2:=(World.cell?_of_block (a:=⟨b,ofs+i*5+2,none⟩) hSw).trans c2;have q4:=(World.cell?_of_block (a:=⟨b,ofs+i*5+4,none⟩) hSw).trans c4;go_simp;try with_reducible rfl
   try simp only[Act.put,zA,zB,zC]
   refine tkB 13 rfl (v:=?_) ?_ hH ?_;rotate_left
   ·intro w hSw;have q0:=(World.cell?_of_block (a:=⟨b,ofs+i*5,none⟩) hSw).trans c0;have q1:=(World.cell?_of_block (a:=⟨b,ofs+i*5+1,none⟩) hSw).trans c1;have q2:=(World.cell?_of_block (a:=⟨b,ofs+i*5+2,none⟩) hSw).trans c2;have q4:=(World.cell?_of_block (a:=⟨b,ofs+i*5+4,none⟩) hSw).trans c4;go_simp;try with_reducible rfl
   try simp only[Act.put,zA,zB,zC]
   refine tkB 14 rfl (v:=?_) ?_ hH ?_;rotate_left
   ·intro w hSw;have q0:=(World.cell?_of_block (a:=⟨b,ofs+i*5,none⟩) hSw).trans c0;have q1:=(World.cell?_of_block (a:=⟨b,ofs+i*5+1,none⟩) hSw).trans c1;have q2:=(World.cell?_of_block (a:=⟨b,ofs+i*5+2,none⟩) hSw).trans c2;have q4:=(World.cell?_of_block (a:=⟨b,ofs+i*5+4,none⟩) hSw).trans c4;go_simp;try with_reducible rfl
   try simp only[Act.put,zA,zB,zC]
   refine tkB 15 rfl (v:=?_) ?_ hH ?_;rotate_left
   ·intro w hSw;have q0:=(World.cell?_of_block (a:=⟨b,ofs+i*5,none⟩) hSw).trans c0;have q1:=(World.cell?_of_block (a:=⟨b,ofs+i*5+1,none⟩) hSw).trans c1;have q2:=(World.cell?_of_block (a:=⟨b,ofs+i*5+2,none⟩) hSw).trans c2;have q4:=(World.cell?_of_block (a:=⟨b,ofs+i*5+4,none⟩) hSw).trans c4;go_simp;try with_reducible rfl
   try simp only[Act.put,zA,zB,zC]
   refine tkB 16 rfl (v:=?_) ?_ hH ?_;rotate_left
   ·intro w hSw;have q0:=(World.cell?_of_block (a:=⟨b,ofs+i*5,none⟩) hSw).trans c0;have q1:=(World.cell?_of_block (a:=⟨b,ofs+i*5+1,none⟩) hSw).trans c1;have q2:=(World.cell?_of_block (a:=⟨b,ofs+i*5+2,none⟩) hSw).trans c2;have q4:=(World.cell?_of_block (a:=⟨b,ofs+i*5+4,none⟩) hSw).trans c4;go_simp;try with_reducible rfl
   try simp only[Act.put,zA,zB,zC]
   refine tkB 17 rfl (v:=?_) ?_ hH ?_;rotate_left
   ·intro w hSw;have q0:=(World.cell?_of_block (a:=⟨b,ofs+i*5,none⟩) hSw).trans c0;have q1:=(World.cell?_of_block (a:=⟨b,ofs+i*5+1,none⟩) hSw).trans c1;have q2:=(World.cell?_of_block (a:=⟨b,ofs+i*5+2,none⟩) hSw).trans c2;have q4:=(World.cell?_of_block (a:=⟨b,ofs+i*5+4,none⟩) hSw).trans c4;go_simp;try with_reducible rfl
   try simp only[Act.put,zA,zB,zC]
   refine tkB 18 rfl (v:=?_) ?_ hH ?_;rotate_left
   ·intro w hSw;have q0:=(World.cell?_of_block (a:=⟨b,ofs+i*5,none⟩) hSw).trans c0;have q1:=(World.cell?_of_block (a:=⟨b,ofs+i*5+1,none⟩) hSw).trans c1;have q2:=(World.cell?_of_block (a:=⟨b,ofs+i*5+2,none⟩) hSw).trans c2;have q4:=(World.cell?_of_block (a:=⟨b,ofs+i*5+4,none⟩) hSw).trans c4;go_simp;try with_reducible rfl
   try simp only[Act.put,zA,zB,zC]
   refine tkB 19 rfl (v:=?_) ?_ hH ?_;rotate_left
   ·intro w hSw;have q0:=(World.cell?_of_block (a:=⟨b,ofs+i*5,none⟩) hSw).trans c0;have q1:=(World.cell?_of_block (a:=⟨b,ofs+i*5+1,none⟩) hSw).trans c1;have q2:=(World.cell?_of_block (a:=⟨b,ofs+i*5+2,none⟩) hSw).trans c2;have q4:=(World.cell?_of_block (a:=⟨b,ofs+i*5+4,none⟩) hSw).trans c4;go_simp;try with_reducible rfl
   try simp only[Act.put,zA,zB,zC]
   refine tkB 20 rfl (v:=?_) ?_ hH ?_;rotate_left
   ·intro w hSw;have q0:=(World.cell?_of_block (a:=⟨b,ofs+i*5,none⟩) hSw).trans c0;have q1:=(World.cell?_of_block (a:=⟨b,ofs+i*5+1,none⟩) hSw).trans c1;have q2:=(World.cell?_of_block (a:=⟨b,ofs+i*5+2,none⟩) hSw).trans c2;have q4:=(World.cell?_of_block (a:=⟨b,ofs+i*5+4,none⟩) hSw).trans c4;go_simp;try with_reducible rfl
   try simp only[Act.put,zA,zB,zC]
   refine rdA 21 rfl (fun K hK=>?_);go_simp;refine hK.out _ _ (HAL.out _) (fun hH=>?_);clear hK K;try simp only[Act.put,zA,zB,zC]
   refine rdA 22 rfl (fun K hK=>?_);go_simp;refine hK.out _ _ (HAL.out _) (fun hH=>?_);clear hK K;try simp only[Act.put,zA,zB,zC]
   refine dnA ?_;clear hH hS0 HAL;obtain⟨W1,hW1⟩:∃W1,W1=(wr.alloc (.cells #[.int .i64 X.space,.string ⟨X.key.toArray⟩,.string ⟨X.val.toArray⟩,.bool X.gone] 66)).drew:=⟨_,rfl⟩;obtain⟨g,hg⟩:∃g,g=wr.heap.size:=⟨_,rfl⟩;have hb1:Below wr.heap.size wr W1:=by rw[hW1];exact((Below.refl _ _).alloc (Nat.le_refl _) _).drew
   have hP1:PB w.heap.size w W1 g ⟨X.space,X.key,X.val,X.gone⟩ (.slice au nu cu) ((xs.take i).map (Zck raw)):=by refine⟨HB.out.trans (hb1.mono HB.out.size),?_,HM.out.below hb1,by rw[hg];exact HB.out.size,fun k hk=>by rw[hg];exact(HM.out.lt hk).2⟩;rw[hW1,hg];exact heap_alloc_new wr _
   have e3:W1.cell? ⟨b,ofs+i*5+3,none⟩=some (.int .i64 X.long):=Zi hb1 _ _ c3;have HP1:=Hd hP1;rw[←hW1,←hg];clear hW1 hg hb1 hP1 c0 c1 c2 c3 c4 hbl HM HB;obtain⟨q,hq⟩:∃q,q=pickN X.long 23:=⟨_,rfl⟩;have hq23:q<23:=by rw[hq];exact pickN_lt _ (by decide)
   have HPK:=Hd (pick_any W1 X.long 23 i3.1 i3.2 (by decide) (by decide));rw[←hq] at HPK;have HRP:Hid (rawPut X=⟨X.space,X.key,longV (q*190)++X.val,X.gone⟩):=Hd (by rw[rawPut,hq]);clear hq i3;have hwm:IntKind.i64.wrap ((q:Int)*190)=((q*190:Nat):Int):=by rw[IntWalk.i64_in _ (by omega)];omega
   obtain⟨nn,hnn⟩:∃nn,nn=q*190:=⟨_,rfl⟩;have hnn2:nn≤4180:=by omega
   rw[←hnn] at HRP hwm;clear hnn;go_wp2_with fail;refine HPK.out.mono ?_;rintro e w2 ⟨rfl,e2⟩;obtain rfl:W1=w2:=e2;clear HPK;go_upto_if 50 with fail;go_cut [] (fun wx=>PB w.heap.size w wx g (rawPut X) (.slice au nu cu) ((xs.take i).map (Zck raw)))
   case first =>
    by_cases h0:nn=0
    ·subst h0
     have hE:Hid (PB w.heap.size w W1 g (rawPut X) (.slice au nu cu) ((xs.take i).map (Zck raw))):=Hd (by
      rw[HRP.out]
      exact HP1.out)
     have z1:decide ((0:Int)<0)=false:=rfl;go_wp2_with fail;go_meet;exact hE.out
    ·have z1:decide ((0:Int)<(nn:Int))=true:=decide_eq_true (by omega)
     have z2:decide (0<nn)=true:=decide_eq_true (by omega);obtain⟨i',hi,hz,hs1,hby1⟩:=info_parts (P:=Tryz.prog) (e:=5) Zbg;have hmk:=run_make (P:=Tryz.prog) W1 77 5 i' (.int .u8 0) Tryz.underlying77 hi hz .i64 .i64 (nn:Int) (nn:Int) (by omega) (by omega) (by rw[hby1];omega) (by omega);rw[hs1,Nat.mul_one,Int.toNat_natCast,made_bytes] at hmk;obtain⟨R,hR⟩:∃R,R=List.replicate nn (0:UInt8):=⟨_,rfl⟩;rw[←hR] at hmk;have hRl:R.length=nn:=by rw[hR,List.length_replicate]
     have hb0:Below W1.heap.size W1 (W1.alloc (.cells (bv R).toArray 5)):=(Below.refl _ _).alloc (Nat.le_refl _) _
     have hown0:Mine 5 W1.heap.size (W1.alloc (.cells (bv R).toArray 5)) (.slice (some ⟨W1.heap.size,0,none⟩) nn nn) (flV nn 0):=by
      have e:flV nn 0=R:=by rw[hR];rfl
      rw[e];have:=Mine.lit (e:=5) (w:=W1) R (Nat.le_refl _) (by rw[hRl];unfold maxLen;omega)
      rwa[hRl] at this
     generalize W1.alloc (.cells (bv R).toArray 5)=W2 at *;clear hi hz hs1 hby1 hR hRl;have HB0:=Hd hb0
     have HW0:=Hd hown0;clear hb0 hown0;go_wp2_with fail;clear hmk;go_loopw [10] (fun x wr=>∃k:Nat,k≤nn∧x=.int .i64 (k:Int)∧Mine 5 W1.heap.size wr (.slice (some ⟨W1.heap.size,0,none⟩) nn nn) (flV nn k)∧Below W1.heap.size W1 wr) (fun x _=>nn - (intOf x).toNat)
     case atStart=>exact⟨0,Nat.zero_le _,rfl,HW0.out,HB0.out⟩
     case round =>
      clear HB0 HW0;obtain⟨k,hk,rfl,hown,hbl⟩:=hrel;have hfl:=flV_len nn k hk
      by_cases hkl:k<nn
      ·have y1:decide ((k:Int)<(nn:Int))=true:=decide_eq_true (by omega)
       have y2:decide (k<nn)=true:=decide_eq_true hkl;obtain⟨mm,hmm⟩:∃mm,mm=k % 17:=⟨_,rfl⟩;have hm17:(k:Int).tmod 17=(mm:Int):=by rw[Int.tmod_eq_emod_of_nonneg (by omega),hmm];rfl
       have h17:mm<17:=by omega
       have hset:=flV_set nn k hkl;rw[←hmm] at hset;clear hmm;have hw8:IntKind.u8.wrap (mm:Int)=(mm:Int):=IntWalk.u8_in _ (by omega);have hw9:IntKind.u8.wrap (97+(mm:Int))=97+(mm:Int):=IntWalk.u8_in _ (by omega);have hw1:IntKind.i64.wrap ((k:Int)+1)=(k:Int)+1:=IntWalk.i64_in _ (by omega);have k0:(0:Int)≤(k:Int):=by omega
       have k1:(k:Int)<(nn:Int):=by omega
       have hown2:Mine 5 W1.heap.size wr (.slice (some ⟨W1.heap.size,0,none⟩) (flV nn k).length nn) (flV nn k):=by rw[hfl];exact hown
       have hcell:=World.ownsRow.cellAt hown2 k (by omega);rw[Zfj (flV nn k) k (by omega)] at hcell;obtain⟨old,hold⟩:∃old,wr.cell? ⟨W1.heap.size,k,none⟩=some old:=⟨_,hcell⟩;clear hcell;have hfro:=World.ownsRow.frozenAt hown2 k
       have HS:Hid (Mine 5 W1.heap.size (wr.setCell ⟨W1.heap.size,k,none⟩ (.int .u8 (97+(mm:Int)))) (.slice (some ⟨W1.heap.size,0,none⟩) nn nn) (flV nn (k+1))):=Hd (by
        have h:=Mine.stored (l:=flV nn k) (g:=W1.heap.size) (cap:=nn) hown2 k (UInt8.ofNat (97+mm));rw[hset,flV_len nn (k+1) (by omega),show (((UInt8.ofNat (97+mm)).toNat:Nat):Int)=97+(mm:Int) by rw[UInt8.toNat_ofNat'];omega] at h
        exact h)
       have HBS:Hid (Below W1.heap.size W1 (wr.setCell ⟨W1.heap.size,k,none⟩ (.int .u8 (97+(mm:Int))))):=Hd (hbl.setCell (p:=⟨W1.heap.size,k,none⟩) (Nat.le_refl _) _);clear hown hown2 hbl hset hfl;go_wp2_with fail;go_roundw
       case rel=>exact⟨k+1,hkl,by go_num,HS.out,HBS.out⟩
       case measure=>simp[intOf];omega
      ·obtain rfl:k=nn:=by omega
       have y1:decide ((k:Int)<(k:Int))=false:=decide_eq_false (by omega);have y2:decide (k<k)=false:=decide_eq_false (by omega);rw[flV_all] at hown;have hib:=hown.isB;have hib:IsB wr (.slice (some ⟨W1.heap.size,0,none⟩) k k) (longV k):=hib;have hst:=run_str (P:=Tryz.prog) hib 77 9 5 Tryz.underlying77 Tryz.underlying5 Tryz.underlying9;have hPw:=HP1.out.step hbl;have e2:=hPw.cells.2.2.1;have f2:=Zf hPw.box 2;have hcat:¬(9223372036854775807<(longV k).length+X.val.length):=by rw[Zgv];have h2:=l2;unfold reachBytes at h2;omega
       have HE:Hid (PB w.heap.size w (wr.setCell ⟨g,2,none⟩ (.string ⟨(longV k++X.val).toArray⟩)) g (rawPut X) (.slice au nu cu) ((xs.take i).map (Zck raw))):=Hd (by
        refine hPw.put 2 _ ?_;rw[HRP.out]
        rfl)
       clear hib hown hbl hPw hfl;go_wp2_with fail;go_meet;exact HE.out
   have HP2:=Hd hcut;have z1:=HRP.out;obtain⟨P,hP⟩:∃P,P=rawPut X:=⟨_,rfl⟩;have hPl:P.key.length≤reachBytes∧P.val.length≤9223372036854770000:=by rw[hP,z1];refine⟨l1,?_⟩;rw[List.length_append,Zgv];have h2:=l2;unfold reachBytes at h2;omega
   have hPi:I64 P.sp:=by rw[hP,z1];exact i0
   rw[←hP] at HP2;have HPU:Hid (Zck raw X=if raw then P else rightPut P):=Hd (by rw[Zck,hP])
   clear hcut z1 hP HRP HP1 l1 l2 i0 hwm hnn2 e3;go_upto_if 72 with fail;go_cut [] (fun wy=>PB w.heap.size w wy g (Zck raw X) (.slice au nu cu) ((xs.take i).map (Zck raw)))
   case first =>
    cases raw with
    | true =>
     have hE:Hid (PB w.heap.size w wc g (Zck true X) (.slice au nu cu) ((xs.take i).map (Zck true))):=Hd (by
      rw[HPU.out]
      exact HP2.out)
     go_wp2_with fail;go_meet;exact hE.out
    | false =>
     have hPB:=HP2.out;obtain⟨c0,c1,c2,c3⟩:=hPB.cells;have f0:=Zf hPB.box 0;have f1:=Zf hPB.box 1;have f2:=Zf hPB.box 2;obtain⟨q4,hq4⟩:∃q4,q4=pickN P.sp 4:=⟨_,rfl⟩;have hq44:q4<4:=by rw[hq4];exact pickN_lt _ (by decide)
     have HPK:=Hd (pick_any wc P.sp 4 hPi.1 hPi.2 (by decide) (by decide));rw[←hq4] at HPK;obtain⟨sp,hsp⟩:∃sp,sp=q4*85:=⟨_,rfl⟩;have hwm:IntKind.i64.wrap ((q4:Int)*85)=(sp:Int):=by rw[IntWalk.i64_in _ (by omega)];omega
     obtain⟨k1,hk1⟩:∃k1,k1=min P.key.length 64:=⟨_,rfl⟩;obtain⟨k2,hk2⟩:∃k2,k2=min P.val.length 4096:=⟨_,rfl⟩;have m1:min (P.key.length:Int) 64=(k1:Int):=by omega
     have m2:min (P.val.length:Int) 4096=(k2:Int):=by omega
     have s1:=fun w:World=>run_str_h (P:=Tryz.prog) Tryz.underlying9 w P.key k1 (by omega);have s2:=fun w:World=>run_str_h (P:=Tryz.prog) Tryz.underlying9 w P.val k2 (by omega)
     have t1:P.key.take k1=P.key.take 64:=by
      rw[hk1];rcases Nat.le_total P.key.length 64 with h | h
      ·rw[Nat.min_eq_left h,List.take_of_length_le (Nat.le_refl _),List.take_of_length_le h]
      ·rw[Nat.min_eq_right h]
     have t2:P.val.take k2=P.val.take 4096:=by
      rw[hk2];rcases Nat.le_total P.val.length 4096 with h | h
      ·rw[Nat.min_eq_left h,List.take_of_length_le (Nat.le_refl _),List.take_of_length_le h]
      ·rw[Nat.min_eq_right h]
     rw[t1] at s1;rw[t2] at s2;have hA:=(hPB.put (p':=⟨(sp:Int),P.key,P.val,P.gone⟩) 0 (.int .i64 (sp:Int)) rfl).put (p':=⟨(sp:Int),P.key.take 64,P.val,P.gone⟩) 1 (.string ⟨(P.key.take 64).toArray⟩) rfl
     have hB:=hA.put (p':=⟨(sp:Int),P.key.take 64,P.val.take 4096,P.gone⟩) 2 (.string ⟨(P.val.take 4096).toArray⟩) rfl;have HR:Hid (Zck false X=⟨(sp:Int),P.key.take 64,if P.gone then [] else P.val.take 4096,P.gone⟩):=Hd (by rw[HPU.out,if_neg (by simp),rightPut,←hq4,←hsp])
     have X1:Hid (∀K,(K=64∨(K=P.key.length∧P.key.length≤64))→(⟨P.key.toArray⟩:ByteArray).extract 0 K=⟨(P.key.take 64).toArray⟩):=Hd fun K hK=>by
      rw[show (⟨P.key.toArray⟩:ByteArray)=strB P.key from rfl,Zdh,List.drop_zero]
      rcases hK with rfl | ⟨rfl,h⟩
      ·rfl
      ·rw[List.take_of_length_le (Nat.le_refl _),List.take_of_length_le h]
     have X2:Hid (∀K,(K=4096∨(K=P.val.length∧P.val.length≤4096))→(⟨P.val.toArray⟩:ByteArray).extract 0 K=⟨(P.val.take 4096).toArray⟩):=Hd fun K hK=>by
      rw[show (⟨P.val.toArray⟩:ByteArray)=strB P.val from rfl,Zdh,List.drop_zero]
      rcases hK with rfl | ⟨rfl,h⟩
      ·rfl
      ·rw[List.take_of_length_le (Nat.le_refl _),List.take_of_length_le h]
     clear hq4 hsp hk1 hk2 t1 t2 HP2 hPB s1 s2 m1 m2
     cases hgo:P.gone with
     | true =>
      rw[hgo] at c3 HR hA hB;have hC:=hB.put (p':=⟨(sp:Int),P.key.take 64,[],true⟩) 2 (.string ⟨#[]⟩) rfl
      have hE:Hid (PB w.heap.size w _ g (Zck false X) (.slice au nu cu) ((xs.take i).map (Zck false))):=Hd (by
       rw[HR.out]
       exact hC)
      clear hA hB hC hgo;go_wp2_with fail;refine HPK.out.mono ?_;rintro e w2 ⟨rfl,e2⟩;obtain rfl:wc=w2:=e2;clear HPK;go_wp2_with fail
      all_goals
       rw[X1.out,X2.out]
       ·go_meet;exact hE.out
       ·first | exact .inl rfl | exact .inr ⟨rfl,by omega⟩ | omega
       ·first | exact .inl rfl | exact .inr ⟨rfl,by omega⟩ | omega
     | false =>
      rw[hgo] at c3 HR hA hB
      have hE:Hid (PB w.heap.size w _ g (Zck false X) (.slice au nu cu) ((xs.take i).map (Zck false))):=Hd (by
       rw[HR.out]
       exact hB)
      clear hA hB hgo;go_wp2_with fail;refine HPK.out.mono ?_;rintro e w2 ⟨rfl,e2⟩;obtain rfl:wc=w2:=e2;clear HPK;go_wp2_with fail
      all_goals
       rw[X1.out,X2.out]
       ·go_meet;exact hE.out
       ·first | exact .inl rfl | exact .inr ⟨rfl,by omega⟩ | omega
       ·first | exact .inl rfl | exact .inr ⟨rfl,by omega⟩ | omega
   have HP3:=Hd hcut;have hPB:=hcut;obtain⟨c0,c1,c2,c3⟩:=hPB.cells;obtain⟨Y,hY⟩:∃Y,Y=Zck raw X:=⟨_,rfl⟩;rw[←hY] at c0 c1 c2 c3 hPB;have hcg:g<wc.heap.size:=Za hPB.box;have hc3:Below w.heap.size w wc:=hPB.below;obtain⟨a5,n5,k5,w5,hr5,m5,b5⟩:=(hPB.row.alloc (.cells #[.int .i64 Y.sp,.string ⟨Y.key.toArray⟩,.string ⟨Y.val.toArray⟩,.bool Y.gone] 66)).app2 (RK.lit (r:=Zbe) wc Y _ rfl) (by have:=hc3.size;simp;omega) (by simp;omega);have HEND:Hid (Zbe.Mine w.heap.size w5 (.slice a5 n5 k5) ((xs.take (i+1)).map (Zck raw))∧Below w.heap.size w w5):=Hd ⟨by rw[HXS.out,List.map_append,List.map_singleton,←hY];exact m5,(hc3.alloc hc3.size _).trans b5⟩;have HR5:Hid ((Builtin.append_ #[40,40] 40 #[.slice au nu cu,.slice (some ⟨wc.heap.size,0,none⟩) 1 1]).run Tryz.prog (wc.alloc (.cells #[.int .i64 Y.sp,.string ⟨Y.key.toArray⟩,.string ⟨Y.val.toArray⟩,.bool Y.gone] 66))=.ok (.slice a5 n5 k5) w5):=Hd hr5;have hwi:IntKind.i64.wrap ((i:Int)+1)=(i:Int)+1:=IntWalk.i64_in _ (by omega);clear hcut hPB hY m5 b5 hr5 hcg hc3 HXS HPU HP3;go_wp2_with (at_builtin;refine Lib.wpList_append_run _ rfl _ _ _ _ rfl _ _ rfl rfl _ _ HR5.out ?_);go_roundw
   case rel=>exact⟨i+1,h2,h1,by go_num,HEND.out.1,HEND.out.2⟩
   case measure=>simp[intOf];omega
  ·have HM:=Hd hm
   have HB:=Hd hb
   have HT:Hid (xs.take i=xs.take 12):=Hd (by
    rcases Nat.lt_or_ge i 12 with h | h
    ·rw[List.take_of_length_le (by omega),List.take_of_length_le (by omega)]
    ·rw[show i=12 by omega])
   clear hm hb;have HE:Hid (Zbe.Mine w.heap.size wr (.slice au nu cu) ((xs.take 12).map (Zck raw))∧Below w.heap.size w wr):=Hd ⟨by rw[←HT.out];exact HM.out,HB.out⟩
   by_cases h1:i<xs.length
   ·have d1:decide ((i:Int)<(xs.length:Int))=true:=decide_eq_true (by omega);have d3:decide (i<xs.length)=true:=decide_eq_true h1;have d2:decide ((i:Int)<12)=false:=decide_eq_false (by omega);have d4:decide (i<12)=false:=decide_eq_false (by omega);clear HT HM HB;go_wp2_with fail;go_ret;exact⟨_,rfl,HE.out⟩
   ·have d1:decide ((i:Int)<(xs.length:Int))=false:=decide_eq_false (by omega);have d3:decide (i<xs.length)=false:=decide_eq_false h1;clear HT HM HB;go_wp2_with fail;go_ret;exact⟨_,rfl,HE.out⟩
end
section
open Go.RowKit Go.Shelf Go.Lib
variable {Dl:List Nat}{n:Nat}{X:Nat→Prop}{a:Option Addr}
abbrev mark (D:Nat):Deferred:={ target:=.collected D,args:=#[] }
structure Zew (N:Nat) (Dl:List Nat) (w:World):Prop where
 at_:∀D∈Dl,N<=D/\w.heap[D]?=some (.deferred (some []))
 nd:Dl.Nodup
theorem Zew.nil (N:Nat) (w:World):Zew N [] w:=⟨λ_ h=>(by cases h),List.Pairwise.nil⟩
theorem Zew.keep {N:Nat} {w w':World} (h:Zew N Dl w) (hk:∀D,N<=D->w.heap[D]?=some (.deferred (some []))->w'.heap[D]?=some (.deferred (some []))):Zew N Dl w':=⟨λD b=>⟨(h.at_ D b).1,hk D (h.at_ D b).1 (h.at_ D b).2⟩,h.nd⟩
theorem Zew.cons {N:Nat} {w:World} (h:Zew N Dl w) {D:Nat} (c:N<=D) (d:w.heap[D]?=some (.deferred (some []))) (hn:D∉Dl):Zew N (D::Dl) w:=⟨λe b=>by
 rcases List.mem_cons.1 b with rfl | b
 .exact⟨c,d⟩
 .exact h.at_ e b,List.nodup_cons.2 ⟨hn,h.nd⟩⟩
theorem Zfb {F:Fence} {N:Nat} {P:Program} {fn:Func} {tmps:Array Value} {R:Ending->World->Prop}:∀(Dl:List Nat) (w:World),Zew N Dl w->(∀w',Zb (λk=>N<=k/\w.heap[k]?=some (.deferred (some []))) w w'->LeavesIn F n P fn tmps R [] .returning w')->LeavesInM F n P fn tmps R (Dl.map mark) .returning w
 | [],w,_,h=>h w (Zb.refl _ _)
 | D::Dl,w,c,h=>by
  obtain⟨j,d⟩:=c.at_ D Vi;obtain⟨l,m⟩:=List.nodup_cons.1 c.nd;refine⟨by simp,.inl ⟨_,_,rfl,run_takeDeferred d,Zfb Dl _ ⟨λf g=>?_,m⟩ λw' o=>h w' (((Qi _ D _ ⟨j,d⟩)).then o λi p e=>⟨e.1,?_⟩)⟩⟩
  .have b:f≠D:=λe=>l (e▸g);exact⟨(c.at_ f (.tail _ g)).1,(World.putObj_heap_other b).trans (c.at_ f (.tail _ g)).2⟩
  .have b:i≠D:=by
    rintro rfl;have:=e.2
    rw[World.putObj_heap_same (Za d)] at this;cases this
   exact(World.putObj_heap_other b).symm.trans e.2
theorem puts_at {w:World} {cap:Nat} {xs:List (List PutR)} (h:Zei rdPutRs w (.slice a n cap) xs) (i:Nat) (f:i<xs.length):∃b o v,a=some ⟨b,o,none⟩/\w.cell? ⟨b,o+i*1,none⟩=some v/\Zei rdPutR w v xs[i]:=by
 obtain⟨m,d,e,p,q,g,_,c⟩:=h;simp only[Value.slice.injEq] at e;obtain⟨rfl,_,rfl⟩:=e
 cases a with
 | none=>have:=g rfl;omega
 | some x =>
  obtain⟨b,o,s⟩:=x;obtain⟨j,c⟩:=c _ rfl;obtain rfl:s=none:=j (by omega);obtain⟨r,⟨v,rfl,k⟩,l⟩:=c i f;exact⟨b,o,v,rfl,l 0 _ rfl,k⟩
structure Was (N:Nat) (M:List KV) (v:Value) (rows:List Rw) (w:World):Prop where
 mine:rkRw.Mine N w v rows
 each:∀i,(h:i<rows.length)->rkPr.Mine N w rows[i].v (inS (UInt8.ofNat (i*85)) M)
section
variable {N : Nat} {M : List KV} {v : Value} {rows : List Rw} {w w' : World}
theorem Was.nil:Was N M (.slice none 0 0) [] w:=⟨RK.Mine.nil _ _,λi h=>by cases h⟩
theorem Was.keep (h:Was N M v rows w) (hk:∀k c T,N<=k->(T=rkPr.T\/T=rkRw.T)->w.heap[k]?=some (.cells c T (0,0))->w'.heap[k]?=w.heap[k]?):Was N M v rows w' :=
 ⟨h.mine.keep1 λk b=>by obtain⟨d,c,e⟩:=Zcv h.mine b.symm;exact hk k c _ d (.inr rfl) e,
  λi f=>(h.each i f).keep1 λk b=>by obtain⟨d,c,e⟩:=Zcv (h.each i f) b.symm;exact hk k c _ d (.inl rfl) e⟩
theorem Was.add (h:Was N M v rows w) {m c:Nat} (hr:rkPr.Mine N w (.slice a m c) (inS (UInt8.ofNat (rows.length*85)) M)) (hN:N<=w.heap.size) (hl:rows.length<=900):
  ∃o w',(Builtin.append_ #[rkRw.S,rkRw.S] rkRw.S #[v,.slice (some ⟨w.heap.size,0,none⟩) 1 1]).run Tryz.prog (w.alloc (.cells #[.slice a m c] rkRw.T))=.ok o w'/\Was N M o (rows++[(a,m,c)]) w'/\Zb (λk=>N<=k/\∃c,w.heap[k]?=some (.cells c rkRw.T (0,0))) w w':=by
 have f:=rkRw.lit w (a,m,c) #[.slice a m c] rfl;obtain⟨o,w',g,r,s,A⟩:=(h.mine.alloc (.cells #[.slice a m c] rkRw.T)).app f (by simp;omega) (by simp;omega);have t:Zb (λ_=>False) w (w.alloc (.cells #[.slice a m c] rkRw.T)):=Zcb _ _ _;have hgt:=grownT s;have b:Zb (λk=>N<=k/\∃c,w.heap[k]?=some (.cells c rkRw.T (0,0))) w w':=(t.mono λ_ _ e=>e.elim).then hgt λk B e=>by obtain⟨d,c,x⟩:=Zcv h.mine e.symm;exact⟨d,c,x⟩
 refine⟨o,w',g,⟨r,λi y=>?_⟩,b⟩
 have keep:∀{u:Value} {l:List KV},rkPr.Mine N w u l->rkPr.Mine N w' u l:=λ{u l} q=>q.keep1 λk z=>by
  obtain⟨d,C,j⟩:=Zcv q z.symm;refine b.block k (Za j) ?_;rintro⟨_,D,p⟩;have:=j.symm.trans p
  simp only[Option.some.injEq,Obj.cells.injEq] at this;exact absurd this.2.1 (by decide)
 rw[List.length_append,List.length_singleton] at y;rcases Ua i rows.length with d | d
 .rw[List.getElem_append_left d];exact keep (h.each i d)
 .obtain rfl:i=rows.length:=by omega
  rw[List.getElem_append_right (Va _)];simp only[Nat.sub_self,List.getElem_cons_zero];exact keep hr
end
theorem SL.beside {T:Nat->Prop} {B N:Nat} {w0:World} {c:Int} {o k:Nat} {M:List KV} {sq:Int} {b d:Value} {w w':World} (h:SL N w0 n c o k M sq X b d w) (ht:Zb T w w') (f:∀k,T k->B<=k) (g:∀i,X i\/i=0->i<B) (hN:N<=B):SL N w0 n c o k M sq X b d w' :=
 ⟨h.st.turned ht λi j e=>by have:=f i e;have:=g i j;omega,h.own,h.below.trans (ht.below h.base λk e=>Vk hN (f k e)),Vk h.base ht.size⟩
theorem Zew.turned {N:Nat} {w w':World} (h:Zew N Dl w) (ht:Zb X w w') (c:∀i,X i->i<N):Zew N Dl w':=h.keep λD d b=>(ht.block D (Za b) λe=>by have:=c D e;omega).trans b
theorem Was.turned {N:Nat} {M:List KV} {v:Value} {rows:List Rw} {w w':World} (h:Was N M v rows w) (ht:Zb X w w') (b:∀i,X i->i<N):Was N M v rows w':=h.keep λk c T f _ d=>ht.block k (Za d) λe=>by have:=b k e;omega
theorem commitE_cases (V:Nat) (M:List KV) (ps:List Ya):commitE V M ps=0\/commitE V M ps=120\/commitE V M ps=121:=by
 unfold commitE;split
 .exact .inr (.inl rfl)
 .split
  .exact .inl rfl
  .split
   .exact .inr (.inr rfl)
   .exact .inl rfl
theorem gath_all {a M:List KV} {sums:Option (List UInt8)} (hE:Qe a M sums) (t:Nat):((inS (UInt8.ofNat t) M).map unF).map (ofT t)=inS (UInt8.ofNat t) M:=by
 rw[List.map_map];refine(List.map_congr_left λx b=>?_).trans (List.map_id _);unfold inS at b;obtain⟨d,c⟩:=List.mem_filter.1 b;obtain⟨s,k,e,_⟩:=hE.key x d;rw[e] at c;have f:s=UInt8.ofNat t:=by simpa using c
 obtain⟨g,h⟩:=x;simp only at e;subst e;rw[f];rfl
end
end Go.Proofs.YtfaobkmojlhbnaaGreatDoor
