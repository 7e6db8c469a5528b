/- Contracts of the functions that the statements of this seat reach, part 3: each says what the call answers and what it leaves of the memory. -/
import Derived.Test.YtofibccplbnaiaaGreatDoorP2
import Derived.IntWalk
import Derived.Test.YtofibccplbnaiaaGreatDoorP1
import Derived.Deep.MidRow
import Derived.Laws.MakeOwn
import Derived.Carry
set_option linter.unusedVariables false
set_option linter.unusedSimpArgs false
set_option maxRecDepth 100000
set_option maxHeartbeats 64000000
namespace Go.Proofs.YtofibccplbnaiaaGreatDoor
section
open Go.RowKit
def Ys (write:Nat) (zs:List Int) (ls:List (List UInt8)):List (List UInt8):=(zs.zip ls).map fun x=>mkF write (2*16777216+x.1.toNat) x.2
def Jn.layTo (J:Jn) (fs:List (List UInt8)):Nat→Jn
 | 0=>J
 | k+1=>(J.layTo fs k).lay (2+k) (fs.getD k [])
def Jn.writes (J:Jn) (zs:List Int) (ls:List (List UInt8)):Jn :=
 let fs:=Ys (J.last+1) zs ls
 let J6:=((((({ J with last:=J.last+1 }:Jn).layTo fs zs.length).flush).lay ((J.last+1) % 2) (Xk (J.last+1) zs.length (J.seq+1))).flush).spread fs
 if J6.off=0 then { J6 with seq:=J.seq+1 } else J6
def Jn.write (J:Jn) (zs:List Int) (ls:List (List UInt8)):Int × Jn :=
 if J.off≠0 then (J.off,J) else if Zac J.D.blocks zs ls=false then (2,J) else if zs.length=0 then (0,J) else ((J.writes zs ls).off,J.writes zs ls)
theorem Jn.layTo_n (J:Jn) (fs:List (List UInt8)) (k:Nat):(J.layTo fs k).D.n=J.D.n:=by
 induction k with
 | zero=>rfl
 | succ k ih=>rw[Jn.layTo,Jn.lay_n,ih]
theorem Jn.lay_last (J:Jn) (k:Nat) (L:List UInt8):(J.lay k L).last=J.last:=by
 unfold Jn.lay
 split<;>rfl
theorem Jn.flush_last (J:Jn):J.flush.last=J.last:=by
 unfold Jn.flush
 split<;>rfl
theorem Jn.lay_seq (J:Jn) (k:Nat) (L:List UInt8):(J.lay k L).seq=J.seq:=by
 unfold Jn.lay
 split<;>rfl
theorem Jn.flush_seq (J:Jn):J.flush.seq=J.seq:=by
 unfold Jn.flush
 split<;>rfl
theorem Jn.layTo_last (J:Jn) (fs:List (List UInt8)) (k:Nat):(J.layTo fs k).last=J.last:=by
 induction k with
 | zero=>rfl
 | succ k ih=>rw[Jn.layTo,Jn.lay_last,ih]
theorem Jn.layTo_seq (J:Jn) (fs:List (List UInt8)) (k:Nat):(J.layTo fs k).seq=J.seq:=by
 induction k with
 | zero=>rfl
 | succ k ih=>rw[Jn.layTo,Jn.lay_seq,ih]
theorem Jn.spreads_seq (J:Jn) (Ls:List (List UInt8)):(J.spreads Ls).seq=J.seq:=by
 unfold Jn.spreads
 induction Ls generalizing J with
 | nil=>rfl
 | cons f r ih=>rw[List.foldl_cons,ih,Jn.spStep,Jn.lay_seq]
theorem rightGo_spec {nb:Nat}:∀(zs met:List Int) (ls:List (List UInt8)),Qm nb met zs ls=true→zs.length=ls.length →
  ∀k (h:k<zs.length) (h2:k<ls.length),0≤zs[k]∧zs[k]<(nb:Int)∧ls[k].length=112∧zs[k]∉met++zs.take k
 | [],_,_,_,_,k,h,_=>by simp at h
 | n::r,met,[],_,hl,_,_,_=>by simp at hl
 | n::r,met,b::s,hr,hl,k,h,h2=>by
  simp only[Qm,Bool.and_eq_true,decide_eq_true_eq,Bool.not_eq_true',decide_eq_false_iff_not] at hr;obtain⟨⟨⟨⟨a1,a2⟩,a3⟩,a4⟩,a5⟩:=hr
  cases k with
  | zero=>simpa using ⟨a1,a2,a4,a3⟩
  | succ k =>
   have ih:=rightGo_spec r (met++[n]) s a5 (by simpa using hl) k (by simpa using h) (by simpa using h2);simpa using ih
theorem Zbl {nb:Nat} {zs:List Int} {ls:List (List UInt8)} (h:Zac nb zs ls=true):zs.length=ls.length ∧
  ∀k (h:k<zs.length) (h2:k<ls.length),0≤zs[k]∧zs[k]<(nb:Int)∧ls[k].length=112∧zs[k]∉zs.take k:=by
 simp only[Zac,Bool.and_eq_true,decide_eq_true_eq] at h;exact⟨h.1,fun k h1 h2=>by simpa using rightGo_spec zs [] ls h.2 h.1 k h1 h2⟩
theorem nodup_bound:∀(n:Nat) (l:List Nat),l.Nodup→(∀x∈l,x<n)→l.length≤n
 | 0,[],_,_=>Nat.le_refl _
 | 0,x::r,_,h=>by have:=h x (List.mem_cons_self ..);omega
 | n+1,l,hn,h=>by
  have ih:=nodup_bound n (l.erase n) (hn.erase n) (fun x hx=>by
   have h1:=(hn.mem_erase_iff).1 hx;have:=h x h1.2
   omega)
  have h2:l.length≤(l.erase n).length+1:=by
   rw[List.length_erase]
   split<;>omega
  omega
theorem rightW_few {nb:Nat} {zs:List Int} {ls:List (List UInt8)} (h:Zac nb zs ls=true):zs.length≤nb:=by
 obtain⟨hl,hs⟩:=Zbl h
 have h1:(zs.map Int.toNat).Nodup:=by
  rw[List.Nodup,List.pairwise_iff_getElem];intro i j hi hj hij;simp only[List.length_map] at hi hj;simp only[List.getElem_map];intro e;obtain⟨a1,_,_,_⟩:=hs i hi (by omega);obtain⟨b1,_,_,b4⟩:=hs j hj (by omega);apply b4;have e2:zs[i]=zs[j]:=by omega
  rw[←e2,List.mem_take_iff_getElem];exact⟨i,by omega,rfl⟩
 have:=nodup_bound nb (zs.map Int.toNat) h1 (fun x hx=>by
  obtain⟨y,hy,rfl⟩:=List.mem_map.1 hx;obtain⟨i,hi,rfl⟩:=List.getElem_of_mem hy;obtain⟨a1,a2,_,_⟩:=hs i hi (by omega)
  omega)
 simpa using this
theorem Zfb {write:Nat} {zs:List Int} {ls:List (List UInt8)} (h:zs.length=ls.length):(Ys write zs ls).length=zs.length:=by simp[Ys,h]
theorem Zgg {write:Nat} {zs:List Int} {ls:List (List UInt8)} (h:zs.length=ls.length) (k:Nat) (hk:k<zs.length) (hk2:k<ls.length) (hk3:k<(Ys write zs ls).length) :
  (Ys write zs ls)[k]=mkF write (2*16777216+zs[k].toNat) ls[k]:=by
 simp[Ys]
theorem cell_keep {w w':World} {T:Nat→Prop} {a:Addr} {u:Value} (h:w.cell? a=some u) (ht:Zb T w w') (hT:¬T a.block):w'.cell? a=some u:=by rw[←h];exact World.cell?_of_block (ht.block _ (World.block_lt_of_cell? w a h) hT)
def WrHeld (p vb o:Nat) (n:Int) (x:Value) (W:World):Prop:=W.cell? ⟨p,1,none⟩=some (.int .u64 n)∧W.cell? ⟨vb,o,none⟩=some x
theorem WrHeld.below {p vb o:Nat} {n:Int} {x:Value} {W W':World} (h:WrHeld p vb o n x W) (hb:Below W.heap.size W W'):WrHeld p vb o n x W':=⟨Zi hb _ _ h.1,Zi hb _ _ h.2⟩
theorem WrHeld.turned {p vb o:Nat} {n:Int} {x:Value} {W W':World} {T:Nat→Prop} (h:WrHeld p vb o n x W) (ht:Zb T W W') (h1:¬T p) (h2:¬T vb):WrHeld p vb o n x W':=⟨cell_keep h.1 ht h1,cell_keep h.2 ht h2⟩
def MkHeld (p:Nat) (n s:Int) (W:World):Prop:=W.cell? ⟨p,1,none⟩=some (.int .u64 n)∧W.cell? ⟨p,2,none⟩=some (.int .i64 s)
theorem MkHeld.below {p:Nat} {n s:Int} {W W':World} (h:MkHeld p n s W) (hb:Below W.heap.size W W'):MkHeld p n s W':=⟨Zi hb _ _ h.1,Zi hb _ _ h.2⟩
theorem jwrite_any (w:World) (F:Ft) (p:Nat) (J:Jn) (h:JAt w F p J) (hn:Nib w) (hn2:2≤J.D.n) (u:Value) (zs:List Int) (hku:∀w',Zb (JT F p) w w'→IsI w' u zs) (v:Value) (ls:List (List UInt8)) (hkv:∀w',Zb (JT F p) w w'→IsBs w' v ls)
  (hzs:∀n∈zs,-9223372036854775808≤n∧n≤9223372036854775807) (hlast:J.last+1<18446744073709551616) (hs1:-9223372036854775808≤J.seq) (hs2:J.seq<9223372036854775807) :
  Calls Tryz.prog 58 #[jptr p,u,v] w fun e w'=>e=.returned (.int .i64 (J.write zs ls).1)∧JAt w' F p (J.write zs ls).2∧Zb (JT F p) w w':=by
 obtain⟨c0,c1,c2,c3⟩:=h.cells;have hnm:=h.disk.ok.nm
 by_cases h0:J.off=0
 case neg =>
  have e1:J.write zs ls=(J.off,J):=by rw[Jn.write,if_pos h0]
  rw[e1];have hd:(J.off==0)=false:=by simpa using h0
  have hd2:(J.off != 0)=true:=by simpa using h0
  have HJ:=Hd h;clear e1 h h0;clear hku hkv;generalize J.off=o at *;go_enter Tryz.func58,Tryz.ntmps58;go_wp2_with fail;go_ret;exact⟨rfl,HJ.out,Zb.refl _ w⟩
 rw[h0] at c3;have hu:=hku w (Zb.refl _ w)
 have hv:=hkv w (Zb.refl _ w);have Hu:=Hd hku;have Hv:=Hd hkv;clear hku hkv;obtain⟨au,cu,rfl,hcu,hmu⟩:=hu.form;obtain⟨av,cv,rfl,hcv,hmv⟩:=hv.form;unfold maxLen at hmu hmv;have HR:=Hd (right_any w F p J h hn2 _ zs hu _ ls hv hzs)
 cases hr:Zac J.D.blocks zs ls with
 | false =>
  have e1:J.write zs ls=(2,J):=by rw[Jn.write,if_neg (by simpa using h0),if_pos hr]
  rw[e1];rw[hr] at HR;have HJ:=Hd h
  clear e1 h h0 hu hv hzs hr;go_enter Tryz.func58,Tryz.ntmps58;go_wp2_with fail;refine HR.out.mono ?_;rintro e w1 ⟨rfl,hb1⟩;go_wp2_with fail;go_ret;exact⟨rfl,HJ.out.below hb1,Zb.of_below hb1⟩
 | true =>
 rw[hr] at HR;obtain⟨hlen,hsp⟩:=Zbl hr;have hfew:=rightW_few hr
 by_cases hz0:zs.length=0
 case pos =>
  have e1:J.write zs ls=(0,J):=by rw[Jn.write,if_neg (by simpa using h0),if_neg (by simp[hr]),if_pos hz0]
  rw[e1];have HJ:=Hd h
  have hd:((zs.length:Int)==0)=true:=by simp[hz0]
  clear e1 h h0 hu hv hzs hr hsp hlen hz0;go_enter Tryz.func58,Tryz.ntmps58;go_wp2_with fail;refine HR.out.mono ?_;rintro e w1 ⟨rfl,hb1⟩;go_wp2_with fail;go_ret;exact⟨rfl,HJ.out.below hb1,Zb.of_below hb1⟩
 have e1:J.write zs ls=((J.writes zs ls).off,J.writes zs ls):=by rw[Jn.write,if_neg (by simpa using h0),if_neg (by simp[hr]),if_neg hz0]
 rw[e1];have hd:((zs.length:Int)==0)=false:=by rw[beq_eq_false_iff_ne];omega
 have hfl:(Ys (J.last+1) zs ls).length=zs.length:=Zfb hlen;have Hfg:Hid (∀k (h1:k<zs.length) (h2:k<ls.length) (h3:k<(Ys (J.last+1) zs ls).length),(Ys (J.last+1) zs ls)[k]=mkF (J.last+1) (2*16777216+zs[k].toNat) ls[k]):=Hd (fun k h1 h2 h3=>Zgg hlen k h1 h2 h3)
 have Hw:Hid (J.writes zs ls=if (((((({ J with last:=J.last+1 }:Jn).layTo (Ys (J.last+1) zs ls) zs.length).flush).lay ((J.last+1) % 2) (Xk (J.last+1) zs.length (J.seq+1))).flush).spread (Ys (J.last+1) zs ls)).off=0
  then { ((((({ J with last:=J.last+1 }:Jn).layTo (Ys (J.last+1) zs ls) zs.length).flush).lay ((J.last+1) % 2) (Xk (J.last+1) zs.length (J.seq+1))).flush).spread (Ys (J.last+1) zs ls) with seq:=J.seq+1 }
  else ((((({ J with last:=J.last+1 }:Jn).layTo (Ys (J.last+1) zs ls) zs.length).flush).lay ((J.last+1) % 2) (Xk (J.last+1) zs.length (J.seq+1))).flush).spread (Ys (J.last+1) zs ls)):=Hd rfl
 have Hz0:=Hd hz0;have Hlen:=Hd hlen;have Hsp:=Hd hsp;have Hfl:=Hd hfl;have HJ:=Hd h;have hap:∀k,JT F p k→k<w.heap.size:=fun k hk=>h.lt hk;have Hap:=Hd hap;have Hn:=Hd hn;have hb8:J.D.blocks≤8191:=by unfold Dk.blocks;omega
 have hlast2:(J.last:Int)+1≤18446744073709551615:=by omega
 have hseq1:J.seq+1≤9223372036854775807:=by omega
 have hseq2:-9223372036854775808≤J.seq+1:=by omega
 clear e1 hu hv hzs hr hlen hsp hz0 h hap hn hfl c0 c1 c2 h0;generalize hfse:Ys (J.last+1) zs ls=fs at *;clear hfse;go_enter Tryz.func58,Tryz.ntmps58;go_wp2_with fail;refine HR.out.mono ?_;rintro e w1 ⟨rfl,hb1⟩;have hj1:=HJ.out.below hb1
 have hn1:=Hn.out.below hb1;obtain⟨c0,c1,c2,c3⟩:=hj1.cells;have f1:=Zf hj1.head 1;have hj2:=hj1.put_last (J.last+1);have ht2:=(Zb.of_below (T:=JT F p) hb1).trans ((Zd w1 p 1 (.int .u64 ((J.last+1:Nat):Int))).jp F);have hn2':=hn1.turned hj1 ((Zd w1 p 1 (.int .u64 ((J.last+1:Nat):Int))).jp F);rw[show ((J.last+1:Nat):Int)=(J.last:Int)+1 by omega] at hj2 ht2 hn2'
 have hsz2:w.heap.size≤(w1.setCell ⟨p,1,none⟩ (.int .u64 ((J.last:Int)+1))).heap.size:=ht2.size;clear hj1 hn1 hb1 HR;go_upto_region 10 with fail;generalize w1.setCell ⟨p,1,none⟩ (.int .u64 ((J.last:Int)+1))=w2 at *;have HJ1:Hid (({ J with last:=J.last+1 }:Jn).last=J.last+1∧({ J with last:=J.last+1 }:Jn).seq=J.seq∧({ J with last:=J.last+1 }:Jn).D.n=J.D.n):=Hd ⟨rfl,rfl,rfl⟩;generalize ({ J with last:=J.last+1 }:Jn)=J1 at *;clear c0 c1 c2 c3 f1;have HW:=Hd Hw.out;clear Hw;go_wp2_with fail;have hmF:=Zaw.nil w.heap.size w2;go_loopw [7,42] (fun x i wr=>∃k:Nat,k≤zs.length∧i=.int .i64 (k:Int)∧Zaw w.heap.size wr x (fs.take k)∧JAt wr F p (J1.layTo fs k)∧Nib wr∧Zb (JT F p) w wr) (fun _ i _=>zs.length - (intOf i).toNat)
 case atStart=>exact⟨0,Nat.zero_le _,rfl,hmF,hj2,hn2',ht2⟩
 case round =>
  obtain⟨k,hk,rfl,hmr,hjr,hnr,htr⟩:=hrel;clear hmF hj2 hn2' ht2 hsz2;have hszr:=htr.size
  by_cases hlt:k<zs.length
  ·have hlt2:k<ls.length:=by have:=Hlen.out;omega
   have hlt3:k<fs.length:=by have:=Hfl.out;omega
   have hd1:decide ((k:Int)<(zs.length:Int))=true:=by simpa using hlt
   have hd1b:decide ((k:Int)<(ls.length:Int))=true:=by simpa using hlt2
   obtain⟨ub,uo,rfl,hcu1⟩:=isI_at (Hu.out wr htr) k hlt;obtain⟨vb,vo,x,rfl,hcv1,hx⟩:=isBs_at (Hv.out wr htr) k hlt2
   have Hnv:Hid (¬w.heap.size≤vb):=by
    obtain⟨vb',vo',x',e',hc',_⟩:=isBs_at (Hv.out w (Zb.refl _ w)) k hlt2;simp only[Option.some.injEq,Addr.mk.injEq] at e';have:=World.block_lt_of_cell? w _ hc'
    show ¬w.heap.size≤vb
    rw[e'.1];exact Nat.not_le.2 this
   have Hnn:Hid (¬w.heap.size≤0):=Nat.not_le.2 (World.block_lt_of_cell? w _ (Hn.out 0 (by omega)));have hsp:=Hsp.out k hlt hlt2;have hfk:=Hfg.out k hlt hlt2 hlt3;have hts:fs.take (k+1)=fs.take k++[fs[k]]:=List.take_succ_eq_append_getElem hlt3;have hst:J1.layTo fs (k+1)=(J1.layTo fs k).lay (2+k) fs[k]:=by rw[Jn.layTo,List.getD_eq_getElem?_getD,List.getElem?_eq_getElem hlt3];rfl
   have hl1:(J1.layTo fs k).last=J.last+1:=by rw[Jn.layTo_last];exact HJ1.out.1
   obtain⟨m,hm⟩:=Int.eq_ofNat_of_zero_le hsp.1;have hm8:m<16777216:=by have:=hsp.2.1;omega
   rw[hm,Int.toNat_natCast] at hfk;rw[hm] at hcu1;rw[hfk] at hts hst;have hbl:=hsp.2.2.1
   have htkl:(fs.take k).length=k:=by rw[List.length_take];omega
   have Hts:=Hd hts;have Hst:=Hd hst;have Htkl:=Hd htkl;clear hsp hfk hts hst hm htkl;generalize ls[k]=b at *;generalize J1.layTo fs k=Jk at *;obtain⟨q0,q1,q2,q3⟩:=hjr.cells;rw[hl1,show ((J.last+1:Nat):Int)=(J.last:Int)+1 by omega] at q1
   have hml:(mkF (J.last+1) (2*16777216+m) b).length=128:=Xd _ _ _;have Hfr:=fun(W:World) (hb:IsB W x b) (hn:Nib W)=>Zei W (J.last+1) 2 m x b hlast (by omega) hm8 hb hn;rw[show ((J.last+1:Nat):Int)=(J.last:Int)+1 by omega] at Hfr
   have HFR:=Hd Hfr;clear Hfr hl1;generalize mkF (J.last+1) (2*16777216+m) b=L at *;go_upto_region 14 with fail;have hvb:vb<wr.heap.size:=World.block_lt_of_cell? wr _ hcv1;have hpb:p<wr.heap.size:=World.block_lt_of_cell? wr _ q1;have hS0:WrHeld p vb (vo+k) ((J.last:Int)+1) x wr.drew:=⟨q1,hcv1⟩;have hm3:=hmr.drew;have hj3:=hjr.drew;have hn3:Nib wr.drew:=hnr.below (Below.refl _ wr).drew;have ht3:=htr.drew;have hx3:=hx.drew;have hsz3:w.heap.size≤wr.drew.heap.size:=hszr;clear hmr hjr hnr htr hx q0 q1 q2 q3 hcu1 hcv1 hszr;refine rgA (S:=(WrHeld p vb (vo+k) ((J.last:Int)+1) x)) hS0 (fun hH=>?_);refine tkB 0 rfl (v:=?_) ?_ hH ?_;rotate_left
   ·rintro w ⟨r1,r2⟩;go_simp;try with_reducible rfl
   try simp only[Act.put,zA,zB,zC]
   refine tkB 1 rfl (v:=?_) ?_ hH ?_;rotate_left
   ·rintro w ⟨r1,r2⟩;go_simp;try with_reducible rfl
   try simp only[Act.put,zA,zB,zC]
   refine tkB 2 rfl (v:=?_) ?_ hH ?_;rotate_left
   ·rintro w ⟨r1,r2⟩;go_simp;try with_reducible rfl
   try simp only[Act.put,zA,zB,zC]
   refine tkB 3 rfl (v:=?_) ?_ hH ?_;rotate_left
   ·rintro w ⟨r1,r2⟩;go_simp;try with_reducible rfl
   try simp only[Act.put,zA,zB,zC]
   refine tkB 4 rfl (v:=?_) ?_ hH ?_;rotate_left
   ·rintro w ⟨r1,r2⟩;go_simp;try with_reducible rfl
   try simp only[Act.put,zA,zB,zC]
   refine tkB 5 rfl (v:=?_) ?_ hH ?_;rotate_left
   ·rintro w ⟨r1,r2⟩;go_simp;try with_reducible rfl
   try simp only[Act.put,zA,zB,zC]
   refine tkB 6 rfl (v:=?_) ?_ hH ?_;rotate_left
   ·rintro w ⟨r1,r2⟩;go_simp;try with_reducible rfl
   try simp only[Act.put,zA,zB,zC]
   refine tkB 7 rfl (v:=?_) ?_ hH ?_;rotate_left
   ·rintro w ⟨r1,r2⟩;go_simp;try with_reducible rfl
   try simp only[Act.put,zA,zB,zC]
   refine tkB 8 rfl (v:=?_) ?_ hH ?_;rotate_left
   ·rintro w ⟨r1,r2⟩;go_simp;try with_reducible rfl
   try simp only[Act.put,zA,zB,zC]
   refine tkB 9 rfl (v:=?_) ?_ hH ?_;rotate_left
   ·rintro w ⟨r1,r2⟩;go_simp;try with_reducible rfl
   try simp only[Act.put,zA,zB,zC]
   refine rdA 10 rfl (fun K hK=>?_);go_simp;refine(HFR.out _ hx3 hn3).mono ?_;rintro e W3 ⟨rfl,hb⟩;have hHn:=hH.below hb
   replace hj3:=hj3.below hb;replace hn3:=hn3.below hb;replace ht3:=ht3.trans (Zb.of_below (T:=JT F p) hb);replace hm3:=hm3.below hb;replace hsz3:=Nat.le_trans hsz3 hb.size;clear hb hH hx3;go_wp2_with fail;refine hK.out _ _ hHn (fun hH=>?_);clear hHn;clear hK K;try simp only[Act.put,zA,zB,zC]
   refine rdA 11 rfl (fun K hK=>?_);refine arm_build_one (by rfl) (.tmp 57) rfl L hml rfl ?_;have hb:Below W3.heap.size W3 (W3.alloc (.cells (bv L).toArray 128)):=(Below.refl _ _).alloc (Nat.le_refl _) _
   have hr4:=Zh.alloc W3 128 L;have hHn:=hH.below hb;replace hj3:=hj3.below hb;replace hn3:=hn3.below hb;replace ht3:=ht3.trans (Zb.of_below (T:=JT F p) hb);replace hm3:=hm3.below hb;replace hsz3:=Nat.le_trans hsz3 hb.size;clear hb hH;generalize W3.alloc (.cells (bv L).toArray 128)=W4 at *;generalize W3.heap.size=g4 at *;refine hK.out _ _ hHn (fun hH=>?_);clear hHn;clear hK K;try simp only[Act.put,zA,zB,zC]
   refine rdA 12 rfl (fun K hK=>?_);obtain⟨v5,W5,hr5,hm5,ht45⟩:=hm3.snoc hsz3 (by rw[Htkl.out];omega) L hml g4 hr4;have hHn:=hH.turned ht45 (fun e=>by have:=Hap.out p (.inr rfl);omega) (fun e=>Hnv.out e)
   have hj5:=hj3.turned ht45 (fun j hj e=>by have:=Hap.out j hj;omega);have hn5:=hn3.of_turned ht45 (fun e=>Hnn.out e);have ht5:=ht3.then ht45 (fun i hi e=>by omega);refine Zcc (by rfl) (.tmp 47) (.tmp 58) 137 137 rfl _ _ _ rfl rfl hr5 ?_;clear hj3 hn3 ht3 hm3 hr4 ht45 hr5 hH;refine hK.out _ _ hHn (fun hH=>?_);clear hHn;clear hK K;try simp only[Act.put,zA,zB,zC]
   refine tkB 13 rfl (v:=?_) ?_ hH ?_;rotate_left
   ·rintro w ⟨r1,r2⟩;go_simp;try with_reducible rfl
   try simp only[Act.put,zA,zB,zC]
   refine dnA ?_;clear hH;have hapx:Zaw w.heap.size W5 v5 (fs.take (k+1)):=by rw[Hts.out];exact hm5
   obtain⟨g5,c5,hv5,hrg5⟩:∃g5 c5,v5=.slice (some ⟨g5,0,none⟩) (k+1) c5∧W5.rangeAt g5 (k*128) (bv L):=by
    have hlen5:(fs.take (k+1)).length=k+1:=by rw[List.length_take];omega
    rcases hapx.range with ⟨_,h2⟩ | ⟨g,c,h1,_,_,_,h3⟩
    ·rw[h2] at hlen5;simp at hlen5
    ·refine⟨g,c,by rw[h1,hlen5],?_⟩
     have h4:=h3 k (by omega)
     have h5:(fs.take (k+1))[k]'(by omega)=L:=by
      have h6:(fs.take (k+1))[k]?=some L:=by rw[Hts.out,List.getElem?_append_right (by rw[Htkl.out];exact Nat.le_refl _),Htkl.out,Nat.sub_self];rfl
      exact(List.getElem?_eq_some_iff.1 h6).2
     rw[h5] at h4;exact h4
   subst hv5;have hlb:(bv L).length=128:=by rw[Zl,hml]
   have hd5:decide ((k:Int)<((k+1:Nat):Int))=true:=by rw[decide_eq_true_eq];omega
   go_wp2_with (refine wpList_load_mid rfl 128 (.tmp 65) rfl g5 (k*128) rfl (bv L) _ hrg5 Tryz.underlying128 rfl (by rw[Zk,hlb]) ?_);have hly:=lay_any W5 F p Jk hj5 (2+k) (by omega) L hml
   rw[show ((2+k:Nat):Int)=2+(k:Int) by omega] at hly
   refine hly.mono ?_;rintro e W6 ⟨rfl,hj6,ht6⟩;have hm6:=hapx.turned ht6 Hap.out
   have hn6:=hn5.turned hj5 ht6;have ht6':=ht5.trans ht6;clear hly hm5 hapx hj5 hn5 ht5 ht6 hrg5;go_wp2_with fail;go_roundw
   case rel=>exact⟨k+1,by omega,by go_num,hm6,by rw[Hst.out];exact hj6,hn6,ht6'⟩
   case measure=>simp[intOf];omega
  ·obtain rfl:k=zs.length:=by omega
   have hdz:decide ((zs.length:Int)<(zs.length:Int))=false:=by simp
   have hl2:(J1.layTo fs zs.length).last=J.last+1:=by rw[Jn.layTo_last];exact HJ1.out.1
   have hs2b:(J1.layTo fs zs.length).seq=J.seq:=by rw[Jn.layTo_seq];exact HJ1.out.2.1
   have hn2b:(J1.layTo fs zs.length).D.n=J.D.n:=by rw[Jn.layTo_n];exact HJ1.out.2.2
   have HL2:=Hd (And.intro hl2 (And.intro hs2b hn2b));rw[List.take_of_length_le (by rw[Hfl.out];exact Nat.le_refl _)] at hmr;clear hl2 hs2b hn2b;generalize J1.layTo fs zs.length=J2 at *;go_wp2_with fail;refine(Zej wr F p J2 hjr).mono ?_;rintro e W3 ⟨rfl,hj3,ht3⟩;have hm3:=hmr.turned ht3 Hap.out;have hn3:=hnr.turned hjr ht3;replace ht3:=htr.trans ht3
   have HL3:Hid (J2.flush.last=J.last+1∧J2.flush.seq=J.seq∧J2.flush.D.n=J.D.n):=by
    show _∧_∧_
    rw[Jn.flush_last,Jn.flush_seq,Jn.flush_n];exact HL2.out
   clear hmr hjr hnr htr HL2 hszr;generalize J2.flush=J3 at *
   obtain⟨g5,c5,hv5⟩:∃g5 c5,u7=.slice (some ⟨g5,0,none⟩) zs.length c5:=by
    rcases hm3.range with ⟨_,h2⟩ | ⟨g,c,h1,_,_,_,h3⟩
    ·have h4:=Hfl.out;rw[h2] at h4;exact absurd h4.symm Hz0.out
    ·exact⟨g,c,by rw[h1,Hfl.out]⟩
   subst hv5;obtain⟨q0,q1,q2,q3⟩:=hj3.cells;rw[HL3.out.1,show ((J.last+1:Nat):Int)=(J.last:Int)+1 by omega] at q1
   rw[HL3.out.2.1] at q2;have hS0:MkHeld p ((J.last:Int)+1) J.seq W3.drew:=⟨q1,q2⟩
   replace hm3:=hm3.drew;replace hj3:=hj3.drew;replace hn3:Nib W3.drew:=hn3.below (Below.refl _ W3).drew;replace ht3:=ht3.drew;have Hmk:=fun(W:World) (hn:Nib W)=>marked_any W (J.last+1) zs.length (J.seq+1) hlast (by omega) hn
   rw[show ((J.last+1:Nat):Int)=(J.last:Int)+1 by omega] at Hmk
   have HMK:=Hd Hmk;have hml:(Xk (J.last+1) zs.length (J.seq+1)).length=128:=Xd _ _ _;have hws:IntKind.i64.wrap (J.seq+1)=J.seq+1:=IntWalk.i64_in _ (by omega);have hHm:IntKind.i64.wrap (((J.last:Int)+1).tmod 2)=(((J.last+1) % 2:Nat):Int):=by rw[Int.tmod_eq_emod_of_nonneg (by omega),IntWalk.i64_in _ (by omega)];omega
   have HHm:=Hd hHm;clear q0 q1 q2 q3 Hmk hHm;generalize Xk (J.last+1) zs.length (J.seq+1)=M at *;go_wp2_with fail;refine rgA (S:=(MkHeld p ((J.last:Int)+1) J.seq)) hS0 (fun hH=>?_);refine tkB 0 rfl (v:=?_) ?_ hH ?_;rotate_left
   ·rintro w ⟨r1,r2⟩;go_simp;try with_reducible rfl
   try simp only[Act.put,zA,zB,zC]
   refine tkB 1 rfl (v:=?_) ?_ hH ?_;rotate_left
   ·rintro w ⟨r1,r2⟩;go_simp;try with_reducible rfl
   try simp only[Act.put,zA,zB,zC]
   refine tkB 2 rfl (v:=?_) ?_ hH ?_;rotate_left
   ·rintro w ⟨r1,r2⟩;go_simp;try with_reducible rfl
   try simp only[Act.put,zA,zB,zC]
   refine tkB 3 rfl (v:=?_) ?_ hH ?_;rotate_left
   ·rintro w ⟨r1,r2⟩;go_simp;try with_reducible rfl
   try simp only[Act.put,zA,zB,zC]
   refine tkB 4 rfl (v:=?_) ?_ hH ?_;rotate_left
   ·rintro w ⟨r1,r2⟩;go_simp;try with_reducible rfl
   try simp only[Act.put,zA,zB,zC]
   refine tkB 5 rfl (v:=?_) ?_ hH ?_;rotate_left
   ·rintro w ⟨r1,r2⟩;go_simp;try with_reducible rfl
   try simp only[Act.put,zA,zB,zC]
   refine tkB 6 rfl (v:=?_) ?_ hH ?_;rotate_left
   ·rintro w ⟨r1,r2⟩;go_simp;try with_reducible rfl
   try simp only[Act.put,zA,zB,zC]
   refine tkB 7 rfl (v:=?_) ?_ hH ?_;rotate_left
   ·rintro w ⟨r1,r2⟩;go_simp;try with_reducible rfl
   try simp only[Act.put,zA,zB,zC]
   refine tkB 8 rfl (v:=?_) ?_ hH ?_;rotate_left
   ·rintro w ⟨r1,r2⟩;go_simp;try with_reducible rfl
   try simp only[Act.put,zA,zB,zC]
   refine tkB 9 rfl (v:=?_) ?_ hH ?_;rotate_left
   ·rintro w ⟨r1,r2⟩;go_simp;try with_reducible rfl
   try simp only[Act.put,zA,zB,zC]
   refine tkB 10 rfl (v:=?_) ?_ hH ?_;rotate_left
   ·rintro w ⟨r1,r2⟩;go_simp;try with_reducible rfl
   try simp only[Act.put,zA,zB,zC]
   refine tkB 11 rfl (v:=?_) ?_ hH ?_;rotate_left
   ·rintro w ⟨r1,r2⟩;go_simp;try with_reducible rfl
   try simp only[Act.put,zA,zB,zC]
   refine tkB 12 rfl (v:=?_) ?_ hH ?_;rotate_left
   ·rintro w ⟨r1,r2⟩;go_simp;try with_reducible rfl
   try simp only[Act.put,zA,zB,zC]
   refine tkB 13 rfl (v:=?_) ?_ hH ?_;rotate_left
   ·rintro w ⟨r1,r2⟩;go_simp;try with_reducible rfl
   try simp only[Act.put,zA,zB,zC]
   refine tkB 14 rfl (v:=?_) ?_ hH ?_;rotate_left
   ·rintro w ⟨r1,r2⟩;go_simp;try with_reducible rfl
   try simp only[Act.put,zA,zB,zC]
   refine tkB 15 rfl (v:=?_) ?_ hH ?_;rotate_left
   ·rintro w ⟨r1,r2⟩;go_simp;try with_reducible rfl
   try simp only[Act.put,zA,zB,zC]
   refine tkB 16 rfl (v:=?_) ?_ hH ?_;rotate_left
   ·rintro w ⟨r1,r2⟩;go_simp;try with_reducible rfl
   try simp only[Act.put,zA,zB,zC]
   refine tkB 17 rfl (v:=?_) ?_ hH ?_;rotate_left
   ·rintro w ⟨r1,r2⟩;go_simp;try with_reducible rfl
   try simp only[Act.put,zA,zB,zC]
   refine rdA 18 rfl (fun K hK=>?_);go_simp;refine(HMK.out _ hn3).mono ?_;rintro e W4 ⟨rfl,hb⟩;have hHn:=hH.below hb
   replace hj3:=hj3.below hb;replace hn3:=hn3.below hb;replace ht3:=ht3.trans (Zb.of_below (T:=JT F p) hb);replace hm3:=hm3.below hb;clear hb hH;go_wp2_with fail;refine hK.out _ _ hHn (fun hH=>?_);clear hHn;clear hK K;try simp only[Act.put,zA,zB,zC]
   refine rdA 19 rfl (fun K hK=>?_);go_simp;rw[HHm.out];have hly:=lay_any W4 F p J3 hj3 ((J.last+1) % 2) (by omega) M hml
   refine hly.mono ?_;rintro e W5 ⟨rfl,hj5,ht45⟩;have hm5:=hm3.turned ht45 Hap.out
   have hn5:=hn3.turned hj3 ht45;have ht5:=ht3.trans ht45
   have hHn:MkHeld p ((J.last:Int)+1) J.seq W5:=by
    obtain⟨_,r1,r2,_⟩:=hj5.cells;rw[Jn.lay_last,HL3.out.1,show ((J.last+1:Nat):Int)=(J.last:Int)+1 by omega] at r1
    rw[Jn.lay_seq,HL3.out.2.1] at r2;exact⟨r1,r2⟩
   clear hly hm3 hj3 hn3 ht3 ht45 hH;go_wp2_with fail;refine hK.out _ _ hHn (fun hH=>?_);clear hHn;clear hK K;try simp only[Act.put,zA,zB,zC]
   refine dnA ?_
   have HJ5:Hid ((J3.lay ((J.last+1) % 2) M).D.n=J.D.n∧(J3.lay ((J.last+1) % 2) M).seq=J.seq):=by
    show _∧_
    rw[Jn.lay_n,Jn.lay_seq];exact⟨HL3.out.2.2,HL3.out.2.1⟩
   clear hH;generalize J3.lay ((J.last+1) % 2) M=J5 at *;go_wp2_with fail;refine(Zej W5 F p J5 hj5).mono ?_;rintro e W6 ⟨rfl,hj6,ht6⟩;have hm6:=hm5.turned ht6 Hap.out
   have hn6:=hn5.turned hj5 ht6;replace ht6:=ht5.trans ht6;have hn6b:2≤J5.flush.D.n:=by rw[Jn.flush_n,HJ5.out.1];exact hn2
   have HS6:Hid (J5.flush.seq=J.seq):=by
    show _=_
    rw[Jn.flush_seq];exact HJ5.out.2
   clear hm5 hj5 hn5 ht5;generalize J5.flush=J6 at *;go_wp2_with fail;refine(spread_any W6 F p J6 hj6 hn6 hn6b w.heap.size _ fs hm6 Hap.out).mono ?_;rintro e W7 ⟨rfl,hj7,ht7⟩;replace ht7:=ht6.trans ht7;clear hm6 hj6 hn6 ht6 hn6b;have hs7:(J6.spread fs).seq=J.seq:=by rw[Jn.spread,Jn.flush_seq,Jn.spreads_seq];exact HS6.out
   generalize J6.spread fs=J7 at *;obtain⟨q0,q1,q2,q3⟩:=hj7.cells;rw[hs7] at q2;by_cases h7:J7.off=0
   ·have hw7:=HW.out
    rw[if_pos h7] at hw7;have HW7:=Hd hw7
    rw[h7] at q3;have f2:=Zf hj7.head 2
    have hj8:=hj7.put_seq (J.seq+1);have ht8:=ht7.trans ((Zd W7 p 2 (.int .i64 (J.seq+1))).jp F);obtain⟨r0,r1,r2,r3⟩:=hj8.cells;rw[show ({ J7 with seq:=J.seq+1 }:Jn).off=0 from h7] at r3
    have HF:=Hd (And.intro hj8 ht8);have H7:=Hd h7;clear hj7 ht7 hj8 ht8 h7 hw7 HW q0 q1 r0 r1 r2;go_wp2_with fail;go_ret;rw[HW7.out];exact⟨by show Ending.returned (.int .i64 0)=.returned (.int .i64 J7.off);rw[H7.out],HF.out⟩
   ·have hw7:=HW.out
    rw[if_neg h7] at hw7;have HW7:=Hd hw7
    have hd7:(J7.off==0)=false:=by simpa using h7
    have HF:=Hd (And.intro hj7 ht7);clear hj7 ht7 h7 hw7 HW q0 q1 q2;go_wp2_with fail;go_ret;rw[HW7.out];exact⟨rfl,HF.out⟩
end
section
open Go.RowKit
theorem info_int:(Tryz.prog.info? 3).map (fun i=>(i.zero,i.size,i.bytes))=some (some (.int .i64 0),1,8):=by kernel_rfl
def iv (zs:List Int):List Value:=zs.map fun n=>.int .i64 n
def Qt (base:Nat) (w:World) (v:Value) (zs:List Int):Prop:=w.ownsRow base 3 1 v zs.length (iv zs)
theorem Qt.nil (base:Nat) (w:World):Qt base w (.slice none 0 0) []:=World.ownsRow_nil w base 3 1
theorem Qt.isI {base:Nat} {w:World} {v:Value} {zs:List Int} (h:Qt base w v zs):IsI w v zs:=by
 rcases h.2 with ⟨rfl,hn⟩ | ⟨g,cap,cur,rfl,hb,hg,hnc,hcm,hcs,htake⟩
 ·obtain rfl:zs=[]:=List.eq_nil_of_length_eq_zero hn;exact IsI.nil w
 ·refine⟨some ⟨g,0,none⟩,cap,rfl,hnc,hcm,fun h=>(by cases h),?_⟩
  rintro x ⟨⟩;refine⟨fun _=>rfl,fun i hi=>?_⟩;rw[cell_of_row _ _ _ _ _ _ hg,Nat.zero_add];have e:(iv zs)[i]?=some (.int .i64 zs[i]):=by simp[iv,hi]
  rw[←htake,List.getElem?_take,if_pos (by simpa [iv] using hi)] at e;simpa using e
theorem iv_append (l r:List Int):iv (l++r)=iv l++iv r:=by simp[iv]
theorem iv_oneCell (l:List Int):∀u∈iv l,u.oneCell'=true:=by intro u hu;obtain⟨_,_,rfl⟩:=List.mem_map.1 hu;rfl
theorem iv_get (l:List Int) (i:Nat) (h:i<l.length):(iv l)[i]?=some (.int .i64 l[i]):=by simp[iv,h]
theorem run_firstCells_isI {P:Program} {w:World} {v:Value} {l:List Int} (h:IsI w v l):∀w':World,w'.heap=w.heap→(Builtin.firstCells 1 l.length v).run P w'=.ok (iv l).toArray w':=by
 intro w' hw;obtain⟨a,cap,rfl,hl,hm,hn,hc⟩:=h
 cases a with
 | none =>
  have:l=[]:=List.eq_nil_of_length_eq_zero (by have:=hn rfl;omega);subst this;simp[Builtin.firstCells,iv]
 | some x =>
  by_cases h0:l=[]
  ·subst h0;simp[Builtin.firstCells,iv,loadCells,loadCellsFrom]
  obtain⟨b,o,s⟩:=x;obtain⟨hs,hc⟩:=hc _ rfl;obtain rfl:s=none:=hs (List.length_pos_iff.2 h0);refine run_firstCells_some (P:=P) w' 1 l.length _ _ _ (iv l) (by simp[iv]) ?_;intro j u hj;have hlt:j<l.length:=by have:=(List.getElem?_eq_some_iff.1 hj).1;simpa [iv] using this
  rw[iv_get l j hlt] at hj;obtain rfl:=Option.some.inj hj;rw[Addr.add_lit,World.cell?_of_block (w:=w) (by rw[hw])];exact hc j hlt
theorem run_ints (w:World) (base:Nat) (v:Value) (l:List Int) (hown:Qt base w v l) (u:Value) (m:List Int) (hu:IsI w u m) (hlen:l.length+m.length≤17592186044416) (hbase:base≤w.heap.size) :
  ∃v' w',(Builtin.append_ #[109,109] 109 #[v,u]).run Tryz.prog w=.ok v' w'∧Qt base w' v' (l++m)∧Below base w w'∧w.grownBy w' v.ownBlock∧(v'=.slice none 0 0↔v=.slice none 0 0∧m=[])∧(v'.ownBlock=v.ownBlock∨v'.ownBlock=some w.heap.size):=by
 obtain⟨i,hi,hz,hs1,hb1⟩:=info_parts (P:=Tryz.prog) (e:=3) info_int
 obtain⟨v',w',hr,h2,h3,h4,h5⟩:=Zdw (P:=Tryz.prog) w base 109 109 109 3 i (.int .i64 0) 1 8 _ Tryz.underlying109 Tryz.underlying109 (.inl rfl) hi hz hs1 hb1 rfl (by decide) v l.length (iv l) hown u m.length (iv m)
  (fun w'=>by obtain⟨a,cap,rfl,_⟩:=hu;simp[Builtin.lenOf]) (by simp[iv]) (run_firstCells_isI hu) (iv_oneCell m) (by unfold maxLen;omega) (by omega) hbase
 refine⟨v',w',hr,?_,(Below.refl base w).grown h3 hbase fun k hk=>(World.ownsRow.lt hown k hk).1,h3,by rw[h4,List.length_eq_zero_iff],h5⟩;rw[←iv_append,←List.length_append] at h2;exact h2
end
section
open Go.RowKit
theorem Zed {B:Nat} {e:TypeId} {s n:Nat} {w w':World} {v u:Value} {xs:List Value} {e':TypeId} {s' n':Nat} {ys:List Value} (h:w.ownsRow B e s u n xs) (hv:w.ownsRow B e' s' v n' ys) (hne:e≠e') (hg:w.grownBy w' v.ownBlock):w'.ownsRow B e s u n xs:=by
 obtain⟨h1,h2⟩:=h;refine⟨h1,?_⟩;rcases h2 with h2 | ⟨g,cap,cur,hu,hb,hh,r⟩
 ·exact .inl h2
 ·refine .inr ⟨g,cap,cur,hu,hb,?_,r⟩
  rw[hg.block g (Za hh) fun e1=>hne ?_]
  ·exact hh
  ·rcases hv.2 with ⟨rfl,_⟩ | ⟨g',_,cur',rfl,_,hh',_⟩
   ·cases e1
   ·have:g=g':=by simpa [Value.ownBlock] using e1
    subst this;rw[hh] at hh';injection hh' with hh';injection hh' with _ hh'
theorem Zfp {B:Nat} {e:TypeId} {s n:Nat} {w w':World} {u:Value} {xs:List Value} (h:w.ownsRow B e s u n xs) (hw:∀k,B≤k→k<w.heap.size→w'.heap[k]?=w.heap[k]?):w'.ownsRow B e s u n xs:=by
 obtain⟨h1,h2⟩:=h;refine⟨h1,?_⟩;rcases h2 with h2 | ⟨g,cap,cur,hu,hb,hh,r⟩
 ·exact .inl h2
 ·exact .inr ⟨g,cap,cur,hu,hb,(hw g hb (Za hh)).trans hh,r⟩
theorem grown_turned {B:Nat} {e:TypeId} {s n:Nat} {w w':World} {v:Value} {xs:List Value} (h:w.ownsRow B e s v n xs) (hg:w.grownBy w' v.ownBlock):Zb (fun k=>B≤k) w w':=by
 refine⟨hg.os,hg.tape,hg.output,hg.size,fun k hk hn=>hg.block k hk fun e=>hn ?_⟩;rcases h.2 with ⟨rfl,_⟩ | ⟨g',_,_,rfl,hb',_⟩
 ·cases e
 ·have:k=g':=by simpa [Value.ownBlock] using e
  omega
theorem Qt.grow {B:Nat} {w:World} {v:Value} {zs:List Int} (h:Qt B w v zs) (hB:B≤w.heap.size) (hL:zs.length≤1000000) (z:Int) (g:Nat) (hg:w.heap[g]?=some (.cells #[.int .i64 z] 3 (0,0))) :
  ∃v' w',(Builtin.append_ #[109,109] 109 #[v,.slice (some ⟨g,0,none⟩) 1 1]).run Tryz.prog w=.ok v' w'∧Qt B w' v' (zs++[z])∧w.grownBy w' v.ownBlock:=by
 obtain⟨i,hi,hz,hs,hb⟩:=info_parts (P:=Tryz.prog) (e:=3) info_int;have hcell:∀w':World,w'.heap=w.heap→∀j c,([.int .i64 z]:List Value)[j]?=some c→w'.cell? ((⟨g,0,none⟩:Addr).add j)=some c:=fun w' hw j c hj=>by rw[Addr.add_mid,Nat.zero_add,cell_of_row w' _ _ _ _ _ (by rw[hw];exact hg)];simpa using hj
 obtain⟨v',w',hr,ho,hgr,_,_⟩:=Zdw (P:=Tryz.prog) w B 109 109 109 3 i _ 1 8 _ Tryz.underlying109 Tryz.underlying109 (.inl rfl) hi hz hs hb rfl (by decide) v zs.length (iv zs) h
  (.slice (some ⟨g,0,none⟩) 1 1) 1 [.int .i64 z] (fun w'=>rfl) rfl (fun w' hw=>run_firstCells_some (P:=Tryz.prog) w' 1 1 ⟨g,0,none⟩ 1 1 [.int .i64 z] rfl (hcell w' hw)) (by
   intro c hc
   rw[List.mem_singleton.1 hc];rfl) (by simp[maxLen];omega) (by omega) hB
 refine⟨v',w',hr,?_,hgr⟩;unfold Qt;rw[show iv (zs++[z])=iv zs++[.int .i64 z] by simp[iv],List.length_append]
 exact ho
theorem info_bytes2:(Tryz.prog.info? 106).map (fun i=>(i.zero,i.size,i.bytes))=some (some (.slice none 0 0),1,24):=by kernel_rfl
theorem Zek {B:Nat} {e:TypeId} {s n:Nat} {w:World} {u:Value} {xs:List Value} (h:w.ownsRow B e s u n xs) {k:Nat} (hk:some k=u.ownBlock):B≤k∧∃c,w.heap[k]?=some (.cells c e (0,0)):=by
 rcases h.2 with ⟨rfl,_⟩ | ⟨g,_,cur,rfl,hb,hh,_⟩
 ·cases hk
 ·have:k=g:=by simpa [Value.ownBlock] using hk
  subst this;exact⟨hb,cur,hh⟩
theorem Qt.keep {B:Nat} {w w':World} {v:Value} {zs:List Int} (h:Qt B w v zs) (hw:∀k,B≤k→k<w.heap.size→w'.heap[k]?=w.heap[k]?):Qt B w' v zs:=Zfp h hw
theorem Qt.below {B:Nat} {w w':World} {v:Value} {zs:List Int} (h:Qt B w v zs) (hb:Below w.heap.size w w'):Qt B w' v zs:=h.keep fun k _ hl=>hb.block k hl
def Held (B:Nat) (w0:World) (P:World→Prop):Prop:=∀w,(∀k,B≤k→k<w0.heap.size→w.heap[k]?=w0.heap[k]?)→P w
theorem Held.now {B:Nat} {w:World} {P:World→Prop} (h:Held B w P):P w:=h w fun _ _ _=>rfl
end
section
open Go.RowKit
def Jn.read (J:Jn) (at_:Int):List UInt8 × Int × Jn :=
 if J.off≠0 then ([],J.off,J)
 else if ¬(0≤at_∧at_<J.D.blocks) then ([],2,J)
 else if J.D.off then ([],43,{ J with off:=43 })
 else if Zao (sec J.D.now (J.D.home at_.toNat))&&decide (Zas (sec J.D.now (J.D.home at_.toNat))=3)&&decide ((Zp (sec J.D.now (J.D.home at_.toNat)):Int)=at_) then (Xy (sec J.D.now (J.D.home at_.toNat)),0,J)
 else ([],62,J)
theorem Dk.home_lt {D:Dk} {i:Nat} (h:i<D.blocks):D.home i<D.n:=by unfold Dk.home;unfold Dk.blocks at *;omega
theorem jread_any (w:World) (F:Ft) (p:Nat) (J:Jn) (h:JAt w F p J) (hn:Nib w) (hn2:2≤J.D.n) (at_:Int) (h1:-9223372036854775808≤at_) (h2:at_≤9223372036854775807) :
  Calls Tryz.prog 76 #[jptr p,.int .i64 at_] w fun e w' =>
   ∃v,e=.returned (.tuple #[v,.int .i64 (J.read at_).2.1])∧Held w.heap.size w' (fun w=>IsB w v (J.read at_).1)∧JAt w' F p (J.read at_).2.2∧Zb (JT F p) w w':=by
 obtain⟨c0,c1,c2,c3⟩:=h.cells;have hnm:=h.disk.ok.nm
 by_cases h0:J.off=0
 case neg =>
  have e1:J.read at_=([],J.off,J):=by rw[Jn.read,if_pos h0]
  rw[e1];have hd:(J.off==0)=false:=by simpa using h0
  have hd2:(J.off != 0)=true:=by simpa using h0
  have HJ:=Hd h.drew;clear e1 h h0;generalize J.off=o at *;go_enter Tryz.func76,Tryz.ntmps76;go_wp2_with fail;go_region;go_wp2_with fail;go_ret2;exact⟨_,rfl,(fun _ _=>IsB.nil _),HJ.out,(Zb.refl _ w).drew⟩
 rw[h0] at c3;have HB:=Hd (Zbi w F p J h hn2)
 have hb8:J.D.blocks≤8191:=by unfold Dk.blocks;omega
 by_cases hin:0≤at_∧at_<(J.D.blocks:Int)
 case neg =>
  have e1:J.read at_=([],2,J):=by rw[Jn.read,if_neg (by simpa using h0),if_pos hin]
  rw[e1];have HJ:=Hd h
  clear e1 h c0 c1 c2 h0;by_cases hlt:at_<0
  ·have hd:decide (at_<0)=true:=by simpa using hlt
   go_enter Tryz.func76,Tryz.ntmps76;go_wp2_with fail;go_ret2;exact⟨_,rfl,(fun _ _=>IsB.nil _),HJ.out,Zb.refl _ w⟩
  ·have hd:decide (at_<0)=false:=by simpa using hlt
   have hd2:decide ((J.D.blocks:Int)≤at_)=true:=by simp;omega
   generalize J.D.blocks=b at *;go_enter Tryz.func76,Tryz.ntmps76;go_wp2_with fail;refine HB.out.mono ?_;rintro e w1 ⟨rfl,rfl⟩;go_wp2_with fail;go_ret2;exact⟨_,rfl,(fun _ _=>IsB.nil _),HJ.out,Zb.refl _ w⟩
 obtain⟨k,rfl⟩:=Int.eq_ofNat_of_zero_le hin.1;have hk:k<J.D.blocks:=by omega
 have hd:decide ((k:Int)<0)=false:=by simp
 have hd2:decide ((J.D.blocks:Int)≤(k:Int))=false:=by simp;omega
 have HH:=Hd (home_any w F p J h hn2 k (by omega));have HK:=Hd (take_any w F p J h hn (J.D.home k) 3 (Dk.home_lt hk) (by omega))
 cases ho:J.D.off with
 | true =>
  have e1:J.read k=([],43,{ J with off:=43 }):=by rw[Jn.read,if_neg (by simpa using h0),if_neg (by simpa using hk),if_pos ho]
  have e2:J.D.take (J.D.home k) 3=(Yz,false,43):=by rw[Dk.take,if_pos ho]
  rw[e1];rw[e2] at HK;have HJ:=Hd h
  clear e1 e2 h c1 c2 h0 ho hin;generalize J.D.blocks=b at *;generalize J.D.home k=hm at *;have hlz:(bv Yz).length=128:=by rw[Zl,Yu]
  go_enter Tryz.func76,Tryz.ntmps76;go_wp2_with fail;refine HB.out.mono ?_;rintro e w1 ⟨rfl,rfl⟩;go_wp2_with fail;refine HH.out.mono ?_;rintro e w1 ⟨rfl,rfl⟩;go_wp2_with fail;refine HK.out.mono ?_;rintro e w1 ⟨rfl,hb1⟩;have hj1:=HJ.out.below hb1
  have hb2:Below w1.heap.size w1 (w1.alloc (.cells (bv Yz).toArray 128)):=(Below.refl _ _).alloc (Nat.le_refl _) _;have hj2:=hj1.below hb2;have ht2:=(Zb.of_below (T:=JT F p) hb1).trans (Zb.of_below (T:=JT F p) hb2);go_upto_region 8 with (first | (refine Zz rfl rfl ?_) | (refine Yn 128 (.tmp 6) (.tmp 37) rfl _ (bv Yz).toArray rfl rfl rfl (by rw[Zk,List.size_toArray,hlz]) (by rw[List.size_toArray,hlz]) (all_oneCell_toArray (Yk Yz)) ?_));generalize w1.alloc (.cells (bv Yz).toArray 128)=w2 at *;obtain⟨g0,g1,g2,g3⟩:=hj2.cells;have f3:=Zf hj2.head 3;have HF:=Hd (And.intro (hj2.put_off 43) (ht2.trans ((Zd w2 p 3 (.int .i64 43)).jp F)));clear hj1 hj2 ht2 hb1 hb2 c0;go_wp2_with fail;go_ret2;exact⟨_,rfl,(fun _ _=>IsB.nil _),HF.out⟩
 | false =>
  have hl:=Qh h.disk.ok.now (Dk.home_lt hk);have e2:J.D.take (J.D.home k) 3=(sec J.D.now (J.D.home k),(Zao (sec J.D.now (J.D.home k))&&decide (Zas (sec J.D.now (J.D.home k))=3)),0):=by rw[Dk.take,ho];rfl
  have e1:J.read k=if Zao (sec J.D.now (J.D.home k))&&decide (Zas (sec J.D.now (J.D.home k))=3)&&decide ((Zp (sec J.D.now (J.D.home k)):Int)=(k:Int)) then (Xy (sec J.D.now (J.D.home k)),0,J) else ([],62,J):=by rw[Jn.read,if_neg (by simpa using h0),if_neg (by simpa using hk),if_neg (by simp[ho]),Int.toNat_natCast]
  rw[e1];rw[e2] at HK;have HJ:=Hd h
  clear e1 e2 h c0 c1 c2 h0 ho hin;generalize J.D.blocks=b at *;generalize J.D.home k=hm at *;generalize sec J.D.now hm=L at *;generalize (Zao L&&decide (Zas L=3))=ok at *;have hlb:(bv L).length=128:=by rw[Zl,hl]
  have hlz:(bv Yz).length=128:=by rw[Zl,Yu]
  cases ok with
  | false =>
   rw[Bool.false_and,if_neg (by simp)];go_enter Tryz.func76,Tryz.ntmps76;go_wp2_with fail;refine HB.out.mono ?_;rintro e w1 ⟨rfl,rfl⟩;go_wp2_with fail;refine HH.out.mono ?_;rintro e w1 ⟨rfl,rfl⟩;go_wp2_with fail;refine HK.out.mono ?_;rintro e w1 ⟨rfl,hb1⟩;have hj1:=HJ.out.below hb1
   have hb2:Below w1.heap.size w1 (w1.alloc (.cells (bv L).toArray 128)):=(Below.refl _ _).alloc (Nat.le_refl _) _;have HF:=Hd (And.intro (hj1.below hb2) ((Zb.of_below (T:=JT F p) hb1).trans (Zb.of_below (T:=JT F p) hb2)));clear hj1 hb1 hb2;go_upto_region 8 with (first | (refine Zz rfl rfl ?_) | (refine Yn 128 (.tmp 6) (.tmp 37) rfl _ (bv L).toArray rfl rfl rfl (by rw[Zk,List.size_toArray,hlb]) (by rw[List.size_toArray,List.size_toArray,hlz,hlb]) (all_oneCell_toArray (Yk L)) ?_));generalize w1.alloc (.cells (bv L).toArray 128)=w2 at *;go_wp2_with fail;go_ret2;exact⟨_,rfl,(fun _ _=>IsB.nil _),HF.out⟩
  | true =>
   rw[Bool.true_and];generalize hR:(if decide ((Zp L:Int)=(k:Int))=true then (Xy L,(0:Int),J) else ([],62,J))=R
   have HR:=Hd hR;clear hR;have hne:(((Zp L:Nat):Int) != (k:Int))=!decide ((Zp L:Int)=(k:Int)):=by rw[bne,Bool.beq_eq_decide_eq]
   go_enter Tryz.func76,Tryz.ntmps76;go_wp2_with fail;refine HB.out.mono ?_;rintro e w1 ⟨rfl,rfl⟩;go_wp2_with fail;refine HH.out.mono ?_;rintro e w1 ⟨rfl,rfl⟩;go_wp2_with fail;refine HK.out.mono ?_;rintro e w1 ⟨rfl,hb1⟩;have hj1:=HJ.out.below hb1
   have hb2:Below w1.heap.size w1 (w1.alloc (.cells (bv L).toArray 128)):=(Below.refl _ _).alloc (Nat.le_refl _) _;have hj2:=hj1.below hb2;have ht2:=(Zb.of_below (T:=JT F p) hb1).trans (Zb.of_below (T:=JT F p) hb2);have hr2:Zh (w1.alloc (.cells (bv L).toArray 128)) w1.heap.size 128 L:=Zh.alloc w1 _ L;clear hj1 hb1 hb2;go_upto_region 8 with (first | (refine Zz rfl rfl ?_) | (refine Yn 128 (.tmp 6) (.tmp 37) rfl _ (bv L).toArray rfl rfl rfl (by rw[Zk,List.size_toArray,hlb]) (by rw[List.size_toArray,List.size_toArray,hlz,hlb]) (all_oneCell_toArray (Yk L)) ?_));generalize w1.alloc (.cells (bv L).toArray 128)=w2 at *;generalize w1.heap.size=g at *;have hrg:=hr2.range;have HL:=Hd (Qg w2 L hl);go_wp2_with fail;refine wp_load_mid 128 (.tmp 6) rfl g 0 rfl (bv L) _ hrg Tryz.underlying128 rfl (by rw[Zk,hlb]) ?_;go_wp2_with fail;refine HL.out.mono ?_;rintro e w3 ⟨rfl,hb3⟩;have hj3:=hj2.below hb3;have ht3:=ht2.trans (Zb.of_below (T:=JT F p) hb3);have hr3:=hr2.below hb3;have hrg3:=hr3.range;clear hj2 ht2 hb3 hr2 hrg HL;by_cases hpl:(Zp L:Int)=(k:Int)
   ·have e5:=HR.out
    rw[if_pos (by simpa using hpl)] at e5;subst e5;rw[decide_eq_true hpl] at hne;have HB4:=Hd (fbytes_any w3 L hl)
    go_wp2_with (refine wpList_load_mid rfl 128 (.tmp 6) rfl g 0 rfl (bv L) _ hrg3 Tryz.underlying128 rfl (by rw[Zk,hlb]) ?_);refine HB4.out.mono ?_;rintro e w4 ⟨rfl,hw4⟩;have hb4:Below w3.heap.size w3 w4:=by rw[hw4];exact(Below.refl _ _).alloc (Nat.le_refl _) _
    have hi4:IsB w4 (.slice (some ⟨w3.heap.size,16,none⟩) 112 112) (Xy L):=by have:=(Zh.alloc w3 128 L).isB 16 112 112 (by omega) (by omega) (by simp[maxLen]);rw[←hw4,List.take_of_length_le (by simp[hl])] at this;exact this
    have hr4:Zh w4 w3.heap.size 128 L:=by rw[hw4];exact Zh.alloc w3 128 L
    have hH4:Held w.heap.size w4 (fun w=>IsB w (.slice (some ⟨w3.heap.size,16,none⟩) 112 112) (Xy L)):=fun W hW=>by have:=(hr4.keep (hW w3.heap.size ht3.size hr4.lt)).isB 16 112 112 (by omega) (by omega) (by simp[maxLen]);rw[List.take_of_length_le (by simp[hl])] at this;exact this
    have HF:=Hd (And.intro hH4 (And.intro (hj3.below hb4) (ht3.trans (Zb.of_below (T:=JT F p) hb4))));clear hw4 hb4 hi4 hr4 hH4 hj3 ht3 hr3 hrg3;go_wp2_with fail;go_ret2;exact⟨_,rfl,HF.out⟩
   ·have e5:=HR.out
    rw[if_neg (by simpa using hpl)] at e5;subst e5;rw[decide_eq_false hpl] at hne;have HF:=Hd (And.intro hj3 ht3)
    clear hj3 ht3 hr3 hrg3;go_wp2_with fail;go_ret2;exact⟨_,rfl,(fun _ _=>IsB.nil _),HF.out⟩
end
section
open Go.RowKit
end
section
open Go.RowKit
structure Dk.In (P:List UInt8→Prop) (D:Dk):Prop where
 ok:D.Ok
 safe:P D.safe
 now:P D.now
 hung:∀x∈D.hung,∀l,P l→P (Zam l x.1 x.2)
theorem Dk.gone_off (D:Dk) (b:Bool):({ D with off:=b }:Dk).Ok↔D.Ok:=⟨fun h=>⟨h.1,h.2,h.3,h.4,h.5,h.6,h.7,h.8,h.9⟩,fun h=>⟨h.1,h.2,h.3,h.4,h.5,h.6,h.7,h.8,h.9⟩⟩
theorem Dk.In.off {P:List UInt8→Prop} {D:Dk} (h:D.In P) (b:Bool):({ D with off:=b }:Dk).In P:=⟨(Dk.gone_off D b).2 h.ok,h.safe,h.now,h.hung⟩
theorem Dk.In.write {P:List UInt8→Prop} {D:Dk} (h:D.In P) (k:Nat) (L:List UInt8) (hP:∀l,P l→P (Zam l k L)) (hk:k<D.n) (hl:L.length=128):(D.write k L).2.In P:=by
 unfold Dk.write;split
 ·exact h.off true
 split
 ·exact h.off false
 split
 ·exact h.off false
 split
 ·exact h.off false
 ·rename_i _ _ _ h4
  refine⟨⟨h.ok.n1,h.ok.nm,h.ok.safe,Qn h.ok.now hl hk,fun x hx=>?_,?_,by show D.ops+1≤1048576;omega,h.ok.c1,h.ok.c2⟩,h.safe,hP _ h.now,fun x hx=>?_⟩
  ·rcases List.mem_append.1 hx with hx | hx
   ·exact h.ok.hung x hx
   ·rw[List.mem_singleton.1 hx];exact⟨hk,hl⟩
  ·have:=h.ok.loose
   show (D.hung++[(k,L)]).length≤D.ops+1
   simp;omega
  ·rcases List.mem_append.1 hx with hx | hx
   ·exact h.hung x hx
   ·rw[List.mem_singleton.1 hx];exact hP
theorem Dk.In.flush {P:List UInt8→Prop} {D:Dk} (h:D.In P):D.flush.2.In P:=by
 unfold Dk.flush;split
 ·exact h.off true
 split
 ·exact h.off false
 ·rename_i _ h4;exact⟨⟨h.ok.n1,h.ok.nm,h.ok.now,h.ok.now,fun x hx=>(by cases hx),Nat.zero_le _,by show D.ops+1≤1048576;omega,h.ok.c1,h.ok.c2⟩,h.now,h.now,fun x hx=>(by cases hx)⟩
def Dk.Flat (D:Dk):Prop:=D.hung=[]∧D.safe=D.now
theorem Dk.Flat.isIn {P:List UInt8→Prop} {D:Dk} (h:D.Flat) (hok:D.Ok) (hp:P D.now):D.In P:=⟨hok,by rw[h.2];exact hp,hp,fun x hx=>by rw[h.1] at hx;cases hx⟩
def Jn.lays (J:Jn) (xs:List (Nat × List UInt8)):Jn:=xs.foldl (fun J x=>J.lay x.1 x.2) J
def layL (l:List UInt8) (xs:List (Nat × List UInt8)):List UInt8:=xs.foldl (fun l x=>Zam l x.1 x.2) l
theorem Jn.lays_snoc (J:Jn) (xs:List (Nat × List UInt8)) (k:Nat) (L:List UInt8):J.lays (xs++[(k,L)])=(J.lays xs).lay k L:=by simp[Jn.lays]
theorem layL_snoc (l:List UInt8) (xs:List (Nat × List UInt8)) (x:Nat × List UInt8):layL l (xs++[x])=Zam (layL l xs) x.1 x.2:=by simp[layL]
theorem Zdm {n:Nat}:∀(xs:List (Nat × List UInt8)) (l:List UInt8),l.length=n*128→(∀x∈xs,x.1<n∧x.2.length=128)→(layL l xs).length=n*128
 | [],_,h,_=>h
 | x::r,l,h,hx=>Zdm r _ (Qn h (hx x (List.mem_cons_self ..)).2 (hx x (List.mem_cons_self ..)).1) fun y hy=>hx y (List.mem_cons_of_mem _ hy)
theorem sec_layL {n i:Nat} (hi:i<n) (xs:List (Nat × List UInt8)) (l:List UInt8) (h:l.length=n*128) (hx:∀x∈xs,x.1<n∧x.2.length=128):((∀x∈xs,x.1≠i)∧sec (layL l xs) i=sec l i)∨∃x∈xs,x.1=i∧sec (layL l xs) i=x.2:=by
 induction xs generalizing l with
 | nil=>exact .inl ⟨fun x hx=>(by cases hx),rfl⟩
 | cons x r ih =>
  have h1:=hx x (List.mem_cons_self ..);rcases ih _ (Qn h h1.2 h1.1) (fun y hy=>hx y (List.mem_cons_of_mem _ hy)) with ⟨h2,h3⟩ | ⟨y,hy,h2,h3⟩
  ·by_cases he:x.1=i
   ·refine .inr ⟨x,List.mem_cons_self ..,he,h3.trans ?_⟩;subst he;exact Qp h h1.2 h1.1
   ·refine .inl ⟨fun y hy=>?_,h3.trans (Xf h h1.2 h1.1 hi (Ne.symm he))⟩
    rcases List.mem_cons.1 hy with rfl | hy
    ·exact he
    ·exact h2 y hy
  ·exact .inr ⟨y,List.mem_cons_of_mem _ hy,h2,h3⟩
structure Went (P:List UInt8→Prop) (J J':Jn) (l:List UInt8) (c:Nat):Prop where
 isIn:J'.D.In P
 off:J'.off=0∨J'.off=43
 n:J'.D.n=J.D.n
 cut:J'.D.cut=J.D.cut
 last:J'.last=J.last
 seq:J'.seq=J.seq
 ops:J'.D.ops≤J.D.ops+c
 laid:J'.off=0→J.off=0∧J'.D.now=l
 never:J.off=0→J.D.off=false→J.D.cut<0→J'.off=0∧J'.D.off=false
theorem Went.refl {P:List UInt8→Prop} {J:Jn} (h:J.D.In P) (ho:J.off=0∨J.off=43):Went P J J J.D.now 0 :=
 ⟨h,ho,rfl,rfl,rfl,rfl,Nat.le_refl _,fun h=>⟨h,rfl⟩,fun h h2 _=>⟨h,h2⟩⟩
theorem Went.lay {P:List UInt8→Prop} {J J':Jn} {l:List UInt8} {c:Nat} (h:Went P J J' l c) (k:Nat) (L:List UInt8) (hP:∀l,P l→P (Zam l k L)) (hk:k<J.D.n) (hl:L.length=128) (ho:J.D.ops+c<1048576) :
  Went P J (J'.lay k L) (Zam l k L) (c+1):=by
 have hk':k<J'.D.n:=by rw[h.n];exact hk
 have hin:=h.isIn.write k L hP hk' hl;have hops:=h.ops;unfold Jn.lay;by_cases h0:J'.off=0
 ·rw[if_pos h0]
  by_cases hg:J'.D.gone=true
  ·have e:J'.D.write k L=(43,{ J'.D with off:=true }):=by rw[Dk.write,if_pos hg]
   rw[e] at hin ⊢;refine⟨hin,.inr rfl,h.n,h.cut,h.last,h.seq,by show J'.D.ops≤_;omega,fun h=>absurd (show (43:Int)=0 from h) (by decide),fun a b c=>?_⟩
   obtain⟨h1,h2⟩:=h.never a b c;have:J'.D.gone=false:=by simp only[Dk.gone,h2,Bool.false_or,Bool.and_eq_false_iff,decide_eq_false_iff_not];left;rw[h.cut];omega
   rw[this] at hg;exact absurd hg (by decide)
  ·have e:J'.D.write k L=(0,{ J'.D with off:=false,now:=Zam J'.D.now k L,hung:=J'.D.hung++[(k,L)],ops:=J'.D.ops+1 }):=by
    rw[Dk.write,if_neg hg,if_neg (by simp;omega),if_neg (by simp[hl]),if_neg (by omega),Int.toNat_natCast]
   rw[e] at hin ⊢;refine⟨hin,.inl rfl,h.n,h.cut,h.last,h.seq,by show J'.D.ops+1≤_;omega,fun _=>⟨(h.laid h0).1,?_⟩,fun _ _ _=>⟨rfl,rfl⟩⟩
   show Zam J'.D.now k L=_
   rw[(h.laid h0).2]
 ·rw[if_neg h0];exact⟨h.isIn,h.off,h.n,h.cut,h.last,h.seq,by omega,fun h=>absurd h h0,fun a b c=>absurd (h.never a b c).1 h0⟩
theorem Went.lays {P:List UInt8→Prop} {J:Jn}:∀(xs:List (Nat × List UInt8)) {J':Jn} {l:List UInt8} {c:Nat} (h:Went P J J' l c) (hP:∀x∈xs,x.1<J.D.n∧x.2.length=128∧∀l,P l→P (Zam l x.1 x.2)) (ho:J.D.ops+c+xs.length≤1048576),
  Went P J (J'.lays xs) (layL l xs) (c+xs.length)
 | [],_,_,_,h,_,_=>h
 | x::r,J',l,c,h,hP,ho=>by
  obtain⟨h1,h2,h3⟩:=hP x (List.mem_cons_self ..);rw[List.length_cons] at ho ⊢;have:=Went.lays r (h.lay x.1 x.2 h3 h1 h2 (by omega)) (fun y hy=>hP y (List.mem_cons_of_mem _ hy)) (by omega)
  rw[show c+1+r.length=c+(r.length+1) by omega] at this
  exact this
structure Done (P:List UInt8→Prop) (J J':Jn) (l:List UInt8) (c:Nat):Prop extends Went P J J' l c where
 flat:J'.off=0→J'.D.Flat∧J'.D.off=false
theorem Went.flush {P:List UInt8→Prop} {J J':Jn} {l:List UInt8} {c:Nat} (h:Went P J J' l c) (ho:J.D.ops+c<1048576):Done P J J'.flush l (c+1):=by
 have hin:=h.isIn.flush;have hops:=h.ops;unfold Jn.flush;by_cases h0:J'.off=0
 ·rw[if_pos h0]
  by_cases hg:J'.D.gone=true
  ·have e:J'.D.flush=(43,{ J'.D with off:=true }):=by rw[Dk.flush,if_pos hg]
   rw[e] at hin ⊢;refine⟨⟨hin,.inr rfl,h.n,h.cut,h.last,h.seq,by show J'.D.ops≤_;omega,fun h=>absurd (show (43:Int)=0 from h) (by decide),fun a b c=>?_⟩,fun h=>absurd (show (43:Int)=0 from h) (by decide)⟩
   obtain⟨h1,h2⟩:=h.never a b c;have:J'.D.gone=false:=by simp only[Dk.gone,h2,Bool.false_or,Bool.and_eq_false_iff,decide_eq_false_iff_not];left;rw[h.cut];omega
   rw[this] at hg;exact absurd hg (by decide)
  ·have e:J'.D.flush=(0,{ J'.D with off:=false,safe:=J'.D.now,hung:=[],ops:=J'.D.ops+1 }):=by
    rw[Dk.flush,if_neg hg,if_neg (by omega)]
   rw[e] at hin ⊢;exact⟨⟨hin,.inl rfl,h.n,h.cut,h.last,h.seq,by show J'.D.ops+1≤_;omega,fun _=>h.laid h0,fun _ _ _=>⟨rfl,rfl⟩⟩,fun _=>⟨⟨rfl,rfl⟩,rfl⟩⟩
 ·rw[if_neg h0];exact⟨⟨h.isIn,h.off,h.n,h.cut,h.last,h.seq,by omega,fun h=>absurd h h0,fun a b c=>absurd (h.never a b c).1 h0⟩,fun h=>absurd h h0⟩
theorem phase {P:List UInt8→Prop} {J:Jn} (h:J.D.In P) (ho:J.off=0∨J.off=43) (xs:List (Nat × List UInt8)) (hP:∀x∈xs,x.1<J.D.n∧x.2.length=128∧∀l,P l→P (Zam l x.1 x.2)) (hb:J.D.ops+xs.length+1≤1048576) :
  Done P J (J.lays xs).flush (layL J.D.now xs) (xs.length+1):=by
 have:=((Went.refl h ho).lays xs hP (by omega)).flush (by omega);rwa[Nat.zero_add] at this
theorem Jn.lays_off {J:Jn} (h:J.off≠0):∀xs,J.lays xs=J
 | []=>rfl
 | x::r=>by
  show (J.lay x.1 x.2).lays r=J
  rw[Jn.lay,if_neg h];exact Jn.lays_off h r
theorem Jn.flush_off {J:Jn} (h:J.off≠0):J.flush=J:=by rw[Jn.flush,if_neg h]
def Zce (D:Dk) (Ls:List (List UInt8)):List (Nat × List UInt8):=Ls.map fun f=>(D.home (Zp f),mkF (Zm f) (3*16777216+Zp f) (Xy f))
theorem Jn.spreads_lays (J:Jn) (D:Dk) (hn:D.n=J.D.n) (Ls:List (List UInt8)):J.spreads Ls=J.lays (Zce D Ls):=by
 induction Ls generalizing J with
 | nil=>rfl
 | cons f r ih =>
  show (J.spStep f).spreads r=(J.lay _ _).lays (Zce D r)
  rw[ih _ (by rw[Jn.spStep,Jn.lay_n];exact hn),Jn.spStep];show _=(J.lay (D.home (Zp f)) _).lays _
  rw[Dk.home_n hn]
theorem Jn.spread_lays (J:Jn) (Ls:List (List UInt8)):J.spread Ls=(J.lays (Zce J.D Ls)).flush:=by rw[Jn.spread,Jn.spreads_lays J J.D rfl]
def Zdb (fs:List (List UInt8)) (k:Nat):List (Nat × List UInt8):=(List.range k).map fun i=>(2+i,fs.getD i [])
theorem Zgt (fs:List (List UInt8)) (k:Nat):Zdb fs (k+1)=Zdb fs k++[(2+k,fs.getD k [])]:=by simp[Zdb,List.range_succ]
theorem Jn.layTo_lays (J:Jn) (fs:List (List UInt8)) (k:Nat):J.layTo fs k=J.lays (Zdb fs k):=by
 induction k with
 | zero=>rfl
 | succ k ih=>rw[Zgt,Jn.lays_snoc,←ih];rfl
end
section
open Go.RowKit
def HomeOk (n:Nat) (l:List UInt8) (B:List (List UInt8)) (i:Nat):Prop:=∃v b,v<18446744073709551616∧B[i]?=some b∧sec l (2+(n - 2) / 2+i)=mkF v (3*16777216+i) b
def Full (l:List UInt8) (w pl:Nat):Prop:=∀k,k<pl→Zm (sec l (2+k))=w
structure Im (n:Nat) (l:List UInt8) (w pl:Nat) (seq:Int) (top:Nat) (B:List (List UInt8)) (ok:Nat→Prop):Prop where
 len:l.length=n*128
 lo:32≤n
 hi:n≤16384
 rows:B.length=(n - 2) / 2
 each:∀b∈B,b.length=112
 wt:w≤top
 tt:top<4611686018427387904
 s0:0≤seq
 s1:seq≤(w:Int)
 few:pl≤(n - 2) / 2
 mark:sec l (w % 2)=Xk w pl seq
 old:∃w' pl' s',sec l ((w+1) % 2)=Xk w' pl' s'∧w'<w∧w' % 2=(w+1) % 2∧pl'≤(n - 2) / 2
 notes:∀k,k<(n - 2) / 2→∃v q b,sec l (2+k)=mkF v (2*16777216+q) b∧v≤top∧q<(n - 2) / 2
 full:Full l w pl→∀k,k<pl→B[Zp (sec l (2+k))]?=some (Xy (sec l (2+k)))
 stand:∀i,i<(n - 2) / 2→ok i→HomeOk n l B i∨(Full l w pl∧∃k,k<pl∧Zp (sec l (2+k))=i)
abbrev AllOk:Nat→Prop:=fun _=>True
theorem Im.move {n:Nat} {l l':List UInt8} {w pl:Nat} {seq:Int} {top:Nat} {B:List (List UInt8)} {ok ok':Nat→Prop} (h:Im n l w pl seq top B ok) (hl:l'.length=n*128) (hs:∀k,k<2+(n - 2) / 2→sec l' k=sec l k)
  (hh:∀i,i<(n - 2) / 2→ok' i→HomeOk n l' B i∨(Full l w pl∧∃k,k<pl∧Zp (sec l (2+k))=i)):Im n l' w pl seq top B ok':=by
 have hlo:=h.lo;have hfew:=h.few;have hF:Full l' w pl↔Full l w pl:=forall_congr' fun k=>⟨fun a hk=>by rw[←hs (2+k) (by omega)];exact a hk,fun a hk=>by rw[hs (2+k) (by omega)];exact a hk⟩;refine⟨hl,h.lo,h.hi,h.rows,h.each,h.wt,h.tt,h.s0,h.s1,h.few,?_,?_,fun k hk=>?_,fun hf k hk=>?_,fun i hi hok=>?_⟩
 ·rw[hs _ (by omega)];exact h.mark
 ·rw[hs _ (by omega)];exact h.old
 ·rw[hs _ (by omega)];exact h.notes k hk
 ·rw[hs _ (by omega)];exact h.full (hF.1 hf) k hk
 ·rcases hh i hi hok with h1 | ⟨h1,k,h2,h3⟩
  ·exact .inl h1
  ·exact .inr ⟨hF.2 h1,k,h2,by rw[hs _ (by omega)];exact h3⟩
theorem Im.home_lay {n:Nat} {l:List UInt8} {w pl:Nat} {seq:Int} {top:Nat} {B:List (List UInt8)} {ok:Nat→Prop} (h:Im n l w pl seq top B ok) {q v:Nat} {b:List UInt8} (hq:q<(n - 2) / 2) (hb:B[q]?=some b) (hv:v<18446744073709551616) :
  Im n (Zam l (2+(n - 2) / 2+q) (mkF v (3*16777216+q) b)) w pl seq top B ok:=by
 have hlo:=h.lo;have hat:2+(n - 2) / 2+q<n:=by omega
 have hm:=Xd v (3*16777216+q) b;refine h.move (Qn h.len hm hat) (fun k hk=>Xf h.len hm hat (by omega) (by omega)) fun i hi hok=>?_;by_cases he:i=q
 ·subst he;exact .inl ⟨v,b,hv,hb,Qp h.len hm hat⟩
 ·rcases h.stand i hi hok with ⟨v',b',h1,h2,h3⟩ | h1
  ·exact .inl ⟨v',b',h1,h2,by rw[Xf h.len hm hat (by omega) (by omega)];exact h3⟩
  ·exact .inr h1
def Zca (l:List UInt8) (pl:Nat):List (List UInt8):=(List.range pl).map fun k=>sec l (2+k)
theorem Im.note_of {n:Nat} {l:List UInt8} {w pl:Nat} {seq:Int} {top:Nat} {B:List (List UInt8)} {ok:Nat→Prop} (h:Im n l w pl seq top B ok) {k:Nat} (hk:k<(n - 2) / 2) :
  Zao (sec l (2+k))=true∧Zas (sec l (2+k))=2∧Zm (sec l (2+k))≤top∧Zp (sec l (2+k))<(n - 2) / 2:=by
 obtain⟨v,q,b,e,hv,hq⟩:=h.notes k hk;have:=h.tt
 have:=h.hi;rw[e];refine⟨fright_mkF _ _ _,fkind_mkF _ (by omega) (by omega),?_,?_⟩
 ·rw[Zcx _ _ (by omega)];exact hv
 ·rw[Zeh _ (by omega) (by omega)];exact hq
theorem Im.spread {n:Nat} {l:List UInt8} {w pl:Nat} {seq:Int} {top:Nat} {B:List (List UInt8)} {ok:Nat→Prop} (h:Im n l w pl seq top B ok) (hf:Full l w pl) {D:Dk} (hD:D.n=n) :
  (∀x∈Zce D (Zca l pl),x.1<n∧x.2.length=128∧∀l',Im n l' w pl seq top B ok→Im n (Zam l' x.1 x.2) w pl seq top B ok) ∧
  (∀i,i<(n - 2) / 2→(HomeOk n (layL l (Zce D (Zca l pl))) B i)∨(¬ok i∧sec (layL l (Zce D (Zca l pl))) (2+(n - 2) / 2+i)=sec l (2+(n - 2) / 2+i))):=by
 have hlo:=h.lo;have hfew:=h.few;have htt:=h.tt;have hx:∀x∈Zce D (Zca l pl),∃k,k<pl∧x=(2+(n - 2) / 2+Zp (sec l (2+k)),mkF (Zm (sec l (2+k))) (3*16777216+Zp (sec l (2+k))) (Xy (sec l (2+k)))):=by intro x hx;obtain⟨f,hf1,rfl⟩:=List.mem_map.1 hx;obtain⟨k,hk,rfl⟩:=List.mem_map.1 hf1;exact⟨k,List.mem_range.1 hk,by rw[Dk.home,Dk.blocks,hD]⟩
 have hx2:∀x∈Zce D (Zca l pl),x.1<n∧x.2.length=128:=by intro x h1;obtain⟨k,hk,rfl⟩:=hx x h1;obtain⟨_,_,_,h4⟩:=h.note_of (k:=k) (by omega);exact⟨by show _+_<n;omega,Xd _ _ _⟩
 refine⟨fun x h1=>⟨(hx2 x h1).1,(hx2 x h1).2,fun l' h'=>?_⟩,fun i hi=>?_⟩
 ·obtain⟨k,hk,rfl⟩:=hx x h1;obtain⟨_,_,h3,h4⟩:=h.note_of (k:=k) (by omega);exact h'.home_lay h4 (h.full hf k hk) (by omega)
 ·rcases sec_layL (i:=2+(n - 2) / 2+i) (by omega) (Zce D (Zca l pl)) l h.len hx2 with ⟨h1,h2⟩ | ⟨x,h1,h2,h3⟩
  ·by_cases hok:ok i
   ·rcases h.stand i hi hok with ⟨v,b,a1,a2,a3⟩ | ⟨_,k,hk,hp⟩
    ·exact .inl ⟨v,b,a1,a2,by rw[h2];exact a3⟩
    ·exfalso;refine h1 (2+(n - 2) / 2+i,mkF (Zm (sec l (2+k))) (3*16777216+Zp (sec l (2+k))) (Xy (sec l (2+k)))) (List.mem_map.2 ⟨sec l (2+k),List.mem_map.2 ⟨k,List.mem_range.2 hk,rfl⟩,?_⟩) rfl;rw[hp,Dk.home,Dk.blocks,hD]
   ·exact .inr ⟨hok,h2⟩
  ·obtain⟨k,hk,rfl⟩:=hx x h1
   obtain⟨_,_,a3,a4⟩:=h.note_of (k:=k) (by omega);have e:Zp (sec l (2+k))=i:=by have:2+(n - 2) / 2+Zp (sec l (2+k))=2+(n - 2) / 2+i:=h2;omega
   exact .inl ⟨Zm (sec l (2+k)),Xy (sec l (2+k)),by omega,by rw[←e];exact h.full hf k hk,h3.trans (by show mkF _ _ _=_;rw[e])⟩
def Qi:List (List UInt8)→List Int→List (List UInt8)→List (List UInt8)
 | B,[],_=>B
 | B,_::_,[]=>B
 | B,z::zs,b::ls=>Qi (B.set z.toNat b) zs ls
theorem Zdo:∀(zs:List Int) (ls B:List (List UInt8)),(Qi B zs ls).length=B.length
 | [],_,_=>by rw[Qi]
 | _::_,[],_=>by rw[Qi]
 | z::zs,b::ls,B=>by rw[Qi,Zdo zs ls];simp
theorem updB_other {i:Nat}:∀(zs:List Int) (ls B:List (List UInt8)),(∀z∈zs,z.toNat≠i)→(Qi B zs ls)[i]?=B[i]?
 | [],_,_,_=>by rw[Qi]
 | _::_,[],_,_=>by rw[Qi]
 | z::zs,b::ls,B,h=>by rw[Qi,updB_other zs ls _ fun y hy=>h y (List.mem_cons_of_mem _ hy),List.getElem?_set_ne (h z (List.mem_cons_self ..))]
theorem updB_at:∀(zs:List Int) (ls B:List (List UInt8)),(zs.map Int.toNat).Nodup→(∀z∈zs,z.toNat<B.length)→∀k (h:k<zs.length) (h2:k<ls.length),(Qi B zs ls)[zs[k].toNat]?=some ls[k]
 | [],_,_,_,_,k,h,_=>by simp at h
 | _::_,[],_,_,_,k,_,h=>by simp at h
 | z::zs,b::ls,B,hn,hb,k,h,h2=>by
  rw[List.map_cons,List.nodup_cons] at hn
  cases k with
  | zero =>
   rw[Qi];show (Qi (B.set z.toNat b) zs ls)[z.toNat]?=some b
   rw[updB_other zs ls _ fun y hy e=>hn.1 (List.mem_map.2 ⟨y,hy,e⟩),List.getElem?_set_self (hb z (List.mem_cons_self ..))]
  | succ k =>
   have hk1:k<zs.length:=by simpa using h
   have hk2:k<ls.length:=by simpa using h2
   rw[Qi];show (Qi (B.set z.toNat b) zs ls)[zs[k].toNat]?=some ls[k]
   exact updB_at zs ls _ hn.2 (fun y hy=>by rw[List.length_set];exact hb y (List.mem_cons_of_mem _ hy)) k _ _
theorem updB_each:∀(zs:List Int) (ls B:List (List UInt8)),(∀b∈ls,b.length=112)→(∀b∈B,b.length=112)→∀b∈Qi B zs ls,b.length=112
 | [],ls,B,_,h,b,hb=>h b (by rw[Qi] at hb;exact hb)
 | _::_,[],B,_,h,b,hb=>h b (by rw[Qi] at hb;exact hb)
 | z::zs,b::ls,B,hl,h,x,hx=>by
  refine updB_each zs ls _ (fun y hy=>hl y (List.mem_cons_of_mem _ hy)) (fun y hy=>?_) x hx;rcases List.mem_or_eq_of_mem_set hy with hy | rfl
  ·exact h y hy
  ·exact hl _ (List.mem_cons_self ..)
theorem rightW_nodup {nb:Nat} {zs:List Int} {ls:List (List UInt8)} (h:Zac nb zs ls=true):(zs.map Int.toNat).Nodup:=by
 obtain⟨hl,hs⟩:=Zbl h;rw[List.Nodup,List.pairwise_iff_getElem];intro i j hi hj hij;simp only[List.length_map] at hi hj;simp only[List.getElem_map];intro e;obtain⟨a1,_,_,_⟩:=hs i hi (by omega);obtain⟨b1,_,_,b4⟩:=hs j hj (by omega);apply b4;have e2:zs[i]=zs[j]:=by omega
 rw[←e2,List.mem_take_iff_getElem];exact⟨i,by omega,rfl⟩
theorem rightW_place {nb:Nat} {zs:List Int} {ls:List (List UInt8)} (h:Zac nb zs ls=true) {z:Int} (hz:z∈zs):0≤z∧z<(nb:Int):=by obtain⟨hl,hs⟩:=Zbl h;obtain⟨i,hi,rfl⟩:=List.getElem_of_mem hz;obtain⟨a1,a2,_,_⟩:=hs i hi (by omega);exact⟨a1,a2⟩
theorem rightW_bytes {nb:Nat} {zs:List Int} {ls:List (List UInt8)} (h:Zac nb zs ls=true) {b:List UInt8} (hb:b∈ls):b.length=112:=by obtain⟨hl,hs⟩:=Zbl h;obtain⟨i,hi,rfl⟩:=List.getElem_of_mem hb;exact(hs i (by omega) hi).2.2.1
end
section
open Go.RowKit
structure Live (n:Nat) (J:Jn) (seq:Int) (B:List (List UInt8)) (ok:Nat→Prop):Prop where
 off:J.off=0
 doff:J.D.off=false
 flat:J.D.Flat
 dok:J.D.Ok
 hn:J.D.n=n
 hseq:J.seq=seq
 im:∃w pl,Im n J.D.now w pl seq J.last B ok
 home:∀i,i<(n - 2) / 2→ok i→HomeOk n J.D.now B i
def Img (n:Nat) (seq:Int) (B:List (List UInt8)) (top:Nat) (l:List UInt8):Prop:=∃w pl,Im n l w pl seq top B AllOk
theorem Im.top {n:Nat} {l:List UInt8} {w pl:Nat} {seq:Int} {top top':Nat} {B:List (List UInt8)} {ok:Nat→Prop} (h:Im n l w pl seq top B ok) (h1:top≤top') (h2:top'<4611686018427387904):Im n l w pl seq top' B ok :=
 ⟨h.len,h.lo,h.hi,h.rows,h.each,Nat.le_trans h.wt h1,h2,h.s0,h.s1,h.few,h.mark,h.old,fun k hk=>by
  obtain⟨v,q,b,e,a1,a2⟩:=h.notes k hk
  exact⟨v,q,b,e,Nat.le_trans a1 h1,a2⟩,h.full,h.stand⟩
def ImC (n:Nat) (l:List UInt8) (w pl:Nat) (seq:Int) (top:Nat) (B:List (List UInt8)):Prop:=Im n l w pl seq top B AllOk∧∀i,i<(n - 2) / 2→HomeOk n l B i
theorem ImC.note_lay {n:Nat} {l:List UInt8} {w pl:Nat} {seq:Int} {top:Nat} {B:List (List UInt8)} (h:ImC n l w pl seq top B) {k v q:Nat} {b:List UInt8} (hk:k<(n - 2) / 2) (hq:q<(n - 2) / 2) (hv:v≤top) (hw:w<v) :
  ImC n (Zam l (2+k) (mkF v (2*16777216+q) b)) w pl seq top B:=by
 obtain⟨h,hh⟩:=h;have hlo:=h.lo
 have htt:=h.tt;have hfew:=h.few;have hat:2+k<n:=by omega
 have hm:=Xd v (2*16777216+q) b;have hsame:=Qp h.len hm hat;have hoth:∀j,j<n→j≠2+k→sec (Zam l (2+k) (mkF v (2*16777216+q) b)) j=sec l j:=fun j hj hne=>Xf h.len hm hat hj hne;have hhome:∀i,i<(n - 2) / 2→HomeOk n (Zam l (2+k) (mkF v (2*16777216+q) b)) B i:=fun i hi=>by obtain⟨v',b',a1,a2,a3⟩:=hh i hi;exact⟨v',b',a1,a2,by rw[hoth _ (by omega) (by omega)];exact a3⟩
 refine⟨⟨Qn h.len hm hat,h.lo,h.hi,h.rows,h.each,h.wt,h.tt,h.s0,h.s1,h.few,?_,?_,fun j hj=>?_,fun hf j hj=>?_,fun i hi _=>.inl (hhome i hi)⟩,hhome⟩
 ·rw[hoth _ (by omega) (by omega)];exact h.mark
 ·rw[hoth _ (by omega) (by omega)];exact h.old
 ·by_cases he:j=k
  ·subst he;rw[hsame];exact⟨v,q,b,rfl,hv,hq⟩
  ·rw[hoth _ (by omega) (by omega)];exact h.notes j hj
 ·by_cases he:k<pl
  ·have:=hf k he;rw[hsame,Zcx _ _ (by omega)] at this;omega
  ·rw[hoth _ (by omega) (by omega)]
   refine h.full (fun i hi=>?_) j hj;have:=hf i hi
   rw[hoth _ (by omega) (by omega)] at this;exact this
theorem putS_twice {l b c:List UInt8} {n i:Nat} (hl:l.length=n*128) (hb:b.length=128) (hi:i<n):Zam (Zam l i b) i c=Zam l i c:=by
 unfold Zam;have e1:(l.take (i*128)).length=i*128:=by simp;omega
 have e2:(l.take (i*128)++b).length=i*128+128:=by simp;omega
 rw[List.take_left' e1,←List.append_assoc (l.take (i*128)) b,List.drop_left' e2]
theorem Xh (w pl:Nat) (seq:Int):(Xk w pl seq).length=128:=Xd _ _ _
theorem ImC.write {n:Nat} {l:List UInt8} {w pl:Nat} {seq:Int} {v:Nat} {B:List (List UInt8)} (h:ImC n l w pl seq v B) {zs:List Int} {ls:List (List UInt8)} (hr:Zac ((n - 2) / 2) zs ls=true) (hw:w<v)
  (hs:∀k (hk:k<(Ys v zs ls).length),sec l (2+k)=(Ys v zs ls)[k]) :
  Im n (Zam l (v % 2) (Xk v zs.length (seq+1))) v zs.length (seq+1) v (Qi B zs ls) AllOk:=by
 obtain⟨h,hh⟩:=h;have hlo:=h.lo
 have htt:=h.tt;have hwt:=h.wt;have hfew:=rightW_few hr;have hs0:=h.s0;have hs1:=h.s1;obtain⟨hlen,hsp⟩:=Zbl hr;have hat:v % 2<n:=by omega
 have hm:=Xh v zs.length (seq+1);have hsame:=Qp h.len hm hat;have hoth:∀j,j<n→j≠v % 2→sec (Zam l (v % 2) (Xk v zs.length (seq+1))) j=sec l j:=fun j hj hne=>Xf h.len hm hat hj hne
 have hnt:∀k (hk:k<zs.length) (hk2:k<ls.length),sec (Zam l (v % 2) (Xk v zs.length (seq+1))) (2+k)=mkF v (2*16777216+zs[k].toNat) ls[k]:=fun k hk hk2=>by
  have hk3:k<(Ys v zs ls).length:=by rw[Zfb hlen];exact hk
  rw[hoth _ (by omega) (by omega),hs k hk3,Zgg hlen k hk hk2 hk3]
 have hpl:∀z∈zs,z.toNat<(n - 2) / 2:=fun z hz=>by have:=rightW_place hr hz;omega
 have hhi:=h.hi;have hFull:Full (Zam l (v % 2) (Xk v zs.length (seq+1))) v zs.length:=fun k hk=>by rw[hnt k hk (by omega),Zcx _ _ (by omega)]
 refine⟨Qn h.len hm hat,h.lo,h.hi,by rw[Zdo];exact h.rows,updB_each zs ls B (fun b hb=>rightW_bytes hr hb) h.each,Nat.le_refl _,h.tt,by omega,by omega,hfew,hsame,?_,fun k hk=>?_,fun _ k hk=>?_,fun i hi _=>?_⟩
 ·rw[hoth _ (by omega) (by omega)]
  by_cases he:w % 2=v % 2
  ·obtain⟨w',pl',s',e,a1,a2,a3⟩:=h.old
   refine⟨w',pl',s',?_,by omega,by omega,a3⟩;rw[show (v+1) % 2=(w+1) % 2 by omega]
   exact e
  ·refine⟨w,pl,seq,?_,by omega,by omega,h.few⟩
   rw[show (v+1) % 2=w % 2 by omega]
   exact h.mark
 ·rw[hoth _ (by omega) (by omega)];exact h.notes k hk
 ·have hz:=hpl _ (List.getElem_mem hk);rw[hnt k hk (by omega),Zeh _ (by omega) (by omega),fbytes_mkF,pad112_id (hsp k hk (by omega)).2.2.1];exact updB_at zs ls B (rightW_nodup hr) (fun z hz=>by rw[h.rows];exact hpl z hz) k hk (by omega)
 ·by_cases hi2:∃k,∃hk:k<zs.length,zs[k].toNat=i
  ·obtain⟨k,hk,e⟩:=hi2;have hz:=hpl _ (List.getElem_mem hk);refine .inr ⟨hFull,k,hk,?_⟩;rw[hnt k hk (by omega),Zeh _ (by omega) (by omega),e]
  ·obtain⟨v',b',a1,a2,a3⟩:=hh i hi;refine .inl ⟨v',b',a1,?_,by rw[hoth _ (by omega) (by omega)];exact a3⟩;rw[updB_other zs ls B fun z hz e=>?_,a2];obtain⟨k,hk,rfl⟩:=List.getElem_of_mem hz;exact hi2 ⟨k,hk,e⟩
structure Wrote (n:Nat) (J J':Jn) (seq:Int) (B:List (List UInt8)) (zs:List Int) (ls:List (List UInt8)):Prop where
 hn:J'.D.n=J.D.n
 cut:J'.D.cut=J.D.cut
 ops:J'.D.ops≤J.D.ops+(2*zs.length+4)
 last:J'.last=J.last+1
 ends:(J'.off=0∧Live n J' (seq+1) (Qi B zs ls) AllOk)∨(J'.off=43∧0≤J.D.cut∧∃P,J'.D.In P∧∀l,P l→Img n seq B (J.last+1) l∨Img n (seq+1) (Qi B zs ls) (J.last+1) l)
theorem noted_fs {n:Nat} {l:List UInt8} {fs:List (List UInt8)} (hs:∀k (hk:k<fs.length),sec l (2+k)=fs[k]):Zca l fs.length=fs:=by
 apply List.ext_getElem
 ·simp[Zca]
 ·intro i h1 h2;simp only[Zca,List.getElem_map,List.getElem_range];exact hs i h2
theorem sec_notesX {n:Nat} {l:List UInt8} (hl:l.length=n*128) {fs:List (List UInt8)} (hfs:∀f∈fs,f.length=128) (hn:2+fs.length≤n):∀m,m≤fs.length→(∀x∈Zdb fs m,x.1<n∧x.2.length=128)∧∀k (hk:k<fs.length),k<m→sec (layL l (Zdb fs m)) (2+k)=fs[k]
 | 0,_=>⟨fun x hx=>by simp[Zdb] at hx,fun k _ h=>by omega⟩
 | m+1,hm=>by
  obtain⟨ih1,ih2⟩:=sec_notesX hl hfs hn m (by omega);have e:fs.getD m []=fs[m]:=by simp[List.getD_eq_getElem?_getD,List.getElem?_eq_getElem (show m<fs.length by omega)]
  have hlm:(fs[m]'(by omega)).length=128:=hfs _ (List.getElem_mem _);have hll:=Zdm (Zdb fs m) l hl ih1;refine⟨fun x hx=>?_,fun k hk hk2=>?_⟩
  ·rw[Zgt] at hx
   rcases List.mem_append.1 hx with hx | hx
   ·exact ih1 x hx
   ·rw[List.mem_singleton.1 hx,e];exact⟨by show 2+m<n;omega,hlm⟩
  ·rw[Zgt,layL_snoc,e]
   by_cases he:k=m
   ·subst he;exact Qp hll hlm (by omega)
   ·refine(Xf hll hlm (by omega) (by omega) (by omega)).trans (ih2 k hk (by omega))
theorem writes_live {n:Nat} {J:Jn} {seq:Int} {B:List (List UInt8)} {zs:List Int} {ls:List (List UInt8)} (h:Live n J seq B AllOk) (hr:Zac ((n - 2) / 2) zs ls=true) (ht:J.last+1<4611686018427387904) (hb:J.D.ops+(2*zs.length+4)≤1048576) :
  Wrote n J (J.writes zs ls) seq B zs ls:=by
 obtain⟨w,pl,him⟩:=h.im;have hlo:=him.lo
 have hhi:=him.hi;have hfew:=rightW_few hr;obtain⟨hlen,hsp⟩:=Zbl hr;have hwt:=him.wt;have hflen:=Zfb (write:=J.last+1) hlen;have hf128:∀f∈Ys (J.last+1) zs ls,f.length=128:=fun f hf=>by obtain⟨x,_,rfl⟩:=List.mem_map.1 hf;exact Xd _ _ _
 have hC:ImC n J.D.now w pl seq (J.last+1) B:=⟨him.top (by omega) ht,fun i hi=>h.home i hi trivial⟩;obtain⟨hx1,hx2⟩:=sec_notesX him.len hf128 (by omega) zs.length (by omega);have hin0:({ J with last:=J.last+1 }:Jn).D.In (fun l=>ImC n l w pl seq (J.last+1) B):=h.flat.isIn h.dok hC
 have p1:=phase (J:={ J with last:=J.last+1 }) hin0 (.inl h.off) (Zdb (Ys (J.last+1) zs ls) zs.length) (fun x hx=>by
  refine⟨by show x.1<J.D.n;rw[h.hn];exact(hx1 x hx).1,(hx1 x hx).2,fun l hl=>?_⟩
  obtain⟨k,hk,rfl⟩:=List.mem_map.1 hx;rw[List.mem_range] at hk;have e:(Ys (J.last+1) zs ls).getD k []=mkF (J.last+1) (2*16777216+zs[k].toNat) (ls[k]'(by omega)):=by rw[List.getD_eq_getElem?_getD,List.getElem?_eq_getElem (by omega),Option.getD_some];exact Zgg hlen k hk (by omega) (by omega)
  show ImC n (Zam l (2+k) ((Ys (J.last+1) zs ls).getD k [])) w pl seq (J.last+1) B
  rw[e];have:=rightW_place hr (List.getElem_mem hk)
  exact hl.note_lay (by omega) (by omega) (Nat.le_refl _) (by omega)) (by
   show J.D.ops+_+1≤_
   simp only[Zdb,List.length_map,List.length_range]
   omega)
 rw[←Jn.layTo_lays] at p1;have hxl:(Zdb (Ys (J.last+1) zs ls) zs.length).length=zs.length:=by simp[Zdb]
 rw[hxl] at p1;obtain⟨l1,hl1⟩:∃l1,l1=layL J.D.now (Zdb (Ys (J.last+1) zs ls) zs.length):=⟨_,rfl⟩;have hs1:∀k (hk:k<(Ys (J.last+1) zs ls).length),sec l1 (2+k)=(Ys (J.last+1) zs ls)[k]:=fun k hk=>by rw[hl1];exact hx2 k hk (by omega)
 have hll1:l1.length=n*128:=by rw[hl1];exact Zdm _ _ him.len hx1
 have hJ:J.writes zs ls=(let J6:=((((({ J with last:=J.last+1 }:Jn).layTo (Ys (J.last+1) zs ls) zs.length).flush).lay ((J.last+1) % 2) (Xk (J.last+1) zs.length (J.seq+1))).flush).spread (Ys (J.last+1) zs ls)
  if J6.off=0 then { J6 with seq:=J.seq+1 } else J6):=rfl
 obtain⟨J1,hJ1⟩:∃J1,J1=(({ J with last:=J.last+1 }:Jn).layTo (Ys (J.last+1) zs ls) zs.length).flush:=⟨_,rfl⟩;rw[←hJ1] at p1 hJ;have p1':Done (fun l=>ImC n l w pl seq (J.last+1) B) { J with last:=J.last+1 } J1 l1 (zs.length+1):=by rw[hl1];exact p1
 clear p1 hJ1 hl1 hx1 hx2;have hseq1:J1.seq=J.seq:=p1'.seq
 have hlast1:J1.last=J.last+1:=p1'.last;have hn1:J1.D.n=J.D.n:=p1'.n;have hcut1:J1.D.cut=J.D.cut:=p1'.cut;have hops1:J1.D.ops≤J.D.ops+(zs.length+1):=p1'.ops;rcases p1'.off with h1 | h1
 case inr =>
  have hne:J1.off≠0:=by rw[h1];decide
  have e:J.writes zs ls=J1:=by
   rw[hJ];have e2:((J1.lay ((J.last+1) % 2) (Xk (J.last+1) zs.length (J.seq+1))).flush).spread (Ys (J.last+1) zs ls)=J1:=by rw[Jn.lay,if_neg hne,Jn.flush_off hne,Jn.spread_lays,Jn.lays_off hne,Jn.flush_off hne]
   rw[e2];show (if J1.off=0 then _ else _)=_
   rw[if_neg hne]
  rw[e];refine⟨hn1,hcut1,by omega,hlast1,.inr ⟨h1,?_,_,p1'.isIn,fun l hl=>.inl ⟨w,pl,hl.1⟩⟩⟩
  exact Classical.byContradiction fun hc=>by
   have:=(p1'.never h.off h.doff (by show J.D.cut<0;omega)).1
   exact hne this
 obtain⟨hf1,ho1⟩:=p1'.flat h1;have hnow1:J1.D.now=l1:=(p1'.laid h1).2
 have hC1:ImC n l1 w pl seq (J.last+1) B:=by rw[←hnow1];exact p1'.isIn.now
 have hok1:=p1'.isIn.ok;have hI2:=hC1.write hr (by omega) hs1;obtain⟨m,hm⟩:∃m,m=Xk (J.last+1) zs.length (seq+1):=⟨_,rfl⟩;have hml:m.length=128:=by rw[hm];exact Xh _ _ _
 rw[←hm] at hI2;have hm2:(J.last+1) % 2<n:=by omega
 have p2:=phase (P:=fun l=>l=l1∨l=Zam l1 ((J.last+1) % 2) m) (J:=J1) (hf1.isIn hok1 (.inl hnow1)) (.inl h1) [((J.last+1) % 2,m)] (fun x hx=>by
  rw[List.mem_singleton.1 hx];refine⟨by rw[hn1,h.hn];exact hm2,hml,fun l hl=>?_⟩;rcases hl with rfl | rfl
  ·exact .inr rfl
  ·right
   exact putS_twice hll1 hml hm2) (by show J1.D.ops+1+1≤1048576;omega)
 rw[hnow1] at p2;have e2:(J1.lays [((J.last+1) % 2,m)]).flush=(J1.lay ((J.last+1) % 2) m).flush:=rfl
 rw[e2] at p2;rw[show layL l1 [((J.last+1) % 2,m)]=Zam l1 ((J.last+1) % 2) m from rfl] at p2
 rw[show ((J.last+1) % 2,m)::[]=[((J.last+1) % 2,m)] from rfl,List.length_singleton] at p2
 rw[h.hseq,←hm] at hJ;obtain⟨J2,hJ2⟩:∃J2,J2=(J1.lay ((J.last+1) % 2) m).flush:=⟨_,rfl⟩;rw[←hJ2] at p2 hJ;clear hJ2 e2;have hseq2:J2.seq=J.seq:=p2.seq.trans hseq1
 have hlast2:J2.last=J.last+1:=p2.last.trans hlast1;have hn2:J2.D.n=J.D.n:=p2.n.trans hn1;have hcut2:J2.D.cut=J.D.cut:=p2.cut.trans hcut1;have hops2:J2.D.ops≤J1.D.ops+(1+1):=p2.ops;rcases p2.off with h2 | h2
 case inr =>
  have hne:J2.off≠0:=by rw[h2];decide
  have e:J.writes zs ls=J2:=by
   rw[hJ];have e2:J2.spread (Ys (J.last+1) zs ls)=J2:=by rw[Jn.spread_lays,Jn.lays_off hne,Jn.flush_off hne]
   rw[e2];show (if J2.off=0 then _ else _)=_
   rw[if_neg hne]
  rw[e];refine⟨hn2,hcut2,by omega,hlast2,.inr ⟨h2,?_,_,p2.isIn,fun l hl=>?_⟩⟩
  ·exact Classical.byContradiction fun hc=>by have:=(p2.never h1 ho1 (by omega)).1;exact hne this
  ·rcases hl with rfl | rfl
   ·exact .inl ⟨w,pl,hC1.1⟩
   ·exact .inr ⟨_,_,hI2⟩
 obtain⟨hf2,ho2⟩:=p2.flat h2;have hnow2:J2.D.now=Zam l1 ((J.last+1) % 2) m:=(p2.laid h2).2
 have hok2:=p2.isIn.ok;have hs2:∀k (hk:k<(Ys (J.last+1) zs ls).length),sec J2.D.now (2+k)=(Ys (J.last+1) zs ls)[k]:=fun k hk=>by rw[hnow2,Xf hll1 hml hm2 (by omega) (by omega)];exact hs1 k hk
 rw[←hnow2] at hI2;have hFull:Full J2.D.now (J.last+1) zs.length:=fun k hk=>by rw[hs2 k (by omega),Zgg hlen k hk (by omega) (by omega),Zcx _ _ (by omega)]
 have hnoted:Zca J2.D.now zs.length=Ys (J.last+1) zs ls:=by have:=noted_fs (n:=n) hs2;rw[hflen] at this;exact this
 obtain⟨s1,s2⟩:=hI2.spread hFull (D:=J2.D) (by rw[hn2,h.hn]);rw[hnoted] at s1 s2;have hhl:(Zce J2.D (Ys (J.last+1) zs ls)).length=zs.length:=by simp[Zce,hflen]
 have p3:=phase (P:=fun l=>Im n l (J.last+1) zs.length (seq+1) (J.last+1) (Qi B zs ls) AllOk) (J:=J2) (hf2.isIn hok2 hI2) (.inl h2) (Zce J2.D (Ys (J.last+1) zs ls)) (fun x hx=>by
  obtain⟨a1,a2,a3⟩:=s1 x hx
  exact⟨by rw[hn2,h.hn];exact a1,a2,a3⟩) (by omega)
 rw[←Jn.spread_lays,hhl] at p3;obtain⟨J3,hJ3⟩:∃J3,J3=J2.spread (Ys (J.last+1) zs ls):=⟨_,rfl⟩;rw[←hJ3] at p3 hJ;have hJ':J.writes zs ls=if J3.off=0 then { J3 with seq:=seq+1 } else J3:=hJ
 have hlast3:J3.last=J.last+1:=p3.last.trans hlast2;have hn3:J3.D.n=J.D.n:=p3.n.trans hn2;have hcut3:J3.D.cut=J.D.cut:=p3.cut.trans hcut2;have hops3:J3.D.ops≤J2.D.ops+(zs.length+1):=p3.ops;clear hJ hJ3;rw[hJ'];rcases p3.off with h3 | h3
 ·rw[if_pos h3]
  obtain⟨hf3,ho3⟩:=p3.flat h3;have hnow3:=(p3.laid h3).2
  refine⟨hn3,hcut3,by show J3.D.ops≤_;omega,hlast3,.inl ⟨h3,⟨h3,ho3,hf3,p3.isIn.ok,by show J3.D.n=n;rw[hn3,h.hn],rfl,⟨J.last+1,zs.length,?_⟩,fun i hi _=>?_⟩⟩⟩
  ·show Im n J3.D.now _ _ _ J3.last _ _
   rw[hlast3];exact p3.isIn.now
  ·show HomeOk n J3.D.now _ _
   rw[hnow3];rcases s2 i hi with h4 | ⟨h4,_⟩
   ·exact h4
   ·exact absurd trivial h4
 ·have hne:J3.off≠0:=by rw[h3];decide
  rw[if_neg hne];refine⟨hn3,hcut3,by omega,hlast3,.inr ⟨h3,?_,_,p3.isIn,fun l hl=>.inr ⟨_,_,hl⟩⟩⟩;exact Classical.byContradiction fun hc=>by have:=(p3.never h2 ho2 (by omega)).1;exact hne this
end
section
open Go.RowKit
theorem Zbq {w pl:Nat} (seq:Int) (h:w<18446744073709551616):Zm (Xk w pl seq)=w:=Zcx _ _ h
theorem fplace_markF (w:Nat) {pl:Nat} (seq:Int) (h:pl<16777216):Zp (Xk w pl seq)=pl:=Zeh _ (by decide) h
theorem fkind_markF (w:Nat) {pl:Nat} (seq:Int) (h:pl<16777216):Zas (Xk w pl seq)=1:=fkind_mkF _ (by decide) h
theorem mseq_markF (w pl:Nat) {seq:Int} (h0:0≤seq) (h1:seq<9223372036854775808):mseq (Xk w pl seq)=seq:=by
 unfold mseq;have e:(Xy (Xk w pl seq)).take 8=le 8 (seq % 18446744073709551616).toNat:=by rw[Xk,fbytes_mkF,Zel,List.take_append_of_le_length (by simp[Yh]),List.take_take,List.take_of_length_le (by simp[Yh])]
 rw[e,leR_le 8 _ (by omega),toI64,if_pos (by omega)];omega
theorem Dk.markOk_of {D:Dk} {i w pl:Nat} {seq:Int} (h:sec D.now i=Xk w pl seq) (h1:w<18446744073709551616) (h2:pl<16777216) (h3:w % 2=i) (h4:pl≤D.blocks):D.markOk i=true:=by unfold Dk.markOk;rw[h,fkind_markF _ _ h2,Zbq _ h1,fplace_markF _ _ h2,Xk,fright_mkF];simp[h3,h4]
theorem Im.marks {n:Nat} {l:List UInt8} {w pl:Nat} {seq:Int} {top:Nat} {B:List (List UInt8)} {ok:Nat→Prop} {D:Dk} (h:Im n D.now w pl seq top B ok) (hn:D.n=n) :
  D.markOk 0=true∧D.markOk 1=true∧D.mark=Xk w pl seq:=by
 obtain⟨w',pl',s',e,a1,a2,a3⟩:=h.old;have hm:=h.mark
 have hlo:=h.lo;have hhi:=h.hi;have hwt:=h.wt;have htt:=h.tt;have hfew:=h.few;have hb:D.blocks=(n - 2) / 2:=by rw[Dk.blocks,hn]
 rcases Nat.mod_two_eq_zero_or_one w with h0 | h0
 ·rw[h0] at hm
  rw[show (w+1) % 2=1 by omega] at e
  refine⟨Dk.markOk_of hm (by omega) (by omega) h0 (by omega),Dk.markOk_of e (by omega) (by omega) (by omega) (by omega),?_⟩;rw[Dk.mark,hm,e,Zbq _ (by omega),Zbq _ (by omega),if_neg (by omega)]
 ·rw[h0] at hm
  rw[show (w+1) % 2=0 by omega] at e
  refine⟨Dk.markOk_of e (by omega) (by omega) (by omega) (by omega),Dk.markOk_of hm (by omega) (by omega) h0 (by omega),?_⟩;rw[Dk.mark,hm,e,Zbq _ (by omega),Zbq _ (by omega),if_pos (by omega)]
theorem Dk.lastTo_le {D:Dk} {m:List UInt8} {top:Nat} (h0:Zm m≤top):∀k,(∀j,j<k→Zm (sec D.now (2+j))≤top)→D.lastTo m k≤top
 | 0,_=>h0
 | k+1,h=>Nat.max_le.2 ⟨Dk.lastTo_le h0 k fun j hj=>h j (by omega),h k (by omega)⟩
theorem Dk.lastTo_ge {D:Dk} {m:List UInt8}:∀k,Zm m≤D.lastTo m k∧∀j,j<k→Zm (sec D.now (2+j))≤D.lastTo m k
 | 0=>⟨Nat.le_refl _,fun j hj=>by omega⟩
 | k+1=>by
  obtain⟨h1,h2⟩:=Dk.lastTo_ge (D:=D) (m:=m) k;refine⟨Nat.le_trans h1 (Nat.le_max_left _ _),fun j hj=>?_⟩;by_cases he:j=k
  ·subst he;exact Nat.le_max_right _ _
  ·exact Nat.le_trans (h2 j (by omega)) (Nat.le_max_left _ _)
theorem Dk.againTo_eq {D:Dk} {m:List UInt8}:∀k,D.againTo m k=((List.range (min k (Zp m))).filter fun j=>decide (Zm (sec D.now (2+j))=Zm m)).map fun j=>sec D.now (2+j)
 | 0=>by simp[Dk.againTo]
 | k+1=>by
  rw[Dk.againTo,Dk.againTo_eq k];by_cases hk:k<Zp m
  ·rw[show min (k+1) (Zp m)=min k (Zp m)+1 by omega,List.range_succ,List.filter_append,List.map_append,show min k (Zp m)=k by omega]
   by_cases he:Zm (sec D.now (2+k))=Zm m
   ·rw[if_pos ⟨hk,he⟩];simp[he]
   ·rw[if_neg fun h=>he h.2];simp[he]
  ·rw[if_neg fun h=>hk h.1,show min (k+1) (Zp m)=min k (Zp m) by omega]
theorem Im.retop {n:Nat} {l:List UInt8} {w pl:Nat} {seq:Int} {top t:Nat} {B:List (List UInt8)} {ok:Nat→Prop} (h:Im n l w pl seq top B ok) (h1:w≤t) (h2:∀k,k<(n - 2) / 2→Zm (sec l (2+k))≤t) (h3:t≤top):Im n l w pl seq t B ok :=
 ⟨h.len,h.lo,h.hi,h.rows,h.each,h1,Nat.lt_of_le_of_lt h3 h.tt,h.s0,h.s1,h.few,h.mark,h.old,fun k hk=>by
  obtain⟨v,q,b,e,a1,a2⟩:=h.notes k hk;have:=h2 k hk
  rw[e,Zcx _ _ (by have:=h.tt;omega)] at this
  exact⟨v,q,b,e,this,a2⟩,h.full,h.stand⟩
structure Opened (n:Nat) (D:Dk) (J:Jn) (c:Int) (seq:Int) (top:Nat) (B:List (List UInt8)) (ok:Nat→Prop):Prop where
 eq:D.openJ=(c,J)
 hn:J.D.n=D.n
 cut:J.D.cut=D.cut
 ops:J.D.ops≤D.ops+((n - 2) / 2+1)
 last:J.last≤top
 ends:(c=0∧Live n J seq B ok∧∀i,i<(n - 2) / 2→HomeOk n J.D.now B i∨sec J.D.now (2+(n - 2) / 2+i)=sec D.now (2+(n - 2) / 2+i))∨(c=43∧0≤D.cut∧∃w pl t,t≤top∧J.D.In fun l=>Im n l w pl seq t B ok)
theorem open_im {n:Nat} {D:Dk} {w pl:Nat} {seq:Int} {top:Nat} {B:List (List UInt8)} {ok:Nat→Prop} (h:Im n D.now w pl seq top B ok) (hf:D.Flat) (hok:D.Ok) (hn:D.n=n) (hoff:D.off=false) (hb:D.ops+((n - 2) / 2+1)≤1048576) :
  ∃c J,Opened n D J c seq top B ok:=by
 obtain⟨m0,m1,hm⟩:=h.marks (l:=D.now) hn;have hlo:=h.lo
 have hhi:=h.hi;have hwt:=h.wt;have htt:=h.tt;have hfew:=h.few;have hs0:=h.s0;have hs1:=h.s1;have hbl:D.blocks=(n - 2) / 2:=by rw[Dk.blocks,hn]
 have hfw:Zm D.mark=w:=by rw[hm,Zbq _ (by omega)]
 have hfp:Zp D.mark=pl:=by rw[hm,fplace_markF _ _ (by omega)]
 have hseq:mseq D.mark=seq:=by rw[hm,mseq_markF _ _ hs0 (by omega)]
 obtain⟨g1,g2⟩:=Dk.lastTo_ge (D:=D) (m:=D.mark) D.blocks;have g3:D.lastTo D.mark D.blocks≤top:=Dk.lastTo_le (by omega) _ fun j hj=>(h.note_of (by omega)).2.2.1
 rw[hfw] at g1;have hnote:¬∃i,i<D.blocks∧D.noteOk i=false:=by rintro⟨i,hi,e⟩;obtain⟨a1,a2,a3,a4⟩:=h.note_of (k:=i) (by omega);rw[Dk.noteOk,a1,a2,hbl] at e;simp at e;omega
 have hIm:Im n D.now w pl seq (D.lastTo D.mark D.blocks) B ok:=h.retop g1 (fun k hk=>g2 k (by omega)) g3
 have e1:D.openJ=if (D.againTo D.mark D.blocks).length=Zp D.mark∧0<(D.againTo D.mark D.blocks).length
  then ((D.found.spread (D.againTo D.mark D.blocks)).off,D.found.spread (D.againTo D.mark D.blocks)) else (0,D.found):=by
  rw[Dk.openJ,if_neg (by omega),if_neg (by simp[hoff]),if_neg (by simp[m0]),if_neg (by simp[m0,m1]),if_neg hnote]
 have hag:=Dk.againTo_eq (D:=D) (m:=D.mark) D.blocks;rw[hfw,hfp,show min D.blocks pl=pl by omega] at hag
 by_cases hF:Full D.now w pl∧0<pl
 ·obtain⟨hF,hp⟩:=hF
  have hag2:D.againTo D.mark D.blocks=Zca D.now pl:=by rw[hag,Zca,List.filter_eq_self.2 fun k hk=>by simpa using hF k (List.mem_range.1 hk)]
  have hnl:(Zca D.now pl).length=pl:=by simp[Zca]
  rw[hag2,hnl,hfp,if_pos ⟨rfl,hp⟩] at e1;obtain⟨s1,s2⟩:=hIm.spread hF hn
  have p:=phase (P:=fun l=>Im n l w pl seq (D.lastTo D.mark D.blocks) B ok) (J:=D.found) (hf.isIn hok hIm) (.inl rfl) (Zce D (Zca D.now pl)) (fun x hx=>by
   obtain⟨a1,a2,a3⟩:=s1 x hx
   exact⟨by show x.1<D.n;omega,a2,a3⟩) (by show D.ops+(Zce D (Zca D.now pl)).length+1≤_;rw[Zce,List.length_map,hnl];omega)
  have hhl:(Zce D (Zca D.now pl)).length=pl:=by rw[Zce,List.length_map,hnl]
  rw[show Zce D (Zca D.now pl)=Zce D.found.D (Zca D.now pl) from rfl,←Jn.spread_lays] at p
  rw[show (Zce D.found.D (Zca D.now pl)).length=pl from hhl] at p
  obtain⟨J,hJ⟩:∃J,J=D.found.spread (Zca D.now pl):=⟨_,rfl⟩;rw[←hJ] at p e1;have hlast:J.last=D.lastTo D.mark D.blocks:=p.last
  refine⟨J.off,J,e1,p.n,p.cut,?_,by rw[hlast];exact g3,?_⟩
  ·have:J.D.ops≤D.ops+(pl+1):=p.ops;omega
  ·rcases p.off with h0 | h0
   ·obtain⟨f1,f2⟩:=p.flat h0
    have hnow:=(p.laid h0).2;refine .inl ⟨h0,⟨h0,f2,f1,p.isIn.ok,p.n.trans hn,p.seq.trans hseq,⟨w,pl,by rw[hlast];exact p.isIn.now⟩,fun i hi hi2=>?_⟩,fun i hi=>?_⟩
    ·rw[hnow]
     rcases s2 i hi with h4 | ⟨h4,_⟩
     ·exact h4
     ·exact absurd hi2 h4
    ·rw[hnow]
     rcases s2 i hi with h4 | ⟨_,h4⟩
     ·exact .inl h4
     ·exact .inr h4
   ·refine .inr ⟨h0,?_,w,pl,_,g3,p.isIn⟩
    exact Classical.byContradiction fun hc=>by
     have:=(p.never rfl hoff (by show D.cut<0;omega)).1
     rw[h0] at this;exact absurd this (by decide)
 ·have hne:¬((D.againTo D.mark D.blocks).length=Zp D.mark∧0<(D.againTo D.mark D.blocks).length):=by
   rintro⟨a1,a2⟩;refine hF ⟨fun k hk=>?_,by omega⟩;rw[hag,List.length_map,hfp] at a1;have:(List.filter (fun j=>decide (Zm (sec D.now (2+j))=w)) (List.range pl)).length=(List.range pl).length:=by rw[a1,List.length_range]
   have:=(List.length_filter_eq_length_iff.1 this) k (List.mem_range.2 hk);simpa using this
  rw[if_neg hne] at e1;refine⟨0,D.found,e1,rfl,rfl,by show D.ops≤_;omega,g3,.inl ⟨rfl,⟨rfl,hoff,hf,hok,hn,hseq,⟨w,pl,hIm⟩,fun i hi hi2=>?_⟩,fun i hi=>.inr rfl⟩⟩
  rcases h.stand i hi hi2 with h4 | ⟨h4,k,hk,_⟩
  ·exact h4
  ·exact absurd ⟨h4,by omega⟩ hF
theorem read_live {n:Nat} {J:Jn} {seq:Int} {B:List (List UInt8)} {ok:Nat→Prop} (h:Live n J seq B ok) {i:Nat} (hi:i<(n - 2) / 2) (hk:ok i) {b:List UInt8} (hb:B[i]?=some b):J.read (i:Int)=(b,0,J):=by
 obtain⟨w,pl,him⟩:=h.im;have hhi:=him.hi
 have hbl:J.D.blocks=(n - 2) / 2:=by rw[Dk.blocks,h.hn]
 obtain⟨v,b',a1,a2,a3⟩:=h.home i hi hk;rw[hb] at a2;obtain rfl:=Option.some.inj a2;have e:sec J.D.now (J.D.home (i:Int).toNat)=mkF v (3*16777216+i) b:=by rw[Dk.home,hbl,Int.toNat_natCast];exact a3
 have h112:b.length=112:=him.each b (List.mem_of_getElem? hb);rw[Jn.read,if_neg (by simp[h.off]),if_neg (by rw[hbl];simp;omega),if_neg (by simp[h.doff]),e,fright_mkF,fkind_mkF _ (by decide) (by omega),Zeh _ (by decide) (by omega),fbytes_mkF,pad112_id h112];simp
end
section
open Go.RowKit
def fmtX (D:Dk):Nat→List (Nat × List UInt8)
 | 0=>[]
 | i+1=>fmtX D i++[(2+i,mkF 0 (2*16777216+0) []),(D.home i,mkF 0 (3*16777216+i) [])]
theorem Jn.fmtTo_lays (J:Jn) (k:Nat):J.fmtTo k=J.lays (fmtX J.D k):=by
 induction k with
 | zero=>rfl
 | succ k ih =>
  rw[Jn.fmtTo,fmtX,ih];simp[Jn.lays]
theorem Zfk {D:Dk} {x:Nat × List UInt8}:∀m,x∈fmtX D m↔∃i,i<m∧(x=(2+i,mkF 0 (2*16777216+0) [])∨x=(D.home i,mkF 0 (3*16777216+i) []))
 | 0=>by simp[fmtX]
 | m+1=>by
  rw[fmtX,List.mem_append,Zfk m];simp only[List.mem_cons,List.not_mem_nil,or_false];constructor
  ·rintro(⟨i,hi,h⟩ | h)
   ·exact⟨i,by omega,h⟩
   ·exact⟨m,by omega,h⟩
  ·rintro⟨i,hi,h⟩
   by_cases he:i=m
   ·subst he;exact .inr h
   ·exact .inl ⟨i,by omega,h⟩
theorem fmtX_length (D:Dk) (m:Nat):(fmtX D m).length=2*m:=by
 induction m with
 | zero=>rfl
 | succ m ih=>rw[fmtX,List.length_append,ih];simp;omega
theorem mkF_zeros (w kp:Nat):mkF w kp []=mkF w kp (List.replicate 112 0):=by
 have:Zel []=Zel (List.replicate 112 0):=by decide
 rw[mkF,mkF,fbody,fbody,this]
def zeroB (n:Nat):List (List UInt8):=List.replicate ((n - 2) / 2) (List.replicate 112 0)
structure Formed (n:Nat) (D D':Dk):Prop where
 eq:D.format=(0,D')
 hn:D'.n=n
 ok:D'.Ok
 flat:D'.Flat
 off:D'.off=false
 cut:D'.cut=D.cut
 ops:D'.ops≤D.ops+(n+4)
 im:Im n D'.now 1 0 0 1 (zeroB n) AllOk
theorem format_im {n:Nat} {D:Dk} (hok:D.Ok) (hn:D.n=n) (h32:32≤n) (hoff:D.off=false) (hcut:D.cut<0) (hflat:D.Flat) (hb:D.ops+(n+4)≤1048576):∃D',Formed n D D':=by
 have hnm:=hok.nm;have hbl:D.blocks=(n - 2) / 2:=by rw[Dk.blocks,hn]
 have hhm:∀i,D.home i=2+(n - 2) / 2+i:=fun i=>by rw[Dk.home,hbl]
 obtain⟨J,hJ⟩:∃J:Jn,J=⟨D,0,0,0⟩:=⟨_,rfl⟩;have hJD:J.D=D:=by rw[hJ]
 have hJ0:J.off=0:=by rw[hJ]
 have hx:∀x∈fmtX D D.blocks,x.1<n∧x.2.length=128:=fun x hx=>by
  obtain⟨i,hi,rfl | rfl⟩:=(Zfk _).1 hx
  ·exact⟨by show 2+i<n;omega,Xd _ _ _⟩
  ·exact⟨by show D.home i<n;rw[hhm];omega,Xd _ _ _⟩
 have p1:=phase (P:=fun _=>True) (J:=J) (by rw[hJD];exact hflat.isIn hok trivial) (.inl hJ0) (fmtX D D.blocks) (fun x h=>⟨by rw[hJD,hn];exact(hx x h).1,(hx x h).2,fun _ _=>trivial⟩) (by rw[hJD,fmtX_length];omega);rw[fmtX_length,←hJD,←Jn.fmtTo_lays,hJD] at p1;obtain⟨J1,hJ1⟩:∃J1,J1=(J.fmtTo D.blocks).flush:=⟨_,rfl⟩;rw[←hJ1] at p1;obtain⟨o1,o2⟩:=p1.never hJ0 (by rw[hJD];exact hoff) (by rw[hJD];exact hcut);obtain⟨f1,f2⟩:=p1.flat o1;have now1:=(p1.laid o1).2;have hn1:J1.D.n=n:=by rw[p1.n,hJD,hn]
 have hops1:J1.D.ops≤D.ops+(2*D.blocks+1):=by have:=p1.ops;rw[hJD] at this;exact this
 have hcut1:J1.D.cut=D.cut:=by rw[p1.cut,hJD]
 have p2:=phase (P:=fun _=>True) (J:=J1) (f1.isIn p1.isIn.ok trivial) (.inl o1) [(0,Xk 0 0 0),(1,Xk 1 0 0)] (fun x h=>by
  simp only[List.mem_cons,List.not_mem_nil,or_false] at h;rcases h with rfl | rfl
  ·exact⟨by show 0<J1.D.n;omega,Xh _ _ _,fun _ _=>trivial⟩
  ·exact⟨by show 1<J1.D.n;omega,Xh _ _ _,fun _ _=>trivial⟩) (by show J1.D.ops+2+1≤_;omega)
 rw[show J1.lays [(0,Xk 0 0 0),(1,Xk 1 0 0)]=J1.fmtMarks 2 from rfl] at p2
 obtain⟨J2,hJ2⟩:∃J2,J2=(J1.fmtMarks 2).flush:=⟨_,rfl⟩;rw[←hJ2] at p2;obtain⟨q1,q2⟩:=p2.never o1 o2 (by rw[hcut1];exact hcut);obtain⟨g1,g2⟩:=p2.flat q1;have now2:=(p2.laid q1).2
 have hops2:J2.D.ops≤J1.D.ops+(2+1):=p2.ops
 have e:D.format=(0,J2.D):=by
  have:Jn.format ⟨D,0,0,0⟩=J2:=by rw[hJ2,hJ1,←hJ,Jn.format,hJD]
  rw[Dk.format,if_neg (by omega),this,q1]
 have hl1:J1.D.now.length=n*128:=by rw[now1];exact Zdm _ _ (by rw[hok.now,hn]) hx
 have hl2:J2.D.now.length=n*128:=by
  rw[now2];refine Zdm _ _ hl1 fun x h=>?_;simp only[List.mem_cons,List.not_mem_nil,or_false] at h;rcases h with rfl | rfl
  ·exact⟨by show 0<n;omega,Xh _ _ _⟩
  ·exact⟨by show 1<n;omega,Xh _ _ _⟩
 have hp0:(Zam J1.D.now 0 (Xk 0 0 0)).length=n*128:=Qn hl1 (Xh _ _ _) (by omega);have now2':J2.D.now=Zam (Zam J1.D.now 0 (Xk 0 0 0)) 1 (Xk 1 0 0):=now2;have hs1:sec J2.D.now 1=Xk 1 0 0:=by rw[now2'];exact Qp hp0 (Xh _ _ _) (by omega)
 have hs0:sec J2.D.now 0=Xk 0 0 0:=by rw[now2',Xf hp0 (Xh _ _ _) (by omega) (by omega) (by omega)];exact Qp hl1 (Xh _ _ _) (by omega)
 have hso:∀k,2≤k→k<n→sec J2.D.now k=sec (layL D.now (fmtX D D.blocks)) k:=fun k h1 h2=>by rw[now2',Xf hp0 (Xh _ _ _) (by omega) (by omega) (by omega),Xf hl1 (Xh _ _ _) (by omega) (by omega) (by omega),now1]
 have hnote:∀k,k<(n - 2) / 2→sec J2.D.now (2+k)=mkF 0 (2*16777216+0) []:=fun k hk=>by
  rw[hso _ (by omega) (by omega)];rcases sec_layL (n:=n) (i:=2+k) (by omega) (fmtX D D.blocks) D.now (by rw[hok.now,hn]) hx with ⟨h1,_⟩ | ⟨x,h1,h2,h3⟩
  ·exact absurd rfl (h1 (2+k,mkF 0 (2*16777216+0) []) ((Zfk _).2 ⟨k,by omega,.inl rfl⟩))
  ·rw[h3]
   obtain⟨i,hi,rfl | rfl⟩:=(Zfk _).1 h1
   ·rfl
   ·have:D.home i=2+k:=h2;rw[hhm] at this;omega
 have hhome:∀k,k<(n - 2) / 2→sec J2.D.now (2+(n - 2) / 2+k)=mkF 0 (3*16777216+k) []:=fun k hk=>by
  rw[hso _ (by omega) (by omega)];rcases sec_layL (n:=n) (i:=2+(n - 2) / 2+k) (by omega) (fmtX D D.blocks) D.now (by rw[hok.now,hn]) hx with ⟨h1,_⟩ | ⟨x,h1,h2,h3⟩
  ·exact absurd (hhm k) (h1 (D.home k,mkF 0 (3*16777216+k) []) ((Zfk _).2 ⟨k,by omega,.inr rfl⟩))
  ·rw[h3]
   obtain⟨i,hi,rfl | rfl⟩:=(Zfk _).1 h1
   ·have:2+i=2+(n - 2) / 2+k:=h2;omega
   ·have:D.home i=2+(n - 2) / 2+k:=h2;rw[hhm] at this;rw[show i=k by omega]
 refine⟨J2.D,e,by rw[p2.n,hn1],p2.isIn.ok,g1,g2,by rw[p2.cut,hcut1],by omega,?_⟩;refine⟨hl2,h32,by omega,by simp[zeroB],fun b hb=>?_,Nat.le_refl _,by omega,by omega,by omega,by omega,hs1,⟨0,0,0,hs0,by omega,by omega,by omega⟩,fun k hk=>⟨0,0,[],hnote k hk,by omega,by omega⟩,fun _ k hk=>by omega,fun i hi _=>.inl ⟨0,List.replicate 112 0,by omega,?_,?_⟩⟩
 ·rw[List.eq_of_mem_replicate hb];rfl
 ·rw[zeroB,List.getElem?_replicate,if_pos hi]
 ·rw[hhome i hi,mkF_zeros]
end
section
open Go.RowKit
def Dk.new (n:Nat):Dk:=⟨n,List.replicate (n*128) 0,List.replicate (n*128) 0,[],0,-1,false⟩
theorem Dk.new_ok {n:Nat} (h1:1≤n) (h2:n≤16384):(Dk.new n).Ok :=
 ⟨h1,h2,by simp[Dk.new],by simp[Dk.new],fun x hx=>(by cases hx),Nat.le_refl _,by simp[Dk.new],by simp[Dk.new],by simp[Dk.new]⟩
theorem run_make_sects (n:Nat) (hn:n≤16384):∃C:Array Value,C.toList=bv (List.replicate (n*128) 0) ∧
  ∀w:World,(Instr.makeSlice 119 (.int .i64 (n:Int)) (.int .i64 (n:Int))).run Tryz.prog w=.ok (.slice (some ⟨w.heap.size,0,none⟩) n n) (w.alloc (.cells C 177)):=by
 obtain⟨i,hi,hz,hs,hb⟩:∃i,Tryz.prog.info? 177=some i∧i.zero=some (.agg (List.replicate 128 (.int .u8 0)).toArray)∧i.size=128∧i.bytes=128:=by
  have h:(Tryz.prog.info? 177).map (fun i=>(i.zero,i.size,i.bytes))=some (some (.agg (List.replicate 128 (.int .u8 0)).toArray),128,128):=by kernel_rfl
  cases hq:Tryz.prog.info? 177 with
  | none=>rw[hq] at h;cases h
  | some i =>
   rw[hq,Option.map_some,Option.some.injEq,Prod.mk.injEq,Prod.mk.injEq] at h;exact⟨i,rfl,h⟩
 refine⟨madeCells (List.replicate 128 (.int .u8 0)).toArray (n*128),?_,fun w=>?_⟩
 ·apply List.ext_getElem?
  intro j;have hget:∀x:List UInt8,∀i:Nat,(bv x)[i]?=(x[i]?).map fun b=>Value.int .u8 (b.toNat:Int):=fun x i=>by simp[bv]
  rw[hget];by_cases hj:j<n*128
  ·have hm:j % 128<128:=Nat.mod_lt _ (by omega)
   have hz:∀(Z:Array Value),Z.toList=List.replicate 128 (Value.int .u8 0)→(madeCells Z (n*128)).toList[j]?=some (.int .u8 0):=by
    intro Z hZ;have hs:Z.size=128:=by rw[←Array.length_toList,hZ,List.length_replicate]
    have hg:Z[j % 128]! = .int .u8 0:=by
     have e:Z[j % 128]?=some (.int .u8 0):=by rw[←Array.getElem?_toList,hZ,List.getElem?_replicate,if_pos hm]
     rw[getElem!_def,e]
    simp only[madeCells,Array.toList_map,Array.toList_range,List.getElem?_map,List.getElem?_range hj,Option.map_some,hs,hg]
   rw[hz _ (by rw[List.toList_toArray]),List.getElem?_replicate,if_pos hj];rfl
  ·rw[List.getElem?_eq_none (by simp[madeCells];omega),List.getElem?_eq_none (by simp;omega)];rfl
 ·have:=run_make w 119 177 i _ Tryz.underlying119 hi hz .i64 .i64 (n:Int) (n:Int) (by omega) (by omega) (by rw[hb];omega) (by omega);rw[this,hs,Int.toNat_natCast];rfl
theorem new_at {w:World} {p S N M n:Nat} {C:Array Value} (hC:C.toList=bv (List.replicate (n*128) 0)) (h1:1≤n) (h2:n≤16384) (hf:Ft.Ok ⟨p,S,N,M,n,n⟩)
  (hp:w.heap[p]?=some (.cells #[.slice (some ⟨S,0,none⟩) n n,.slice (some ⟨N,0,none⟩) n n,.map (some M),.int .i64 0,.int .i64 (-1),.bool false] 122 (0,0)))
  (hS:w.heap[S]?=some (.cells C 177 (0,0))) (hN:w.heap[N]?=some (.cells C 177 (0,0))) (hM:w.heap[M]?=some (.map #[] 0)):Xv w ⟨p,S,N,M,n,n⟩ (Dk.new n):=by
 have hsz:C.size=n*128:=by rw[←Array.length_toList,hC,Zl,List.length_replicate]
 have hm:n≤maxLen:=by simp[maxLen];omega
 have hs:∀g,w.heap[g]?=some (.cells C 177 (0,0))→Zaa w g n n (List.replicate (n*128) 0):=fun g hg =>
  ⟨C,hg,Nat.le_refl _,hm,hsz,by simp,by rw[hC,List.take_of_length_le (by rw[Zl];exact Nat.le_refl _)]⟩
 exact⟨hf,Dk.new_ok h1 h2,hp,hs S hS,hs N hN,⟨[],0,hM,rfl,fun i hi=>by simp[Dk.new] at hi⟩⟩
theorem Zbd (w:World) (a b c d:Obj):((((w.alloc a).alloc b).alloc c).alloc d).drew.heap[w.heap.size]?=some a∧((((w.alloc a).alloc b).alloc c).alloc d).drew.heap[w.heap.size+1]?=some b ∧
  ((((w.alloc a).alloc b).alloc c).alloc d).drew.heap[w.heap.size+1+1]?=some c∧((((w.alloc a).alloc b).alloc c).alloc d).drew.heap[w.heap.size+1+1+1]?=some d:=by
 show ((((w.heap.push a).push b).push c).push d)[_]?=_∧((((w.heap.push a).push b).push c).push d)[_]?=_∧((((w.heap.push a).push b).push c).push d)[_]?=_∧((((w.heap.push a).push b).push c).push d)[_]?=_
 have push_old:∀(H:Array Obj) (x:Obj) (k:Nat),k<H.size→(H.push x)[k]?=H[k]?:=fun H x k hk=>by rw[Array.getElem?_push,if_neg (by omega)]
 have push_new:∀(H:Array Obj) (x:Obj) (k:Nat),k=H.size→(H.push x)[k]?=some x:=fun H x k hk=>by rw[Array.getElem?_push,if_pos hk]
 refine⟨?_,?_,?_,?_⟩
 ·rw[push_old _ _ _ (by simp only[Array.size_push];omega),push_old _ _ _ (by simp only[Array.size_push];omega),push_old _ _ _ (by simp only[Array.size_push];omega),push_new _ _ _ rfl]
 ·rw[push_old _ _ _ (by simp only[Array.size_push];omega),push_old _ _ _ (by simp only[Array.size_push];omega),push_new _ _ _ (by simp only[Array.size_push])]
 ·rw[push_old _ _ _ (by simp only[Array.size_push];omega),push_new _ _ _ (by simp only[Array.size_push])]
 ·rw[push_new _ _ _ (by simp only[Array.size_push])]
theorem below4 (w:World) (a b c d:Obj):Below w.heap.size w ((((w.alloc a).alloc b).alloc c).alloc d).drew:=by have e1:(w.alloc a).heap.size=w.heap.size+1:=Array.size_push ..;have e2:((w.alloc a).alloc b).heap.size=w.heap.size+1+1:=(Array.size_push ..).trans (by rw[e1]);have e3:(((w.alloc a).alloc b).alloc c).heap.size=w.heap.size+1+1+1:=(Array.size_push ..).trans (by rw[e2]);exact(((((Below.refl _ _).alloc (Nat.le_refl _) _).alloc (by omega) _).alloc (by omega) _).alloc (by omega) _).drew
def Ft.new (F:Ft) (w:World):Prop:=∀k,F.has k→w.heap.size≤k
theorem new4 (w:World) (a b c x y:Nat) (ha:w.heap.size≤a) (hb:w.heap.size≤b) (hc:w.heap.size≤c):Ft.new ⟨w.heap.size+1+1+1,a,b,c,x,y⟩ w:=by
 rintro k (rfl | rfl | rfl | rfl)
 ·show _≤w.heap.size+1+1+1
  omega
 ·exact ha
 ·exact hb
 ·exact hc
theorem new_some (w:World) (n:Nat) (hn:1≤n∧n≤16384) :
  Calls Tryz.prog 32 #[.int .i64 (n:Int)] w fun e w'=>∃F:Ft,e=.returned (.tuple #[F.ptr,.int .i64 0])∧Xv w' F (Dk.new n)∧F.new w∧Below w.heap.size w w':=by
 obtain⟨C,hC,hmk⟩:=run_make_sects n hn.2;have d0:decide ((n:Int)<1)=false:=by simp;omega
 have d1:decide ((16384:Int)<(n:Int))=false:=by simp;omega
 have hmm:=fun w=>run_makeMap (P:=Tryz.prog) 120 w;obtain⟨g1,g2⟩:=hn;go_enter Tryz.func32,Tryz.ntmps32;go_wp2;go_region
 all_goals go_wp2
 all_goals go_ret2
 all_goals first
  | (exact⟨⟨w.heap.size+1+1+1,w.heap.size,w.heap.size+1,w.heap.size+1+1,n,n⟩,rfl,new_at hC g1 g2 ⟨(by simp only[ne_eq];omega),(by simp only[ne_eq];omega),(by simp only[ne_eq];omega),(by simp only[ne_eq];omega),(by simp only[ne_eq];omega),(by simp only[ne_eq];omega)⟩ (Zbd w _ _ _ _).2.2.2 (Zbd w _ _ _ _).1 (Zbd w _ _ _ _).2.1 (Zbd w _ _ _ _).2.2.1,new4 _ _ _ _ _ _ (by omega) (by omega) (by omega),below4 w _ _ _ _⟩)
  | (exact⟨⟨w.heap.size+1+1+1,w.heap.size,w.heap.size+1+1,w.heap.size+1,n,n⟩,rfl,new_at hC g1 g2 ⟨(by simp only[ne_eq];omega),(by simp only[ne_eq];omega),(by simp only[ne_eq];omega),(by simp only[ne_eq];omega),(by simp only[ne_eq];omega),(by simp only[ne_eq];omega)⟩ (Zbd w _ _ _ _).2.2.2 (Zbd w _ _ _ _).1 (Zbd w _ _ _ _).2.2.1 (Zbd w _ _ _ _).2.1,new4 _ _ _ _ _ _ (by omega) (by omega) (by omega),below4 w _ _ _ _⟩)
  | (exact⟨⟨w.heap.size+1+1+1,w.heap.size+1,w.heap.size,w.heap.size+1+1,n,n⟩,rfl,new_at hC g1 g2 ⟨(by simp only[ne_eq];omega),(by simp only[ne_eq];omega),(by simp only[ne_eq];omega),(by simp only[ne_eq];omega),(by simp only[ne_eq];omega),(by simp only[ne_eq];omega)⟩ (Zbd w _ _ _ _).2.2.2 (Zbd w _ _ _ _).2.1 (Zbd w _ _ _ _).1 (Zbd w _ _ _ _).2.2.1,new4 _ _ _ _ _ _ (by omega) (by omega) (by omega),below4 w _ _ _ _⟩)
  | (exact⟨⟨w.heap.size+1+1+1,w.heap.size+1,w.heap.size+1+1,w.heap.size,n,n⟩,rfl,new_at hC g1 g2 ⟨(by simp only[ne_eq];omega),(by simp only[ne_eq];omega),(by simp only[ne_eq];omega),(by simp only[ne_eq];omega),(by simp only[ne_eq];omega),(by simp only[ne_eq];omega)⟩ (Zbd w _ _ _ _).2.2.2 (Zbd w _ _ _ _).2.1 (Zbd w _ _ _ _).2.2.1 (Zbd w _ _ _ _).1,new4 _ _ _ _ _ _ (by omega) (by omega) (by omega),below4 w _ _ _ _⟩)
  | (exact⟨⟨w.heap.size+1+1+1,w.heap.size+1+1,w.heap.size,w.heap.size+1,n,n⟩,rfl,new_at hC g1 g2 ⟨(by simp only[ne_eq];omega),(by simp only[ne_eq];omega),(by simp only[ne_eq];omega),(by simp only[ne_eq];omega),(by simp only[ne_eq];omega),(by simp only[ne_eq];omega)⟩ (Zbd w _ _ _ _).2.2.2 (Zbd w _ _ _ _).2.2.1 (Zbd w _ _ _ _).1 (Zbd w _ _ _ _).2.1,new4 _ _ _ _ _ _ (by omega) (by omega) (by omega),below4 w _ _ _ _⟩)
  | (exact⟨⟨w.heap.size+1+1+1,w.heap.size+1+1,w.heap.size+1,w.heap.size,n,n⟩,rfl,new_at hC g1 g2 ⟨(by simp only[ne_eq];omega),(by simp only[ne_eq];omega),(by simp only[ne_eq];omega),(by simp only[ne_eq];omega),(by simp only[ne_eq];omega),(by simp only[ne_eq];omega)⟩ (Zbd w _ _ _ _).2.2.2 (Zbd w _ _ _ _).2.2.1 (Zbd w _ _ _ _).2.1 (Zbd w _ _ _ _).1,new4 _ _ _ _ _ _ (by omega) (by omega) (by omega),below4 w _ _ _ _⟩)
end
section
open Go.RowKit
structure JB (B:Nat) (w0 w:World) (F:Ft) (p:Nat) (J:Jn):Prop where
 jat:JAt w F p J
 nib:Nib w
 below:Below B w0 w
 own:∀k,JT F p k→B≤k
 base:B≤w.heap.size
theorem JB.turn {B:Nat} {w0 w w':World} {F:Ft} {p:Nat} {J J':Jn} (h:JB B w0 w F p J) (hj:JAt w' F p J') (ht:Zb (JT F p) w w'):JB B w0 w' F p J' :=
 ⟨hj,h.nib.turned h.jat ht,h.below.trans (ht.below h.base h.own),h.own,Nat.le_trans h.base ht.size⟩
structure DB (B:Nat) (w0 w:World) (F:Ft) (D:Dk):Prop where
 dat:Xv w F D
 nib:Nib w
 below:Below B w0 w
 own:∀k,F.has k→B≤k
 base:B≤w.heap.size
theorem DB.turn {B:Nat} {w0 w w':World} {F:Ft} {D D':Dk} (h:DB B w0 w F D) (hj:Xv w' F D') (ht:Zb F.has w w'):DB B w0 w' F D' :=
 ⟨hj,h.nib.turnedD h.dat ht,h.below.trans (ht.below h.base h.own),h.own,Nat.le_trans h.base ht.size⟩
theorem open_good (w:World) (F:Ft) (D:Dk) (h:Xv w F D) (hn:Nib w) {J:Jn} (he:D.openJ=(0,J)):Calls Tryz.prog 34 #[F.ptr] w fun e w'=>∃p,e=.returned (.tuple #[jptr p,.int .i64 0])∧JAt w' F p J∧w.heap.size≤p∧Zb F.has w w':=by refine(open_any w F D h hn).mono ?_;rintro e w' ⟨h1,h2⟩;rw[he,if_pos rfl] at h1;obtain⟨p,e1,e2,e3⟩:=h1;exact⟨p,e1,e2,e3,h2⟩
theorem JB.of {B:Nat} {w0 w w':World} {F:Ft} {p:Nat} {D:Dk} {J:Jn} (h:DB B w0 w F D) (hj:JAt w' F p J) (hp:w.heap.size≤p) (ht:Zb F.has w w'):JB B w0 w' F p J :=
 ⟨hj,h.nib.turnedD h.dat ht,h.below.trans (ht.below h.base h.own),fun k hk=>by
  rcases hk with hk | hk
  ·exact h.own k hk
  ·have:=h.base;omega,Nat.le_trans h.base ht.size⟩
theorem begun_plain {n:Nat} (h1:32≤n) (h2:n≤16384):∃D1 J,(Dk.new n).format=(0,D1)∧D1.openJ=(0,J)∧Live n J 0 (zeroB n) AllOk∧J.last≤1∧J.D.cut<0∧J.D.ops≤2*n+5:=by
 obtain⟨D1,f⟩:=format_im (n:=n) (D:=Dk.new n) (Dk.new_ok (by omega) h2) rfl h1 rfl (by show (-1:Int)<0;decide) ⟨rfl,rfl⟩ (by show 0+_≤_;omega)
 have hops:=f.ops;have hops0:(Dk.new n).ops=0:=rfl;have hcut:D1.cut=-1:=f.cut;obtain⟨c,J,o⟩:=open_im f.im f.flat f.ok f.hn f.off (by omega);have hJo:=o.ops;rcases o.ends with ⟨rfl,hl,_⟩ | ⟨_,h3,_⟩
 ·exact⟨D1,J,f.eq,o.eq,hl,o.last,by rw[o.cut,hcut];decide,by omega⟩
 ·omega
end
end Go.Proofs.YtofibccplbnaiaaGreatDoor
