/- Contracts of the functions that the statements of this seat reach, part 6: each says what the call answers and what it leaves of the memory. -/
import Derived.Test.YtofibccplbnaiaaGreatDoorP5
import Derived.Test.YtofibccplbnaiaaGreatDoorP2
import Derived.Deep.Onto
import Derived.Test.YtofibccplbnaiaaGreatDoorP3
import Derived.Test.YtofibccplbnaiaaGreatDoorP1
import Derived.Deep.AppendSrc
import Derived.LoopTactic
import Derived.IntWalk
import Derived.Laws.Cover1
set_option linter.unusedVariables false
set_option linter.unusedSimpArgs false
set_option maxRecDepth 100000
set_option maxHeartbeats 64000000
namespace Go.Proofs.YtofibccplbnaiaaGreatDoor
section
open Go.RowKit
theorem run_build_pager (w:World) (p g n c M:Nat) (a2:Option Addr) (n2 c2:Nat) (r r2:Int):(Instr.build 100 #[(0,jptr p),(1,.agg #[.slice (some ⟨g,0,none⟩) n c,.int .i64 r]),(2,.agg #[.slice a2 n2 c2,.int .i64 r2]),(3,.map (some M))]).run Tryz.prog w =
  .ok (.agg #[jptr p,.slice (some ⟨g,0,none⟩) n c,.int .i64 r,.slice a2 n2 c2,.int .i64 r2,.map (some M),.bool false,.int .i64 0]) w:=by kernel_rfl
theorem Jn.read_len2 {w:World} {F:Ft} {p:Nat} {J:Jn} (h:JAt w F p J) {a:Int} (h0:(J.read a).2.1=0):(J.read a).1.length=112:=by
 have hf:∀k,k<J.D.n→(Xy (sec J.D.now k)).length=112:=fun k hk=>by have:=Qh h.disk.ok.now hk;simp[Xy,this]
 unfold Jn.read at h0 ⊢;split at h0
 ·rename_i h1;exact absurd h0 h1
 ·rename_i h1
  rw[if_neg h1];split at h0
  ·cases h0
  ·rename_i h2
   rw[if_neg h2];split at h0
   ·cases h0
   ·rename_i h3
    rw[if_neg h3];split at h0
    ·rename_i h4;rw[if_pos h4];exact hf _ (Dk.home_lt (by omega))
    ·cases h0
theorem Jn.reads_len2 {w:World} {F:Ft} {p:Nat} {J:Jn} (h:JAt w F p J) {a:Int}:∀{k:Nat},(J.reads a k).2.1=0→(J.reads a k).1.length=112*k
 | 0,_=>rfl
 | k+1,h0=>by
  have h1:(J.reads a k).2.1=0:=by refine Decidable.byContradiction fun e=>?_;rw[Jn.reads_err e (k+1) (by omega)] at h0;exact e h0
  have h2:(J.read (a+k)).2.1=0:=by refine Decidable.byContradiction fun e=>?_;rw[Jn.reads_stop h1 e] at h0;exact e h0
  have ih:=Jn.reads_len2 h h1;have h3:=Jn.read_len2 h h2;rw[Jn.reads_next h1 h2,List.length_append,ih,h3];omega
def Zck (w:World) (F:Ft) (p:Nat) (J:Jn) (e:Ending) (w':World):Prop :=
 (∀c J',J.popen=(c,J',none)→e=.returned (.tuple #[.pointer none,.int .i64 c])∧JAt w' F p J') ∧
 (∀c J' P,J.popen=(c,J',some P)→∃f,e=.returned (.tuple #[Xb f.q,.int .i64 c])∧Yo w' F p f P∧(∀k,PT f k→w.heap.size≤k))∧Zb (JT F p) w w'
theorem Zck.bad {w:World} {F:Ft} {p:Nat} {J J':Jn} {c:Int} {w':World} (h:J.popen=(c,J',none)) (hj:JAt w' F p J') (ht:Zb (JT F p) w w'):Zck w F p J (.returned (.tuple #[.pointer none,.int .i64 c])) w' :=
 ⟨fun c2 J2 e=>by rw[h] at e;cases e;exact⟨rfl,hj⟩,fun c2 J2 P e=>(by rw[h] at e;cases e),ht⟩
theorem Zck.good {w:World} {F:Ft} {p:Nat} {J J':Jn} {P:Pg} {f:Pf} {c:Int} {w':World} (h:J.popen=(c,J',some P)) (hp:Yo w' F p f P) (hf:∀k,PT f k→w.heap.size≤k) (ht:Zb (JT F p) w w'):Zck w F p J (.returned (.tuple #[Xb f.q,.int .i64 c])) w' :=
 ⟨fun c2 J2 e=>(by rw[h] at e;cases e),fun c2 J2 P e=>(by rw[h] at e;cases e;exact⟨f,rfl,hp,hf⟩),ht⟩
theorem Yo.opened {w W:World} {F:Ft} {p:Nat} {f:Pf} {P:Pg} (hj:JAt w F p P.J) (hn:Nib w) (hb:Below w.heap.size w W) (hkv:f.kv=[]) (hown:P.own=[]) (hco:P.off=P.off) (head:W.heap[f.q]?=some (pgRow p f P)) (now:BoR W f.gn f.cn P.now) (was:BoR W f.gw f.cw P.was) (tab:OTab W f.M []) (ok:Pok P)
  (h1:w.heap.size≤f.q) (h2:w.heap.size≤f.gn) (h3:w.heap.size≤f.gw) (h4:w.heap.size≤f.M) (sep:f.gn≠f.gw):Yo W F p f P∧∀k,PT f k→w.heap.size≤k:=by
 have hPT:∀k,PT f k→w.heap.size≤k∧k<W.heap.size:=by
  rintro k (e | e | e | e | ⟨x,hx,_⟩)
  ·rw[e];exact⟨h1,Za head⟩
  ·rw[e];exact⟨h2,now.lt⟩
  ·rw[e];exact⟨h3,was.lt⟩
  ·rw[e];exact⟨h4,tab.lt⟩
  ·rw[hkv] at hx;cases hx
 refine⟨⟨hj.below hb,hn.below hb,head,now,was,by rw[hkv];exact tab,by rw[hkv,hown];trivial,ok,fun k hk=>?_,sep⟩,fun k hk=>(hPT k hk).1⟩;have:=hPT k hk
 refine⟨fun e=>?_,fun e=>?_,this.2⟩
 ·have:=hj.lt e;omega
 ·have:=nib_lt hn;omega
theorem planOk_spec {b:List UInt8} {n:Nat} (h:Zcn b n=true):Xw b<(n:Int):=by simp only[Zcn,Bool.and_eq_true,decide_eq_true_eq] at h;exact h.1.1
theorem rootOf_ge (b:List UInt8):-1≤Xw b:=by unfold Xw;omega
theorem popen_any (w:World) (F:Ft) (p:Nat) (J:Jn) (h:JAt w F p J) (hn:Nib w) (h22:22≤J.D.n):Calls Tryz.prog 36 #[jptr p] w (Zck w F p J):=by
 have HE:=Hd (show J.popen=if (J.reads 0 2).2.1≠0 then ((J.reads 0 2).2.1,(J.reads 0 2).2.2,none) else if Zcn (J.reads 0 2).1 (J.reads 0 2).2.2.pages=false then (82,(J.reads 0 2).2.2,none)
  else (0,(J.reads 0 2).2.2,some ⟨(J.reads 0 2).2.2,Yx (J.reads 0 2).1 (J.reads 0 2).2.2.pages,Xw (J.reads 0 2).1,Yx (J.reads 0 2).1 (J.reads 0 2).2.2.pages,Xw (J.reads 0 2).1,[],false,0⟩) from rfl)
 have HH:=Hd h;have HN:=Hd hn;clear h hn;go_enter Tryz.func36,Tryz.ntmps36;go_wp2_with fail;go_loopw [4,12] (fun b x wr=>∃k:Nat,k≤2∧x=.int .i64 (k:Int)∧(J.reads 0 k).2.1=0∧Qs 5 w.heap.size wr b (J.reads 0 k).1∧JAt wr F p J∧Nib wr∧Zb (JT F p) w wr) (fun _ x _=>2 - (intOf x).toNat)
 case atStart=>exact⟨0,Nat.zero_le _,rfl,rfl,Qs.nil _ _ _,HH.out,HN.out,Zb.refl _ _⟩
 case round =>
  obtain⟨k,hk,rfl,hok,hm,hj,hnb,ht⟩:=hrel;obtain⟨a,c,rfl,_,_⟩:=hm.isB.form;have hsz:=ht.size
  by_cases hlt:k<2
  ·have hd:decide ((k:Int)<2)=true:=decide_eq_true (by omega)
   have HJ:=Hd (jread_any wr F p J hj hnb (by omega) (k:Int) (by omega) (by omega));have HM:=Hd hm;have HT:=Hd ht;have HNB:=Hd hnb;have HJJ:=Hd hj;have HOK:=Hd hok;have hlen:=Jn.reads_len J 0 k;clear hj hnb ht hm hok;go_wp2_with fail;refine HJ.out.mono ?_;rintro e w4 ⟨v,rfl,hv,hj4,ht4⟩;have hm4:=HM.out.keep (w':=w4) fun k h1 h2=>ht4.block k h2 fun e=>by have:=HH.out.lt e;omega
   obtain⟨va,vc,rfl,_,_⟩:=hv.now.form;have hlen2:=Jn.read_len J (k:Int)
   have hk0:(0:Int)+(k:Int)=(k:Int):=by omega
   by_cases hz:(J.read (k:Int)).2.1=0
   ·have hd2:((J.read (k:Int)).2.1 != 0)=false:=by simpa using hz
    have HN2:=Hd (Jn.reads_next HOK.out (by rw[hk0];exact hz));rw[hk0] at HN2;have HJ4:Hid (JAt w4 F p J):=Hd (by rw[Jn.read_ok hz] at hj4;exact hj4);have HNB4:=Hd (HNB.out.turned HJJ.out ht4);have HT4:=Hd (HT.out.trans ht4);have HB:=Hd hv.now;have HM4:=Hd hm4;clear hj4 ht4 hv hm4 hz hk0;generalize (J.read (k:Int))=R at *;generalize (J.reads 0 k)=L at *;have hsz4:=HT4.out.size;go_wp2_with (at_builtin;refine Zgn rfl (.tmp 24) (.tmp 25) 106 rfl w.heap.size 5 Zcy Tryz.underlying106 _ L.1 rfl HM4.out _ R.1 rfl HB.out (by omega) hsz4 ?_);intro v' w6 hm6 _ hb6 _ _;obtain⟨a6,c6,rfl,_,_⟩:=hm6.isB.form;have HM6:=Hd hm6;clear hm6;go_wp2_with fail;go_roundw
    case rel=>exact⟨k+1,by omega,by go_num,by rw[HN2.out],by rw[HN2.out];exact HM6.out,HJ4.out.keep fun k hk=>hb6.block k (HH.out.lt hk),HNB4.out.of_turned (T:=fun k=>¬k<w.heap.size) ⟨hb6.os,hb6.tape,hb6.output,hb6.size,fun k _ hn=>hb6.block k (Decidable.not_not.1 hn)⟩ (fun e=>e (nib_lt HN.out)),HT4.out.on hb6⟩
    case measure=>simp[intOf];omega
   ·have hd2:((J.read (k:Int)).2.1 != 0)=true:=by simpa using hz
    have HN2:=Hd (Jn.reads_stop HOK.out (by rw[hk0];exact hz));rw[hk0] at HN2
    have HX:Hid (J.popen=((J.read (k:Int)).2.1,(J.read (k:Int)).2.2,none)):=Hd (by
     have h8:=Jn.reads_err (J:=J) (a:=0) (k:=k+1) (by rw[HN2.out];exact hz) 2 (by omega)
     rw[HE.out,h8,HN2.out,if_pos hz])
    have HT4:=Hd (HT.out.trans ht4);have HJ4:=Hd hj4;clear hj4 ht4 hv hm4 hz hk0;generalize (J.read (k:Int))=R at *;go_wp2_with fail;go_ret2;exact Zck.bad HX.out HJ4.out HT4.out
  ·obtain rfl:k=2:=by omega
   have hl:=Jn.reads_len2 hj hok;have hpl:=hj.pages_le;have hpn:0<J.pages:=by unfold Jn.pages Dk.blocks;omega
   obtain⟨n,hN⟩:∃n,n=J.pages:=⟨_,rfl⟩;obtain⟨L,hL⟩:∃L,L=(J.reads 0 2).1:=⟨_,rfl⟩;have HX1:Hid (Zcn L n=false→J.popen=(82,J,none)):=Hd fun e=>by rw[HE.out,if_neg (by simp[hok]),Jn.reads_ok hok,←hL,←hN,if_pos e]
   have HX2:Hid (Zcn L n=true→J.popen=(0,J,some ⟨J,Yx L n,Xw L,Yx L n,Xw L,[],false,0⟩)):=Hd fun e=>by rw[HE.out,if_neg (by simp[hok]),Jn.reads_ok hok,←hL,←hN,if_neg (by simp[e])]
   have HPO:=Hd (pagesOf_any wr F p J hj (by omega));rw[←hL] at hm hl ⊢;rw[←hN] at HPO hpl hpn;have hl2:L.length=224:=hl;have HPD:=Hd (planned_any wr _ L n hm.isB hl2 hpl);have HNE:=Hd hN;have HJ:=Hd hj;have HNB:=Hd hnb;have HT:=Hd ht;rw[hok] at *;clear hj hnb ht hm hl hl2 hok hN hL;go_wp2_with (first | (go_at_call 75;refine HPO.out.mono ?_;rintro e w9 ⟨rfl,hw9⟩;rw[←hw9];clear hw9 w9));refine HPD.out.mono ?_;rintro e w5 ⟨u,rfl,hu,hb5⟩;have htl:=Zs L n;obtain⟨g,c2,rfl,hg,hbo⟩:=hu.boR (by rw[htl];exact hpn);rw[htl] at *;have HBO:=Hd hbo;have HB5:=Hd hb5;have HTL:=Hd htl;obtain⟨R,hR⟩:∃R,R=Xw L:=⟨_,rfl⟩;rw[←hR];have HR:=Hd hR;clear hu hbo hb5 htl hR
   cases hpo:Zcn L n with
   | false =>
    have HX:=Hd (HX1.out hpo);go_wp2_with fail;go_ret2;have hb6:Below wr.heap.size wr (w5.alloc (.cells #[.slice (some ⟨g,0,none⟩) n c2,.int .i64 R] 96)):=HB5.out.trans ((Below.refl _ _).alloc HB5.out.size _);exact Zck.bad HX.out (HJ.out.below hb6) (HT.out.trans (Zb.of_below hb6))
   | true =>
    have HX:=Hd (HX2.out hpo);have HSP:=Hd (planOk_spec hpo);clear hpo;have hmm:=fun w=>run_makeMap (P:=Tryz.prog) 98 w;have hbu:=fun w g' c' M=>run_build_pager w p g' n c' M (some ⟨g,0,none⟩) n c2 R R;obtain⟨W5,hW5⟩:∃W5,W5=w5.alloc (.cells #[.slice (some ⟨g,0,none⟩) n c2,.int .i64 R] 96):=⟨_,rfl⟩;have hpl5:W5.heap[w5.heap.size]?=some (Qz (.slice (some ⟨g,0,none⟩) n c2) R):=by rw[hW5];exact heap_alloc_new w5 _
    have hb55:Below w5.heap.size w5 W5:=by rw[hW5];exact(Below.refl _ _).alloc (Nat.le_refl _) _
    have HCL:Hid (∀W,Below W5.heap.size W5 W→Calls Tryz.prog 60 #[.agg #[.slice (some ⟨g,0,none⟩) n c2,.int .i64 R]] W fun e w'=>∃u,e=.returned (.agg #[u,.int .i64 R])∧Qe W.heap.size w' u (Yx L n)∧Below W.heap.size W w'):=Hd fun W hW=>by have hb:=(HBO.out.keep (hb55.block _ HBO.out.lt)).keep (hW.block _ (Nat.lt_of_lt_of_le HBO.out.lt hb55.size));have:=hb.mine 0 (Nat.zero_le _);rw[Zs] at this;exact pclone_any W 0 _ (Yx L n) R this (by rw[Zs];omega)
    have HB55:=Hd hb55;have HW5:=Hd hW5;clear hb55 hW5;go_upto_region 15 with fail;rw[←HW5.out];clear HW5;have hS0:(fun W:World=>W.heap[w5.heap.size]?=some (Qz (.slice (some ⟨g,0,none⟩) n c2) R)) W5.drew:=hpl5;have hbW:=(Below.refl W5.heap.size W5).drew;refine rgA (S:=(fun W:World=>W.heap[w5.heap.size]?=some (Qz (.slice (some ⟨g,0,none⟩) n c2) R))) hS0 (fun hH=>?_);generalize W5.drew=W5d at *;refine tkB 0 rfl (v:=?_) ?_ hH ?_;rotate_left
    ·intro w hSw;have hpc:=Zx hSw;obtain⟨q0,q1⟩:=hpc;go_simp;try with_reducible rfl
    try simp only[Act.put,zA,zB,zC]
    refine tkB 1 rfl (v:=?_) ?_ hH ?_;rotate_left
    ·intro w hSw;have hpc:=Zx hSw;obtain⟨q0,q1⟩:=hpc;go_simp;try with_reducible rfl
    try simp only[Act.put,zA,zB,zC]
    refine tkB 3 rfl (v:=?_) ?_ hH ?_;rotate_left
    ·intro w hSw;have hpc:=Zx hSw;obtain⟨q0,q1⟩:=hpc;go_simp;try with_reducible rfl
    try simp only[Act.put,zA,zB,zC]
    refine wpAnyH_ready (rs:=[2,4]) (by kernel_rfl) (by simp) ?_;refine Zco rfl (fun K hK=>?_) ?_
    ·go_simp
     refine(HCL.out W5d hbW).mono ?_;rintro e W3 ⟨u3,rfl,hm3,hb3⟩;obtain⟨g3,c3,rfl,hg3,hbo3⟩:=hm3.boR (by rw[Zs];exact hpn);rw[Zs];have hHn:=(hb3.block _ (Za hH)).trans hH
     have hs3:=hbW.size;replace hbW:=hbW.trans (hb3.mono hbW.size);clear hH hm3 hb3;go_wp2_with fail;refine hK.out _ _ hHn (fun hH=>?_);clear hHn;clear hK K;try simp only[Act.put,zA,zB,zC]
     refine rdA 4 rfl (fun K hK=>?_);go_simp;have hb4:Below W3.heap.size W3 (W3.alloc (.map #[] 0)):=(Below.refl _ _).alloc (Nat.le_refl _) _
     have htab:=OTab.made W3;have hs4:W3.heap.size<(W3.alloc (.map #[] 0)).heap.size:=by simp
     have hHn:=(hb4.block _ (Za hH)).trans hH;have hs5:=hbW.size;replace hbW:=hbW.trans (hb4.mono hbW.size);have hg3n:g3<W3.heap.size:=hbo3.lt;replace hbo3:=hbo3.keep (hb4.block _ hbo3.lt);clear hH hb4;go_wp2_with fail;generalize W3.alloc (.map #[] 0)=W4 at *;generalize hM4:W3.heap.size=M4 at *;refine hK.out _ _ hHn (fun hH=>?_);clear hHn;clear hK K;try simp only[Act.put,zA,zB,zC]
     refine tkB 5 rfl (v:=?_) ?_ hH ?_;rotate_left
     ·intro w hSw;have hpc:=Zx hSw;obtain⟨q0,q1⟩:=hpc;go_simp;try with_reducible rfl
     try simp only[Act.put,zA,zB,zC]
     refine rdA 6 rfl (fun K hK=>?_);go_simp;have hb6:Below W4.heap.size W4 (W4.alloc (.cells #[jptr p,.slice (some ⟨g3,0,none⟩) n c3,.int .i64 R,.slice (some ⟨g,0,none⟩) n c2,.int .i64 R,.map (some M4),.bool false,.int .i64 0] 100)):=(Below.refl _ _).alloc (Nat.le_refl _) _
     have hq6:=heap_alloc_new W4 (.cells #[jptr p,.slice (some ⟨g3,0,none⟩) n c3,.int .i64 R,.slice (some ⟨g,0,none⟩) n c2,.int .i64 R,.map (some M4),.bool false,.int .i64 0] 100);have hs6:W4.heap.size<(W4.alloc (.cells #[jptr p,.slice (some ⟨g3,0,none⟩) n c3,.int .i64 R,.slice (some ⟨g,0,none⟩) n c2,.int .i64 R,.map (some M4),.bool false,.int .i64 0] 100)).heap.size:=by simp
     have hHn:=(hb6.block _ (Za hH)).trans hH;have hlM:M4<W4.heap.size:=htab.lt;have hl3:g3<W4.heap.size:=hbo3.lt;have hs7:=hbW.size;replace htab:=htab.keep (hb6.block _ htab.lt);replace hbo3:=hbo3.keep (hb6.block _ hbo3.lt);replace hbW:=hbW.trans (hb6.mono hbW.size);have hne3:g3≠M4:=by omega
     clear hH hb6;go_wp2_with fail;generalize W4.alloc (.cells #[jptr p,.slice (some ⟨g3,0,none⟩) n c3,.int .i64 R,.slice (some ⟨g,0,none⟩) n c2,.int .i64 R,.map (some M4),.bool false,.int .i64 0] 100)=W6 at *;generalize hq:W4.heap.size=q at *;refine hK.out _ _ hHn (fun hH=>?_);clear hHn;clear hK K;try simp only[Act.put,zA,zB,zC]
     refine tkB 7 rfl (v:=?_) ?_ hH ?_;rotate_left
     ·intro w hSw;have hpc:=Zx hSw;obtain⟨q0,q1⟩:=hpc;go_simp;try with_reducible rfl
     try simp only[Act.put,zA,zB,zC]
     refine tkB 8 rfl (v:=?_) ?_ hH ?_;rotate_left
     ·intro w hSw;have hpc:=Zx hSw;obtain⟨q0,q1⟩:=hpc;go_simp;try with_reducible rfl
     try simp only[Act.put,zA,zB,zC]
     refine dnA ?_;clear hH;have hgl:=HBO.out.lt
     have hw1:=HB5.out.size;have hw2:=HB55.out.size;have hbo5:=(HBO.out.keep (HB55.out.block _ hgl)).keep (hbW.block _ (by omega));have hbb:=HB5.out.trans ((HB55.out.trans (hbW.mono hw2)).mono hw1);have HPA:=Hd (Yo.opened (f:=⟨q,g3,c3,g,c2,M4,[]⟩) (P:=⟨J,Yx L n,Xw L,Yx L n,Xw L,[],false,0⟩) HJ.out HNB.out hbb rfl rfl rfl (by simp only[pgRow,Zs,←HR.out];exact hq6) hbo3 hbo5 htab ⟨by simp only[Zs];exact hpn,by simp only[Zs];exact hpl,rfl,rootOf_ge L,by simp only[Zs];exact HSP.out,rootOf_ge L,by simp only[Zs];exact HSP.out,fun x hx=>(by cases hx),by simp only[Zs];exact HNE.out⟩ (by dsimp only;omega) (by dsimp only;omega) (by dsimp only;omega) (by dsimp only;omega) (by dsimp only;omega));have HT6:=Hd (HT.out.trans (Zb.of_below hbb));clear hbo3 hbo5 htab hbW hbb hq6;go_wp2_with fail;go_ret2;exact Zck.good HX.out HPA.out.1 (fun k hk=>Nat.le_trans hsz (HPA.out.2 k hk)) HT6.out
    refine Zco rfl (fun K hK=>?_) ?_
    ·go_simp
     have hb4:Below W5d.heap.size W5d (W5d.alloc (.map #[] 0)):=(Below.refl _ _).alloc (Nat.le_refl _) _;have htab:=OTab.made W5d;have hs4:W5d.heap.size<(W5d.alloc (.map #[] 0)).heap.size:=by simp
     have hHn:=(hb4.block _ (Za hH)).trans hH;have hs5:=hbW.size;replace hbW:=hbW.trans (hb4.mono hbW.size);clear hH hb4;go_wp2_with fail;generalize W5d.alloc (.map #[] 0)=W4 at *;generalize hM4:W5d.heap.size=M4 at *;refine hK.out _ _ hHn (fun hH=>?_);clear hHn;clear hK K;try simp only[Act.put,zA,zB,zC]
     refine rdA 2 rfl (fun K hK=>?_);go_simp;refine(HCL.out W4 hbW).mono ?_;rintro e W3 ⟨u3,rfl,hm3,hb3⟩;obtain⟨g3,c3,rfl,hg3,hbo3⟩:=hm3.boR (by rw[Zs];exact hpn);rw[Zs];have hHn:=(hb3.block _ (Za hH)).trans hH
     have hs3:=hbW.size;replace hbW:=hbW.trans (hb3.mono hbW.size);replace htab:=htab.keep (hb3.block _ htab.lt);have hg3n:g3≠M4:=by omega
     have hM4n:=hM4;clear hH hm3 hb3;go_wp2_with fail;refine hK.out _ _ hHn (fun hH=>?_);clear hHn;clear hK K;try simp only[Act.put,zA,zB,zC]
     refine tkB 5 rfl (v:=?_) ?_ hH ?_;rotate_left
     ·intro w hSw;have hpc:=Zx hSw;obtain⟨q0,q1⟩:=hpc;go_simp;try with_reducible rfl
     try simp only[Act.put,zA,zB,zC]
     refine rdA 6 rfl (fun K hK=>?_);go_simp;have hb6:Below W3.heap.size W3 (W3.alloc (.cells #[jptr p,.slice (some ⟨g3,0,none⟩) n c3,.int .i64 R,.slice (some ⟨g,0,none⟩) n c2,.int .i64 R,.map (some M4),.bool false,.int .i64 0] 100)):=(Below.refl _ _).alloc (Nat.le_refl _) _
     have hq6:=heap_alloc_new W3 (.cells #[jptr p,.slice (some ⟨g3,0,none⟩) n c3,.int .i64 R,.slice (some ⟨g,0,none⟩) n c2,.int .i64 R,.map (some M4),.bool false,.int .i64 0] 100);have hs6:W3.heap.size<(W3.alloc (.cells #[jptr p,.slice (some ⟨g3,0,none⟩) n c3,.int .i64 R,.slice (some ⟨g,0,none⟩) n c2,.int .i64 R,.map (some M4),.bool false,.int .i64 0] 100)).heap.size:=by simp
     have hHn:=(hb6.block _ (Za hH)).trans hH;have hlM:M4<W3.heap.size:=htab.lt;have hl3:g3<W3.heap.size:=hbo3.lt;have hs7:=hbW.size;replace htab:=htab.keep (hb6.block _ htab.lt);replace hbo3:=hbo3.keep (hb6.block _ hbo3.lt);replace hbW:=hbW.trans (hb6.mono hbW.size);have hne3:g3≠M4:=by omega
     clear hH hb6;go_wp2_with fail;generalize W3.alloc (.cells #[jptr p,.slice (some ⟨g3,0,none⟩) n c3,.int .i64 R,.slice (some ⟨g,0,none⟩) n c2,.int .i64 R,.map (some M4),.bool false,.int .i64 0] 100)=W6 at *;generalize hq:W3.heap.size=q at *;refine hK.out _ _ hHn (fun hH=>?_);clear hHn;clear hK K;try simp only[Act.put,zA,zB,zC]
     refine tkB 7 rfl (v:=?_) ?_ hH ?_;rotate_left
     ·intro w hSw;have hpc:=Zx hSw;obtain⟨q0,q1⟩:=hpc;go_simp;try with_reducible rfl
     try simp only[Act.put,zA,zB,zC]
     refine tkB 8 rfl (v:=?_) ?_ hH ?_;rotate_left
     ·intro w hSw;have hpc:=Zx hSw;obtain⟨q0,q1⟩:=hpc;go_simp;try with_reducible rfl
     try simp only[Act.put,zA,zB,zC]
     refine dnA ?_;clear hH;have hgl:=HBO.out.lt
     have hw1:=HB5.out.size;have hw2:=HB55.out.size;have hbo5:=(HBO.out.keep (HB55.out.block _ hgl)).keep (hbW.block _ (by omega));have hbb:=HB5.out.trans ((HB55.out.trans (hbW.mono hw2)).mono hw1);have HPA:=Hd (Yo.opened (f:=⟨q,g3,c3,g,c2,M4,[]⟩) (P:=⟨J,Yx L n,Xw L,Yx L n,Xw L,[],false,0⟩) HJ.out HNB.out hbb rfl rfl rfl (by simp only[pgRow,Zs,←HR.out];exact hq6) hbo3 hbo5 htab ⟨by simp only[Zs];exact hpn,by simp only[Zs];exact hpl,rfl,rootOf_ge L,by simp only[Zs];exact HSP.out,rootOf_ge L,by simp only[Zs];exact HSP.out,fun x hx=>(by cases hx),by simp only[Zs];exact HNE.out⟩ (by dsimp only;omega) (by dsimp only;omega) (by dsimp only;omega) (by dsimp only;omega) (by dsimp only;omega));have HT6:=Hd (HT.out.trans (Zb.of_below hbb));clear hbo3 hbo5 htab hbW hbb hq6;go_wp2_with fail;go_ret2;exact Zck.good HX.out HPA.out.1 (fun k hk=>Nat.le_trans hsz (HPA.out.2 k hk)) HT6.out
    exact AllReadyH.nil
end
section
open Go.RowKit
structure Fresh (n:Nat) (J J':Jn) (P:Pg) (seq:Int) (B:List (List UInt8)):Prop where
 fmt:J.pformat=(0,J')
 opn:J'.popen=(0,J',some P)
 pj:P.J=J'
 sim:Sim n P (Rp.begun ((n - 2) / 2)) seq B
 last:J'.last≤J.last+1
 cut:J'.D.cut=J.D.cut
 ops:J'.D.ops≤J.D.ops+8
theorem pformat_live {n:Nat} {J:Jn} {seq:Int} {B:List (List UInt8)} (h:Live n J seq B AllOk) (h1:22≤n) (h2:n≤16384) (hcut:J.D.cut<0) (ht:J.last+1<4611686018427387904) (hb:J.D.ops+8≤1048576):∃J' P B',Fresh n J J' P (seq+1) B':=by
 have hpg:J.pages=((n - 2) / 2 - 2) / 8:=by rw[Jn.pages,Dk.blocks,h.hn]
 obtain⟨m,hm⟩:∃m,m=((n - 2) / 2 - 2) / 8:=⟨_,rfl⟩;rw[←hm] at hpg
 have hr:Zac ((n - 2) / 2) (Zo 0 2) (Xn 2 (Qb (List.replicate m false) (-1)))=true:=by
  rw[Zac,Zgu _ _ [] (fun z hz=>?_) (Zdc _ _) (fun _ _ h=>by cases h) (Zfz (by rw[Yc])),Ym,Zby]
  ·simp
  ·obtain⟨i,hi,rfl⟩:=List.mem_map.1 hz;have:=List.mem_range.1 hi;omega
 have hw:=write_ok h hcut hr ht (by rw[Ym];omega);have hl:=hw.live;rw[if_neg (by rw[Ym];omega)] at hl;have hrow:=(live_rows h).1;have hpl:Xq (Qi B (Zo 0 2) (Xn 2 (Qb (List.replicate m false) (-1)))) 0 2=Qb (List.replicate m false) (-1):=by have e0:(0:Int)=((0:Nat):Int):=rfl;rw[e0];exact Zfy (by omega) (by rw[Yc])
 have e:J.pformat=(0,(J.write (Zo 0 2) (Xn 2 (Qb (List.replicate m false) (-1)))).2):=by rw[Jn.pformat,hpg];exact Prod.ext hw.err rfl
 have hops:=hw.ops;have hlast:=hw.last;have hcut2:=hw.cut;rw[Ym] at hops;generalize (J.write (Zo 0 2) (Xn 2 (Qb (List.replicate m false) (-1)))).2=J' at *;generalize Qi B (Zo 0 2) (Xn 2 (Qb (List.replicate m false) (-1)))=B' at *;have hmap:(List.replicate m false)=(List.replicate m (none:Option (List UInt8))).map (·.isSome):=by simp
 have hbe:Rp.begun ((n - 2) / 2)=⟨List.replicate m none,-1,List.replicate m none,-1,false⟩:=by rw[Rp.begun,hm]
 have hro:RootOk (List.replicate m false) (-1):=⟨Int.le_refl _,by omega,.inl (by omega)⟩
 have hs0:Sim n ⟨J',List.replicate m false,-1,List.replicate m false,-1,[],false,0⟩ (Rp.begun ((n - 2) / 2)) (seq+1) B':=by
  rw[hbe]
  have hno:∀(k:Nat) (b:List UInt8),(List.replicate m (none:Option (List UInt8)))[k]?≠some (some b):=fun k b e=>by
   rw[List.getElem?_replicate] at e
   split at e<;>simp at e
  exact⟨hl,rfl,hmap,hmap,rfl,rfl,by simp[hm],rfl,hpl,hro,hro,fun k b hk=>absurd hk (hno k b),fun k b hk=>absurd hk (hno k b),fun k b hk=>(by cases hk),List.nodup_nil,fun _=>⟨rfl,rfl,rfl⟩⟩
 have hlen:(Rp.begun ((n - 2) / 2)).pages.length≤1023:=by rw[hbe];simp only[List.length_replicate];omega
 obtain⟨P,p1,p2,p3⟩:=hs0.popen hlen (by omega);have hab:(Rp.begun ((n - 2) / 2)).abort=Rp.begun ((n - 2) / 2):=by rw[hbe];rfl
 rw[hab] at p3;exact⟨J',P,B',e,p1,p2,p3,hlast,hcut2,by omega⟩
end
section
structure En where
 key:List UInt8
 val:List UInt8
 kid:Int
structure Nd where
 leaf:Bool
 l:List En
def En.size (leaf:Bool) (i:Nat) (e:En):Nat:=if leaf then 2+e.key.length+e.val.length else if i=0 then 2 else 3+e.key.length
def Zg (leaf:Bool):Nat→List En→Nat
 | _,[]=>0
 | i,e::r=>e.size leaf i+Zg leaf (i+1) r
def Nd.sum (n:Nd):Nat:=Zg n.leaf 0 n.l
def Yw (n:Int):UInt8:=UInt8.ofNat (n % 256).toNat
def En.bytes (leaf:Bool) (i:Nat) (e:En):List UInt8:=(if leaf||decide (0<i) then UInt8.ofNat e.key.length::e.key else [])++if leaf then UInt8.ofNat e.val.length::e.val else [Yw e.kid,Yw (e.kid / 256)]
def Ya (leaf:Bool):Nat→List En→List UInt8
 | _,[]=>[]
 | i,e::r=>e.bytes leaf i++Ya leaf (i+1) r
def Nd.head (n:Nd):List UInt8:=[if n.leaf then 1 else 2,UInt8.ofNat n.l.length,UInt8.ofNat (n.l.length / 256)]
def Nd.bytes (n:Nd):List UInt8:=(n.head++Ya n.leaf 0 n.l++List.replicate 896 0).take 896
def Zbm (b:List UInt8) (at_ most:Nat):Option (List UInt8 × Nat) :=
 if b.length≤at_ then none else if most<(b.getD at_ 0).toNat then none else if b.length<at_+1+(b.getD at_ 0).toNat then none else some ((b.drop (at_+1)).take (b.getD at_ 0).toNat,at_+1+(b.getD at_ 0).toNat)
def readK (leaf:Bool) (b:List UInt8) (i at_:Nat):Option (List UInt8 × Nat):=if leaf||decide (0<i) then Zbm b at_ 80 else some ([],at_)
def readV (leaf:Bool) (b:List UInt8) (key:List UInt8) (at_:Nat):Option (En × Nat) :=
 if leaf then (Zbm b at_ 200).map fun x=>(⟨key,x.1,0⟩,x.2) else if b.length<at_+2 then none else some (⟨key,[],((b.getD at_ 0).toNat:Int)+((b.getD (at_+1) 0).toNat:Int)*256⟩,at_+2)
def Zbe (leaf:Bool) (b:List UInt8) (i at_:Nat):Option (En × Nat):=(readK leaf b i at_).bind fun x=>readV leaf b x.1 x.2
def Zcu (leaf:Bool) (l:List En) (e:En):Bool:=match l.getLast? with
 | none=>true
 | some x=>!(leaf||decide (1<l.length))||decide (x.key<e.key)
def Yy (leaf:Bool) (b:List UInt8):Nat→Nat→List En→Option (List En)
 | 0,_,l=>some l
 | k+1,at_,l=>match Zbe leaf b l.length at_ with
  | none=>none
  | some (e,a)=>if Zcu leaf l e then Yy leaf b k a (l++[e]) else none
def readM (b:List UInt8):Nat:=(b.getD 1 0).toNat+(b.getD 2 0).toNat*256
def Zah (b:List UInt8):Option Nd :=
 if (b.getD 0 0≠1∧b.getD 0 0≠2)∨readM b=0 then none else (Yy (b.getD 0 0==1) b (readM b) 3 []).map (Nd.mk (b.getD 0 0==1))
def Rp.load (R:Rp) (page:Int):Option Nd × Int:=if (R.read page).2≠0 then (none,(R.read page).2) else match Zah (R.read page).1 with
 | none=>(none,103)
 | some n=>(some n,0)
def Srt (n:Nd):Prop:=if n.leaf then (n.l.map (·.key)).Pairwise (· < ·) else (n.l.tail.map (·.key)).Pairwise (· < ·)
def Nd.behind (n:Nd) (key:List UInt8):Nat × Bool :=
 if n.leaf then ((n.l.takeWhile fun e=>decide (e.key<key)).length,decide (((n.l.dropWhile fun e=>decide (e.key<key)).head?).map (·.key)=some key))
 else ((n.l.tail.takeWhile fun e=>!decide (key<e.key)).length,true)
end
section
theorem En.bytes_length (leaf:Bool) (i:Nat) (e:En):(e.bytes leaf i).length=e.size leaf i:=by
 unfold En.bytes En.size
 cases leaf with
 | true=>simp;omega
 | false =>
  by_cases h:i=0
  ·subst h;simp
  ·have:0<i:=by omega
   simp[h,this];omega
theorem Zfi (leaf:Bool):∀(i:Nat) (l:List En),(Ya leaf i l).length=Zg leaf i l
 | _,[]=>rfl
 | i,e::r=>by rw[Ya,Zg,List.length_append,En.bytes_length,Zfi leaf (i+1) r]
theorem getD_mid {pre post:List UInt8} {x:UInt8}:(pre++x::post).getD pre.length 0=x:=by simp[List.getD_eq_getElem?_getD]
theorem textB_at (pre k post:List UInt8) (most:Nat) (h:k.length≤most) (h2:most≤255):Zbm (pre++(UInt8.ofNat k.length::k)++post) pre.length most=some (k,pre.length+1+k.length):=by
 have e1:(pre++(UInt8.ofNat k.length::k)++post).getD pre.length 0=UInt8.ofNat k.length:=by rw[List.append_assoc];exact getD_mid
 have e2:(UInt8.ofNat k.length).toNat=k.length:=by simp;omega
 have hl:(pre++(UInt8.ofNat k.length::k)++post).length=pre.length+1+k.length+post.length:=by simp;omega
 unfold Zbm;rw[e1,e2,if_neg (by omega),if_neg (by omega),if_neg (by omega)];congr 2;rw[show pre++(UInt8.ofNat k.length::k)++post=(pre++[UInt8.ofNat k.length])++(k++post) by simp,List.drop_append_of_le_length (by simp)]
 rw[List.drop_eq_nil_of_le (by simp)];simp
structure En.ok (leaf:Bool) (e:En):Prop where
 key:e.key.length≤80
 val:if leaf then e.val.length≤200∧e.kid=0 else e.val=[]∧0≤e.kid∧e.kid<65536
def En.norm (leaf:Bool) (i:Nat) (e:En):En:=if leaf||decide (0<i) then e else { e with key:=[] }
theorem lowB_two (k:Int) (h:0≤k) (h2:k<65536):((Yw k).toNat:Int)+((Yw (k / 256)).toNat:Int)*256=k:=by
 unfold Yw;have a:(UInt8.ofNat (k % 256).toNat).toNat=(k % 256).toNat:=by simp;omega
 have b:(UInt8.ofNat (k / 256 % 256).toNat).toNat=(k / 256 % 256).toNat:=by simp;omega
 rw[a,b];omega
theorem readE_at (leaf:Bool) (pre post:List UInt8) (i:Nat) (e:En) (h:e.ok leaf):Zbe leaf (pre++e.bytes leaf i++post) i pre.length=some (e.norm leaf i,pre.length+e.size leaf i):=by
 have hk:=h.key;have hv:=h.val;unfold Zbe readK En.bytes En.norm En.size
 cases leaf with
 | true =>
  simp only[if_true] at hv;obtain⟨hv1,hv2⟩:=hv;simp only[Bool.true_or,if_true];have e1:pre++(UInt8.ofNat e.key.length::e.key++UInt8.ofNat e.val.length::e.val)++post=pre++(UInt8.ofNat e.key.length::e.key)++(UInt8.ofNat e.val.length::e.val++post):=by simp
  have e2:pre++(UInt8.ofNat e.key.length::e.key++UInt8.ofNat e.val.length::e.val)++post=(pre++(UInt8.ofNat e.key.length::e.key))++(UInt8.ofNat e.val.length::e.val)++post:=by simp
  have t1:=textB_at pre e.key (UInt8.ofNat e.val.length::e.val++post) 80 hk (by omega);rw[←e1] at t1;have t2:=textB_at (pre++(UInt8.ofNat e.key.length::e.key)) e.val post 200 hv1 (by omega);rw[←e2] at t2;rw[t1];simp only[Option.bind_some,readV,if_true];rw[show pre.length+1+e.key.length=(pre++(UInt8.ofNat e.key.length::e.key)).length by simp;omega,t2]
  simp only[Option.map_some,Option.some.injEq,Prod.mk.injEq];refine⟨by cases e;simp_all,?_⟩;simp;omega
 | false =>
  simp only[Bool.false_eq_true,if_false] at hv;obtain⟨hv1,hv2,hv3⟩:=hv;by_cases h0:i=0
  ·subst h0
   simp only[Bool.false_or,Nat.lt_irrefl,decide_false,Bool.false_eq_true,if_false,List.nil_append,Option.bind_some,readV,if_true];have g0:(pre++[Yw e.kid,Yw (e.kid / 256)]++post).getD pre.length 0=Yw e.kid:=by rw[List.append_assoc];exact getD_mid
   have g1:(pre++[Yw e.kid,Yw (e.kid / 256)]++post).getD (pre.length+1) 0=Yw (e.kid / 256):=by
    rw[show pre++[Yw e.kid,Yw (e.kid / 256)]++post=(pre++[Yw e.kid])++Yw (e.kid / 256)::post by simp,show pre.length+1=(pre++[Yw e.kid]).length by simp]
    exact getD_mid
   rw[if_neg (by simp),g0,g1,lowB_two _ hv2 hv3];cases e;simp_all
  ·have hp:0<i:=by omega
   simp only[Bool.false_or,hp,decide_true,if_true,Bool.false_eq_true,if_false,if_neg h0];have e1:pre++(UInt8.ofNat e.key.length::e.key++[Yw e.kid,Yw (e.kid / 256)])++post=pre++(UInt8.ofNat e.key.length::e.key)++([Yw e.kid,Yw (e.kid / 256)]++post):=by simp
   have t1:=textB_at pre e.key ([Yw e.kid,Yw (e.kid / 256)]++post) 80 hk (by omega);rw[←e1] at t1;rw[t1];simp only[Option.bind_some,readV,Bool.false_eq_true,if_false];have hl:(pre++(UInt8.ofNat e.key.length::e.key)).length=pre.length+1+e.key.length:=by simp;omega
   have g0:(pre++(UInt8.ofNat e.key.length::e.key++[Yw e.kid,Yw (e.kid / 256)])++post).getD (pre.length+1+e.key.length) 0=Yw e.kid:=by rw[e1,←hl];exact getD_mid
   have g1:(pre++(UInt8.ofNat e.key.length::e.key++[Yw e.kid,Yw (e.kid / 256)])++post).getD (pre.length+1+e.key.length+1) 0=Yw (e.kid / 256):=by
    rw[show pre++(UInt8.ofNat e.key.length::e.key++[Yw e.kid,Yw (e.kid / 256)])++post=(pre++(UInt8.ofNat e.key.length::e.key)++[Yw e.kid])++Yw (e.kid / 256)::post by simp,show pre.length+1+e.key.length+1=(pre++(UInt8.ofNat e.key.length::e.key)++[Yw e.kid]).length by simp;omega]
    exact getD_mid
   rw[if_neg (by simp;omega),g0,g1,lowB_two _ hv2 hv3];simp only[Option.some.injEq,Prod.mk.injEq];exact⟨by cases e;simp_all,by omega⟩
def Zay (leaf:Bool):Nat→List En→List En
 | _,[]=>[]
 | i,e::r=>e.norm leaf i::Zay leaf (i+1) r
def rises (leaf:Bool):Nat→Option (List UInt8)→List En→Prop
 | _,_,[]=>True
 | i,pv,e::r=>(∀k,pv=some k→k<e.key)∧rises leaf (i+1) (if leaf||decide (0<i) then some e.key else none) r
theorem norm_key (leaf:Bool) (i:Nat) (e:En) (h:(leaf||decide (0<i))=true):e.norm leaf i=e:=by rw[En.norm,if_pos h]
theorem readGo_at (leaf:Bool):∀(es acc:List En) (pre post:List UInt8) (pv:Option (List UInt8)),(∀e∈es,e.ok leaf)→rises leaf acc.length pv es→(∀x,acc.getLast?=some x→(leaf||decide (1<acc.length))=true→pv=some x.key) →
  Yy leaf (pre++Ya leaf acc.length es++post) es.length pre.length acc=some (acc++Zay leaf acc.length es)
 | [],acc,pre,post,pv,_,_,_=>by simp[Yy,Zay]
 | e::r,acc,pre,post,pv,hok,hr,hl=>by
  obtain⟨hr1,hr2⟩:=hr;have e0:pre++Ya leaf acc.length (e::r)++post=pre++e.bytes leaf acc.length++(Ya leaf (acc.length+1) r++post):=by simp[Ya]
  have h1:=readE_at leaf pre (Ya leaf (acc.length+1) r++post) acc.length e (hok e (List.mem_cons_self ..))
  have hfit:Zcu leaf acc (e.norm leaf acc.length)=true:=by
   unfold Zcu
   cases hx:acc.getLast? with
   | none=>rfl
   | some x =>
    simp only[Bool.or_eq_true,Bool.not_eq_true',decide_eq_true_eq]
    cases hc:(leaf||decide (1<acc.length)) with
    | false=>exact .inl rfl
    | true =>
     right;have h2:=hr1 _ (hl x hx hc)
     rw[norm_key]
     ·exact h2
     ·cases leaf with
      | true=>rfl
      | false =>
       have:acc≠[]:=fun e=>by rw[e] at hx;simp at hx
       have:=List.length_pos_iff.2 this;simpa using this
  have hlen:(acc++[e.norm leaf acc.length]).length=acc.length+1:=by simp
  have ih:=readGo_at leaf r (acc++[e.norm leaf acc.length]) (pre++e.bytes leaf acc.length) post (if leaf||decide (0<acc.length) then some e.key else none) (fun x hx=>hok x (List.mem_cons_of_mem _ hx)) (by rw[hlen];exact hr2) (fun x hx hc=>by
   have hx:e.norm leaf acc.length=x:=by simpa using hx
   subst hx;rw[hlen] at hc
   have hc2:(leaf||decide (0<acc.length))=true:=by
    cases leaf with
    | true=>rfl
    | false=>simpa using hc
   rw[if_pos hc2,norm_key leaf _ e hc2])
  rw[hlen] at ih;rw[e0,List.length_cons,Yy,h1];simp only;rw[if_pos hfit];rw[show pre++e.bytes leaf acc.length++(Ya leaf (acc.length+1) r++post)=pre++e.bytes leaf acc.length++Ya leaf (acc.length+1) r++post by simp]
  rw[List.length_append,En.bytes_length] at ih;rw[ih];simp[Zay]
theorem Zfd (leaf:Bool):∀(l:List En) (i:Nat) (pv:Option (List UInt8)),(leaf=true∨0<i)→(l.map (·.key)).Pairwise (· < ·)→(∀k,pv=some k→∀e∈l,k<e.key)→rises leaf i pv l
 | [],_,_,_,_,_=>trivial
 | e::r,i,pv,hi,hp,hv=>by
  rw[List.map_cons,List.pairwise_cons] at hp;refine⟨fun k hk=>hv k hk e (List.mem_cons_self ..),?_⟩
  have hc:(leaf||decide (0<i))=true:=by
   rcases hi with h | h
   ·rw[h];rfl
   ·simp[h]
  rw[if_pos hc];refine Zfd leaf r (i+1) _ (.inr (by omega)) hp.2 fun k hk x hx=>?_;simp only[Option.some.injEq] at hk;rw[←hk];exact hp.1 _ (List.mem_map.2 ⟨x,hx,rfl⟩)
theorem Srt.rises {n:Nd} (h:Srt n):rises n.leaf 0 none n.l:=by
 unfold Srt at h;obtain⟨leaf,l⟩:=n
 cases leaf with
 | true=>exact Zfd true l 0 none (.inl rfl) h fun k hk=>by cases hk
 | false =>
  cases l with
  | nil=>trivial
  | cons e r=>exact⟨fun k hk=>(by cases hk),Zfd false r 1 none (.inr (by omega)) h fun k hk=>(by cases hk)⟩
structure Nd.ok (n:Nd):Prop where
 ne:n.l≠[]
 len:n.l.length<65536
 each:∀e∈n.l,e.ok n.leaf
 srt:Srt n
 sum:n.sum≤893
def Nd.norm (n:Nd):Nd:=⟨n.leaf,Zay n.leaf 0 n.l⟩
theorem Nd.bytes_eq {n:Nd} (h:n.sum≤893):n.bytes=n.head++Ya n.leaf 0 n.l++List.replicate (893 - n.sum) 0:=by have hb:(Ya n.leaf 0 n.l).length=n.sum:=Zfi _ _ _;have hh:n.head.length=3:=rfl;unfold Nd.bytes;rw[List.take_append,List.take_of_length_le (by rw[List.length_append];omega),List.take_replicate,List.length_append,hb,hh];congr 2;omega
theorem Nd.bytes_length (n:Nd):n.bytes.length=896:=by unfold Nd.bytes;rw[List.length_take,List.length_append,List.length_replicate];omega
theorem read_bytes {n:Nd} (h:n.ok):Zah n.bytes=some n.norm:=by
 have e:=Nd.bytes_eq h.sum;have h1:=readGo_at n.leaf n.l [] n.head (List.replicate (893 - n.sum) 0) none h.each h.srt.rises (fun x hx=>by simp at hx);rw[List.length_nil,List.nil_append,←e] at h1;have hne:=List.length_pos_iff.2 h.ne;have g0:n.bytes.getD 0 0=if n.leaf then 1 else 2:=by rw[e];rfl
 have g1:n.bytes.getD 1 0=UInt8.ofNat n.l.length:=by rw[e];rfl
 have g2:n.bytes.getD 2 0=UInt8.ofNat (n.l.length / 256):=by rw[e];rfl
 have hm:readM n.bytes=n.l.length:=by
  unfold readM;rw[g1,g2];have:=h.len
  have a:(UInt8.ofNat n.l.length).toNat=n.l.length % 256:=by simp
  have b:(UInt8.ofNat (n.l.length / 256)).toNat=n.l.length / 256 % 256:=by simp
  rw[a,b];omega
 have hlf:(n.bytes.getD 0 0==1)=n.leaf:=by rw[g0];cases n.leaf<;>rfl
 unfold Zah;rw[hm,hlf,if_neg]
 ·rw[show (3:Nat)=n.head.length from rfl,h1]
  rfl
 ·rw[g0]
  rintro(⟨a,b⟩ | a)
  ·cases hx:n.leaf<;>simp[hx] at a b
  ·omega
end
section
open Go.RowKit
theorem info_entry:(Tryz.prog.info? 82).map (fun i=>(i.zero,i.size,i.bytes))=some (some (.agg #[.string ⟨#[]⟩,.string ⟨#[]⟩,.int .i64 0]),3,40):=by kernel_rfl
def enC (e:En):List Value:=[.string ⟨e.key.toArray⟩,.string ⟨e.val.toArray⟩,.int .i64 e.kid]
def enV (l:List En):List Value:=l.flatMap enC
theorem Zw (l:List En):(enV l).length=l.length*3:=by
 induction l with
 | nil=>rfl
 | cons e r ih =>
  rw[enV,List.flatMap_cons,List.length_append,List.length_cons];rw[enV] at ih;rw[ih];show 3+_=_
  omega
theorem Zgb (a b:List En):enV (a++b)=enV a++enV b:=by simp[enV]
theorem enV_one (e:En):enV [e]=enC e:=by simp[enV]
theorem enV_get:∀(l:List En) (i:Nat) (hi:i<l.length) (j:Nat),j<3→(enV l)[i*3+j]?=(enC l[i])[j]?
 | e::r,0,_,j,hj=>by rw[enV,List.flatMap_cons,Nat.zero_mul,Nat.zero_add,List.getElem?_append_left (by simpa [enC] using hj)];rfl
 | e::r,i+1,hi,j,hj=>by
  have ih:=enV_get r i (by simpa using hi) j hj;rw[enV,List.flatMap_cons,show (i+1)*3+j=(enC e).length+(i*3+j) by show _=3+_;omega,List.getElem?_append_right (by omega),Nat.add_sub_cancel_left]
  exact ih
theorem Zdk (l:List En):∀v∈enV l,v.oneCell'=true:=by
 intro v hv;obtain⟨e,_,hv⟩:=List.mem_flatMap.1 hv;simp only[enC,List.mem_cons,List.not_mem_nil,or_false] at hv
 rcases hv with rfl | rfl | rfl<;>rfl
structure En.few (e:En):Prop where
 key:e.key.length≤80
 val:e.val.length≤200
 k0:0≤e.kid
 k1:e.kid<65536
def IsE (w:World) (v:Value) (l:List En):Prop :=
 ∃a cap,v=.slice a l.length cap∧l.length≤cap∧cap≤maxLen∧(a=none→cap=0) ∧
  ∀x,a=some x→(0<l.length→x.spot=none)∧∀i,(h:i<l.length)→w.cell? ⟨x.block,x.off+i*3,none⟩=some (.string ⟨l[i].key.toArray⟩)∧w.cell? ⟨x.block,x.off+i*3+1,none⟩=some (.string ⟨l[i].val.toArray⟩)∧w.cell? ⟨x.block,x.off+i*3+2,none⟩=some (.int .i64 l[i].kid)
theorem IsE.nil (w:World):IsE w (.slice none 0 0) []:=⟨none,0,rfl,Nat.le_refl _,by simp[maxLen],fun _=>rfl,fun x h=>by cases h⟩
theorem IsE.of_cells {w w':World} {v:Value} {l:List En} (h:IsE w v l) (hw:∀a u,w.cell? a=some u→w'.cell? a=some u):IsE w' v l:=by obtain⟨a,cap,hv,hl,hm,hn,hc⟩:=h;exact⟨a,cap,hv,hl,hm,hn,fun x hx=>⟨(hc x hx).1,fun i hi=>⟨hw _ _ ((hc x hx).2 i hi).1,hw _ _ ((hc x hx).2 i hi).2.1,hw _ _ ((hc x hx).2 i hi).2.2⟩⟩⟩
theorem IsE.below {w w':World} {v:Value} {l:List En} (h:IsE w v l) (hb:Below w.heap.size w w'):IsE w' v l:=h.of_cells (Zi hb)
theorem IsE.drew {w:World} {v:Value} {l:List En} (h:IsE w v l):IsE w.drew v l:=h
theorem IsE.form {w:World} {v:Value} {l:List En} (h:IsE w v l):∃a cap,v=.slice a l.length cap∧l.length≤cap∧cap≤maxLen:=by obtain⟨a,cap,hv,hl,hm,_⟩:=h;exact⟨a,cap,hv,hl,hm⟩
theorem IsE.at {w:World} {a:Option Addr} {n cap:Nat} {l:List En} (h:IsE w (.slice a n cap) l) (i:Nat) (hi:i<l.length):∃b o,a=some ⟨b,o,none⟩ ∧
  w.cell? ⟨b,o+i*3,none⟩=some (.string ⟨l[i].key.toArray⟩)∧w.cell? ⟨b,o+i*3+1,none⟩=some (.string ⟨l[i].val.toArray⟩)∧w.cell? ⟨b,o+i*3+2,none⟩=some (.int .i64 l[i].kid):=by
 obtain⟨a',cap',hv,hl,hm,hn,hc⟩:=h;simp only[Value.slice.injEq] at hv;obtain⟨rfl,_,rfl⟩:=hv
 cases a with
 | none=>have:=hn rfl;omega
 | some x =>
  obtain⟨b,o,s⟩:=x;obtain⟨hs,hc⟩:=hc _ rfl;obtain rfl:s=none:=hs (by omega);exact⟨b,o,rfl,hc i hi⟩
def Zq (B:Nat) (w:World) (v:Value) (l:List En):Prop:=w.ownsRow B 82 3 v l.length (enV l)
theorem Zq.nil (B:Nat) (w:World):Zq B w (.slice none 0 0) []:=World.ownsRow_nil w B 82 3
theorem Zq.keep {B:Nat} {w w':World} {v:Value} {l:List En} (h:Zq B w v l) (hw:∀k,B≤k→k<w.heap.size→w'.heap[k]?=w.heap[k]?):Zq B w' v l:=Zfp h hw
theorem Zq.keep1 {B:Nat} {w w':World} {v:Value} {l:List En} (h:Zq B w v l) (hw:∀k,v.ownBlock=some k→w'.heap[k]?=w.heap[k]?):Zq B w' v l:=by
 obtain⟨h1,h2⟩:=h;refine⟨h1,?_⟩;rcases h2 with h2 | ⟨g,cap,cur,hv,hb,hh,r⟩
 ·exact .inl h2
 ·exact .inr ⟨g,cap,cur,hv,hb,(hw g (by rw[hv];rfl)).trans hh,r⟩
theorem Zq.below {B:Nat} {w w':World} {v:Value} {l:List En} (h:Zq B w v l) (hb:Below w.heap.size w w'):Zq B w' v l:=h.keep fun k _ hl=>hb.block k hl
theorem Zq.lt {B:Nat} {w:World} {v:Value} {l:List En} (h:Zq B w v l) {k:Nat} (hk:v.ownBlock=some k):B≤k∧k<w.heap.size:=by obtain⟨h1,c,hc⟩:=Zek h hk.symm;exact⟨h1,Za hc⟩
theorem Zq.form {B:Nat} {w:World} {v:Value} {l:List En} (h:Zq B w v l):(v=.slice none 0 0∧l=[])∨∃g cap,v=.slice (some ⟨g,0,none⟩) l.length cap∧l.length≤cap∧cap≤maxLen∧B≤g∧g<w.heap.size:=by
 rcases h.2 with ⟨rfl,hn⟩ | ⟨g,cap,cur,rfl,hb,hg,hnc,hcm,_⟩
 ·exact .inl ⟨rfl,List.eq_nil_of_length_eq_zero hn⟩
 ·exact .inr ⟨g,cap,rfl,hnc,hcm,hb,Za hg⟩
theorem Zq.isE {B:Nat} {w:World} {v:Value} {l:List En} (h:Zq B w v l):IsE w v l:=by
 rcases h.2 with ⟨rfl,hn⟩ | ⟨g,cap,cur,rfl,hb,hg,hnc,hcm,hcs,htake⟩
 ·obtain rfl:=List.eq_nil_of_length_eq_zero hn;exact IsE.nil w
 ·refine⟨_,cap,rfl,hnc,hcm,fun e=>(by cases e),fun x hx=>?_⟩
  simp only[Option.some.injEq] at hx;subst hx;refine⟨fun _=>rfl,fun i hi=>?_⟩
  have key:∀j,j<3→w.cell? ⟨g,i*3+j,none⟩=(enC l[i])[j]?:=fun j hj=>by
   rw[cell_of_row _ _ _ _ _ _ hg];have e:=enV_get l i hi j hj
   rw[←htake,List.getElem?_take,if_pos (by omega)] at e;simpa using e
  dsimp only;rw[Nat.zero_add];exact⟨key 0 (by omega),key 1 (by omega),key 2 (by omega)⟩
theorem IsE.firsts {w:World} {v:Value} {l:List En} (h:IsE w v l):∀w',w'.heap=w.heap→(Builtin.firstCells 3 l.length v).run Tryz.prog w'=.ok (enV l).toArray w':=by
 intro w' hw;obtain⟨a,cap,rfl,hl,hm,hn,hc⟩:=h;by_cases h0:l.length=0
 ·obtain rfl:=List.eq_nil_of_length_eq_zero h0
  cases a with
  | none=>simp[Builtin.firstCells,enV]
  | some x=>simp[Builtin.firstCells,loadCells,loadCellsFrom,enV]
 ·cases a with
  | none=>have:=hn rfl;omega
  | some x =>
   obtain⟨b,o,s⟩:=x;obtain⟨hs,hc⟩:=hc _ rfl;obtain rfl:s=none:=hs (by omega);refine run_firstCells_some (P:=Tryz.prog) w' 3 l.length _ _ _ (enV l) (by rw[Zw]) ?_;intro j u hj;have hlt:j<l.length*3:=by have:=(List.getElem?_eq_some_iff.1 hj).1;rwa[Zw] at this
   obtain⟨i,r,rfl,hr⟩:∃i r,j=i*3+r∧r<3:=⟨j / 3,j % 3,by omega,Nat.mod_lt _ (by omega)⟩;have hi:i<l.length:=by omega
   rw[enV_get l i hi r hr] at hj;rw[Addr.add_mid];have hcell:∀c,w'.cell? ⟨b,c,none⟩=w.cell? ⟨b,c,none⟩:=fun c=>by unfold World.cell?;rw[hw]
   rw[hcell];obtain⟨c0,c1,c2⟩:=hc i hi;rcases(show r=0∨r=1∨r=2 by omega) with rfl | rfl | rfl
   ·rw[←hj];exact c0
   ·rw[←hj];exact c1
   ·rw[←hj];exact c2
theorem Zq.app {B:Nat} {w:World} {v u:Value} {l m:List En} (h:Zq B w v l) (hu:IsE w u m) (hB:B≤w.heap.size) (hL:l.length+m.length≤1000000) :
  ∃v' w',(Builtin.append_ #[78,78] 78 #[v,u]).run Tryz.prog w=.ok v' w'∧Zq B w' v' (l++m)∧w.grownBy w' v.ownBlock∧(v'.ownBlock=v.ownBlock∨v'.ownBlock=some w.heap.size):=by
 obtain⟨i,hi,hz,hs,hb⟩:=info_parts (P:=Tryz.prog) (e:=82) info_entry;have hf:=hu.firsts
 obtain⟨a,cap,rfl,hc1,hc2⟩:=hu.form
 obtain⟨v',w',hr,ho,hgr,_,h5⟩:=Zdw (P:=Tryz.prog) w B 78 78 78 82 i _ 3 40 _ Tryz.underlying78 Tryz.underlying78 (.inl rfl) hi hz hs hb rfl (by decide) v l.length (enV l) h
  (.slice a m.length cap) m.length (enV m) (fun w'=>rfl) (by rw[Zw]) hf (Zdk m) (by simp[maxLen];omega) (by omega) hB
 refine⟨v',w',hr,?_,hgr,h5⟩;unfold Zq;rw[Zgb,List.length_append];exact ho
theorem IsE.take {w:World} {a:Option Addr} {n cap:Nat} {l:List En} (h:IsE w (.slice a n cap) l) (k:Nat) (hk:k≤l.length):IsE w (.slice a k cap) (l.take k):=by
 obtain⟨a',cap',hv,hl,hm,hn,hc⟩:=h;simp only[Value.slice.injEq] at hv;obtain⟨rfl,_,rfl⟩:=hv;have hlk:(l.take k).length=k:=by rw[List.length_take];omega
 refine⟨a,cap,by rw[hlk],by omega,hm,hn,fun x hx=>⟨fun hp=>(hc x hx).1 (by omega),fun i hi=>?_⟩⟩;rw[hlk] at hi;have:=(hc x hx).2 i (by omega)
 simpa using this
theorem IsE.drop {w:World} {b o n cap:Nat} {l:List En} (h:IsE w (.slice (some ⟨b,o,none⟩) n cap) l) (k:Nat) (hk:k≤l.length):IsE w (.slice (some ⟨b,o+k*3,none⟩) (l.length - k) (cap - k)) (l.drop k):=by
 obtain⟨a',cap',hv,hl,hm,hn,hc⟩:=h;simp only[Value.slice.injEq] at hv;obtain⟨rfl,_,rfl⟩:=hv;refine⟨_,_,by rw[List.length_drop],by rw[List.length_drop];omega,by omega,fun e=>(by cases e),fun x hx=>?_⟩;simp only[Option.some.injEq] at hx;subst hx;refine⟨fun _=>rfl,fun i hi=>?_⟩;rw[List.length_drop] at hi;have h2:=(hc _ rfl).2 (k+i) (by omega)
 have e:o+k*3+i*3=o+(k+i)*3:=by omega
 simp only[List.getElem_drop];rw[e];exact h2
end
section
open Go.RowKit Go.Deep
def pad (A:List UInt8):List UInt8:=A++List.replicate (896 - A.length) 0
theorem Qv {A:List UInt8} (h:A.length≤896):(pad A).length=896:=by simp[pad];omega
theorem pad_lay {A v:List UInt8} (h:A.length+v.length≤896):Zai (pad A) A.length v=pad (A++v):=by
 unfold Zai pad;rw[List.take_append_of_le_length (Nat.le_refl _),List.take_length];have e1:(A++List.replicate (896 - A.length) 0).drop (A.length+v.length)=List.replicate (896 - (A.length+v.length)) (0:UInt8):=by rw[List.drop_append,List.drop_eq_nil_of_le (by omega),List.nil_append,List.drop_replicate];congr 1;omega
 rw[e1];simp
theorem byteCells_bv (k:List UInt8):byteCells ⟨k.toArray⟩=bv k:=by simp[byteCells,bv]
structure Qf (w:World) (g:Nat) (A:List UInt8):Prop where
 row:Zh w g 5 (pad A)
 le:A.length≤896
section
variable {w w' : World} {g : Nat} {A : List UInt8}
theorem Qf.keep (h:Qf w g A) (hw:w'.heap[g]?=w.heap[g]?):Qf w' g A:=⟨h.row.keep hw,h.le⟩
theorem Qf.below (h:Qf w g A) (hb:Below w.heap.size w w'):Qf w' g A:=⟨h.row.below hb,h.le⟩
theorem Qf.lay (h:Qf w g A) (v:List UInt8) (hv:A.length+v.length≤896):Qf (w.setCells g A.length (bv v)) g (A++v):=by have h1:=h.row.lay A.length v (by rw[Qv h.le];exact hv);rw[pad_lay hv] at h1;exact⟨h1,by rw[List.length_append];exact hv⟩
theorem Qf.room (h:Qf w g A) (v:List UInt8) (hv:A.length+v.length≤896):(∀j,j<(bv v).length→(w.cell? ⟨g,0+A.length*1+j,none⟩).isSome=true)∧∀j,j<(bv v).length→w.frozen? ⟨g,0+A.length*1+j,none⟩=false:=by refine⟨fun j hj=>?_,fun j hj=>Zf h.row _⟩;rw[Zl] at hj;rw[Nat.zero_add,Nat.mul_one,h.row.cell (A.length+j) (by rw[Qv h.le];omega)];rfl
theorem info_u8:(Tryz.prog.info? 5).map (fun i=>(i.zero,i.size,i.bytes))=some (some (.int .u8 0),1,1):=by kernel_rfl
theorem Qf.app_str (h:Qf w g A) (k:List UInt8) (hk:A.length+k.length≤896) (ty:TypeId) :
  (Builtin.append_ #[106,9] ty #[.slice (some ⟨g,0,none⟩) A.length 896,.string ⟨k.toArray⟩]).run Tryz.prog w=.ok (.slice (some ⟨g,0,none⟩) (A++k).length 896) (w.setCells g A.length (bv k)):=by
 obtain⟨i,hi,hz,hs,hb⟩:=info_parts (P:=Tryz.prog) (e:=5) info_u8;have hsrc:=Src.ofString (P:=Tryz.prog) w (tx:=9) Tryz.underlying9 ⟨k.toArray⟩
 rw[byteCells_bv,show (⟨k.toArray⟩:ByteArray).size=k.length by simp[ByteArray.size]] at hsrc
 obtain⟨r1,r2⟩:=h.room k hk;have:=run_append_room_src w 106 9 ty 5 i Tryz.underlying106 hi g 0 A.length 896 (.string ⟨k.toArray⟩) k.length (bv k) (by rw[hs];exact hsrc) hk (by rw[hs];exact r1) (by rw[hs];exact r2)
 rw[hs,Nat.zero_add,Nat.mul_one,←List.length_append] at this;exact this
theorem Qf.app_row (h:Qf w g A) (u:Nat) (k:List UInt8) (hu:Zh w u 5 k) (hk:A.length+k.length≤896) (ty:TypeId) :
  (Builtin.append_ #[106,106] ty #[.slice (some ⟨g,0,none⟩) A.length 896,.slice (some ⟨u,0,none⟩) k.length k.length]).run Tryz.prog w=.ok (.slice (some ⟨g,0,none⟩) (A++k).length 896) (w.setCells g A.length (bv k)):=by
 obtain⟨i,hi,hz,hs,hb⟩:=info_parts (P:=Tryz.prog) (e:=5) info_u8
 have hsrc:=Src.ofSlice (P:=Tryz.prog) w (size:=1) (tx:=106) Tryz.underlying106 ⟨u,0,none⟩ k.length k.length (bv k) (by simp[bv]) (fun j c hj=>by
  have hlt:j<k.length:=by have:=(List.getElem?_eq_some_iff.1 hj).1;rwa[Zl] at this
  rw[Addr.add_mid,Nat.zero_add,hu.cell j hlt];rw[←hj]
  simp[bv,hlt]) (Yk k)
 obtain⟨r1,r2⟩:=h.room k hk;have:=run_append_room_src w 106 106 ty 5 i Tryz.underlying106 hi g 0 A.length 896 (.slice (some ⟨u,0,none⟩) k.length k.length) k.length (bv k) (by rw[hs];exact hsrc) hk (by rw[hs];exact r1) (by rw[hs];exact r2)
 rw[hs,Nat.zero_add,Nat.mul_one,←List.length_append] at this;exact this
end
end
section
open Go.RowKit
abbrev intO (n:Nat):Obj:=.cells #[.int .i64 (n:Int)] 3 (0,0)
def TextEnd (w:World) (g:Nat) (r:Option (List UInt8 × Nat)) (at_:Nat) (e:Ending) (w':World):Prop:=match r with
 | none=>e=.returned (.tuple #[.string ⟨#[]⟩,.bool false])∧Zb (·=g) w w'∧w'.heap[g]?=some (intO at_)
 | some x=>e=.returned (.tuple #[.string ⟨x.1.toArray⟩,.bool true])∧Zb (·=g) w w'∧w'.heap[g]?=some (intO x.2)
theorem text_any (w:World) (a:Option Addr) (n cap:Nat) (bs:List UInt8) (h:IsB w (.slice a n cap) bs) (hn:n=bs.length) (hn2:n≤100000) (g:Nat) (at_:Nat) (hg:w.heap[g]?=some (intO at_)) (hat:at_≤100000) (most:Nat) (hm:most≤255) :
  Calls Tryz.prog 110 #[.slice a n cap,.pointer (some ⟨g,0,none⟩),.int .i64 (most:Int)] w (TextEnd w g (Zbm bs at_ most) at_):=by
 have hc:w.drew.cell? ⟨g,0,none⟩=some (.int .i64 (at_:Int)):=by
  show w.cell? _=_
  rw[cell_of_row _ _ _ _ _ _ hg];rfl
 have hg':w.drew.heap[g]?=some (intO at_):=hg;have hi0:(0:Int)≤(at_:Int):=by omega
 have s1:IntKind.i64.wrap ((at_:Int)+1)=(at_:Int)+1:=IntWalk.i64_in _ (by omega);by_cases h1:n≤at_
 ·have hd:decide ((at_:Int)≥(n:Int))=true:=decide_eq_true (by omega)
  have hd2:decide ((n:Int)≤(at_:Int))=true:=decide_eq_true (by omega);have ht:Zbm bs at_ most=none:=by unfold Zbm;rw[if_pos (by omega)]
  have HX:Hid (Zb (·=g) w w.drew∧w.drew.heap[g]?=some (intO at_)):=Hd ⟨(Zb.refl _ _).drew,hg'⟩;rw[ht];have hd7:decide (n≤at_)=true:=decide_eq_true h1;clear h hg hg' hn;go_enter Tryz.func110,Tryz.ntmps110;go_upto_region 1 with fail;go_region;go_wp2_with fail;go_ret2;exact⟨rfl,HX.out⟩
 ·obtain⟨x,hx⟩:∃x,x=bs[at_]'(by omega):=⟨_,rfl⟩
  obtain⟨b,o,rfl,hcb⟩:∃b o,a=some ⟨b,o,none⟩∧w.cell? ⟨b,o+at_,none⟩=some (.int .u8 (x.toNat:Int)):=by
   obtain⟨a',cap',hv,hl,hm',hnil,hc'⟩:=h;simp only[Value.slice.injEq] at hv;obtain⟨rfl,_,rfl⟩:=hv
   cases a with
   | none=>have:=hnil rfl;omega
   | some y =>
    obtain⟨b,o,sp⟩:=y;obtain⟨hs,hc'⟩:=hc' _ rfl;obtain rfl:sp=none:=hs (by omega);exact⟨b,o,rfl,by rw[hx];exact hc' at_ (by omega)⟩
  have hgd:bs.getD at_ 0=x:=by rw[List.getD_eq_getElem?_getD,List.getElem?_eq_getElem (by omega),hx];rfl
  have hx8:=x.toNat_lt;have hcb':w.drew.cell? ⟨b,o+at_,none⟩=some (.int .u8 (x.toNat:Int)):=hcb;have hd:decide ((at_:Int)≥(n:Int))=false:=decide_eq_false (by omega);have hd2:decide ((n:Int)≤(at_:Int))=false:=decide_eq_false (by omega);have hd7:decide (n≤at_)=false:=decide_eq_false (by omega);have hi1:(at_:Int)<(n:Int):=by omega
  have HX:Hid (Zb (·=g) w w.drew∧w.drew.heap[g]?=some (intO at_)):=Hd ⟨(Zb.refl _ _).drew,hg'⟩;have s0:IntKind.i64.wrap (x.toNat:Int)=(x.toNat:Int):=IntWalk.i64_in _ (by omega);have s2:IntKind.i64.wrap ((at_:Int)+1+(x.toNat:Int))=(at_:Int)+1+(x.toNat:Int):=IntWalk.i64_in _ (by omega);by_cases h2:most<x.toNat
  ·have hd3:decide ((x.toNat:Int) > (most:Int))=true:=decide_eq_true (by omega)
   have hd4:decide ((most:Int)<(x.toNat:Int))=true:=decide_eq_true (by omega);have hd8:decide (most<x.toNat)=true:=decide_eq_true h2;have ht:Zbm bs at_ most=none:=by unfold Zbm;rw[hgd,if_neg (by omega),if_pos h2]
   rw[ht];clear hn h hg hg' hx hcb hgd ht;go_enter Tryz.func110,Tryz.ntmps110;go_upto_region 1 with fail;go_region;go_wp2_with fail;go_ret2;exact⟨rfl,HX.out⟩
  have hd3:decide ((x.toNat:Int) > (most:Int))=false:=decide_eq_false (by omega);have hd4:decide ((most:Int)<(x.toNat:Int))=false:=decide_eq_false (by omega);have hd8:decide (most<x.toNat)=false:=decide_eq_false h2;by_cases h3:n<at_+1+x.toNat
  ·have hd5:decide ((at_:Int)+1+(x.toNat:Int) > (n:Int))=true:=decide_eq_true (by omega)
   have hd6:decide ((n:Int)<(at_:Int)+1+(x.toNat:Int))=true:=decide_eq_true (by omega);have ht:Zbm bs at_ most=none:=by unfold Zbm;rw[hgd,if_neg (by omega),if_neg h2,if_pos (by omega)]
   rw[ht];clear hn h hg hg' hx hcb hgd ht;go_enter Tryz.func110,Tryz.ntmps110;go_upto_region 1 with fail;go_region;go_wp2_with fail;go_ret2;exact⟨rfl,HX.out⟩
  have hd5:decide ((at_:Int)+1+(x.toNat:Int) > (n:Int))=false:=decide_eq_false (by omega);have hd6:decide ((n:Int)<(at_:Int)+1+(x.toNat:Int))=false:=decide_eq_false (by omega);have hcap:at_+1+x.toNat≤cap:=by obtain⟨_,_,hv,hl,_⟩:=h;simp only[Value.slice.injEq] at hv;omega
  have hcut:=fun W=>run_cut_lh (P:=Tryz.prog) W Tryz.underlying106 (e:=5) (by kernel_rfl) (some ⟨b,o,none⟩) n cap (at_+1) (at_+1+x.toNat) ((at_:Int)+1) ((at_:Int)+1+(x.toNat:Int)) (by omega) (by omega) (by omega) hcap;have hI:=h.cut (at_+1) (at_+1+x.toNat) (by omega) (by omega);obtain⟨S,hS⟩:∃S,S=(bs.take (at_+1+x.toNat)).drop (at_+1):=⟨_,rfl⟩;have hSl:S.length=x.toNat:=by rw[hS,List.length_drop,List.length_take];omega
  have ht:Zbm bs at_ most=some (S,at_+1+S.length):=by
   unfold Zbm;rw[hgd,if_neg (by omega),if_neg h2,if_neg (by omega),hSl];have e:(bs.drop (at_+1)).take x.toNat=S:=by rw[hS,List.drop_take];congr 1;omega
   rw[e]
  rw[←hS] at hI;rw[ht];generalize cutA (some ⟨b,o,none⟩) cap (at_+1)=ca at *;generalize hq1:at_+1+x.toNat - (at_+1)=q1 at *;generalize cap - (at_+1)=q2 at *;have hst:=run_str (P:=Tryz.prog) (w:=w.drew.drew) hI 106 9 5 Tryz.underlying106 Tryz.underlying5 Tryz.underlying9
  have s3:IntKind.i64.wrap (1+(S.length:Int))=1+(S.length:Int):=IntWalk.i64_in _ (by omega);have s4:IntKind.i64.wrap ((at_:Int)+(1+(S.length:Int)))=((at_+1+S.length:Nat):Int):=by rw[IntWalk.i64_in _ (by omega)];omega
  have hc2:w.drew.drew.cell? ⟨g,0,none⟩=some (.int .i64 (at_:Int)):=hc;have hcb2:w.drew.drew.cell? ⟨b,o+at_,none⟩=some (.int .u8 (x.toNat:Int)):=hcb;have hfz:w.drew.drew.frozen? ⟨g,0,none⟩=false:=Zf (w:=w.drew.drew) hg 0
  have HY:Hid (Zb (·=g) w (w.drew.drew.setCell ⟨g,0,none⟩ (.int .i64 ((at_+1+S.length:Nat):Int)))∧(w.drew.drew.setCell ⟨g,0,none⟩ (.int .i64 ((at_+1+S.length:Nat):Int))).heap[g]?=some (intO (at_+1+S.length))) :=
   Hd ⟨((Zb.refl _ _).drew.drew).trans (Zd w.drew.drew g 0 _),Ze (w:=w.drew.drew) hg _⟩
  clear hn h hg hg' hx hcb hgd ht hI hS HX hq1 hSl;go_enter Tryz.func110,Tryz.ntmps110;go_upto_region 1 with fail;go_region;go_upto_region 3 with fail;go_region;go_wp2_with fail;go_ret2;exact⟨rfl,HY.out⟩
end
section
open Go.RowKit
abbrev ndV (leaf:Bool) (v:Value):Value:=.agg #[.bool leaf,v]
theorem Zj (w:World) (o:Obj):Below w.heap.size w (w.alloc o):=(Below.refl _ _).alloc (Nat.le_refl _) _
theorem size_any (w:World) (leaf:Bool) (a:Option Addr) (n cap:Nat) {l:List En} (h:IsE w (.slice a n cap) l) (hn:n=l.length) (i:Nat) (hi:i<l.length) (hm:l.length≤1000000) (hf:∀e∈l,e.key.length≤80∧e.val.length≤200) :
  Calls Tryz.prog 78 #[ndV leaf (.slice a n cap),.int .i64 (i:Int)] w fun e w'=>e=.returned (.int .i64 (l[i].size leaf i:Int))∧Below w.heap.size w w':=by
 obtain⟨b,o,rfl,c0,c1,c2⟩:=h.at i hi;obtain⟨hk,hv⟩:=hf _ (List.getElem_mem hi);obtain⟨w1,hw1⟩:∃x,x=w.alloc (.cells #[.bool leaf,.slice (some ⟨b,o,none⟩) n cap] 84):=⟨_,rfl⟩;have hb1:Below w.heap.size w w1:=by rw[hw1];exact Zj w _
 have d0:=Zi hb1 _ _ c0;have d1:=Zi hb1 _ _ c1;have d2:=Zi hb1 _ _ c2;have n0:w1.cell? ⟨w.heap.size,0,none⟩=some (.bool leaf):=by rw[hw1,cell_of_row _ _ _ _ _ _ (heap_alloc_new w _)];rfl
 have n1:w1.cell? ⟨w.heap.size,1,none⟩=some (.slice (some ⟨b,o,none⟩) n cap):=by rw[hw1,cell_of_row _ _ _ _ _ _ (heap_alloc_new w _)];rfl
 have hin:i<n:=by omega
 generalize l[i]=e at *;obtain⟨w2,hw2⟩:∃x,x=w1.alloc (.cells #[.string ⟨e.key.toArray⟩,.string ⟨e.val.toArray⟩,.int .i64 e.kid] 82):=⟨_,rfl⟩;have hb2:Below w1.heap.size w1 w2:=by rw[hw2];exact Zj w1 _
 have m0:=Zi hb2 _ _ n0;have e0:w2.cell? ⟨w1.heap.size,0,none⟩=some (.string ⟨e.key.toArray⟩):=by rw[hw2,cell_of_row _ _ _ _ _ _ (heap_alloc_new w1 _)];rfl
 have e1:w2.cell? ⟨w1.heap.size,1,none⟩=some (.string ⟨e.val.toArray⟩):=by rw[hw2,cell_of_row _ _ _ _ _ _ (heap_alloc_new w1 _)];rfl
 have HB:Hid (Below w.heap.size w w2):=Hd (hb1.trans (hb2.mono hb1.size));have hi0:(0:Int)≤(i:Int):=by omega
 have hi1:(i:Int)<(n:Int):=by omega
 have s1:IntKind.i64.wrap (2+(e.key.length:Int))=2+(e.key.length:Int):=IntWalk.i64_in _ (by omega);have s2:IntKind.i64.wrap (2+(e.key.length:Int)+(e.val.length:Int))=2+(e.key.length:Int)+(e.val.length:Int):=IntWalk.i64_in _ (by omega);have s3:IntKind.i64.wrap (3+(e.key.length:Int))=3+(e.key.length:Int):=IntWalk.i64_in _ (by omega);have HW1:=Hd hw1;have HW2:=Hd hw2;clear h hf c0 c1 c2 hb1 hb2 hn hi;subst hw2;subst hw1
 cases leaf with
 | true =>
  go_enter Tryz.func78,Tryz.ntmps78;go_wp2_with fail;go_ret;exact⟨by simp[En.size],HB.out⟩
 | false =>
  by_cases h0:i=0
  ·subst h0;simp only[Nat.zero_mul,Nat.add_zero] at d0 d1 d2;go_enter Tryz.func78,Tryz.ntmps78;go_wp2_with fail;go_ret;exact⟨by simp[En.size],HB.out⟩
  ·have hz:((i:Int)==0)=false:=by rw[beq_eq_false_iff_ne];omega
   go_enter Tryz.func78,Tryz.ntmps78;go_wp2_with fail;go_ret;exact⟨by simp[En.size,h0],HB.out⟩
theorem Yl (leaf:Bool):∀(a b:List En) (i:Nat),Zg leaf i (a++b)=Zg leaf i a+Zg leaf (i+a.length) b
 | [],b,i=>by simp[Zg]
 | e::r,b,i=>by
  rw[List.cons_append,Zg,Zg,Yl leaf r b (i+1),List.length_cons];rw[show i+1+r.length=i+(r.length+1) by omega]
  omega
theorem En.size_le (leaf:Bool) (i:Nat) (e:En) (h:e.key.length≤80∧e.val.length≤200):e.size leaf i≤282:=by
 unfold En.size;split
 ·omega
 ·split<;>omega
theorem Zep (leaf:Bool):∀(l:List En) (i:Nat),(∀e∈l,e.key.length≤80∧e.val.length≤200)→Zg leaf i l≤282*l.length
 | [],_,_=>by simp[Zg]
 | e::r,i,h=>by have h1:=En.size_le leaf i e (h e (List.mem_cons_self ..));have h2:=Zep leaf r (i+1) fun x hx=>h x (List.mem_cons_of_mem _ hx);rw[Zg,List.length_cons];omega
theorem Zgl (leaf:Bool) (l:List En) (k:Nat) (hk:k<l.length):Zg leaf 0 (l.take (k+1))=Zg leaf 0 (l.take k)+l[k].size leaf k:=by rw[List.take_add_one,List.getElem?_eq_getElem hk,Yl,List.length_take,Nat.min_eq_left (by omega),Nat.zero_add];simp[Zg]
theorem sum_any (w:World) (leaf:Bool) (a:Option Addr) (n cap:Nat) {l:List En} (h:IsE w (.slice a n cap) l) (hn:n=l.length) (hm:l.length≤1000000) (hf:∀e∈l,e.key.length≤80∧e.val.length≤200) :
  Calls Tryz.prog 48 #[ndV leaf (.slice a n cap)] w fun e w'=>e=.returned (.int .i64 ((Nd.mk leaf l).sum:Int))∧Below w.heap.size w w':=by
 obtain⟨w1,hw1⟩:∃x,x=w.alloc (.cells #[.bool leaf,.slice a n cap] 84):=⟨_,rfl⟩;have hb1:Below w.heap.size w w1:=by rw[hw1];exact Zj w _
 have n0:w1.cell? ⟨w.heap.size,0,none⟩=some (.bool leaf):=by rw[hw1,cell_of_row _ _ _ _ _ _ (heap_alloc_new w _)];rfl
 have n1:w1.cell? ⟨w.heap.size,1,none⟩=some (.slice a n cap):=by rw[hw1,cell_of_row _ _ _ _ _ _ (heap_alloc_new w _)];rfl
 have HE:=Hd (h.below hb1);have HB1:=Hd hb1;have HW1:=Hd hw1;have HN:=Hd hn;have HF:=Hd hf;have hm2:n≤1000000:=by omega
 have HC:=Hd (And.intro n0 n1);rw[hw1] at n0 n1;clear h hb1 hw1 hn hf hm;go_enter Tryz.func48,Tryz.ntmps48;go_wp2_with fail;rw[←HW1.out];clear n0 n1;go_loopw [3,8] (fun s y wr=>∃k:Nat,k≤n∧y=.int .i64 (k:Int)∧s=.int .i64 (Zg leaf 0 (l.take k):Int)∧Below w1.heap.size w1 wr) (fun _ y _=>n - (intOf y).toNat)
 case atStart=>exact⟨0,Nat.zero_le _,rfl,by simp[Zg],Below.refl _ _⟩
 case round =>
  obtain⟨k,hk,rfl,rfl,hbr⟩:=hrel;have m0:=Zi hbr _ _ HC.out.1
  have m1:=Zi hbr _ _ HC.out.2;have HBR:=Hd hbr;clear hbr;by_cases hlt:k<n
  ·have hd:decide ((k:Int)<(n:Int))=true:=decide_eq_true (by omega)
   have hkl:k<l.length:=by have:=HN.out;omega
   have HSZ:=Hd (size_any wr leaf a n cap (HE.out.below HBR.out) HN.out k hkl (by have:=HN.out;omega) HF.out);have hst:=Zgl leaf l k hkl;have hs1:=Zep leaf (l.take k) 0 fun e he=>HF.out e (List.mem_of_mem_take he);have hs2:=En.size_le leaf k l[k] (HF.out _ (List.getElem_mem hkl));rw[List.length_take,Nat.min_eq_left (by omega)] at hs1;have HST:=Hd hst;clear hst;generalize Zg leaf 0 (l.take k)=S at *;generalize l[k].size leaf k=z at *;have hsw:IntKind.i64.wrap ((S:Int)+(z:Int))=((S+z:Nat):Int):=by rw[IntWalk.i64_in _ (by omega)];omega
   go_wp2_with fail;refine HSZ.out.mono ?_;rintro e w3 ⟨rfl,hb3⟩;have HB3:=Hd (HBR.out.trans (hb3.mono HBR.out.size))
   clear hb3;go_wp2_with fail;go_roundw
   case rel=>exact⟨k+1,hlt,by go_num,by rw[HST.out];simp,HB3.out⟩
   case measure=>simp[intOf];omega
  ·obtain rfl:k=n:=by omega
   have hd:decide ((k:Int)<(k:Int))=false:=by simp
   have HS:Hid (Zg leaf 0 (l.take k)=(Nd.mk leaf l).sum):=Hd (by rw[HN.out,List.take_length];rfl);rw[HS.out];have HBB:=Hd (HB1.out.trans (HBR.out.mono HB1.out.size));go_wp2_with fail;go_ret;exact⟨rfl,HBB.out⟩
end
section
open Go.RowKit
abbrev ndO (leaf:Bool) (v:Value):Obj:=.cells #[.bool leaf,v] 84 (0,0)
abbrev enO (e:En):Obj:=.cells #[.string ⟨e.key.toArray⟩,.string ⟨e.val.toArray⟩,.int .i64 e.kid] 82 (0,0)
theorem info_node:(Tryz.prog.info? 84).map (·.size)=some 2:=by kernel_rfl
theorem Zc {w:World} {g:Nat} {leaf:Bool} {v:Value} (h:w.heap[g]?=some (ndO leaf v)):w.cell? ⟨g,0,none⟩=some (.bool leaf)∧w.cell? ⟨g,1,none⟩=some v:=by
 refine⟨?_,?_⟩<;>· rw[cell_of_row _ _ _ _ _ _ h];rfl
theorem Zv {w:World} {g:Nat} {e:En} (h:w.heap[g]?=some (enO e)):w.cell? ⟨g,0,none⟩=some (.string ⟨e.key.toArray⟩)∧w.cell? ⟨g,1,none⟩=some (.string ⟨e.val.toArray⟩)∧w.cell? ⟨g,2,none⟩=some (.int .i64 e.kid):=by
 refine⟨?_,?_,?_⟩<;>· rw[cell_of_row _ _ _ _ _ _ h];rfl
theorem nd_load {w:World} {g:Nat} {leaf:Bool} {v:Value} (h:w.heap[g]?=some (ndO leaf v)):(loadVar 84 ⟨g,0,none⟩).run Tryz.prog w=.ok (ndV leaf v) w :=
 run_loadVar_row w g _ _ _ (0,0) _ h Tryz.underlying84 rfl (by rw[info_node];rfl)
theorem Yf {P:Program} {fn:Func} {tmps:Array Value} {a:Tmp} {t:TypeId} {p:Addr} {v:Value} {w:World} {b:Tmp} (hr:fn.results=#[.cell a t,.tmp b]) (ha:tmps.getD a undef=.pointer (some p)) (hv:(loadVar t p).run P w=.ok v w) :
  (results fn tmps).run P w=.ok (.tuple #[v,tmps.getD b undef]) w:=by
 unfold results;simp only[hr,List.mapM_toArray,List.mapM_cons,List.mapM_nil,ha,asAddr,Sem.run_bind,Sem.run_pure,Result.andThen_ok,hv,bind_assoc,pure_bind,Sem.run_map];rfl
theorem IsE.one {w:World} {g:Nat} {e:En} (h:w.heap[g]?=some (enO e)):IsE w (.slice (some ⟨g,0,none⟩) 1 1) [e]:=by
 obtain⟨c0,c1,c2⟩:=Zv h;refine⟨_,1,rfl,Nat.le_refl _,by simp[maxLen],fun e=>(by cases e),fun x hx=>?_⟩;simp only[Option.some.injEq] at hx;subst hx;refine⟨fun _=>rfl,fun i hi=>?_⟩;obtain rfl:i=0:=by simpa using hi
 exact⟨c0,c1,c2⟩
theorem Yt:∀(x y:List UInt8),Op.bytesLess x y=decide (x<y)
 | [],[]=>by simp[Op.bytesLess]
 | _::_,[]=>by simp[Op.bytesLess]
 | [],_::_=>by simp[Op.bytesLess]
 | a::x,b::y=>by
  rw[Op.bytesLess,Yt x y];simp only[List.cons_lt_cons_iff]
  by_cases h1:a<b<;>by_cases h2:a=b<;>by_cases h3:x<y<;>simp[h1,h2,h3]
theorem leq_fits (a b:List UInt8):(Op.bytesLess a b||a==b)=!decide (b<a):=by
 rw[Yt]
 cases h:decide (b<a) with
 | true =>
  have h1:b<a:=of_decide_eq_true h;have h2:¬a<b:=List.lt_asymm h1;have h3:a≠b:=fun e=>List.lt_irrefl _ (e▸h1);simp[h2,h3]
 | false =>
  have h1:¬b<a:=of_decide_eq_false h;rcases List.le_iff_lt_or_eq.1 (List.not_lt.1 h1) with h2 | h2
  ·simp[h2]
  ·simp[h2]
def ReadNEnd (w:World) (bs:List UInt8) (e:Ending) (w':World):Prop:=∃leaf v,e=.returned (.tuple #[ndV leaf v,.bool (Zah bs).isSome])∧Below w.heap.size w w'∧(∃a k c,v=.slice a k c)∧∀n,Zah bs=some n→n.leaf=leaf∧Zq w.heap.size w' v n.l
structure RdI (w wr:World) (lf:Bool) (bs:List UInt8) (i at_:Nat) (v:Value) (l:List En):Prop where
 below:Below w.heap.size w wr
 r:wr.heap[w.heap.size]?=some (ndO false (.slice none 0 0))
 nd:wr.heap[w.heap.size+1]?=some (ndO lf v)
 a:wr.heap[w.heap.size+2]?=some (intO at_)
 own:Zq (w.heap.size+3) wr v l
 len:l.length=i
theorem Zq.low {B B':Nat} {w:World} {v:Value} {l:List En} (h:Zq B w v l) (hb:B'≤B):Zq B' w v l:=by
 obtain⟨h1,h2⟩:=h;refine⟨h1,?_⟩;rcases h2 with h2 | ⟨g,cap,cur,hv,hg,r⟩
 ·exact .inl h2
 ·exact .inr ⟨g,cap,cur,hv,Nat.le_trans hb hg,r⟩
section
variable {w wr : World} {lf : Bool} {bs : List UInt8} {i at_ : Nat} {v : Value} {l : List En}
theorem RdI.store (h:RdI w wr lf bs i at_ v l):(loadVar 84 ⟨w.heap.size,0,none⟩).run Tryz.prog ((wr.setCell ⟨w.heap.size,0,none⟩ (.bool lf)).setCell ⟨w.heap.size,1,none⟩ v)=.ok (ndV lf v) ((wr.setCell ⟨w.heap.size,0,none⟩ (.bool lf)).setCell ⟨w.heap.size,1,none⟩ v) ∧
  Below w.heap.size w ((wr.setCell ⟨w.heap.size,0,none⟩ (.bool lf)).setCell ⟨w.heap.size,1,none⟩ v)∧Zq w.heap.size ((wr.setCell ⟨w.heap.size,0,none⟩ (.bool lf)).setCell ⟨w.heap.size,1,none⟩ v) v l:=by
 have ht:=(Zd wr w.heap.size 0 (.bool lf)).trans (Zd _ w.heap.size 1 v);exact⟨nd_load (Ze (Ze h.r (i:=0) (.bool lf)) (i:=1) v),h.below.trans (ht.below (B:=w.heap.size) h.below.size fun k hk=>by omega),(h.own.keep fun k h1 h2=>ht.block k h2 (by omega)).low (by omega)⟩
theorem RdI.slice (h:RdI w wr lf bs i at_ v l):∃a k c,v=.slice a k c:=by obtain⟨a,c,hv,_⟩:=h.own.isE.form;exact⟨a,_,c,hv⟩
theorem RdI.no (h:RdI w wr lf bs i at_ v l) (hn:Zah bs=none):ReadNEnd w bs (.returned (.tuple #[ndV lf v,.bool false])) ((wr.setCell ⟨w.heap.size,0,none⟩ (.bool lf)).setCell ⟨w.heap.size,1,none⟩ v) :=
 ⟨lf,v,by rw[hn];rfl,h.store.2.1,h.slice,fun n e=>(by rw[hn] at e;cases e)⟩
theorem RdI.yes (h:RdI w wr lf bs i at_ v l) (hn:Zah bs=some ⟨lf,l⟩):ReadNEnd w bs (.returned (.tuple #[ndV lf v,.bool true])) ((wr.setCell ⟨w.heap.size,0,none⟩ (.bool lf)).setCell ⟨w.heap.size,1,none⟩ v) :=
 ⟨lf,v,by rw[hn];rfl,h.store.2.1,h.slice,fun n e=>by
  rw[hn] at e;cases e
  exact⟨rfl,h.store.2.2⟩⟩
theorem RdI.other {T:Nat→Prop} {W:World} {at2:Nat} (h:RdI w wr lf bs i at_ v l) (ht:Zb T wr W) (hT:∀k,T k→w.heap.size+2≤k∧v.ownBlock≠some k) (ha:W.heap[w.heap.size+2]?=some (intO at2)):RdI w W lf bs i at2 v l :=
  ⟨h.below.trans (ht.below (B:=w.heap.size) h.below.size fun k hk=>by have:=(hT k hk).1;omega),(ht.block _ (Za h.r) fun e=>by have:=(hT _ e).1;omega).trans h.r,(ht.block _ (Za h.nd) fun e=>by have:=(hT _ e).1;omega).trans h.nd,ha,
   h.own.keep1 fun k hk=>ht.block k (h.own.lt hk).2 fun e=>(hT k e).2 hk,h.len⟩
theorem RdI.grown {wg:World} {v':Value} {e:En} (h:RdI w wr lf bs i at_ v l) (hg:wr.grownBy wg v.ownBlock) (hm:Zq (w.heap.size+3) wg v' (l++[e])):RdI w (wg.setCell ⟨w.heap.size+1,1,none⟩ v') lf bs (i+1) at_ v' (l++[e]):=by have ht:Zb (fun k=>v.ownBlock=some k) wr wg:=⟨hg.os,hg.tape,hg.output,hg.size,fun k hk hn=>hg.block k hk fun e=>hn e.symm⟩;have hv:∀k,v.ownBlock=some k→w.heap.size+3≤k:=fun k hk=>(h.own.lt hk).1;have t2:=Zd wg (w.heap.size+1) 1 v';have k1:∀{o:Obj} (k:Nat),k<w.heap.size+3→wr.heap[k]?=some o→wg.heap[k]?=some o:=fun k hk ho=>(ht.block k (Za ho) fun e=>by have:=hv k e;omega).trans ho;have b1:Below w.heap.size w wg:=h.below.trans (ht.below (B:=w.heap.size) h.below.size fun k hk=>by have:=hv k hk;omega);have n1:=k1 _ (by omega) h.nd;refine⟨b1.trans (t2.below (B:=w.heap.size) b1.size fun k hk=>by omega),(t2.block _ (Za (k1 _ (by omega) h.r)) (by omega)).trans (k1 _ (by omega) h.r),?_,(t2.block _ (Za (k1 _ (by omega) h.a)) (by omega)).trans (k1 _ (by omega) h.a),hm.keep fun k h1 h2=>t2.block k h2 (by omega),by rw[List.length_append,h.len];rfl⟩;exact Ze n1 (i:=1) v'
end
theorem textB_le {bs:List UInt8} {at_ most:Nat} {x:List UInt8 × Nat} (h:Zbm bs at_ most=some x):x.2≤bs.length∧x.1.length≤most:=by
 unfold Zbm at h;split at h
 ·cases h
 split at h
 ·cases h
 split at h
 ·cases h
 ·simp only[Option.some.injEq] at h;subst h;refine⟨by dsimp only;omega,?_⟩;dsimp only;rw[List.length_take,List.length_drop];omega
theorem bread_any (w:World) (a:Option Addr) (n cap:Nat) (bs:List UInt8) (h:IsB w (.slice a n cap) bs) (hn:n=bs.length) (hn3:3≤n) (hn2:n≤1000) :
  Calls Tryz.prog 86 #[.slice a n cap] w (ReadNEnd w bs):=by
 obtain⟨b,o,rfl,hcell⟩:∃b o,a=some ⟨b,o,none⟩∧∀i,i<n→w.cell? ⟨b,o+i,none⟩=some (.int .u8 ((bs.getD i 0).toNat:Int)):=by
  obtain⟨a',cap',hv,hl,hm',hnil,hc'⟩:=h;simp only[Value.slice.injEq] at hv;obtain⟨rfl,_,rfl⟩:=hv
  cases a with
  | none=>have:=hnil rfl;omega
  | some y =>
   obtain⟨b,o,sp⟩:=y;obtain⟨hs,hc'⟩:=hc' _ rfl;obtain rfl:sp=none:=hs (by omega);refine⟨b,o,rfl,fun i hi=>?_⟩;rw[List.getD_eq_getElem?_getD,List.getElem?_eq_getElem (by omega)];exact hc' i (by omega)
 have d0:=hcell 0 (by omega);have d1:=hcell 1 (by omega);have d2:=hcell 2 (by omega);rw[Nat.add_zero] at d0;have hrm:readM bs=(bs.getD 1 0).toNat+(bs.getD 2 0).toNat*256:=rfl;have HRN:Hid (Zah bs=if (bs.getD 0 0≠1∧bs.getD 0 0≠2)∨readM bs=0 then none else (Yy (bs.getD 0 0==1) bs (readM bs) 3 []).map (Nd.mk (bs.getD 0 0==1))):=Hd rfl
 have HCELL:=Hd hcell;have HI:=Hd h;have HN:=Hd hn;clear h hcell hn;generalize readM bs=M at *;generalize bs.getD 0 0=x0 at *;generalize bs.getD 1 0=x1 at *;generalize bs.getD 2 0=x2 at *;have hb256:=x1.toNat_lt;have hc256:=x2.toNat_lt;have ha256:=x0.toNat_lt;have hMle:M≤65535:=by omega
 have e1:IntKind.i64.wrap (x1.toNat:Int)=(x1.toNat:Int):=IntWalk.i64_in _ (by omega);have e2:IntKind.i64.wrap (x2.toNat:Int)=(x2.toNat:Int):=IntWalk.i64_in _ (by omega);have HM:=Hd hrm;have HML:=Hd hMle;clear hrm hMle;obtain⟨W1,hW1⟩:∃x,x=w.alloc (.cells #[.bool false,.slice none 0 0] 84):=⟨_,rfl⟩;have hb1:Below w.heap.size w W1:=by rw[hW1];exact Zj w _
 have hr1:W1.heap[w.heap.size]?=some (ndO false (.slice none 0 0)):=by rw[hW1];exact heap_alloc_new w _
 have hs1:W1.heap.size=w.heap.size+1:=by rw[hW1];simp
 have HW1:=Hd hW1;have p0:=Zi hb1 _ _ d0;have p1:=Zi hb1 _ _ d1;have p2:=Zi hb1 _ _ d2;obtain⟨lf,hlf⟩:∃lf:Bool,lf=((x0.toNat:Int)==1):=⟨_,rfl⟩
 have hlf2:(x0==1)=lf:=by
  rw[hlf]
  cases hx:(x0==1) with
  | true =>
   have:x0=1:=by simpa using hx
   rw[this];rfl
  | false =>
   symm;rw[beq_eq_false_iff_ne];intro e;have e1:x0.toNat=1:=by omega
   have:x0=1:=UInt8.toNat_inj.1 e1;rw[this] at hx;simp at hx
 rw[hlf2] at HRN;obtain⟨W2,hW2⟩:∃x,x=W1.alloc (.cells #[.bool lf,.slice none 0 0] 84):=⟨_,rfl⟩;have hb2:Below W1.heap.size W1 W2:=by rw[hW2];exact Zj W1 _
 have hr2:=(hb2.block _ (Za hr1)).trans hr1;have hn2':W2.heap[w.heap.size+1]?=some (ndO lf (.slice none 0 0)):=by rw[hW2,←hs1];exact heap_alloc_new W1 _
 have hs2:W2.heap.size=w.heap.size+2:=by rw[hW2];simp;omega
 have HB2:=Hd (hb1.trans (hb2.mono hb1.size));have HW2:=Hd hW2;have q0:=Zi hb2 _ _ p0;have q1:=Zi hb2 _ _ p1;have q2:=Zi hb2 _ _ p2;have HR2:=Hd hr2;have HN2:=Hd hn2';have HS2:=Hd hs2;have HLF:=Hd hlf;clear hr1 hr2 hn2' hs2 hs1 hb1 hb2 hW2;subst hW1;go_enter Tryz.func86,Tryz.ntmps86;go_wp2_with fail;rw[←HLF.out,←HW2.out];clear p0 p1 p2 d0 d1 d2 hlf hlf2;have q0':W2.drew.cell? ⟨b,o,none⟩=some (.int .u8 (x0.toNat:Int)):=q0;have q1':W2.drew.cell? ⟨b,o+1,none⟩=some (.int .u8 (x1.toNat:Int)):=q1;have q2':W2.drew.cell? ⟨b,o+2,none⟩=some (.int .u8 (x2.toNat:Int)):=q2;have hr3:W2.drew.heap[w.heap.size]?=some (ndO false (.slice none 0 0)):=HR2.out;have hn3':W2.drew.heap[w.heap.size+1]?=some (ndO lf (.slice none 0 0)):=HN2.out;have hs3:W2.drew.heap.size=w.heap.size+2:=HS2.out;have HB3:Hid (Below w.heap.size w W2.drew):=Hd HB2.out.drew;have c1:(1:Int)<(n:Int):=by omega
 have c2:(2:Int)<(n:Int):=by omega
 have c0:(0:Int)<(n:Int):=by omega
 have hsh:IntKind.i64.wrap ((x2.toNat:Int)*256)=(x2.toNat:Int)*256:=IntWalk.i64_in _ (by omega);have hsh2:IntKind.i64.wrap ((x1.toNat:Int)+(x2.toNat:Int)*256)=(M:Int):=by rw[IntWalk.i64_in _ (by omega),HM.out];omega
 go_region;generalize W2.drew=W3 at *;obtain⟨m0,m1⟩:=Zc hn3';by_cases hbad:(x0≠1∧x0≠2)∨M=0
 ·have HNO:Hid (Zah bs=none):=Hd (by rw[HRN.out,if_pos hbad])
  have hcs:(((x0.toNat:Int) != 1)=true∧((x0.toNat:Int) != 2)=true)∨(((x0.toNat:Int) != 1)=false∧((M:Int)==0)=true)∨(((x0.toNat:Int) != 1)=true∧((x0.toNat:Int) != 2)=false∧((M:Int)==0)=true):=by
   by_cases z1:x0.toNat=1
   ·have hM0:M=0:=by
     rcases hbad with h | h
     ·exact absurd (UInt8.toNat_inj.1 z1) h.1
     ·exact h
    exact .inr (.inl ⟨by simp[z1],by simp[hM0]⟩)
   ·have z1':((x0.toNat:Int) != 1)=true:=by rw[bne_iff_ne];omega
    by_cases z2:x0.toNat=2
    ·have hM0:M=0:=by
      rcases hbad with h | h
      ·exact absurd (UInt8.toNat_inj.1 z2) h.2
      ·exact h
     exact .inr (.inr ⟨z1',by simp[z2],by simp[hM0]⟩)
    ·exact .inl ⟨z1',by rw[bne_iff_ne];omega⟩
  clear hbad;obtain⟨r0,r1⟩:=Zc hr3;have f0:=Zf hr3 0
  have f1:=Zf hr3 1;have hh:=Ze (Ze hr3 (i:=0) (.bool lf)) (i:=1) (.slice none 0 0);have ht:=(Zd W3 w.heap.size 0 (.bool lf)).trans (Zd _ w.heap.size 1 (.slice none 0 0));have HRT:Hid (ReadNEnd w bs (.returned (.tuple #[ndV lf (.slice none 0 0),.bool false])) ((W3.setCell ⟨w.heap.size,0,none⟩ (.bool lf)).setCell ⟨w.heap.size,1,none⟩ (.slice none 0 0))):=Hd ⟨lf,_,by rw[HNO.out];rfl,HB3.out.trans (ht.below (B:=w.heap.size) HB3.out.size fun k hk=>by omega),⟨_,_,_,rfl⟩,fun n e=>(by rw[HNO.out] at e;cases e)⟩;have HLD:=Hd (nd_load hh);clear hh ht;rcases hcs with ⟨z1,z2⟩ | ⟨z1,z2⟩ | ⟨z1,z2,z3⟩
  all_goals
   go_wp2_with fail
   exact bodyPost_ret (v:=.tuple #[ndV lf (.slice none 0 0),.bool false]) (Yf Tryz.results86 rfl HLD.out) rfl HRT.out
 have hM0:M≠0:=fun e=>hbad (.inr e)
 have hx12:x0=1∨x0=2:=by
  by_cases z1:x0=1
  ·exact .inl z1
  ·by_cases z2:x0=2
   ·exact .inr z2
   ·exact absurd (.inl ⟨z1,z2⟩) hbad
 have HYES:Hid (Zah bs=(Yy lf bs M 3 []).map (Nd.mk lf)):=Hd (by rw[HRN.out,if_neg hbad]);have zM:((M:Int)==0)=false:=by rw[beq_eq_false_iff_ne];omega
 obtain⟨W4,hW4⟩:∃x,x=W3.alloc (.cells #[.int .i64 3] 3):=⟨_,rfl⟩;have hb4:Below W3.heap.size W3 W4:=by rw[hW4];exact Zj W3 _
 have hI4:RdI w W4 lf bs 0 3 (.slice none 0 0) [] :=
  ⟨HB3.out.trans (hb4.mono HB3.out.size),(hb4.block _ (Za hr3)).trans hr3,(hb4.block _ (Za hn3')).trans hn3',by rw[hW4,←hs3];exact heap_alloc_new W3 _,Zq.nil _ _,rfl⟩
 have HI4:=Hd hI4;have HW4:=Hd hW4;have HML2:=Hd HML.out;clear hI4 hb4 hbad hW4
 cases lf with
 | true =>
  have hx1:x0=1:=by
   rcases hx12 with h | h
   ·exact h
   ·have:=HLF.out;rw[h] at this;cases this
  have z1:((x0.toNat:Int) != 1)=false:=by rw[hx1];rfl
  clear hx12 hx1;go_wp2_with fail;rw[←HW4.out];clear m0 m1 q0' q1' q2' hr3 hn3' hs3;go_loopw [41] (fun y wr=>∃(i at_:Nat) (v:Value) (l:List En),i≤M∧y=.int .i64 (i:Int)∧RdI w wr true bs i at_ v l∧Yy true bs M 3 []=Yy true bs (M - i) at_ l∧at_≤bs.length) (fun y _=>M - (intOf y).toNat)
  case atStart=>exact⟨0,3,_,_,Nat.zero_le _,rfl,HI4.out,rfl,by have:=HN.out;omega⟩
  case round =>
   clear HI4;obtain⟨i,at_,v,l,hi,rfl,hI,hgo,hle⟩:=hrel;obtain⟨av,cv,hv,_,_⟩:=hI.own.isE.form;rw[hI.len] at hv;subst hv;by_cases hlt:i<M
   case neg =>
    obtain rfl:i=M:=by omega
    have hd:decide ((i:Int)<(i:Int))=false:=by simp
    rw[Nat.sub_self] at hgo;have hy:Zah bs=some ⟨true,l⟩:=by rw[HYES.out,hgo];rfl
    obtain⟨m0,m1⟩:=Zc hI.nd;obtain⟨r0,r1⟩:=Zc hI.r;have f0:=Zf hI.r 0
    have f1:=Zf hI.r 1;have HLD:=Hd hI.store.1;have HRT:=Hd (hI.yes hy);clear hI hgo hy;go_wp2_with fail;exact bodyPost_ret (v:=.tuple #[ndV true (.slice av i cv),.bool true]) (Yf Tryz.results86 rfl HLD.out) rfl HRT.out
   case pos =>
    have hd:decide ((i:Int)<(M:Int))=true:=decide_eq_true (by omega);obtain⟨W5,hW5⟩:∃x,x=wr.alloc (.cells #[.string ⟨#[]⟩,.string ⟨#[]⟩,.int .i64 0] 82):=⟨_,rfl⟩;have hb5:Below wr.heap.size wr W5:=by rw[hW5];exact Zj wr _
    have hE5:W5.heap[wr.heap.size]?=some (enO ⟨[],[],0⟩):=by rw[hW5];exact heap_alloc_new wr _
    have hI5:RdI w W5 true bs i at_ (.slice av i cv) l:=hI.other (Zb.of_below hb5 (T:=fun _=>False)) (fun k hk=>hk.elim) ((hb5.block _ (Za hI.a)).trans hI.a);have HW5:=Hd hW5;obtain⟨m0,m1⟩:=Zc hI5.nd;rw[hW5] at m0 m1;have htx:=text_any W5 (some ⟨b,o,none⟩) n cap bs (HI.out.below hI5.below) HN.out (by omega) (w.heap.size+2) at_ hI5.a (by have:=HN.out;omega) 80 (by omega);rw[show ((80:Nat):Int)=80 from rfl] at htx
    have HTX:=Hd htx;have HI5:=Hd hI5;have HE5:=Hd hE5;have hsz:=Za hI.a;have HOWN:Hid (∀k,(Value.slice av i cv).ownBlock=some k→w.heap.size+3≤k∧k<wr.heap.size):=Hd fun k hk=>hI.own.lt hk;have HGO:=Hd hgo;have HLE:=Hd hle;clear hI hb5 hE5 hI5 htx hgo hle;go_wp2_with fail;rw[←HW5.out];refine HTX.out.mono ?_;intro e W6 hend;obtain⟨y,hy⟩:∃y,y=Zbm bs at_ 80:=⟨_,rfl⟩;rw[←hy] at hend
    cases y with
    | none =>
     obtain⟨rfl,t6,a6⟩:=hend;have hE6:=(t6.block _ (Za HE5.out) (by omega)).trans HE5.out
     obtain⟨j0,j1,j2⟩:=Zv hE6;have g0:=Zf hE6 0
     have hI6:=HI5.out.other t6 (fun k hk=>⟨by omega,fun e=>by have:=(HOWN.out k e).1;omega⟩) a6
     have hno:Zah bs=none:=by
      rw[HYES.out,HGO.out];obtain⟨q,hq⟩:∃q,M - i=q+1:=⟨M - i - 1,by omega⟩;have hre:Zbe true bs l.length at_=none:=by unfold Zbe readK;rw[if_pos (by rfl),←hy];rfl
      rw[hq,Yy,hre];rfl
     obtain⟨W7,hW7⟩:∃x,x=W6.setCell ⟨wr.heap.size,0,none⟩ (.string ⟨#[]⟩):=⟨_,rfl⟩;have t7:Zb (fun x=>x=wr.heap.size) W6 W7:=by rw[hW7];exact Zd W6 wr.heap.size 0 (.string ⟨#[]⟩)
     have a7:=(t7.block _ (Za a6) (by omega)).trans a6;have hI7:=hI6.other t7 (fun k hk=>⟨by omega,fun e=>by have:=(HOWN.out k e).2;omega⟩) a7;have hI8:=hI7.other (Zb.refl (fun _=>False) W7).drew (fun k hk=>hk.elim) a7;have HI8:=Hd hI8;have HNO:=Hd hno;have HW7:=Hd hW7;clear HTX hI6 hI7 hI8 hno a6 a7 t6 t7 hy hW7;go_wp2_with fail;rw[←HW7.out];clear j0 j1 j2 g0;obtain⟨n0,n1⟩:=Zc HI8.out.nd;obtain⟨r0,r1⟩:=Zc HI8.out.r;have f0:=Zf HI8.out.r 0;have f1:=Zf HI8.out.r 1;have HLD:=Hd HI8.out.store.1;have HRT:=Hd (HI8.out.no HNO.out);go_upto_region 20 with fail;go_region;generalize W7.drew=W8 at *;go_wp2_with fail;exact bodyPost_ret (v:=.tuple #[ndV true (.slice av i cv),.bool false]) (Yf Tryz.results86 rfl HLD.out) rfl HRT.out
    | some x =>
     obtain⟨k1,at1⟩:=x;obtain⟨rfl,t6,a6⟩:=hend;obtain⟨hle1,hlk⟩:=textB_le hy.symm;have hE6:=(t6.block _ (Za HE5.out) (by omega)).trans HE5.out
     obtain⟨j0,j1,j2⟩:=Zv hE6;have g0:=Zf hE6 0
     have hI6:=HI5.out.other t6 (fun k hk=>⟨by omega,fun e=>by have:=(HOWN.out k e).1;omega⟩) a6;obtain⟨W7,hW7⟩:∃x,x=W6.setCell ⟨wr.heap.size,0,none⟩ (.string ⟨k1.toArray⟩):=⟨_,rfl⟩;have t7:Zb (fun x=>x=wr.heap.size) W6 W7:=by rw[hW7];exact Zd W6 wr.heap.size 0 (.string ⟨k1.toArray⟩)
     have hE7:W7.heap[wr.heap.size]?=some (enO ⟨k1,[],0⟩):=by rw[hW7];exact Ze hE6 (i:=0) (.string ⟨k1.toArray⟩)
     have a7:=(t7.block _ (Za a6) (by omega)).trans a6;have hI7:=hI6.other t7 (fun k hk=>⟨by omega,fun e=>by have:=(HOWN.out k e).2;omega⟩) a7;have htx2:=text_any W7 (some ⟨b,o,none⟩) n cap bs (HI.out.below hI7.below) HN.out (by omega) (w.heap.size+2) at1 a7 (by have:=HN.out;omega) 200 (by omega);rw[show ((200:Nat):Int)=200 from rfl] at htx2
     have HTX2:=Hd htx2;have HI7:=Hd hI7;have HE7:=Hd hE7;have HY:=Hd hy;have HW7:=Hd hW7;obtain⟨n0,n1⟩:=Zc hI7.nd;rw[hW7] at n0 n1;clear HTX hI6 hI7 a6 a7 t6 t7 hy hW7 hE6 hE7 htx2;go_wp2_with fail;rw[←HW7.out];clear j0 j1 j2 g0 n0 n1;refine HTX2.out.mono ?_;intro e W8 hend;obtain⟨y,hy⟩:∃y,y=Zbm bs at1 200:=⟨_,rfl⟩;rw[←hy] at hend
     cases y with
     | none =>
      obtain⟨rfl,t8,a8⟩:=hend;have hE8:=(t8.block _ (Za HE7.out) (by omega)).trans HE7.out
      obtain⟨j0,j1,j2⟩:=Zv hE8;have g1:=Zf hE8 1
      have hI8:=HI7.out.other t8 (fun k hk=>⟨by omega,fun e=>by have:=(HOWN.out k e).1;omega⟩) a8
      have hno:Zah bs=none:=by
       rw[HYES.out,HGO.out];obtain⟨q,hq⟩:∃q,M - i=q+1:=⟨M - i - 1,by omega⟩;have hre:Zbe true bs l.length at_=none:=by unfold Zbe readK readV;rw[if_pos (by rfl),←HY.out];simp[←hy]
       rw[hq,Yy,hre];rfl
      obtain⟨W9,hW9⟩:∃x,x=W8.setCell ⟨wr.heap.size,1,none⟩ (.string ⟨#[]⟩):=⟨_,rfl⟩;have t9:Zb (fun x=>x=wr.heap.size) W8 W9:=by rw[hW9];exact Zd W8 wr.heap.size 1 (.string ⟨#[]⟩)
      have a9:=(t9.block _ (Za a8) (by omega)).trans a8;have hI9:=hI8.other t9 (fun k hk=>⟨by omega,fun e=>by have:=(HOWN.out k e).2;omega⟩) a9;have hI10:=hI9.other (Zb.refl (fun _=>False) W9).drew (fun k hk=>hk.elim) a9;have HI10:=Hd hI10;have HNO:=Hd hno;have HW9:=Hd hW9;clear HTX2 hI8 hI9 hI10 hno a8 a9 t8 t9 hy hW9 hE8;go_wp2_with fail;rw[←HW9.out];clear j0 j1 j2 g1;obtain⟨n0,n1⟩:=Zc HI10.out.nd;obtain⟨r0,r1⟩:=Zc HI10.out.r;have f0:=Zf HI10.out.r 0;have f1:=Zf HI10.out.r 1;have HLD:=Hd HI10.out.store.1;have HRT:=Hd (HI10.out.no HNO.out);go_upto_region 20 with fail;go_region;generalize W9.drew=W10 at *;go_wp2_with fail;exact bodyPost_ret (v:=.tuple #[ndV true (.slice av i cv),.bool false]) (Yf Tryz.results86 rfl HLD.out) rfl HRT.out
     | some x =>
      obtain⟨v1,at2⟩:=x;obtain⟨rfl,t8,a8⟩:=hend;obtain⟨hle2,hlv⟩:=textB_le hy.symm;have hE8:=(t8.block _ (Za HE7.out) (by omega)).trans HE7.out
      obtain⟨j0,j1,j2⟩:=Zv hE8;have g1:=Zf hE8 1
      have hI8:=HI7.out.other t8 (fun k hk=>⟨by omega,fun e=>by have:=(HOWN.out k e).1;omega⟩) a8;have hre:Zbe true bs l.length at_=some (⟨k1,v1,0⟩,at2):=by unfold Zbe readK readV;rw[if_pos (by rfl),←HY.out];simp[←hy]
      obtain⟨W9,hW9⟩:∃x,x=W8.setCell ⟨wr.heap.size,1,none⟩ (.string ⟨v1.toArray⟩):=⟨_,rfl⟩;have t9:Zb (fun x=>x=wr.heap.size) W8 W9:=by rw[hW9];exact Zd W8 wr.heap.size 1 (.string ⟨v1.toArray⟩)
      have hE9:W9.drew.heap[wr.heap.size]?=some (enO ⟨k1,v1,0⟩):=by rw[hW9];exact Ze hE8 (i:=1) (.string ⟨v1.toArray⟩)
      have a9:=(t9.block _ (Za a8) (by omega)).trans a8;have hI9:=hI8.other t9 (fun k hk=>⟨by omega,fun e=>by have:=(HOWN.out k e).2;omega⟩) a9;have hI10:=hI9.other (Zb.refl (fun _=>False) W9).drew (fun k hk=>hk.elim) a9;have HI10:=Hd hI10;have HE9:=Hd hE9;have HRE:=Hd hre;have HW9:=Hd hW9;have HLE2:=Hd hle2;clear HTX2 hI8 hI9 hI10 a8 a9 t8 t9 hy hW9 hE8 hE9 hre hle2;go_wp2_with fail;rw[←HW9.out];clear j0 j1 j2 g1;obtain⟨n0,n1⟩:=Zc HI10.out.nd;obtain⟨e0,e1_,e2_⟩:=Zv HE9.out
      have hgoS:Zcu true l ⟨k1,v1,0⟩=true→Yy true bs M 3 []=Yy true bs (M - (i+1)) at2 (l++[⟨k1,v1,0⟩]):=fun hf=>by
       rw[HGO.out];obtain⟨q,hq⟩:∃q,M - i=q+1:=⟨M - i - 1,by omega⟩;rw[hq,Yy,HRE.out,show M - (i+1)=q by omega]
       simp only;rw[if_pos hf]
      have hgoN:Zcu true l ⟨k1,v1,0⟩=false→Zah bs=none:=fun hf=>by rw[HYES.out,HGO.out];obtain⟨q,hq⟩:∃q,M - i=q+1:=⟨M - i - 1,by omega⟩;rw[hq,Yy,HRE.out];simp only;rw[if_neg (by simp[hf])];rfl
      have HGS:=Hd hgoS;have HGN:=Hd hgoN;clear hgoS hgoN;by_cases hi0:i=0
      ·have hl0:l=[]:=List.eq_nil_of_length_eq_zero (by rw[HI10.out.len];exact hi0)
       have HG2:=Hd (HGS.out (by rw[hl0];rfl));have hz1:decide ((i:Int) > 0)=false:=decide_eq_false (by omega);have hz2:decide (0<(i:Int))=false:=decide_eq_false (by omega);have hz3:decide (0<i)=false:=decide_eq_false (by omega);have hz4:¬(0<i):=by omega
       clear hl0 hi0;go_upto_region 20 with fail;go_region;generalize W9.drew=W10 at *;have hI10:=HI10.out
       have hsN:w.heap.size+1<W10.heap.size:=Za hI10.nd;obtain⟨W11,hW11⟩:∃x,x=W10.alloc (.cells #[.string ⟨k1.toArray⟩,.string ⟨v1.toArray⟩,.int .i64 0] 82):=⟨_,rfl⟩;have hb11:Below W10.heap.size W10 W11:=by rw[hW11];exact Zj W10 _
       have hU:W11.heap[W10.heap.size]?=some (enO ⟨k1,v1,0⟩):=by rw[hW11];exact heap_alloc_new W10 _
       have hI11:=hI10.other (Zb.of_below hb11 (T:=fun _=>False)) (fun k hk=>hk.elim) ((hb11.block _ (Za hI10.a)).trans hI10.a);obtain⟨v2,W12,hr,hm12,hg12,_⟩:=hI11.own.app (IsE.one hU) (by have:=Za hU;have:=Za hI11.a;omega) (by have:=hI11.len;have:=HML2.out;simp only[List.length_singleton];omega);have hI13:=hI11.grown hg12 hm12;have hnv:∀k,(Value.slice av i cv).ownBlock=some k→w.heap.size+3≤k:=fun k hk=>(hI11.own.lt hk).1;have hN12:W12.heap[w.heap.size+1]?=some (ndO true (.slice av i cv)):=(hg12.block _ (Za hI11.nd) fun e=>by have:=hnv _ e.symm;omega).trans hI11.nd;obtain⟨y0,y1⟩:=Zc hN12;have fN:=Zf hN12 1;obtain⟨a2,c2_,hv2,_,_⟩:=hm12.isE.form;rw[List.length_append,hI11.len,List.length_singleton] at hv2;subst hv2;rw[hW11] at hr;have HI13:=Hd hI13;clear hI10 hb11 hU hI11 hW11 hm12 hg12 hI13 hnv hN12;go_wp2_with (at_builtin;refine wpList_append_run rfl (.tmp 120) (.tmp 122) 78 78 rfl _ _ _ rfl rfl hr ?_;clear hr);go_roundw
       case rel=>exact⟨i+1,at2,_,_,hlt,by go_num,HI13.out,HG2.out,HLE2.out⟩
       case measure=>simp[intOf];omega
      ·obtain⟨i',hi'⟩:∃i',i=i'+1:=⟨i - 1,by omega⟩
       have hlt':i'<l.length:=by rw[HI10.out.len];omega
       obtain⟨gl,ol,hav,z0,z1_,z2_⟩:=HI10.out.own.isE.at i' hlt';subst hav;have hlast:l.getLast?=some l[i']:=by rw[List.getLast?_eq_getElem?,HI10.out.len,show i - 1=i' by omega,List.getElem?_eq_getElem hlt']
       have hMM:=HML2.out;have hsub:IntKind.i64.wrap ((i:Int) - 1)=(i':Int):=by rw[IntWalk.i64_in _ (by omega)];omega
       have hz1:decide ((i:Int) > 0)=true:=decide_eq_true (by omega);have hz2:decide (0<(i:Int))=true:=decide_eq_true (by omega);have hz3:decide (0<i)=true:=decide_eq_true (by omega);have hz4:0<i:=by omega
       have hz5:(i':Int)<(i:Int):=by omega
       have hz6:(0:Int)≤(i':Int):=by omega
       have hfit:Zcu true l ⟨k1,v1,0⟩=decide (l[i'].key<k1):=by unfold Zcu;rw[hlast];rfl
       have hcmp:=leq_fits k1 l[i'].key;rw[←hfit] at hcmp;have HI':=Hd hi';obtain⟨lk,hlk⟩:∃lk,lk=l[i'].key:=⟨_,rfl⟩;rw[←hlk] at z0 hcmp;clear z1_ z2_ hfit hlast hlk hMM;clear hlt' hi' hi0
       cases hf:Zcu true l ⟨k1,v1,0⟩ with
       | true =>
        have HG2:=Hd (HGS.out hf);rw[hf] at hcmp;clear hf;go_upto_region 20 with fail;go_region;generalize W9.drew=W10 at *;have hI10:=HI10.out;have hsN:w.heap.size+1<W10.heap.size:=Za hI10.nd;obtain⟨W11,hW11⟩:∃x,x=W10.alloc (.cells #[.string ⟨k1.toArray⟩,.string ⟨v1.toArray⟩,.int .i64 0] 82):=⟨_,rfl⟩;have hb11:Below W10.heap.size W10 W11:=by rw[hW11];exact Zj W10 _
        have hU:W11.heap[W10.heap.size]?=some (enO ⟨k1,v1,0⟩):=by rw[hW11];exact heap_alloc_new W10 _
        have hI11:=hI10.other (Zb.of_below hb11 (T:=fun _=>False)) (fun k hk=>hk.elim) ((hb11.block _ (Za hI10.a)).trans hI10.a);obtain⟨v2,W12,hr,hm12,hg12,_⟩:=hI11.own.app (IsE.one hU) (by have:=Za hU;have:=Za hI11.a;omega) (by have:=hI11.len;have:=HML2.out;simp only[List.length_singleton];omega);have hI13:=hI11.grown hg12 hm12;have hnv:∀k,(Value.slice (some ⟨gl,ol,none⟩) i cv).ownBlock=some k→w.heap.size+3≤k:=fun k hk=>(hI11.own.lt hk).1;have hN12:W12.heap[w.heap.size+1]?=some (ndO true (.slice (some ⟨gl,ol,none⟩) i cv)):=(hg12.block _ (Za hI11.nd) fun e=>by have:=hnv _ e.symm;omega).trans hI11.nd;obtain⟨y0,y1⟩:=Zc hN12;have fN:=Zf hN12 1;obtain⟨a2,c2_,hv2,_,_⟩:=hm12.isE.form;rw[List.length_append,hI11.len,List.length_singleton] at hv2;subst hv2;rw[hW11] at hr;have HI13:=Hd hI13;clear hI10 hb11 hU hI11 hW11 hm12 hg12 hI13 hnv hN12;have hMM:=HML2.out;go_wp2_with (at_builtin;refine wpList_append_run rfl (.tmp 120) (.tmp 122) 78 78 rfl _ _ _ rfl rfl hr ?_;clear hr);go_roundw
        case rel=>exact⟨i+1,at2,_,_,hlt,by go_num,HI13.out,HG2.out,HLE2.out⟩
        case measure=>simp[intOf];omega
       | false =>
        have HNO:=Hd (HGN.out hf);rw[hf] at hcmp;clear hf;obtain⟨r0,r1⟩:=Zc HI10.out.r;have f0:=Zf HI10.out.r 0;have f1:=Zf HI10.out.r 1;have HLD:=Hd HI10.out.store.1;have HRT:=Hd (HI10.out.no HNO.out);go_upto_region 20 with fail;go_region;generalize W9.drew=W10 at *;go_wp2_with fail;exact bodyPost_ret (v:=.tuple #[ndV true (.slice (some ⟨gl,ol,none⟩) i cv),.bool false]) (Yf Tryz.results86 rfl HLD.out) rfl HRT.out
 | false =>
  have hx2:x0=2:=by
   rcases hx12 with h | h
   ·have:=HLF.out;rw[h] at this;cases this
   ·exact h
  have z1:((x0.toNat:Int) != 1)=true:=by rw[hx2];rfl
  have z2:((x0.toNat:Int) != 2)=false:=by rw[hx2];rfl
  clear hx12 hx2;go_wp2_with fail;rw[←HW4.out];clear m0 m1 q0' q1' q2' hr3 hn3' hs3;go_loopw [41] (fun y wr=>∃(i at_:Nat) (v:Value) (l:List En),i≤M∧y=.int .i64 (i:Int)∧RdI w wr false bs i at_ v l∧Yy false bs M 3 []=Yy false bs (M - i) at_ l∧at_≤bs.length) (fun y _=>M - (intOf y).toNat)
  case atStart=>exact⟨0,3,_,_,Nat.zero_le _,rfl,HI4.out,rfl,by have:=HN.out;omega⟩
  case round =>
   clear HI4;obtain⟨i,at_,v,l,hi,rfl,hI,hgo,hle⟩:=hrel;obtain⟨av,cv,hv,_,_⟩:=hI.own.isE.form;rw[hI.len] at hv;subst hv;by_cases hlt:i<M
   case neg =>
    obtain rfl:i=M:=by omega
    have hd:decide ((i:Int)<(i:Int))=false:=by simp
    rw[Nat.sub_self] at hgo;have hy:Zah bs=some ⟨false,l⟩:=by rw[HYES.out,hgo];rfl
    obtain⟨m0,m1⟩:=Zc hI.nd;obtain⟨r0,r1⟩:=Zc hI.r;have f0:=Zf hI.r 0
    have f1:=Zf hI.r 1;have HLD:=Hd hI.store.1;have HRT:=Hd (hI.yes hy);clear hI hgo hy;go_wp2_with fail;exact bodyPost_ret (v:=.tuple #[ndV false (.slice av i cv),.bool true]) (Yf Tryz.results86 rfl HLD.out) rfl HRT.out
   case pos =>
    have hd:decide ((i:Int)<(M:Int))=true:=decide_eq_true (by omega);obtain⟨W5,hW5⟩:∃x,x=wr.alloc (.cells #[.string ⟨#[]⟩,.string ⟨#[]⟩,.int .i64 0] 82):=⟨_,rfl⟩;have hb5:Below wr.heap.size wr W5:=by rw[hW5];exact Zj wr _
    have hE5:W5.heap[wr.heap.size]?=some (enO ⟨[],[],0⟩):=by rw[hW5];exact heap_alloc_new wr _
    have hI5:RdI w W5 false bs i at_ (.slice av i cv) l:=hI.other (Zb.of_below hb5 (T:=fun _=>False)) (fun k hk=>hk.elim) ((hb5.block _ (Za hI.a)).trans hI.a);have HW5:=Hd hW5;have hsz:=Za hI.a;have HOWN:Hid (∀k,(Value.slice av i cv).ownBlock=some k→w.heap.size+3≤k∧k<wr.heap.size):=Hd fun k hk=>hI.own.lt hk;have HGO:=Hd hgo;have HLE:=Hd hle;obtain⟨m0,m1⟩:=Zc hI5.nd;rw[hW5] at m0 m1;by_cases hi0:i=0
    ·have hz3:decide ((i:Int) > 0)=false:=decide_eq_false (by omega)
     have hz4:decide (0<(i:Int))=false:=decide_eq_false (by omega);have hz5:decide (0<i)=false:=decide_eq_false (by omega);have hz6:¬(0<i):=by omega
     obtain⟨k1,hk1⟩:∃k1:List UInt8,k1=[]:=⟨_,rfl⟩;obtain⟨vv,hvv⟩:∃vv:List UInt8,vv=[]:=⟨_,rfl⟩;obtain⟨at1,hat⟩:∃at1,at1=at_:=⟨_,rfl⟩;have HRK:Hid (readK false bs l.length at_=some (k1,at1)):=Hd (by rw[hI5.len,hi0,hk1,hat];rfl)
     have HE7:Hid (W5.heap[wr.heap.size]?=some (enO ⟨k1,vv,0⟩)):=Hd (by rw[hk1,hvv];exact hE5);have HI7:Hid (RdI w W5 false bs i at1 (.slice av i cv) l):=Hd (by rw[hat];exact hI5);have HLE1:Hid (at1≤bs.length):=Hd (by rw[hat];exact hle);have HVV:=Hd hvv;have HK1:=Hd hk1;have HI0:=Hd hi0;clear hi0;obtain⟨W7,hW7⟩:∃x,x=W5:=⟨_,rfl⟩;rw[←hW7] at HE7 HI7 HW5;have HW7:=Hd hW7;have hn7:=(Zc HI7.out.nd).1;rw[HW5.out] at hn7;clear hI hb5 hE5 hI5 hgo hle hW5 hk1 hvv hat hW7;go_upto_region 18 with fail;rw[←HW5.out];clear hn7 m0 m1;have s2:IntKind.i64.wrap ((at1:Int)+2)=(at1:Int)+2:=by rw[IntWalk.i64_in _ (by have:=HLE1.out;have:=HN.out;omega)]
     have hat1:at1≤n:=by have:=HLE1.out;have:=HN.out;omega
     by_cases h2:n<at1+2
     ·have hno:Zah bs=none:=by
       rw[HYES.out,HGO.out];obtain⟨q,hq⟩:∃q,M - i=q+1:=⟨M - i - 1,by omega⟩;have hre:Zbe false bs l.length at_=none:=by unfold Zbe;rw[HRK.out];simp only[Option.bind_some,readV,Bool.false_eq_true,if_false];rw[if_pos (by have:=HN.out;omega)]
       rw[hq,Yy,hre];rfl
      have HNO:=Hd hno;have ha7:=HI7.out.a;have hc7:W7.cell? ⟨w.heap.size+2,0,none⟩=some (.int .i64 (at1:Int)):=by rw[cell_of_row _ _ _ _ _ _ ha7];rfl
      have hz1:decide ((at1:Int)+2 > (n:Int))=true:=decide_eq_true (by omega);have hz2:decide ((n:Int)<(at1:Int)+2)=true:=decide_eq_true (by omega);have HI10:=Hd (HI7.out.other (Zb.refl (fun _=>False) W7).drew (fun k hk=>hk.elim) ha7);obtain⟨n7,_⟩:=Zc HI7.out.nd;clear hno ha7;go_wp2_with fail;clear n7;obtain⟨n0,n1⟩:=Zc HI10.out.nd;obtain⟨r0,r1⟩:=Zc HI10.out.r;have f0:=Zf HI10.out.r 0;have f1:=Zf HI10.out.r 1;have HLD:=Hd HI10.out.store.1;have HRT:=Hd (HI10.out.no HNO.out);go_upto_region 20 with fail;go_region;generalize W7.drew=W10 at *;go_wp2_with fail;exact bodyPost_ret (v:=.tuple #[ndV false (.slice av i cv),.bool false]) (Yf Tryz.results86 rfl HLD.out) rfl HRT.out
     obtain⟨xa,hxa⟩:∃xa,xa=bs.getD at1 0:=⟨_,rfl⟩
     obtain⟨xb,hxb⟩:∃xb,xb=bs.getD (at1+1) 0:=⟨_,rfl⟩
     obtain⟨kd,hkd⟩:∃kd:Int,kd=(xa.toNat:Int)+(xb.toNat:Int)*256:=⟨_,rfl⟩
     have hre:Zbe false bs l.length at_=some (⟨k1,vv,kd⟩,at1+2):=by
      unfold Zbe
      rw[HRK.out]
      simp only[Option.bind_some,readV,Bool.false_eq_true,if_false]
      rw[if_neg (by have:=HN.out;omega),hkd,hxa,hxb,HVV.out]
     have hgoS:Zcu false l ⟨k1,vv,kd⟩=true→Yy false bs M 3 []=Yy false bs (M - (i+1)) (at1+2) (l++[⟨k1,vv,kd⟩]):=fun hf=>by
      rw[HGO.out]
      obtain⟨q,hq⟩:∃q,M - i=q+1:=⟨M - i - 1,by omega⟩
      rw[hq,Yy,hre,show M - (i+1)=q by omega]
      simp only
      rw[if_pos hf]
     have hgoN:Zcu false l ⟨k1,vv,kd⟩=false→Zah bs=none:=fun hf=>by
      rw[HYES.out,HGO.out]
      obtain⟨q,hq⟩:∃q,M - i=q+1:=⟨M - i - 1,by omega⟩
      rw[hq,Yy,hre]
      simp only
      rw[if_neg (by simp[hf])]
      rfl
     have HGS:=Hd hgoS
     have HGN:=Hd hgoN
     have HLE2:Hid (at1+2≤bs.length):=Hd (by have:=HN.out;omega)
     have ha7:=HI7.out.a
     have hc7:W7.drew.cell? ⟨w.heap.size+2,0,none⟩=some (.int .i64 (at1:Int)):=by
      show W7.cell? _=_
      rw[cell_of_row _ _ _ _ _ _ ha7];rfl
     have hc7':W7.cell? ⟨w.heap.size+2,0,none⟩=some (.int .i64 (at1:Int)):=hc7
     have hq1:W7.drew.cell? ⟨b,o+at1,none⟩=some (.int .u8 (xa.toNat:Int)):=by rw[hxa];exact Zi HI7.out.below _ _ (HCELL.out at1 (by omega))
     have hq2:W7.drew.cell? ⟨b,o+(at1+1),none⟩=some (.int .u8 (xb.toNat:Int)):=by rw[hxb];exact Zi HI7.out.below _ _ (HCELL.out (at1+1) (by omega))
     have hz1:decide ((at1:Int)+2 > (n:Int))=false:=decide_eq_false (by omega)
     have hz2:decide ((n:Int)<(at1:Int)+2)=false:=decide_eq_false (by omega)
     have s1:IntKind.i64.wrap ((at1:Int)+1)=((at1+1:Nat):Int):=by rw[IntWalk.i64_in _ (by omega)];omega
     have hx1_:=xa.toNat_lt
     have hx2_:=xb.toNat_lt
     have sa:IntKind.i64.wrap (xa.toNat:Int)=(xa.toNat:Int):=IntWalk.i64_in _ (by omega)
     have sb:IntKind.i64.wrap (xb.toNat:Int)=(xb.toNat:Int):=IntWalk.i64_in _ (by omega)
     have sc:IntKind.i64.wrap ((xb.toNat:Int)*256)=(xb.toNat:Int)*256:=IntWalk.i64_in _ (by omega)
     have sd:IntKind.i64.wrap ((xa.toNat:Int)+(xb.toNat:Int)*256)=kd:=by rw[IntWalk.i64_in _ (by omega),hkd]
     have hl1:(at1:Int)<(n:Int):=by omega
     have hl2:((at1+1:Nat):Int)<(n:Int):=by omega
     have hl3:(0:Int)≤(at1:Int):=by omega
     have hl4:(0:Int)≤((at1+1:Nat):Int):=by omega
     obtain⟨j0,j1,j2⟩:=Zv (w:=W7.drew) HE7.out
     have g2_:=Zf (w:=W7.drew) HE7.out 2
     obtain⟨n7,_⟩:=Zc HI7.out.nd
     obtain⟨W9,hW9⟩:∃x,x=((W7.setCell ⟨wr.heap.size,2,none⟩ (.int .i64 kd)).setCell ⟨w.heap.size+2,0,none⟩ (.int .i64 ((at1:Int)+2))).drew:=⟨_,rfl⟩
     have t8:=Zd W7 wr.heap.size 2 (.int .i64 kd)
     have ha8:=(t8.block _ (Za ha7) (by omega)).trans ha7
     have ha9:W9.heap[w.heap.size+2]?=some (intO (at1+2)):=by
      rw[hW9]
      exact Ze ha8 (i:=0) (.int .i64 ((at1:Int)+2))
     have t9:Zb (fun k=>k=wr.heap.size∨k=w.heap.size+2) W7 W9:=by
      rw[hW9]
      exact((t8.mono fun _ _ e=>.inl e).trans ((Zd _ (w.heap.size+2) 0 _).mono fun _ _ e=>.inr e)).drew
     have hE8:=Ze HE7.out (i:=2) (.int .i64 kd)
     have hE9:W9.drew.heap[wr.heap.size]?=some (enO ⟨k1,vv,kd⟩):=by
      show W9.heap[wr.heap.size]?=_
      rw[hW9]
      exact((Zd _ (w.heap.size+2) 0 (.int .i64 ((at1:Int)+2))).block _ (Za hE8) (by omega)).trans hE8
     have HI10:=Hd ((HI7.out.other t9 (fun k hk=>⟨by omega,fun e=>by have:=HOWN.out k e;omega⟩) ha9).other (Zb.refl (fun _=>False) W9).drew (fun k hk=>hk.elim) ha9)
     have HE9:=Hd hE9
     have HW9:=Hd hW9
     have gA:=Zf ha7 0
     clear t8 ha8 ha9 t9 hE8 hE9 hW9
     clear hkd hxa hxb hre hgoS hgoN ha7
     go_upto_region 13 with fail
     go_region
     go_wp2_with fail
     rw[←HW9.out]
     clear hc7 hc7' hq1 hq2 j0 j1 j2 g2_ n7 gA
     obtain⟨n0,n1⟩:=Zc HI10.out.nd
     obtain⟨e0,e1_,e2_⟩:=Zv HE9.out
     have h0:¬0<i:=by have:=HI0.out;omega
     have HG2:=Hd (HGS.out (by
      have hl0:l=[]:=List.eq_nil_of_length_eq_zero (by rw[HI10.out.len];omega)
      rw[hl0];rfl))
     have y1:decide ((i:Int) > 0)=false:=decide_eq_false (by omega)
     have y2:decide (0<(i:Int))=false:=decide_eq_false (by omega)
     have y3:decide (0<i)=false:=decide_eq_false h0
     go_upto_region 20 with fail
     go_region
     generalize W9.drew=W10 at *
     have hI10:=HI10.out
     have hsN:w.heap.size+1<W10.heap.size:=Za hI10.nd
     obtain⟨W11,hW11⟩:∃x,x=W10.alloc (.cells #[.string ⟨k1.toArray⟩,.string ⟨vv.toArray⟩,.int .i64 kd] 82):=⟨_,rfl⟩
     have hb11:Below W10.heap.size W10 W11:=by rw[hW11];exact Zj W10 _
     have hU:W11.heap[W10.heap.size]?=some (enO ⟨k1,vv,kd⟩):=by rw[hW11];exact heap_alloc_new W10 _
     have hI11:=hI10.other (Zb.of_below hb11 (T:=fun _=>False)) (fun k hk=>hk.elim) ((hb11.block _ (Za hI10.a)).trans hI10.a)
     obtain⟨v2,W12,hr,hm12,hg12,_⟩:=hI11.own.app (IsE.one hU) (by have:=Za hU;have:=Za hI11.a;omega) (by have:=hI11.len;have:=HML2.out;simp only[List.length_singleton];omega)
     have hI13:=hI11.grown hg12 hm12
     have hnv:∀k,(Value.slice av i cv).ownBlock=some k→w.heap.size+3≤k:=fun k hk=>(hI11.own.lt hk).1
     have hN12:W12.heap[w.heap.size+1]?=some (ndO false (.slice av i cv)):=(hg12.block _ (Za hI11.nd) fun e=>by have:=hnv _ e.symm;omega).trans hI11.nd
     obtain⟨y0,y1⟩:=Zc hN12
     have fN:=Zf hN12 1
     obtain⟨a2,c2_,hv2,_,_⟩:=hm12.isE.form
     rw[List.length_append,hI11.len,List.length_singleton] at hv2
     subst hv2
     rw[hW11] at hr
     have HI13:=Hd hI13
     clear hI10 hb11 hU hI11 hW11 hm12 hg12 hI13 hnv hN12
     have hMM:=HML2.out
     go_wp2_with (at_builtin;refine wpList_append_run rfl (.tmp 120) (.tmp 122) 78 78 rfl _ _ _ rfl rfl hr ?_;clear hr)
     go_roundw
     case rel=>exact⟨i+1,at1+2,_,_,hlt,by go_num,HI13.out,HG2.out,HLE2.out⟩
     case measure=>simp[intOf];omega
    ·have hz3:decide ((i:Int) > 0)=true:=decide_eq_true (by omega)
     have hz4:decide (0<(i:Int))=true:=decide_eq_true (by omega)
     have hz5:decide (0<i)=true:=decide_eq_true (by omega)
     have h0:0<i:=by omega
     have htx:=text_any W5 (some ⟨b,o,none⟩) n cap bs (HI.out.below hI5.below) HN.out (by omega) (w.heap.size+2) at_ hI5.a (by have:=HN.out;omega) 80 (by omega)
     rw[show ((80:Nat):Int)=80 from rfl] at htx
     have HTX:=Hd htx
     have HI5:=Hd hI5
     have HE5:=Hd hE5
     have HKK:Hid (readK false bs l.length at_=Zbm bs at_ 80):=Hd (by unfold readK;rw[if_pos (by simp[hI5.len,h0])])
     clear hI hb5 hE5 hI5 htx hgo hle hi0
     go_wp2_with fail
     rw[←HW5.out]
     clear m0 m1
     refine HTX.out.mono ?_
     intro e W6 hend
     obtain⟨y,hy⟩:∃y,y=Zbm bs at_ 80:=⟨_,rfl⟩
     rw[←hy] at hend
     cases y with
     | none =>
      obtain⟨rfl,t6,a6⟩:=hend
      have hE6:=(t6.block _ (Za HE5.out) (by omega)).trans HE5.out
      obtain⟨j0,j1,j2⟩:=Zv hE6
      have g0:=Zf hE6 0
      have hI6:=HI5.out.other t6 (fun k hk=>⟨by omega,fun e=>by have:=(HOWN.out k e).1;omega⟩) a6
      have hno:Zah bs=none:=by
       rw[HYES.out,HGO.out]
       obtain⟨q,hq⟩:∃q,M - i=q+1:=⟨M - i - 1,by omega⟩
       have hre:Zbe false bs l.length at_=none:=by unfold Zbe;rw[HKK.out,←hy];rfl
       rw[hq,Yy,hre]
       rfl
      obtain⟨W7,hW7⟩:∃x,x=W6.setCell ⟨wr.heap.size,0,none⟩ (.string ⟨#[]⟩):=⟨_,rfl⟩
      have t7:Zb (fun x=>x=wr.heap.size) W6 W7:=by rw[hW7];exact Zd W6 wr.heap.size 0 (.string ⟨#[]⟩)
      have a7:=(t7.block _ (Za a6) (by omega)).trans a6
      have hI7:=hI6.other t7 (fun k hk=>⟨by omega,fun e=>by have:=(HOWN.out k e).2;omega⟩) a7
      have hI8:=hI7.other (Zb.refl (fun _=>False) W7).drew (fun k hk=>hk.elim) a7
      have HI8:=Hd hI8
      have HNO:=Hd hno
      have HW7:=Hd hW7
      clear HTX hI6 hI7 hI8 hno a6 a7 t6 t7 hy hW7
      go_wp2_with fail
      rw[←HW7.out]
      clear j0 j1 j2 g0
      obtain⟨n0,n1⟩:=Zc HI8.out.nd
      obtain⟨r0,r1⟩:=Zc HI8.out.r
      have f0:=Zf HI8.out.r 0
      have f1:=Zf HI8.out.r 1
      have HLD:=Hd HI8.out.store.1
      have HRT:=Hd (HI8.out.no HNO.out)
      go_upto_region 20 with fail
      go_region
      generalize W7.drew=W8 at *
      go_wp2_with fail
      exact bodyPost_ret (v:=.tuple #[ndV false (.slice av i cv),.bool false]) (Yf Tryz.results86 rfl HLD.out) rfl HRT.out
     | some x =>
      obtain⟨k1,at1⟩:=x
      obtain⟨rfl,t6,a6⟩:=hend
      obtain⟨hle1,hlk⟩:=textB_le hy.symm
      have hE6:=(t6.block _ (Za HE5.out) (by omega)).trans HE5.out
      obtain⟨j0,j1,j2⟩:=Zv hE6
      have g0:=Zf hE6 0
      have hI6:=HI5.out.other t6 (fun k hk=>⟨by omega,fun e=>by have:=(HOWN.out k e).1;omega⟩) a6
      obtain⟨vv,hvv⟩:∃vv:List UInt8,vv=[]:=⟨_,rfl⟩
      obtain⟨W7,hW7⟩:∃x,x=W6.setCell ⟨wr.heap.size,0,none⟩ (.string ⟨k1.toArray⟩):=⟨_,rfl⟩
      have t7:Zb (fun x=>x=wr.heap.size) W6 W7:=by rw[hW7];exact Zd W6 wr.heap.size 0 (.string ⟨k1.toArray⟩)
      have hE7:W7.heap[wr.heap.size]?=some (enO ⟨k1,vv,0⟩):=by rw[hW7,hvv];exact Ze hE6 (i:=0) (.string ⟨k1.toArray⟩)
      have a7:=(t7.block _ (Za a6) (by omega)).trans a6
      have HI7:=Hd (hI6.other t7 (fun k hk=>⟨by omega,fun e=>by have:=(HOWN.out k e).2;omega⟩) a7)
      have HE7:=Hd hE7
      have HRK:Hid (readK false bs l.length at_=some (k1,at1)):=Hd (by rw[HKK.out,hy])
      have HLE1:Hid (at1≤bs.length):=Hd hle1
      have HVV:=Hd hvv
      have HW7:=Hd hW7
      obtain⟨n0,_⟩:=Zc HI7.out.nd
      rw[hW7] at n0
      clear HTX hI6 a6 a7 t6 t7 hy hW7 hE6 hE7 hle1 hvv
      go_upto_region 18 with fail
      rw[←HW7.out]
      clear j0 j1 j2 g0 n0
      have s2:IntKind.i64.wrap ((at1:Int)+2)=(at1:Int)+2:=by rw[IntWalk.i64_in _ (by have:=HLE1.out;have:=HN.out;omega)]
      have hat1:at1≤n:=by have:=HLE1.out;have:=HN.out;omega
      by_cases h2:n<at1+2
      ·have hno:Zah bs=none:=by
        rw[HYES.out,HGO.out]
        obtain⟨q,hq⟩:∃q,M - i=q+1:=⟨M - i - 1,by omega⟩
        have hre:Zbe false bs l.length at_=none:=by unfold Zbe;rw[HRK.out];simp only[Option.bind_some,readV,Bool.false_eq_true,if_false];rw[if_pos (by have:=HN.out;omega)]
        rw[hq,Yy,hre]
        rfl
       have HNO:=Hd hno
       have ha7:=HI7.out.a
       have hc7:W7.cell? ⟨w.heap.size+2,0,none⟩=some (.int .i64 (at1:Int)):=by rw[cell_of_row _ _ _ _ _ _ ha7];rfl
       have hz1:decide ((at1:Int)+2 > (n:Int))=true:=decide_eq_true (by omega)
       have hz2:decide ((n:Int)<(at1:Int)+2)=true:=decide_eq_true (by omega)
       have HI10:=Hd (HI7.out.other (Zb.refl (fun _=>False) W7).drew (fun k hk=>hk.elim) ha7)
       obtain⟨n7,_⟩:=Zc HI7.out.nd
       clear hno ha7
       go_wp2_with fail
       clear n7
       obtain⟨n0,n1⟩:=Zc HI10.out.nd
       obtain⟨r0,r1⟩:=Zc HI10.out.r
       have f0:=Zf HI10.out.r 0
       have f1:=Zf HI10.out.r 1
       have HLD:=Hd HI10.out.store.1
       have HRT:=Hd (HI10.out.no HNO.out)
       go_upto_region 20 with fail
       go_region
       generalize W7.drew=W10 at *
       go_wp2_with fail
       exact bodyPost_ret (v:=.tuple #[ndV false (.slice av i cv),.bool false]) (Yf Tryz.results86 rfl HLD.out) rfl HRT.out
      obtain⟨xa,hxa⟩:∃xa,xa=bs.getD at1 0:=⟨_,rfl⟩
      obtain⟨xb,hxb⟩:∃xb,xb=bs.getD (at1+1) 0:=⟨_,rfl⟩
      obtain⟨kd,hkd⟩:∃kd:Int,kd=(xa.toNat:Int)+(xb.toNat:Int)*256:=⟨_,rfl⟩
      have hre:Zbe false bs l.length at_=some (⟨k1,vv,kd⟩,at1+2):=by
       unfold Zbe
       rw[HRK.out]
       simp only[Option.bind_some,readV,Bool.false_eq_true,if_false]
       rw[if_neg (by have:=HN.out;omega),hkd,hxa,hxb,HVV.out]
      have hgoS:Zcu false l ⟨k1,vv,kd⟩=true→Yy false bs M 3 []=Yy false bs (M - (i+1)) (at1+2) (l++[⟨k1,vv,kd⟩]):=fun hf=>by
       rw[HGO.out]
       obtain⟨q,hq⟩:∃q,M - i=q+1:=⟨M - i - 1,by omega⟩
       rw[hq,Yy,hre,show M - (i+1)=q by omega]
       simp only
       rw[if_pos hf]
      have hgoN:Zcu false l ⟨k1,vv,kd⟩=false→Zah bs=none:=fun hf=>by
       rw[HYES.out,HGO.out]
       obtain⟨q,hq⟩:∃q,M - i=q+1:=⟨M - i - 1,by omega⟩
       rw[hq,Yy,hre]
       simp only
       rw[if_neg (by simp[hf])]
       rfl
      have HGS:=Hd hgoS
      have HGN:=Hd hgoN
      have HLE2:Hid (at1+2≤bs.length):=Hd (by have:=HN.out;omega)
      have ha7:=HI7.out.a
      have hc7:W7.drew.cell? ⟨w.heap.size+2,0,none⟩=some (.int .i64 (at1:Int)):=by
       show W7.cell? _=_
       rw[cell_of_row _ _ _ _ _ _ ha7];rfl
      have hc7':W7.cell? ⟨w.heap.size+2,0,none⟩=some (.int .i64 (at1:Int)):=hc7
      have hq1:W7.drew.cell? ⟨b,o+at1,none⟩=some (.int .u8 (xa.toNat:Int)):=by rw[hxa];exact Zi HI7.out.below _ _ (HCELL.out at1 (by omega))
      have hq2:W7.drew.cell? ⟨b,o+(at1+1),none⟩=some (.int .u8 (xb.toNat:Int)):=by rw[hxb];exact Zi HI7.out.below _ _ (HCELL.out (at1+1) (by omega))
      have hz1:decide ((at1:Int)+2 > (n:Int))=false:=decide_eq_false (by omega)
      have hz2:decide ((n:Int)<(at1:Int)+2)=false:=decide_eq_false (by omega)
      have s1:IntKind.i64.wrap ((at1:Int)+1)=((at1+1:Nat):Int):=by rw[IntWalk.i64_in _ (by omega)];omega
      have hx1_:=xa.toNat_lt
      have hx2_:=xb.toNat_lt
      have sa:IntKind.i64.wrap (xa.toNat:Int)=(xa.toNat:Int):=IntWalk.i64_in _ (by omega)
      have sb:IntKind.i64.wrap (xb.toNat:Int)=(xb.toNat:Int):=IntWalk.i64_in _ (by omega)
      have sc:IntKind.i64.wrap ((xb.toNat:Int)*256)=(xb.toNat:Int)*256:=IntWalk.i64_in _ (by omega)
      have sd:IntKind.i64.wrap ((xa.toNat:Int)+(xb.toNat:Int)*256)=kd:=by rw[IntWalk.i64_in _ (by omega),hkd]
      have hl1:(at1:Int)<(n:Int):=by omega
      have hl2:((at1+1:Nat):Int)<(n:Int):=by omega
      have hl3:(0:Int)≤(at1:Int):=by omega
      have hl4:(0:Int)≤((at1+1:Nat):Int):=by omega
      obtain⟨j0,j1,j2⟩:=Zv (w:=W7.drew) HE7.out
      have g2_:=Zf (w:=W7.drew) HE7.out 2
      obtain⟨n7,_⟩:=Zc HI7.out.nd
      obtain⟨W9,hW9⟩:∃x,x=((W7.setCell ⟨wr.heap.size,2,none⟩ (.int .i64 kd)).setCell ⟨w.heap.size+2,0,none⟩ (.int .i64 ((at1:Int)+2))).drew:=⟨_,rfl⟩
      have t8:=Zd W7 wr.heap.size 2 (.int .i64 kd)
      have ha8:=(t8.block _ (Za ha7) (by omega)).trans ha7
      have ha9:W9.heap[w.heap.size+2]?=some (intO (at1+2)):=by
       rw[hW9]
       exact Ze ha8 (i:=0) (.int .i64 ((at1:Int)+2))
      have t9:Zb (fun k=>k=wr.heap.size∨k=w.heap.size+2) W7 W9:=by
       rw[hW9]
       exact((t8.mono fun _ _ e=>.inl e).trans ((Zd _ (w.heap.size+2) 0 _).mono fun _ _ e=>.inr e)).drew
      have hE8:=Ze HE7.out (i:=2) (.int .i64 kd)
      have hE9:W9.drew.heap[wr.heap.size]?=some (enO ⟨k1,vv,kd⟩):=by
       show W9.heap[wr.heap.size]?=_
       rw[hW9]
       exact((Zd _ (w.heap.size+2) 0 (.int .i64 ((at1:Int)+2))).block _ (Za hE8) (by omega)).trans hE8
      have HI10:=Hd ((HI7.out.other t9 (fun k hk=>⟨by omega,fun e=>by have:=HOWN.out k e;omega⟩) ha9).other (Zb.refl (fun _=>False) W9).drew (fun k hk=>hk.elim) ha9)
      have HE9:=Hd hE9
      have HW9:=Hd hW9
      have gA:=Zf ha7 0
      clear t8 ha8 ha9 t9 hE8 hE9 hW9
      clear hkd hxa hxb hre hgoS hgoN ha7
      go_upto_region 13 with fail
      go_region
      go_wp2_with fail
      rw[←HW9.out]
      clear hc7 hc7' hq1 hq2 j0 j1 j2 g2_ n7 gA
      obtain⟨n0,n1⟩:=Zc HI10.out.nd
      obtain⟨e0,e1_,e2_⟩:=Zv HE9.out
      have y1:decide ((i:Int) > 0)=true:=decide_eq_true (by omega)
      have y2:decide (0<(i:Int))=true:=decide_eq_true (by omega)
      have y3:decide (0<i)=true:=decide_eq_true h0
      obtain⟨i',hi'⟩:∃i',i=i'+1:=⟨i - 1,by omega⟩
      have hlt':i'<l.length:=by rw[HI10.out.len];omega
      have hlast:l.getLast?=some l[i']:=by
       rw[List.getLast?_eq_getElem?,HI10.out.len,show i - 1=i' by omega,List.getElem?_eq_getElem hlt']
      by_cases h1:1<i
      case neg =>
       have HG2:=Hd (HGS.out (by unfold Zcu;rw[hlast,HI10.out.len];simp[h1]))
       have y4:decide ((i:Int) > 1)=false:=decide_eq_false (by omega)
       have y5:decide (1<(i:Int))=false:=decide_eq_false (by omega)
       have y6:decide (1<i)=false:=decide_eq_false h1
       clear hlast hlt' hi'
       go_upto_region 20 with fail
       go_region
       generalize W9.drew=W10 at *
       have hI10:=HI10.out
       have hsN:w.heap.size+1<W10.heap.size:=Za hI10.nd
       obtain⟨W11,hW11⟩:∃x,x=W10.alloc (.cells #[.string ⟨k1.toArray⟩,.string ⟨vv.toArray⟩,.int .i64 kd] 82):=⟨_,rfl⟩
       have hb11:Below W10.heap.size W10 W11:=by rw[hW11];exact Zj W10 _
       have hU:W11.heap[W10.heap.size]?=some (enO ⟨k1,vv,kd⟩):=by rw[hW11];exact heap_alloc_new W10 _
       have hI11:=hI10.other (Zb.of_below hb11 (T:=fun _=>False)) (fun k hk=>hk.elim) ((hb11.block _ (Za hI10.a)).trans hI10.a)
       obtain⟨v2,W12,hr,hm12,hg12,_⟩:=hI11.own.app (IsE.one hU) (by have:=Za hU;have:=Za hI11.a;omega) (by have:=hI11.len;have:=HML2.out;simp only[List.length_singleton];omega)
       have hI13:=hI11.grown hg12 hm12
       have hnv:∀k,(Value.slice av i cv).ownBlock=some k→w.heap.size+3≤k:=fun k hk=>(hI11.own.lt hk).1
       have hN12:W12.heap[w.heap.size+1]?=some (ndO false (.slice av i cv)):=(hg12.block _ (Za hI11.nd) fun e=>by have:=hnv _ e.symm;omega).trans hI11.nd
       obtain⟨y0,y1⟩:=Zc hN12
       have fN:=Zf hN12 1
       obtain⟨a2,c2_,hv2,_,_⟩:=hm12.isE.form
       rw[List.length_append,hI11.len,List.length_singleton] at hv2
       subst hv2
       rw[hW11] at hr
       have HI13:=Hd hI13
       clear hI10 hb11 hU hI11 hW11 hm12 hg12 hI13 hnv hN12
       have hMM:=HML2.out
       go_wp2_with (at_builtin;refine wpList_append_run rfl (.tmp 120) (.tmp 122) 78 78 rfl _ _ _ rfl rfl hr ?_;clear hr)
       go_roundw
       case rel=>exact⟨i+1,at1+2,_,_,hlt,by go_num,HI13.out,HG2.out,HLE2.out⟩
       case measure=>simp[intOf];omega
      case pos =>
       obtain⟨gl,ol,hav,z0,z1_,z2_⟩:=HI10.out.own.isE.at i' hlt'
       subst hav
       have hfit:Zcu false l ⟨k1,vv,kd⟩=decide (l[i'].key<k1):=by unfold Zcu;rw[hlast,HI10.out.len];simp[h1]
       have hcmp:=leq_fits k1 l[i'].key
       rw[←hfit] at hcmp
       have y4:decide ((i:Int) > 1)=true:=decide_eq_true (by omega)
       have y5:decide (1<(i:Int))=true:=decide_eq_true (by omega)
       have y6:decide (1<i)=true:=decide_eq_true h1
       have hMM:=HML2.out
       have hsub:IntKind.i64.wrap ((i:Int) - 1)=(i':Int):=by rw[IntWalk.i64_in _ (by omega)];omega
       have hz8:(i':Int)<(i:Int):=by omega
       have hz9:(0:Int)≤(i':Int):=by omega
       have HI':=Hd hi'
       obtain⟨lk,hlk_⟩:∃lk,lk=l[i'].key:=⟨_,rfl⟩
       rw[←hlk_] at z0 hcmp
       clear z1_ z2_ hfit hlast hlk_ hMM
       clear hlt' hi'
       cases hf:Zcu false l ⟨k1,vv,kd⟩ with
       | true =>
        have HG2:=Hd (HGS.out hf)
        rw[hf] at hcmp
        clear hf
        go_upto_region 20 with fail
        go_region
        generalize W9.drew=W10 at *
        have hI10:=HI10.out
        have hsN:w.heap.size+1<W10.heap.size:=Za hI10.nd
        obtain⟨W11,hW11⟩:∃x,x=W10.alloc (.cells #[.string ⟨k1.toArray⟩,.string ⟨vv.toArray⟩,.int .i64 kd] 82):=⟨_,rfl⟩
        have hb11:Below W10.heap.size W10 W11:=by rw[hW11];exact Zj W10 _
        have hU:W11.heap[W10.heap.size]?=some (enO ⟨k1,vv,kd⟩):=by rw[hW11];exact heap_alloc_new W10 _
        have hI11:=hI10.other (Zb.of_below hb11 (T:=fun _=>False)) (fun k hk=>hk.elim) ((hb11.block _ (Za hI10.a)).trans hI10.a)
        obtain⟨v2,W12,hr,hm12,hg12,_⟩:=hI11.own.app (IsE.one hU) (by have:=Za hU;have:=Za hI11.a;omega) (by have:=hI11.len;have:=HML2.out;simp only[List.length_singleton];omega)
        have hI13:=hI11.grown hg12 hm12
        have hnv:∀k,(Value.slice (some ⟨gl,ol,none⟩) i cv).ownBlock=some k→w.heap.size+3≤k:=fun k hk=>(hI11.own.lt hk).1
        have hN12:W12.heap[w.heap.size+1]?=some (ndO false (.slice (some ⟨gl,ol,none⟩) i cv)):=(hg12.block _ (Za hI11.nd) fun e=>by have:=hnv _ e.symm;omega).trans hI11.nd
        obtain⟨y0,y1⟩:=Zc hN12
        have fN:=Zf hN12 1
        obtain⟨a2,c2_,hv2,_,_⟩:=hm12.isE.form
        rw[List.length_append,hI11.len,List.length_singleton] at hv2
        subst hv2
        rw[hW11] at hr
        have HI13:=Hd hI13
        clear hI10 hb11 hU hI11 hW11 hm12 hg12 hI13 hnv hN12
        have hMM:=HML2.out
        go_wp2_with (at_builtin;refine wpList_append_run rfl (.tmp 120) (.tmp 122) 78 78 rfl _ _ _ rfl rfl hr ?_;clear hr)
        go_roundw
        case rel=>exact⟨i+1,at1+2,_,_,hlt,by go_num,HI13.out,HG2.out,HLE2.out⟩
        case measure=>simp[intOf];omega
       | false =>
        have HNO:=Hd (HGN.out hf)
        rw[hf] at hcmp
        clear hf
        obtain⟨r0,r1⟩:=Zc HI10.out.r
        have f0:=Zf HI10.out.r 0
        have f1:=Zf HI10.out.r 1
        have HLD:=Hd HI10.out.store.1
        have HRT:=Hd (HI10.out.no HNO.out)
        go_upto_region 20 with fail
        go_region
        generalize W9.drew=W10 at *
        go_wp2_with fail
        exact bodyPost_ret (v:=.tuple #[ndV false (.slice (some ⟨gl,ol,none⟩) i cv),.bool false]) (Yf Tryz.results86 rfl HLD.out) rfl HRT.out
end
end Go.Proofs.YtofibccplbnaiaaGreatDoor
