/- The card CardBtreePlays: for every input the law answers true, and what came in reads as it did; with what it needs ahead. -/
import Derived.Test.YtofibccplbnaiaaGreatDoorP23
import Derived.Test.YtofibccplbnaiaaGreatDoorP24
import Derived.Deep.Cut
import Derived.Deep.DeepCutAuto
import Derived.Deep.CutBlock
import Derived.Deep.CutRange
import Derived.Test.YtofibccplbnaiaaGreatDoorCards
import Derived.Test.YtofibccplbnaiaaGreatDoorTie
set_option linter.unusedVariables false
set_option linter.unusedSimpArgs false
set_option maxRecDepth 100000
set_option maxHeartbeats 64000000
namespace Go.Proofs.YtofibccplbnaiaaGreatDoor
section
open Go.RowKit Go.Shelf Go.Lib
attribute [local go_sem] Oper.semAt_some
theorem op_at10 {w:World} {a:Option Addr} {n cap:Nat} {xs:List OpT} (h:IsRow rdOpT w (.slice a n cap) xs) (i:Nat) (hi:i<xs.length):∃g o,a=some ⟨g,o,none⟩∧w.cell? ⟨g,o+i*4,none⟩=some (.int .i64 xs[i].kind)∧w.cell? ⟨g,o+i*4+1,none⟩=some (.string ⟨xs[i].key.toArray⟩)∧w.cell? ⟨g,o+i*4+2,none⟩=some (.string ⟨xs[i].val.toArray⟩)∧w.cell? ⟨g,o+i*4+3,none⟩=some (.int .i64 xs[i].long) ∧
  (-9223372036854775808≤xs[i].kind∧xs[i].kind≤9223372036854775807)∧xs[i].key.length≤reachBytes∧xs[i].val.length≤reachBytes∧(-9223372036854775808≤xs[i].long∧xs[i].long≤9223372036854775807):=by
 obtain⟨a',cap',hv,hl,hm,hn,hb,hc⟩:=h;simp only[Value.slice.injEq] at hv;obtain⟨rfl,rfl,rfl⟩:=hv
 cases a with
 | none=>have:=hn rfl;omega
 | some x =>
  obtain⟨g,o,s⟩:=x;obtain⟨hs,hc⟩:=hc _ rfl;obtain rfl:s=none:=hs (by omega);obtain⟨cs,h1,h2⟩:=hc i hi;obtain⟨c0,c1,c2,c3,rfl,⟨e0,a0⟩,⟨e1,a1⟩,⟨e2,a2⟩,⟨e3,a3⟩⟩:=h1;simp only[List.cons.injEq,and_true] at e0 e1 e2 e3;subst e0 e1 e2 e3;exact⟨g,o,rfl,h2 0 _ rfl,h2 1 _ rfl,h2 2 _ rfl,h2 3 _ rfl,a0,a1,a2,a3⟩
def OkP (k:Nat) (l:List KV):Prop:=Qy l≤45288∧l.length≤k
theorem OkP.mono {k m:Nat} {l:List KV} (h:OkP k l) (hm:k≤m):OkP m l:=⟨h.1,Nat.le_trans h.2 hm⟩
theorem OkP.wgt {k:Nat} {l:List KV} (h:OkP k l):wgtB l≤45300:=by have:=wgtB_le_wgtP l;have:=h.1;omega
theorem OkP.put {k:Nat} {l:List KV} (h:OkP k l) {key val:List UInt8} (hw:Qy l≤45000) (hk:key.length≤80) (hv:val.length≤200):OkP (k+1) (putL l key val):=⟨by have:=putL_wgtP l key val;omega,by have:=putL_len l key val;have:=h.2;omega⟩
theorem OkP.del {k:Nat} {l:List KV} (h:OkP k l) (key:List UInt8):OkP k (delL l key):=⟨Nat.le_trans (delL_wgtP l key) h.1,by
 have:=restL_len l key;have:=h.2;unfold delL;rw[List.length_append]
 omega⟩
def PSt (N:Nat) (w0:World) (F:Ft) (p:Nat) (q k:Nat) (t vn vw:Value) (w:World):Prop:=∃(c:Nat) (f:Pf) (tb:Nat) (a b:List KV),c≤k∧t=trp tb∧f.q=q∧OkP k a∧OkP k b∧PL N w0 F p c a b vn a vw b w f tb
theorem same_plT {N:Nat} {w0 w:World} {k:Nat} {F:Ft} {p:Nat} {f:Pf} {tb:Nat} {a b:List KV} {vn vw:Value} {ln lw:List KV} (h:PL N w0 F p k a b vn ln vw lw w f tb) (hll:a.length≤1000000) {from_ to_:List UInt8} {v:Value} (hv:Qj w v (Zch from_ to_ a)) (hvT:∀i,v.ownBlock=some i→¬PJ F p f i) (ea:Int) (hea:-9223372036854775808≤ea∧ea≤9223372036854775807) :
  Calls Tryz.prog 12 #[trp tb,.string ⟨from_.toArray⟩,.string ⟨to_.toArray⟩,v,.int .i64 ea] w fun e w'=>e=.returned (.bool true)∧PL N w0 F p k a b vn ln vw lw w' f tb∧Zb (PJ F p f) w w':=by
 obtain⟨J,seq,B,R,t,x1,x2,x3,x4⟩:=h.pw.ex;refine(bsame_tr t x1 (by omega) hll hv hvT ea hea).mono ?_;rintro e w' ⟨rfl,t1,t2⟩;exact⟨rfl,h.to ⟨_,_,_,_,t1,x1,x2,x3,x4⟩ (fun _ hi=>.inl hi) t2,t2⟩
theorem bplays_walk (w:World) (hn:Nib w) (v:Value) (xs:List OpT) (hv:IsRow rdOpT w v xs) :
  Calls Tryz.prog 6 #[v] w fun e w'=>e=.returned (.bool true)∧Below w.heap.size w w':=by
 obtain⟨a,cap,rfl,hl1,hl2⟩:=hv.form;unfold maxLen at hl2;have HSH:=Hd (shown10_any w hn)
 have HV:=Hd hv;have HN:=Hd hn;clear hv hn;go_enter Tryz.func6,Tryz.ntmps6;go_wp2_with fail;refine HSH.out.mono ?_;rintro e w0 ⟨rfl,hb0⟩;have HB0:=Hd hb0;clear hb0;go_wp2_with fail;refine(none_any w0).mono ?_;rintro e w1 ⟨rfl,hb1⟩;have hb01:=HB0.out.trans (hb1.mono HB0.out.size);have HBG:=Hd (begun10_any w1 (HN.out.below hb01) 4096 (by omega) (by omega));have HB1:=Hd hb01;clear hb1 hb01 HB0;go_wp2_with fail;refine HBG.out.mono ?_;rintro e w2 ⟨F,p,f,tb,J,seq,B,rfl,hT,hb2,ho2,htb2,hcut,hlast,hops⟩
 have hpl:PL w1.heap.size w1 F p 0 [] [] (.slice none 0 0) [] (.slice none 0 0) [] w2 f tb :=
  ⟨⟨J,seq,B,_,hT,tre_begun _,tre_begun _,by unfold Rp.begun;simp,hcut,hlast,by omega⟩,ho2,htb2,hb2,hb2.size,Qj.nil _,fun i hi=>(by cases hi),Qj.nil _,fun i hi=>(by cases hi)⟩
 have HST:Hid (PSt w1.heap.size w1 F p f.q 0 (trp tb) (.slice none 0 0) (.slice none 0 0) w2):=Hd ⟨0,f,tb,[],[],Nat.le_refl _,rfl,rfl,⟨Nat.zero_le _,Nat.le_refl _⟩,⟨Nat.zero_le _,Nat.le_refl _⟩,hpl⟩;clear hT hb2 ho2 htb2 hcut hlast hops hpl HBG HSH;generalize f.q=q at *;go_wp2_with fail;go_loopw [6,7,8,9] (fun t vn vw i wr=>∃k:Nat,k≤xs.length∧k≤250∧i=.int .i64 (k:Int)∧PSt w1.heap.size w1 F p q k t vn vw wr) (fun _ _ _ i _=>xs.length - (intOf i).toNat)
 case atStart=>exact⟨0,Nat.zero_le _,Nat.zero_le _,rfl,HST.out⟩
 case round =>
  clear HST;obtain⟨k,hk,hk2,rfl,hst⟩:=hrel;obtain⟨c,f1,tb1,la,lb,hc,rfl,hq,hoa,hob,hpl⟩:=hst;have HPL:=Hd hpl
  have HQ:=Hd hq;have HOA:=Hd hoa;have HOB:=Hd hob;obtain⟨an,cn,rfl,hn1,hn2⟩:=hpl.isn.form;obtain⟨aw,cw,rfl,hw1,hw2⟩:=hpl.isw.form;clear hpl hq hoa hob hn1 hn2 hw1 hw2;have hend:(k=xs.length∨k=250)∨(k<xs.length∧k<250):=by omega
  rcases hend with hend | ⟨hlt,h250⟩
  ·have hll:=HOA.out.2
   have hsm:Calls Tryz.prog 12 #[trp tb1,.string ⟨#[]⟩,.string ⟨#[]⟩,.slice an la.length cn,.int .i64 0] wr fun e w'=>e=.returned (.bool true)∧PL w1.heap.size w1 F p c la lb (.slice an la.length cn) la (.slice aw lb.length cw) lb w' f1 tb1:=same_pl (from_:=[]) (to_:=[]) HPL.out (by omega) (by rw[rngL_all];exact HPL.out.isn) (fun i hi=>(HPL.out.offn i hi).2) 0 (by omega);have HSM:=Hd hsm
   have hcc:(decide ((k:Int)<(xs.length:Int))=false∧decide (k<xs.length)=false)∨(decide ((k:Int)<(xs.length:Int))=true∧decide (k<xs.length)=true∧decide ((k:Int)<250)=false∧decide (k<250)=false):=by
    rcases Nat.lt_or_ge k xs.length with e | e
    ·exact .inr ⟨decide_eq_true (by omega),decide_eq_true e,decide_eq_false (by omega),decide_eq_false (by omega)⟩
    ·exact .inl ⟨decide_eq_false (by omega),decide_eq_false (by omega)⟩
   clear hsm hll hend;rcases hcc with ⟨d1,d2⟩ | ⟨d1,d2,d3,d4⟩
   all_goals
    go_wp2_with fail
    refine HSM.out.mono ?_
    rintro e w5 ⟨rfl,hpl⟩
    have hal:=alloc_pl hpl HOA.out.wgt
    rw[HQ.out] at hal
    have HAL:=Hd hal
    clear hpl hal
    go_wp2_with fail
    refine HAL.out.mono ?_
    rintro e w6 ⟨⟨pg,rfl⟩,hsd⟩
    have HSD:=Hd hsd
    clear hsd
    go_wp2_with fail
    refine HSD.out.mono ?_
    rintro e w7 ⟨rfl,hb7⟩
    have HE:Hid (Below w.heap.size w w7):=Hd (HB1.out.trans (hb7.mono HB1.out.size))
    clear hb7
    go_wp2_with fail
    go_ret
    exact⟨rfl,HE.out⟩
  ·have hd:decide ((k:Int)<(xs.length:Int))=true:=decide_eq_true (by omega)
   have hdn:decide (k<xs.length)=true:=decide_eq_true hlt;have hd2:decide ((k:Int)<250)=true:=decide_eq_true (by omega);have hdn2:decide (k<250)=true:=decide_eq_true h250;have hwr:IntKind.i64.wrap ((k:Int)+1)=(k:Int)+1:=IntWalk.i64_in _ (by omega);have hi0:(0:Int)≤(k:Int):=by omega
   have hi1:(k:Int)<(xs.length:Int):=by omega
   go_upto_block 1 with fail;go_cut [6,7,8] (fun t vn vw wx=>PSt w1.heap.size w1 F p q (k+1) t vn vw wx)
   case rest =>
    have HC:=Hd hcut;clear hcut;go_wp2_with fail;go_roundw
    case rel=>exact⟨k+1,hlt,h250,by go_num,HC.out⟩
    case measure=>simp[intOf];omega
   case first =>
    obtain⟨g,o,rfl,c0,c1,c2,c3,hkd,hkl,hvl,hlg⟩:=op_at10 (HV.out.below (HB1.out.trans (HPL.out.below.mono HB1.out.size))) k hlt;obtain⟨op,hop⟩:∃op,op=xs[k]:=⟨_,rfl⟩;rw[←hop] at c0 c1 c2 c3 hkd hkl hvl hlg;obtain⟨kd,ky,vl,lg⟩:=op;dsimp only at c0 c1 c2 c3 hkd hkl hvl hlg;have HPK:=Hd (fun(W:World) (n:Nat) (h0:0<n) (h1:n≤100)=>pick_any W lg n hlg.1 hlg.2 h0 (by omega))
    have HPK10:=Hd (fun(W:World)=>pick_any W kd 10 hkd.1 hkd.2 (by omega) (by omega));have hp5:=pickN_lt lg (n:=5) (by omega);have hp7:=pickN_lt lg (n:=7) (by omega);have hp3:=pickN_lt lg (n:=3) (by omega);have hp10:=pickN_lt kd (n:=10) (by omega);have HPK5:=Hd (fun W=>HPK.out W 5 (by omega) (by omega));have HPK7:=Hd (fun W=>HPK.out W 7 (by omega) (by omega));have HPK3:=Hd (fun W=>HPK.out W 3 (by omega) (by omega));clear HPK hop hkd hlg;generalize pickN lg 5=p5 at *;generalize pickN lg 7=p7 at *;generalize pickN lg 3=p3 at *;generalize pickN kd 10=p10 at *;unfold reachBytes at hkl hvl;have HKV:=Hd (And.intro hkl hvl);obtain⟨m5,hm5⟩:∃m,m=p5*20:=⟨_,rfl⟩;obtain⟨m7,hm7⟩:∃m,m=p7*33:=⟨_,rfl⟩;have hx5:IntKind.i64.wrap ((p5:Int)*20)=(m5:Int):=by rw[IntWalk.i64_in _ (by omega)];omega
    have hx7:IntKind.i64.wrap ((p7:Int)*33)=(m7:Int):=by rw[IntWalk.i64_in _ (by omega)];omega
    have hx3:IntKind.i64.wrap (1+(p3:Int))=1+(p3:Int):=IntWalk.i64_in _ (by omega);have HL5:=Hd (fun W:World=>long_any W ky m5 (by omega) (by omega));have HL7:=Hd (fun W:World=>long_any W vl m7 (by omega) (by omega));have HK5:Hid ((ky++Zdt m5).length≤9223372036854775807∧(vl++Zdt m7).length≤9223372036854775807):=Hd ⟨by rw[List.length_append,longB_len];omega,by rw[List.length_append,longB_len];omega⟩;generalize ky++Zdt m5=K at *;generalize vl++Zdt m7=V at *;obtain⟨W3,hW3⟩:∃x,x=wr.alloc (.cells #[.int .i64 kd,.string ⟨ky.toArray⟩,.string ⟨vl.toArray⟩,.int .i64 lg] 55):=⟨_,rfl⟩;have hb3:Below wr.heap.size wr W3:=by rw[hW3];exact Zj wr _
    have hh3:W3.heap[wr.heap.size]?=some (.cells #[.int .i64 kd,.string ⟨ky.toArray⟩,.string ⟨vl.toArray⟩,.int .i64 lg] 55 (0,0)):=by rw[hW3];exact heap_alloc_new wr _
    have HP3:=Hd (HPL.out.step hb3);obtain⟨bx,hbx⟩:∃bx,bx=wr.heap.size:=⟨_,rfl⟩;have HBX:=Hd hbx;have HW3:=Hd hW3;have hS3:(fun W:World=>W.cell? ⟨bx,0,none⟩=some (.int .i64 kd)∧W.cell? ⟨bx,1,none⟩=some (.string ⟨ky.toArray⟩)∧W.cell? ⟨bx,2,none⟩=some (.string ⟨vl.toArray⟩)∧W.cell? ⟨bx,3,none⟩=some (.int .i64 lg)) W3:=by rw[hbx];exact⟨(cell_of_row _ _ 0 _ _ _ hh3).trans rfl,(cell_of_row _ _ 1 _ _ _ hh3).trans rfl,(cell_of_row _ _ 2 _ _ _ hh3).trans rfl,(cell_of_row _ _ 3 _ _ _ hh3).trans rfl⟩
    have HS3:Hid (∀(A B:World),Below A.heap.size A B→(fun W:World=>W.cell? ⟨bx,0,none⟩=some (.int .i64 kd)∧W.cell? ⟨bx,1,none⟩=some (.string ⟨ky.toArray⟩)∧W.cell? ⟨bx,2,none⟩=some (.string ⟨vl.toArray⟩)∧W.cell? ⟨bx,3,none⟩=some (.int .i64 lg)) A→(fun W:World=>W.cell? ⟨bx,0,none⟩=some (.int .i64 kd)∧W.cell? ⟨bx,1,none⟩=some (.string ⟨ky.toArray⟩)∧W.cell? ⟨bx,2,none⟩=some (.string ⟨vl.toArray⟩)∧W.cell? ⟨bx,3,none⟩=some (.int .i64 lg)) B):=Hd fun A B hb h=>⟨Zi hb _ _ h.1,Zi hb _ _ h.2.1,Zi hb _ _ h.2.2.1,Zi hb _ _ h.2.2.2⟩;have HSS:=Hd hS3
    have HS4:Hid (∀(A B:World),Zb (PJ F p f1) A B→(fun W:World=>W.cell? ⟨bx,0,none⟩=some (.int .i64 kd)∧W.cell? ⟨bx,1,none⟩=some (.string ⟨ky.toArray⟩)∧W.cell? ⟨bx,2,none⟩=some (.string ⟨vl.toArray⟩)∧W.cell? ⟨bx,3,none⟩=some (.int .i64 lg)) A→(fun W:World=>W.cell? ⟨bx,0,none⟩=some (.int .i64 kd)∧W.cell? ⟨bx,1,none⟩=some (.string ⟨ky.toArray⟩)∧W.cell? ⟨bx,2,none⟩=some (.string ⟨vl.toArray⟩)∧W.cell? ⟨bx,3,none⟩=some (.int .i64 lg)) B):=Hd fun A B ht h=>by
     have hbn:¬PJ F p f1 bx:=fun e=>by have:=HPL.out.pw.lt e;omega
     have hk:∀(o:Nat) (u:Value),A.cell? ⟨bx,o,none⟩=some u→B.cell? ⟨bx,o,none⟩=some u:=fun o u hu=>(World.cell?_of_block (ht.block _ (World.block_lt_of_cell? A _ hu) hbn)).trans hu;exact⟨hk _ _ h.1,hk _ _ h.2.1,hk _ _ h.2.2.1,hk _ _ h.2.2.2⟩
    clear hm5 hm7 hkl hvl hb3 hh3 hbx hW3 hS3;go_upto_region 12 with fail;try rw[←HW3.out,←HBX.out]
    refine wp_region_noPanic ?_;refine wp_region_held_drew (S:=(fun W:World=>W.cell? ⟨bx,0,none⟩=some (.int .i64 kd)∧W.cell? ⟨bx,1,none⟩=some (.string ⟨ky.toArray⟩)∧W.cell? ⟨bx,2,none⟩=some (.string ⟨vl.toArray⟩)∧W.cell? ⟨bx,3,none⟩=some (.int .i64 lg))) (by kernel_rfl) (HS3.out _ _ (Below.refl _ _).drew HSS.out) (fun hH=>?_);refine tkB 0 rfl (v:=?_) ?_ hH ?_;rotate_left
    ·rintro w ⟨q0,q1,q2,q3⟩;go_simp;try with_reducible rfl
    try simp only[Act.put,zA,zB,zC]
    refine tkB 1 rfl (v:=?_) ?_ hH ?_;rotate_left
    ·rintro w ⟨q0,q1,q2,q3⟩;go_simp;try with_reducible rfl
    try simp only[Act.put,zA,zB,zC]
    refine tkB 2 rfl (v:=?_) ?_ hH ?_;rotate_left
    ·rintro w ⟨q0,q1,q2,q3⟩;go_simp;try with_reducible rfl
    try simp only[Act.put,zA,zB,zC]
    refine tkB 3 rfl (v:=?_) ?_ hH ?_;rotate_left
    ·rintro w ⟨q0,q1,q2,q3⟩;go_simp;try with_reducible rfl
    try simp only[Act.put,zA,zB,zC]
    refine rdA 4 rfl (fun K hK=>?_);go_simp;refine(HPK5.out _).mono ?_;rintro e w' ⟨rfl,rfl⟩;go_wp2_with fail;refine hK.out _ _ hH (fun hH=>?_);clear hK K;try simp only[Act.put,zA,zB,zC]
    refine tkB 5 rfl (v:=?_) ?_ hH ?_;rotate_left
    ·rintro w ⟨q0,q1,q2,q3⟩;go_simp;try with_reducible rfl
    try simp only[Act.put,zA,zB,zC]
    refine rdA 6 rfl (fun K hK=>?_);go_simp;refine(HL5.out _).mono ?_;rintro e w4 ⟨rfl,hb⟩;have hS:=HS3.out _ _ hb hH
    have HP4:=Hd ((HP3.out.step (Below.refl _ _).drew).step hb);have HSS4:=Hd hS;clear hb hH;go_wp2_with fail;refine hK.out _ _ hS (fun hH=>?_);clear hS;clear hK K;try simp only[Act.put,zA,zB,zC]
    refine tkB 7 rfl (v:=?_) ?_ hH ?_;rotate_left
    ·rintro w ⟨q0,q1,q2,q3⟩;go_simp;try with_reducible rfl
    try simp only[Act.put,zA,zB,zC]
    refine dnA ?_;clear hH;go_upto_region 13 with fail;refine wp_region_noPanic ?_;refine wp_region_held_drew (S:=(fun W:World=>W.cell? ⟨bx,0,none⟩=some (.int .i64 kd)∧W.cell? ⟨bx,1,none⟩=some (.string ⟨ky.toArray⟩)∧W.cell? ⟨bx,2,none⟩=some (.string ⟨vl.toArray⟩)∧W.cell? ⟨bx,3,none⟩=some (.int .i64 lg))) (by kernel_rfl) (HS3.out _ _ (Below.refl _ _).drew HSS4.out) (fun hH=>?_);refine tkB 0 rfl (v:=?_) ?_ hH ?_;rotate_left
    ·rintro w ⟨q0,q1,q2,q3⟩;go_simp;try with_reducible rfl
    try simp only[Act.put,zA,zB,zC]
    refine tkB 1 rfl (v:=?_) ?_ hH ?_;rotate_left
    ·rintro w ⟨q0,q1,q2,q3⟩;go_simp;try with_reducible rfl
    try simp only[Act.put,zA,zB,zC]
    refine tkB 2 rfl (v:=?_) ?_ hH ?_;rotate_left
    ·rintro w ⟨q0,q1,q2,q3⟩;go_simp;try with_reducible rfl
    try simp only[Act.put,zA,zB,zC]
    refine tkB 3 rfl (v:=?_) ?_ hH ?_;rotate_left
    ·rintro w ⟨q0,q1,q2,q3⟩;go_simp;try with_reducible rfl
    try simp only[Act.put,zA,zB,zC]
    refine rdA 4 rfl (fun K hK=>?_);go_simp;refine(HPK7.out _).mono ?_;rintro e w' ⟨rfl,rfl⟩;go_wp2_with fail;refine hK.out _ _ hH (fun hH=>?_);clear hK K;try simp only[Act.put,zA,zB,zC]
    refine tkB 5 rfl (v:=?_) ?_ hH ?_;rotate_left
    ·rintro w ⟨q0,q1,q2,q3⟩;go_simp;try with_reducible rfl
    try simp only[Act.put,zA,zB,zC]
    refine rdA 6 rfl (fun K hK=>?_);go_simp;refine(HL7.out _).mono ?_;rintro e w5 ⟨rfl,hb⟩;have hS:=HS3.out _ _ hb hH
    have HP5:=Hd ((HP4.out.step (Below.refl _ _).drew).step hb);have HSS5:=Hd hS;clear hb hH;go_wp2_with fail;refine hK.out _ _ hS (fun hH=>?_);clear hS;clear hK K;try simp only[Act.put,zA,zB,zC]
    refine tkB 7 rfl (v:=?_) ?_ hH ?_;rotate_left
    ·rintro w ⟨q0,q1,q2,q3⟩;go_simp;try with_reducible rfl
    try simp only[Act.put,zA,zB,zC]
    refine dnA ?_;clear hH;obtain⟨c0,c1,c2,c3⟩:=HSS5.out;clear c1 c2;go_wp2_with fail;refine(HPK10.out _).mono ?_;rintro e w' ⟨rfl,rfl⟩;go_upto_block 2 with fail;go_cut [6,7,8] (fun t vn vw wx=>PSt w1.heap.size w1 F p q (k+1) t vn vw wx)
    case rest =>
     obtain⟨c2,f2,tb2,la2,lb2,hc2,rfl,hq2,hoa2,hob2,hpl2⟩:=hcut;have HSD:=Hd (sound_pl hpl2)
     have HH:=Hd (And.intro hc2 (And.intro hq2 (And.intro hoa2 hob2)));clear hc2 hq2 hoa2 hob2 hpl2;go_wp2_with fail;refine HSD.out.mono ?_;rintro e w9 ⟨rfl,hpl9⟩;have HP9:=Hd hpl9;clear hpl9;go_wp2_with fail;go_meet;exact⟨c2,f2,tb2,la2,lb2,HH.out.1,rfl,HH.out.2.1,HH.out.2.2.1,HH.out.2.2.2,HP9.out⟩
    case first =>
     have hcases:(p10=0∨p10=1∨p10=2)∨(p10=3∨p10=4)∨p10=5∨p10=6∨p10=7∨p10=8∨p10=9:=by omega
     clear c0;rcases hcases with hp | hp | rfl | rfl | rfl | rfl | rfl
     ·have HMU:=Hd (much_any w5 HP5.out.isn (by have:=HOA.out.1;omega))
      by_cases hm:45000<Qy la
      ·rw[decide_eq_true hm] at HMU
       clear hm;rcases hp with rfl | rfl | rfl
       all_goals as_aux_lemma =>
        go_wp2_with fail
        refine HMU.out.mono ?_
        rintro e w6 ⟨rfl,hb6⟩
        have HP6:=Hd (HP5.out.step hb6)
        clear hb6
        go_wp2_with fail
        go_meet
        exact⟨c,f1,tb1,la,lb,by omega,rfl,HQ.out,HOA.out.mono (by omega),HOB.out.mono (by omega),HP6.out⟩
      ·rw[decide_eq_false hm] at HMU
       have HM:=Hd hm;clear hm
       have hvv:(decide ((V.length:Int) > 200)=true∧decide (200<V.length)=true∧Hid (200<V.length))∨(decide ((V.length:Int) > 200)=false∧decide (200<V.length)=false∧Hid (V.length≤200)):=by
        rcases Nat.lt_or_ge 200 V.length with e | e
        ·exact .inl ⟨decide_eq_true (by omega),decide_eq_true e,Hd e⟩
        ·exact .inr ⟨decide_eq_false (by omega),decide_eq_false (by omega),Hd e⟩
       by_cases h80:K.length≤80
       ·have hd8:decide ((K.length:Int) > 80)=false:=decide_eq_false (by omega)
        have hd9:decide (80<K.length)=false:=decide_eq_false (by omega);have H80:=Hd h80;clear h80;rcases hvv with ⟨v1,v2,HV2⟩ | ⟨v1,v2,HV2⟩
        ·have HPT:=Hd (fun(W:World) (h:PL w1.heap.size w1 F p c la lb (.slice an la.length cn) la (.slice aw lb.length cw) lb W f1 tb1)=>put_plb h (key:=K) (val:=V) HK5.out.1 HK5.out.2 (by unfold Xr;rw[if_neg (by have:=H80.out;omega),if_pos HV2.out];decide))
         have hf:Xr K V=101:=by unfold Xr;rw[if_neg (by have:=H80.out;omega),if_pos HV2.out]
         rw[hf] at HPT;clear hf;rcases hp with rfl | rfl | rfl
         all_goals as_aux_lemma =>
          go_wp2_with fail
          refine HMU.out.mono ?_
          rintro e w6 ⟨rfl,hb6⟩
          have HPP:=Hd (HPT.out _ (HP5.out.step hb6))
          clear hb6
          go_wp2_with fail
          refine HPP.out.mono ?_
          rintro e w7 ⟨rfl,f2,hq2,hpl⟩
          have HP7:=Hd (And.intro hpl (hq2.trans HQ.out))
          clear hpl hq2
          go_wp2_with fail
          go_meet
          exact⟨c,f2,tb1,la,lb,by omega,rfl,HP7.out.2,HOA.out.mono (by omega),HOB.out.mono (by omega),HP7.out.1⟩
        ·have HPT:=Hd (fun(W:World) (h:PL w1.heap.size w1 F p c la lb (.slice an la.length cn) la (.slice aw lb.length cw) lb W f1 tb1)=>put_pl h HOA.out.wgt (key:=K) (val:=V) H80.out HV2.out)
         rcases hp with rfl | rfl | rfl
         all_goals as_aux_lemma =>
          go_wp2_with fail
          refine HMU.out.mono ?_
          rintro e w6 ⟨rfl,hb6⟩
          have HPP:=Hd (HPT.out _ (HP5.out.step hb6))
          clear hb6
          go_wp2_with fail
          refine HPP.out.mono ?_
          rintro e w7 ⟨rfl,f2,hq2,hpl⟩
          have HRP:=Hd (rput_any w7 hpl.isn K V (by have:=HOA.out.2;omega))
          have HP7:=Hd (And.intro hpl (hq2.trans HQ.out))
          clear hpl hq2
          go_wp2_with fail
          refine HRP.out.mono ?_
          rintro e w8 ⟨v',rfl,hm8,hb8⟩
          have HP8:=Hd (HP7.out.1.row rfl hm8.isE (.inr hm8) hb8)
          clear hm8 hb8
          go_wp2_with fail
          go_meet
          exact⟨c,f2,tb1,putL la K V,lb,by omega,rfl,HP7.out.2,HOA.out.put (by have:=HM.out;omega) H80.out HV2.out,HOB.out.mono (by omega),HP8.out⟩
       ·have hd8:decide ((K.length:Int) > 80)=true:=decide_eq_true (by omega)
        have hd9:decide (80<K.length)=true:=decide_eq_true (by omega);have HPT:=Hd (fun(W:World) (h:PL w1.heap.size w1 F p c la lb (.slice an la.length cn) la (.slice aw lb.length cw) lb W f1 tb1)=>put_plb h (key:=K) (val:=V) HK5.out.1 HK5.out.2 (by unfold Xr;rw[if_pos (by omega)];decide));have hf:Xr K V=100:=by unfold Xr;rw[if_pos (by omega)]
        rw[hf] at HPT;clear hf h80
        rcases hvv with ⟨v1,v2,HV2⟩ | ⟨v1,v2,HV2⟩<;>rcases hp with rfl | rfl | rfl
        all_goals as_aux_lemma =>
         go_wp2_with fail
         refine HMU.out.mono ?_
         rintro e w6 ⟨rfl,hb6⟩
         have HPP:=Hd (HPT.out _ (HP5.out.step hb6))
         clear hb6
         go_wp2_with fail
         refine HPP.out.mono ?_
         rintro e w7 ⟨rfl,f2,hq2,hpl⟩
         have HP7:=Hd (And.intro hpl (hq2.trans HQ.out))
         clear hpl hq2
         go_wp2_with fail
         go_meet
         exact⟨c,f2,tb1,la,lb,by omega,rfl,HP7.out.2,HOA.out.mono (by omega),HOB.out.mono (by omega),HP7.out.1⟩
     ·have HRG:=Hd (rget_any w5 HP5.out.isn K)
      by_cases h80:K.length≤80
      ·have hd8:decide ((K.length:Int) > 80)=false:=decide_eq_false (by omega)
       have hd9:decide (80<K.length)=false:=decide_eq_false (by omega);have HDL:=Hd (fun(W:World) (h:PL w1.heap.size w1 F p c la lb (.slice an la.length cn) la (.slice aw lb.length cw) lb W f1 tb1)=>del_pl h HOA.out.wgt (key:=K) h80);obtain⟨G,hG⟩:∃G,G=Zab la K:=⟨_,rfl⟩;rw[←hG] at HRG HDL;obtain⟨G1,G2⟩:=G;clear hG h80;rcases hp with rfl | rfl
       all_goals as_aux_lemma =>
        go_wp2_with fail
        refine HRG.out.mono ?_
        rintro e w6 ⟨rfl,hb6⟩
        have HPP:=Hd (HDL.out _ (HP5.out.step hb6))
        clear hb6
        go_wp2_with fail
        refine HPP.out.mono ?_
        rintro e w7 ⟨rfl,f2,hq2,hpl⟩
        have HRP:=Hd (rdel_any w7 hpl.isn K (by have:=HOA.out.2;omega))
        have HP7:=Hd (And.intro hpl (hq2.trans HQ.out))
        clear hpl hq2
        go_wp2_with fail
        refine HRP.out.mono ?_
        rintro e w8 ⟨v',rfl,hi8,hm8,hb8⟩
        have HP8:=Hd (HP7.out.1.row rfl hi8 hm8 hb8)
        clear hi8 hm8 hb8
        go_wp2_with fail
        go_meet
        exact⟨c,f2,tb1,delL la K,lb,by omega,rfl,HP7.out.2,(HOA.out.del K).mono (by omega),HOB.out.mono (by omega),HP8.out⟩
      ·have hd8:decide ((K.length:Int) > 80)=true:=decide_eq_true (by omega)
       have hd9:decide (80<K.length)=true:=decide_eq_true (by omega);have HDL:=Hd (fun(W:World) (h:PL w1.heap.size w1 F p c la lb (.slice an la.length cn) la (.slice aw lb.length cw) lb W f1 tb1)=>del_plb h (key:=K) (by omega) HK5.out.1);obtain⟨G,hG⟩:∃G,G=Zab la K:=⟨_,rfl⟩;rw[←hG] at HRG;obtain⟨G1,G2⟩:=G;clear hG h80;rcases hp with rfl | rfl
       all_goals as_aux_lemma =>
        go_wp2_with fail
        refine HRG.out.mono ?_
        rintro e w6 ⟨rfl,hb6⟩
        have HPP:=Hd (HDL.out _ (HP5.out.step hb6))
        clear hb6
        go_wp2_with fail
        refine HPP.out.mono ?_
        rintro e w7 ⟨rfl,f2,hq2,hpl⟩
        have HP7:=Hd (And.intro hpl (hq2.trans HQ.out))
        clear hpl hq2
        go_wp2_with fail
        go_meet
        exact⟨c,f2,tb1,la,lb,by omega,rfl,HP7.out.2,HOA.out.mono (by omega),HOB.out.mono (by omega),HP7.out.1⟩
     ·have HRG:=Hd (rget_any w5 HP5.out.isn K)
      obtain⟨G,hG⟩:∃G,G=Zab la K:=⟨_,rfl⟩;have HGG:=Hd hG
      rw[←hG] at HRG;obtain⟨G1,G2⟩:=G;clear hG;by_cases h80:K.length≤80
      ·have hd8:decide ((K.length:Int) > 80)=false:=decide_eq_false (by omega)
       have hd9:decide (80<K.length)=false:=decide_eq_false (by omega);have H80:=Hd h80;clear h80
       as_aux_lemma =>
        go_wp2_with fail
        refine HRG.out.mono ?_
        rintro e w6 ⟨rfl,hb6⟩
        have hgt:=get_pl (HP5.out.step hb6) (key:=K) H80.out
        rw[←HGG.out] at hgt
        have HPP:=Hd hgt
        clear hb6 hgt
        go_wp2_with fail
        refine HPP.out.mono ?_
        rintro e w7 ⟨rfl,hpl⟩
        have HP7:=Hd hpl
        clear hpl
        go_wp2_with fail
        go_meet
        exact⟨c,f1,tb1,la,lb,by omega,rfl,HQ.out,HOA.out.mono (by omega),HOB.out.mono (by omega),HP7.out⟩
      ·have hd8:decide ((K.length:Int) > 80)=true:=decide_eq_true (by omega)
       have hd9:decide (80<K.length)=true:=decide_eq_true (by omega);have H80:=Hd h80;clear h80
       as_aux_lemma =>
        go_wp2_with fail
        refine HRG.out.mono ?_
        rintro e w6 ⟨rfl,hb6⟩
        have HPP:=Hd (get_plb (HP5.out.step hb6) (key:=K) (by have:=H80.out;omega) HK5.out.1)
        clear hb6
        go_wp2_with fail
        refine HPP.out.mono ?_
        rintro e w7 ⟨rfl,hpl⟩
        have HP7:=Hd hpl
        clear hpl
        go_wp2_with fail
        go_meet
        exact⟨c,f1,tb1,la,lb,by omega,rfl,HQ.out,HOA.out.mono (by omega),HOB.out.mono (by omega),HP7.out⟩
     ·have HRR:=Hd (rrange_any w5 HP5.out.isn K V (by have:=HOA.out.2;omega))
      have hll:=HOA.out.2
      as_aux_lemma =>
       go_wp2_with fail
       refine HRR.out.mono ?_
       rintro e w6 ⟨v6,rfl,hm6,hb6⟩
       have hp6:=HP5.out.step hb6
       have HSM:=Hd (same_plT hp6 (by omega) hm6.isE (fun i hi e=>by have:=(hm6.lt hi).1;have:=HP5.out.pw.lt e;omega) 0 (by omega))
       have HSS6:=Hd (HS3.out _ _ hb6 HSS5.out)
       have HB6:=Hd hb6
       clear hm6 hb6 hp6
       go_wp2_with fail
       refine HSM.out.mono ?_
       rintro e w7 ⟨rfl,hpl,ht⟩
       have hS7:=HS4.out _ _ ht HSS6.out
       have HSS7:=Hd hS7
       have HP7:=Hd hpl
       have HRR7:=Hd (rrange_any w7.drew (hpl.step (Below.refl _ _).drew).isn K V (by have:=HOA.out.2;omega))
       clear hpl ht hS7 hll
       go_upto_region 49 with fail
       refine wp_region_noPanic ?_
       refine wp_region_held_drew (S:=(fun W:World=>W.cell? ⟨bx,0,none⟩=some (.int .i64 kd)∧W.cell? ⟨bx,1,none⟩=some (.string ⟨ky.toArray⟩)∧W.cell? ⟨bx,2,none⟩=some (.string ⟨vl.toArray⟩)∧W.cell? ⟨bx,3,none⟩=some (.int .i64 lg))) (by kernel_rfl) (HS3.out _ _ (Below.refl _ _).drew HSS7.out) (fun hH=>?_)
       refine tkB 0 rfl (v:=?_) ?_ hH ?_
       rotate_left
       ·rintro w ⟨q0,q1,q2,q3⟩;go_simp;try with_reducible rfl
       try simp only[Act.put,zA,zB,zC]
       refine tkB 1 rfl (v:=?_) ?_ hH ?_
       rotate_left
       ·rintro w ⟨q0,q1,q2,q3⟩;go_simp;try with_reducible rfl
       try simp only[Act.put,zA,zB,zC]
       refine tkB 2 rfl (v:=?_) ?_ hH ?_
       rotate_left
       ·rintro w ⟨q0,q1,q2,q3⟩;go_simp;try with_reducible rfl
       try simp only[Act.put,zA,zB,zC]
       refine tkB 3 rfl (v:=?_) ?_ hH ?_
       rotate_left
       ·rintro w ⟨q0,q1,q2,q3⟩;go_simp;try with_reducible rfl
       try simp only[Act.put,zA,zB,zC]
       refine tkB 4 rfl (v:=?_) ?_ hH ?_
       rotate_left
       ·rintro w ⟨q0,q1,q2,q3⟩;go_simp;try with_reducible rfl
       try simp only[Act.put,zA,zB,zC]
       refine tkB 5 rfl (v:=?_) ?_ hH ?_
       rotate_left
       ·rintro w ⟨q0,q1,q2,q3⟩;go_simp;try with_reducible rfl
       try simp only[Act.put,zA,zB,zC]
       refine tkB 7 rfl (v:=?_) ?_ hH ?_
       rotate_left
       ·rintro w ⟨q0,q1,q2,q3⟩;go_simp;try with_reducible rfl
       try simp only[Act.put,zA,zB,zC]
       refine tkB 8 rfl (v:=?_) ?_ hH ?_
       rotate_left
       ·rintro w ⟨q0,q1,q2,q3⟩;go_simp;try with_reducible rfl
       try simp only[Act.put,zA,zB,zC]
       refine rdA 6 rfl (fun K hK=>?_)
       go_simp
       refine HRR7.out.mono ?_
       rintro e wA ⟨vA,rfl,hmA,hbA⟩
       have hpA:=(HP7.out.step (Below.refl _ _).drew).step hbA
       have HSA:=Hd (same_plT hpA (by have:=HOA.out.2;omega) hmA.isE (fun i hi e=>by have:=(hmA.lt hi).1;have:=(HP7.out.step (Below.refl _ _).drew).pw.lt e;omega) (1+(p3:Int)) (by omega))
       have hSA:=HS3.out _ _ hbA hH
       clear hmA hpA hbA hH
       go_wp2_with fail
       refine hK.out _ _ hSA (fun hH=>?_)
       clear hSA
       clear hK K
       try simp only[Act.put,zA,zB,zC]
       refine rdA 9 rfl (fun K hK=>?_)
       go_simp
       refine(HPK3.out _).mono ?_
       rintro e w' ⟨rfl,rfl⟩
       go_wp2_with fail
       refine hK.out _ _ hH (fun hH=>?_)
       clear hK K
       try simp only[Act.put,zA,zB,zC]
       refine tkB 10 rfl (v:=?_) ?_ hH ?_
       rotate_left
       ·rintro w ⟨q0,q1,q2,q3⟩;go_simp;try with_reducible rfl
       try simp only[Act.put,zA,zB,zC]
       refine rdA 11 rfl (fun K hK=>?_)
       go_simp
       refine HSA.out.mono ?_
       rintro e wB ⟨rfl,hplB,htB⟩
       have HPB:=Hd hplB
       have hSB:=HS4.out _ _ htB hH
       clear hplB htB hH
       go_wp2_with fail
       refine hK.out _ _ hSB (fun hH=>?_)
       clear hSB
       clear hK K
       try simp only[Act.put,zA,zB,zC]
       refine tkB 12 rfl (v:=?_) ?_ hH ?_
       rotate_left
       ·rintro w ⟨q0,q1,q2,q3⟩;go_simp;try with_reducible rfl
       try simp only[Act.put,zA,zB,zC]
       refine dnA ?_
       clear hH
       go_wp2_with fail
       go_meet
       exact⟨c,f1,tb1,la,lb,by omega,rfl,HQ.out,HOA.out.mono (by omega),HOB.out.mono (by omega),HPB.out⟩
     ·have hcm:=commit_pl HP5.out (by omega)
      rw[HQ.out] at hcm;have HCM:=Hd hcm
      clear hcm;go_wp2_with fail;refine HCM.out.mono ?_;rintro e w6 ⟨rfl,f2,hq2,hpl⟩;have HP6:=Hd (And.intro hpl.keep (hq2.trans HQ.out))
      clear hpl hq2;go_wp2_with fail;go_meet;exact⟨c+1,f2,tb1,la,la,by omega,rfl,HP6.out.2,HOA.out.mono (by omega),HOA.out.mono (by omega),HP6.out.1⟩
     ·have hcm:=abort_pl HP5.out
      rw[HQ.out] at hcm;have HCM:=Hd hcm
      clear hcm;go_wp2_with fail;refine HCM.out.mono ?_;rintro e w6 ⟨rfl,f2,hq2,hpl⟩;have HP6:=Hd (And.intro hpl.back (hq2.trans HQ.out))
      clear hpl hq2;go_wp2_with fail;go_meet;exact⟨c,f2,tb1,lb,lb,by omega,rfl,HP6.out.2,HOB.out.mono (by omega),HOB.out.mono (by omega),HP6.out.1⟩
     ·have hcm:=open_pl HP5.out
      rw[HQ.out] at hcm;have HCM:=Hd hcm
      clear hcm;go_wp2_with fail;refine HCM.out.mono ?_;rintro e w6 ⟨rfl,hpl⟩;have HP6:=Hd hpl
      clear hpl;go_wp2_with fail;go_meet;exact⟨c,f1,_,la,lb,by omega,rfl,HQ.out,HOA.out.mono (by omega),HOB.out.mono (by omega),HP6.out⟩
end
end Go.Proofs.YtofibccplbnaiaaGreatDoor
namespace Go.Proofs.YtofibccplbnaiaaGreatDoor.cardBtreePlays
open Go.ChangeShapes Go.WideShapes Go.ChangeAt Go.RowKit Go.Deep
open Go.ChangeMaps (open_string shut_string)
theorem gTab : Tryz.prog.globalNamed "usance/wire.nibbles" = some 0 := by kernel_rfl
theorem gTabType : (Tryz.prog.globals[0]?).map (·.type) = some 180 := by kernel_rfl
theorem cellsTab : Tryz.prog.cellsOf 180 = 16 := by kernel_rfl
theorem cellsU32 : Tryz.prog.cellsOf 162 = 1 := by kernel_rfl
theorem table {W : World} (h : laidMetH Tryz.prog Rows.btreePlaysRow.laid W) : Nib W := by
  have ht : Lib.TabIs Tryz.prog W "usance/wire.nibbles" .u32 [0, 498536548, 997073096, 651767980, 1994146192, 1802195444, 1303535960, 1342533948, 3988292384, 4027552580, 3604390888, 3412177804, 2607071920, 2262029012, 2685067896, 3183342108] :=
    Lib.tabIs_of_head (rest := []) gTab gTabType Tryz.underlying180 Tryz.underlying162 cellsU32 cellsTab h
  intro i hi
  rw [ht.cell gTab i (by simpa using hi)]
  have e : ∀ i : Fin 16, ([0, 498536548, 997073096, 651767980, 1994146192, 1802195444, 1303535960, 1342533948, 3988292384, 4027552580, 3604390888, 3412177804, 2607071920, 2262029012, 2685067896, 3183342108] : List Int).getD i.val 0 = ((UsCrc.nib.getD i.val 0 : Nat) : Int) := by decide
  rw [e ⟨i, hi⟩]
theorem contract (H : Type) (enc : TypeId × Value → H) (W : World) (base : Nat) (args : Array Value) (ds gs : List (DataW H)) (before : List MemPlace)
    (hval : ∀ (j : Nat) t v, Tryz.f6.params[j]? = some t → args[j]? = some v → Value.okWide Tryz.prog W .any base t v)
    (hW : DataW.Whole enc Tryz.prog Tryz.f6.params.toList Rows.btreePlaysSpec.vars false W args.toList ds gs before) (hL : laidMetH Tryz.prog Rows.btreePlaysRow.laid W)
    (hsz : (DataW.weightsEach Tryz.prog (Tryz.f6.params.toList ++ (OpenSpec.ofChange Rows.btreePlaysSpec).bare.plain.varTypes Tryz.prog) (ds ++ gs)).all (· ≤ reachBytes) = true) :
    Calls Tryz.prog 6 args W fun e W' => ∃ v, e = .returned v ∧ Rows.btreePlaysSpec.post enc Tryz.prog Tryz.f6 false true false false W args v W' := by
  have hW' := hW
  obtain ⟨p, q, hA0, hV, rfl, hfz, hnd⟩ := hW
  have hA : DataW.TrodAll enc Tryz.prog W 0 (fun _ => true) true Tryz.f6.params.toList args.toList ds p := hA0
  rw [Tryz.params6] at hA hval hsz
  obtain ⟨v0, vs0, d0, ds0, p0, q0, hargs, rfl, rfl, h0, r0⟩ := trodAll_cons hA
  obtain ⟨rfl, rfl, rfl⟩ := trodAll_nil r0
  obtain rfl : args = #[v0] := by cases args; simp_all
  obtain ⟨rfl, rfl⟩ := trodVars_none hV
  have k0 := h0
  have lt0 : ∀ x ∈ p0, x.block < W.heap.size := by obtain ⟨m, hm⟩ := k0; exact DataW.trod_lt m _ _ _ hm
  simp only [List.append_nil, List.nil_append, List.cons_append] at hsz
  obtain ⟨xs0, ir0⟩ := open_row rdOpT (by decide) Tryz.underlying53 (hval 0 53 v0 rfl rfl) h0 (light_arg (j := 0) hsz rfl rfl)
  have hnib := table hL
  clear hA0
  refine (bplays_walk W hnib v0 xs0 ir0).mono fun e W' ⟨he, bel⟩ => ?_
  subst he
  exact ⟨_, rfl, _, _, _, [], _, [], hW', trodAll_mk1 (shut_bool Tryz.underlying4 _), (trodAll_cons_mk (Below.trod laidOut (by kernel_rfl) (of_decide_eq_true (by kernel_rfl)) k0 bel lt0) trodAll_mk0), rfl, bel.frame _, fun h => by cases h⟩
noncomputable def laidWorld (os : Os) : World :=
  { World.holding Tryz.prog os ⟨#[], #[], []⟩ with heap := (World.holding Tryz.prog os ⟨#[], #[], []⟩).heap.modify 0 fun
      | .cells _ t frozen => .cells #[.int .u32 0, .int .u32 498536548, .int .u32 997073096, .int .u32 651767980, .int .u32 1994146192, .int .u32 1802195444, .int .u32 1303535960, .int .u32 1342533948, .int .u32 3988292384, .int .u32 4027552580, .int .u32 3604390888, .int .u32 3412177804, .int .u32 2607071920, .int .u32 2262029012, .int .u32 2685067896, .int .u32 3183342108] t frozen
      | o => o }
theorem laid_met (os : Os) : laidMet Tryz.prog Rows.btreePlaysRow.laid ((laidWorld os).forCall (fun _ _ => 0) ⟨#[], #[.slice none 0 0], []⟩).memory :=
  laidMet_of_run' 8 (by kernel_rfl) (by kernel_rfl)
theorem reads (os : Os) {H : Type} (enc : TypeId × Value → H) : ∃ places, DataW.whole enc Tryz.prog ((laidWorld os).forCall (fun _ _ => 0) ⟨#[], #[.slice none 0 0], []⟩).memory Tryz.f6.params.toList Rows.btreePlaysSpec.vars false (#[.slice none 0 0] : Array Value).toList 8 = some ([.nil], [], places) :=
  ⟨[], by kernel_rfl⟩
theorem lifted (os : Os) (started : os.Started) (H : Type) (enc : TypeId × Value → H) (F : Stop.Interp) :
    ReturnsInHanded {} Tryz.checked os 6 .any ((OpenSpec.ofChange Rows.btreePlaysSpec).preRow enc Tryz.prog Tryz.f6 Rows.btreePlaysRow.domain false Rows.btreePlaysRow.laid) (((OpenSpec.ofChange Rows.btreePlaysSpec).at F).post enc Tryz.prog Tryz.f6 false true false false) := by
  obtain ⟨places, hx⟩ := reads os enc
  refine returnsInHanded_of_row (C := Tryz.checked) (s := OpenSpec.ofChange Rows.btreePlaysSpec) own started (by kernel_rfl) Tryz.func6
    (witness_row_at (enc := enc) (C := Tryz.checked) false (laidWorld os) #[.slice none 0 0] rfl (by kernel_rfl) (by kernel_rfl) (by kernel_rfl)
      (OpenSpec.preRow_of_cond 8 hx (by kernel_rfl) (fun k hk => by cases hk) (by kernel_rfl) (laid_met os))) ?_
  intro W base args ds gs before hval hW _ hcond hsz hL _ _
  exact contract H enc W base args ds gs before hval hW hL hsz
theorem said : Rows.BtreePlaysSaid :=
  OpenClaim.holds_of_cond 6 Tryz.f6 rfl rfl rfl rfl rfl rfl rfl ⟨rfl, rfl, rfl, rfl, rfl⟩ rfl rfl rfl rfl rfl (by kernel_rfl) Tryz.func6 (by kernel_rfl)
    (of_decide_eq_true (by kernel_rfl)) (by unfold Func.isWrapper; first | (rw [if_pos (by decide +kernel)]; kernel_rfl) | (rw [if_neg (by decide +kernel)]; exact ⟨rfl, rfl⟩))
    (fun os started H enc _ F => by rw [OpenClaim.pre_eq_preRow]; exact lifted os started H enc F)
theorem plain (f : FuncId) (fn : Func) (hf : Tryz.pinned.checked.prog.funcNamed "usance/usancelaw10.BtreePlays" = some f) (hfn : Tryz.pinned.checked.prog.funcs[f]? = some fn) :
    false = Tryz.pinned.checked.prog.looks [] ∧ ∀ (j : Nat) t, fn.params[j]? = some t → Tryz.pinned.checked.prog.wantsStandIn t = false := by
  obtain rfl : f = 6 := Option.some.inj ((show Tryz.prog.funcNamed "usance/usancelaw10.BtreePlays" = some 6 by kernel_rfl).symm.trans hf) |>.symm
  obtain rfl : fn = Tryz.f6 := (Option.some.inj (Tryz.func6.symm.trans hfn)).symm
  refine ⟨by kernel_rfl, fun j t ht => ?_⟩
  rw [Tryz.params6] at ht
  have hm := Array.mem_of_getElem? ht
  obtain rfl : t = 53 := by simpa using hm
  exact (show Tryz.prog.wantsStandIn 53 = false by kernel_rfl)
theorem proved : Rows.BtreePlaysCardSaid :=
  Claim7.holds_tied_plain_at .later [] _ _ _ _ said (fun _ h => by cases h) (by kernel_rfl) (fun _ h => by cases h) btreePlays_row_tie rfl ⟨rfl, rfl⟩ (by kernel_rfl) rfl plain (by kernel_rfl)
#print axioms proved
end Go.Proofs.YtofibccplbnaiaaGreatDoor.cardBtreePlays
