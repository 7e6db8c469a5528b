/- Contracts of the functions that the statements of this seat reach, part 11: each says what the call answers and what it leaves of the memory. -/
import Derived.Test.YtofibccplbnaiaaGreatDoorP10
import Derived.Test.YtofibccplbnaiaaGreatDoorP2
import Derived.StillTailTactics
set_option linter.unusedVariables false
set_option linter.unusedSimpArgs false
set_option maxRecDepth 100000
set_option maxHeartbeats 64000000
namespace Go.Proofs.YtofibccplbnaiaaGreatDoor
section
open Go.RowKit
theorem Yp {w:World} {k:Nat} {x:List UInt8} (h:w.heap[k]?=some (Ql x)):w.cell? ⟨k,0,none⟩=some (.string ⟨x.toArray⟩):=by rw[cell_of_row _ _ _ _ _ _ h];rfl
def ChgEnd (w:World) (B nb:Nat) (v:Value) (l':List En) (e:Ending) (w':World):Prop:=e=.returned (.tuple #[])∧∃v',NdAt w' B nb true v' l'∧Zb (fun k=>k=nb∨v.ownBlock=some k) w w'∧(v'.ownBlock=v.ownBlock∨∃k,v'.ownBlock=some k∧w.heap.size≤k)
structure Chr (fid:Nat) (caps:Array Value) (K:Nat→Prop) (Cs:World→Prop) (c:Chg):Prop where
 run:∀(w:World) (B nb:Nat) (v:Value) (l:List En) (i:Nat) (is:Bool),Cs w→NdAt w B nb true v l→i≤l.length→(is=true→i<l.length)→l.length≤1000→B≤w.heap.size →
  Calls Tryz.prog fid (#[.pointer (some ⟨nb,0,none⟩),.int .i64 (i:Int),.bool is]++caps) w (ChgEnd w B nb v (c l i is))
 keep:∀(T:Nat→Prop) (w w':World),Cs w→Zb T w w'→(∀k,K k→¬T k)→Cs w'
 lt:∀(w:World) (k:Nat),Cs w→K k→k<w.heap.size
 ok:ChgOk c
section
variable {w : World} {B nb : Nat} {v : Value} {l : List En}
theorem NdAt.put {w1:World} {v':Value} {l':List En} {leaf:Bool} (h:NdAt w B nb leaf v l) (hm:Zq B w1 v' l') (ht:Zb (fun k=>v.ownBlock=some k) w w1):NdAt (w1.setCell ⟨nb,1,none⟩ v') B nb leaf v' l'∧Zb (fun k=>k=nb∨v.ownBlock=some k) w (w1.setCell ⟨nb,1,none⟩ v'):=by have hb:w1.heap[nb]?=some (ndO leaf v):=(ht.block _ h.lt fun e=>h.ne e rfl).trans h.box;have hh:=Ze hb (i:=1) v';refine⟨⟨hh,?_,h.low⟩,(ht.mono fun k _ hk=>.inr hk).trans ((Zd w1 nb 1 v').mono fun k _ hk=>.inl hk)⟩;refine hm.keep1 fun k hk=>Below.heap_setCell _ _ _ _ ?_;rintro rfl;obtain⟨_,c,hc⟩:=Zek hm hk.symm;rw[hb] at hc;simp only[Option.some.injEq,Obj.cells.injEq,and_true] at hc;exact absurd hc.2 (by decide)
theorem delChg_any (i:Nat) (is:Bool) (h:NdAt w B nb true v l) (hi:i≤l.length) (his:is=true→i<l.length) (hl:l.length≤1000) (hB:B≤w.heap.size) :
  Calls Tryz.prog 44 #[.pointer (some ⟨nb,0,none⟩),.int .i64 (i:Int),.bool is] w (ChgEnd w B nb v (delC l i is)):=by
 cases is with
 | false =>
  have HE:Hid (ChgEnd w B nb v (delC l i false) (.returned (.tuple #[])) w):=Hd ⟨rfl,v,by simpa [delC] using h,Zb.refl _ _,.inl rfl⟩;clear h hi his hl;go_enter Tryz.func44,Tryz.ntmps44;go_wp2_with fail;go_end0;exact HE.out
 | true =>
  have hlt:=his rfl;have HD:=Hd (edelete_any i h.row hlt (by omega));obtain⟨n0,n1⟩:=Zc h.box;have H:=Hd h;have s5:IntKind.i64.wrap ((i:Int)+1)=((i+1:Nat):Int):=by rw[IntWalk.i64_in _ (by omega)];omega
  clear h;go_enter Tryz.func44,Tryz.ntmps44;go_wp2_with fail;refine HD.out.mono ?_;rintro e w1 ⟨v',rfl,hm,ht,ho⟩;obtain⟨hn,htt⟩:=H.out.put hm ht;have hb:w1.heap[nb]?=some (ndO true v):=(ht.block _ H.out.lt fun e=>H.out.ne e rfl).trans H.out.box
  obtain⟨m0,m1⟩:=Zc hb;have f1:=Zf hb 1
  have HE:Hid (ChgEnd w B nb v (delC l i true) (.returned (.tuple #[])) (w1.setCell ⟨nb,1,none⟩ v')):=Hd ⟨rfl,v',by simpa [delC] using hn,htt,ho⟩;obtain⟨a',c',hv',_⟩:=hm.isE.form;generalize (l.take i++l.drop (i+1)).length=N8 at hv';subst hv';clear hm ht ho hn htt hb n0 n1;go_wp2_with fail;go_end0;exact HE.out
theorem IsE.set {v:Value} {l:List En} (h:Zq B w v l) (i:Nat) (hi:i<l.length) (val:List UInt8):∃g cap,v=.slice (some ⟨g,0,none⟩) l.length cap∧w.cell? ⟨g,i*3+1,none⟩=some (.string ⟨l[i].val.toArray⟩)∧w.frozen? ⟨g,i*3+1,none⟩=false ∧
  Zq B (w.setCell ⟨g,i*3+1,none⟩ (.string ⟨val.toArray⟩)) v (l.modify i fun e=>{ e with val:=val })∧Zb (·=g) w (w.setCell ⟨g,i*3+1,none⟩ (.string ⟨val.toArray⟩)):=by
 have hE:=h.isE;rcases h.form with ⟨_,hn⟩ | ⟨g,cap,rfl,hnc,hcm,hBg,hg⟩
 ·subst hn;simp at hi
 ·obtain⟨b,o,e,c0,c1,c2⟩:=hE.at i hi
  simp only[Option.some.injEq,Addr.mk.injEq,and_true] at e;obtain⟨rfl,rfl⟩:=e;rw[Nat.zero_add] at c1;obtain⟨hr,hl,_,_,_,_⟩:=h.lies;obtain⟨cur,hcur,hcs⟩:=hr;refine⟨g,cap,rfl,c1,Zf hcur _,?_,Zd _ _ _ _⟩;have hh:=Ze hcur (i:=i*3+1) (.string ⟨val.toArray⟩)
  have hlen:(l.modify i fun e=>{ e with val:=val }).length=l.length:=by simp
  have key:=Yb.mine (B:=B) (w:=w.setCell ⟨g,i*3+1,none⟩ (.string ⟨val.toArray⟩)) (g:=g) (cap:=cap) (L:=l.modify i fun e=>{ e with val:=val }) ⟨_,hh,by simp[hcs]⟩ (fun j u hj=>by
   have hlt:j<(l.modify i fun e=>{ e with val:=val }).length*3:=by have:=(List.getElem?_eq_some_iff.1 hj).1;rwa[Zw] at this
   obtain⟨q,r,rfl,hr3⟩:∃q r,j=q*3+r∧r<3:=⟨j / 3,j % 3,by omega,Nat.mod_lt _ (by omega)⟩;have hq:q<(l.modify i fun e=>{ e with val:=val }).length:=by omega
   have hq2:q<l.length:=by omega
   rw[enV_get _ q hq r hr3] at hj;have hold:=hl (q*3+r) _ (List.getElem?_eq_getElem (by rw[Zw];omega))
   have hold2:=enV_get l q hq2 r hr3;rw[List.getElem?_eq_getElem (by rw[Zw];omega)] at hold2;rw[Nat.zero_mul,Nat.zero_add,cell_of_row _ _ _ _ _ _ hcur] at hold;rw[Nat.zero_mul,Nat.zero_add,cell_of_row _ _ _ _ _ _ hh,Array.getElem?_setIfInBounds];rw[List.getElem_modify] at hj;by_cases hqi:q=i
   ·subst hqi
    rw[if_pos rfl] at hj;rcases(show r=0∨r=1∨r=2 by omega) with rfl | rfl | rfl
    ·rw[if_neg (by omega),hold,hold2,←hj];rfl
    ·rw[if_pos rfl,if_pos (by omega),←hj];rfl
    ·rw[if_neg (by omega),hold,hold2,←hj];rfl
   ·rw[if_neg (fun e=>hqi e.symm)] at hj
    rw[if_neg (by omega),hold,hold2,hj]) (by omega) hcm hBg
  rw[hlen] at key;exact key
theorem putChg_any (key val:List UInt8) (vb kb:Nat) (hk:w.heap[kb]?=some (Ql key)) (hv:w.heap[vb]?=some (Ql val)) (i:Nat) (is:Bool) (h:NdAt w B nb true v l) (hi:i≤l.length) (his:is=true→i<l.length) (hl:l.length≤1000) (hB:B≤w.heap.size) :
  Calls Tryz.prog 42 #[.pointer (some ⟨nb,0,none⟩),.int .i64 (i:Int),.bool is,.pointer (some ⟨vb,0,none⟩),.pointer (some ⟨kb,0,none⟩)] w (ChgEnd w B nb v (putC key val l i is)):=by
 have kc:w.drew.cell? ⟨kb,0,none⟩=some (.string ⟨key.toArray⟩):=by
  show w.cell? _=_
  rw[cell_of_row _ _ _ _ _ _ hk];rfl
 have vc:w.drew.cell? ⟨vb,0,none⟩=some (.string ⟨val.toArray⟩):=by
  show w.cell? _=_
  rw[cell_of_row _ _ _ _ _ _ hv];rfl
 obtain⟨n0,n1⟩:=Zc (w:=w.drew) h.box
 cases is with
 | true =>
  have hlt:=his rfl;obtain⟨g,cap,hvv,c1,f1,hm,ht⟩:=IsE.set h.row i hlt val;have hne:g≠nb:=h.ne (by rw[hvv];rfl)
  have HE:Hid (ChgEnd w B nb v (putC key val l i true) (.returned (.tuple #[])) (w.drew.setCell ⟨g,i*3+1,none⟩ (.string ⟨val.toArray⟩))):=Hd ⟨rfl,v,⟨(ht.block _ h.lt fun e=>hne e.symm).trans h.box,show Zq B _ v (l.modify i fun e=>{ e with val:=val }) from hm.keep (w':=w.drew.setCell ⟨g,i*3+1,none⟩ (.string ⟨val.toArray⟩)) fun k _ _=>rfl,h.low⟩,by
   have:=ht.mono (T':=fun k=>k=nb∨v.ownBlock=some k) fun k _ hk=>.inr (by rw[hvv,hk];rfl)
   exact⟨this.os,this.tape,this.output,this.size,this.block⟩,.inl rfl⟩
  subst hvv;have d1:w.drew.cell? ⟨g,i*3+1,none⟩=some (.string ⟨l[i].val.toArray⟩):=c1
  have e1:w.drew.frozen? ⟨g,i*3+1,none⟩=false:=f1;have hi0:(0:Int)≤(i:Int):=by omega
  have hi1:(i:Int)<(l.length:Int):=by omega
  clear h hm ht c1 f1 hk hv;generalize l[i].val=ov at *;generalize hN:l.length=N at *;clear hN;go_enter Tryz.func42,Tryz.ntmps42;go_upto_region 1 with fail;go_region;go_wp2_with fail;go_end0;exact HE.out
 | false =>
  obtain⟨W1,hW1⟩:∃W1,W1=(w.alloc (.cells (enC ⟨key,val,0⟩).toArray 82)).drew:=⟨_,rfl⟩;have hb1:Below w.heap.size w W1:=by rw[hW1];exact((Below.refl _ _).alloc (Nat.le_refl _) _).drew
  have hx1:W1.heap[w.heap.size]?=some (.cells (enC ⟨key,val,0⟩).toArray 82 (0,0)):=by rw[hW1];exact heap_alloc_new w _
  have h1:=h.below hb1;have HI:=Hd (einsert_any (gx:=w.heap.size) (x:=⟨key,val,0⟩) i h1.row hx1 (fun e=>by have:=(h.row.lt e).2;omega) (by have:=hb1.size;omega) hi (by omega));have H1:=Hd h1;have H:=Hd h;have HB1:=Hd hb1;have e1:(enC ⟨key,val,0⟩).toArray=#[.string ⟨key.toArray⟩,.string ⟨val.toArray⟩,.int .i64 0]:=rfl;obtain⟨a0,c0,hv0,_⟩:=h.row.isE.form;generalize hN:l.length=N at *;obtain⟨L',hL'⟩:∃L',L'=l.take i++(⟨key,val,0⟩:En)::l.drop i:=⟨_,rfl⟩;rw[←hL'] at HI;have HL:=Hd hL';have HV0:=Hd hv0;have HS0:Hid (w.drew.heap[kb]?=some (Ql key)∧w.drew.heap[vb]?=some (Ql val)):=Hd ⟨hk,hv⟩;have HS1:Hid (W1.heap[kb]?=some (Ql key)∧W1.heap[vb]?=some (Ql val)):=Hd ⟨(hb1.block _ (Za hk)).trans hk,(hb1.block _ (Za hv)).trans hv⟩;have HNB:Hid (kb≠nb∧vb≠nb):=Hd ⟨fun e=>by subst e;have:=h.box;rw[hk] at this;simp only[Option.some.injEq,Obj.cells.injEq,and_true] at this;exact absurd this.2 (by decide),fun e=>by subst e;have:=h.box;rw[hv] at this;simp only[Option.some.injEq,Obj.cells.injEq,and_true] at this;exact absurd this.2 (by decide)⟩
  have HVK:Hid (∀k,Zq B w v l→v.ownBlock=some k→∀x,w.heap[k]?=some (Ql x)→False):=Hd fun k hr e x hx=>by obtain⟨_,c,hc⟩:=Zek hr e.symm;rw[hx] at hc;simp only[Option.some.injEq,Obj.cells.injEq,and_true] at hc;exact absurd hc.2 (by decide)
  have n1':W1.cell? ⟨nb,1,none⟩=some v:=(Zc h1.box).2;rw[hv0] at n1';clear h h1 hb1 hx1 hk hv hN hL' his;rw[hv0] at n1 HI;rw[e1] at hW1;have HW1:=Hd hW1;clear hv0 e1 hW1;go_enter Tryz.func42,Tryz.ntmps42;go_upto_region 2 with fail;refine rgA (S:=(fun W=>W.heap[kb]?=some (Ql key)∧W.heap[vb]?=some (Ql val))) HS0.out (fun hH=>?_);refine tkB 0 rfl (v:=?_) ?_ hH ?_;rotate_left
  ·rintro w ⟨s0,s1⟩;have k0:=Yp s0;have k1:=Yp s1;go_simp;try with_reducible rfl
  try simp only[Act.put,zA,zB,zC]
  refine tkB 1 rfl (v:=?_) ?_ hH ?_;rotate_left
  ·rintro w ⟨s0,s1⟩;have k0:=Yp s0;have k1:=Yp s1;go_simp;try with_reducible rfl
  try simp only[Act.put,zA,zB,zC]
  refine tkB 2 rfl (v:=?_) ?_ hH ?_;rotate_left
  ·rintro w ⟨s0,s1⟩;have k0:=Yp s0;have k1:=Yp s1;go_simp;try with_reducible rfl
  try simp only[Act.put,zA,zB,zC]
  refine tkB 3 rfl (v:=?_) ?_ hH ?_;rotate_left
  ·rintro w ⟨s0,s1⟩;have k0:=Yp s0;have k1:=Yp s1;go_simp;try with_reducible rfl
  try simp only[Act.put,zA,zB,zC]
  refine tkB 5 rfl (v:=?_) ?_ hH ?_;rotate_left
  ·rintro w ⟨s0,s1⟩;have k0:=Yp s0;have k1:=Yp s1;go_simp;try with_reducible rfl
  try simp only[Act.put,zA,zB,zC]
  refine tkB 6 rfl (v:=?_) ?_ hH ?_;rotate_left
  ·rintro w ⟨s0,s1⟩;have k0:=Yp s0;have k1:=Yp s1;go_simp;try with_reducible rfl
  try simp only[Act.put,zA,zB,zC]
  refine tkB 7 rfl (v:=?_) ?_ hH ?_;rotate_left
  ·rintro w ⟨s0,s1⟩;have k0:=Yp s0;have k1:=Yp s1;go_simp;try with_reducible rfl
  try simp only[Act.put,zA,zB,zC]
  refine tkB 8 rfl (v:=?_) ?_ hH ?_;rotate_left
  ·rintro w ⟨s0,s1⟩;have k0:=Yp s0;have k1:=Yp s1;go_simp;try with_reducible rfl
  try simp only[Act.put,zA,zB,zC]
  refine wpAnyH_ready (rs:=[4,9]) (by kernel_rfl) (by simp) ?_;refine Zco rfl (fun K hK=>?_) ?_
  ·go_simp
   refine hK.out _ _ hH (fun hH=>?_);clear hK K;try simp only[Act.put,zA,zB,zC]
   refine rdA 9 rfl (fun K hK=>?_);go_simp;rw[←HW1.out];refine hK.out _ _ HS1.out (fun hH=>?_);clear hK K;try simp only[Act.put,zA,zB,zC]
   refine rdA 10 rfl (fun K hK=>?_);go_simp;refine HI.out.mono ?_;rintro e w1 ⟨v',rfl,hm,ht,ho⟩;rw[←HV0.out] at ht ho;have hb:w1.heap[nb]?=some (ndO true v):=(ht.block _ H1.out.lt fun e=>H1.out.ne e rfl).trans H1.out.box
   have f1:=Zf hb 1;have m1:=(Zc hb).2;rw[HV0.out] at m1;have HP:=Hd (H1.out.put hm ht);have HO:=Hd ho;have hS2:w1.heap[kb]?=some (Ql key)∧w1.heap[vb]?=some (Ql val):=⟨(ht.block _ (Za HS1.out.1) fun e=>HVK.out _ H.out.row e _ HS0.out.1).trans HS1.out.1,(ht.block _ (Za HS1.out.2) fun e=>HVK.out _ H.out.row e _ HS0.out.2).trans HS1.out.2⟩;have HS3:Hid (∀u,(w1.setCell ⟨nb,1,none⟩ u).heap[kb]?=some (Ql key)∧(w1.setCell ⟨nb,1,none⟩ u).heap[vb]?=some (Ql val)):=Hd fun u=>⟨(Below.heap_setCell _ _ _ _ HNB.out.1).trans hS2.1,(Below.heap_setCell _ _ _ _ HNB.out.2).trans hS2.2⟩;obtain⟨a',c',hv',_,_⟩:=hm.isE.form;generalize L'.length=N8 at hv';subst hv';clear hm ht ho hb;go_wp2_with fail;refine hK.out _ _ hS2 (fun hH=>?_);clear hK K;try simp only[Act.put,zA,zB,zC]
   refine tkB 11 rfl (v:=?_) ?_ hH ?_;rotate_left
   ·rintro w ⟨s0,s1⟩;have k0:=Yp s0;have k1:=Yp s1;go_simp;try with_reducible rfl
   try simp only[Act.put,zA,zB,zC]
   refine tkB 12 rfl (v:=?_) ?_ hH ?_;rotate_left
   ·rintro w ⟨s0,s1⟩;have k0:=Yp s0;have k1:=Yp s1;go_simp;try with_reducible rfl
   try simp only[Act.put,zA,zB,zC]
   refine rdA 13 rfl (fun K hK=>?_);go_simp;refine hK.out _ _ (HS3.out _) (fun hH=>?_);clear hK K;try simp only[Act.put,zA,zB,zC]
   refine dnA ?_;clear hH
   have HE:Hid (ChgEnd w B nb v (putC key val l i false) (.returned (.tuple #[])) (w1.setCell ⟨nb,1,none⟩ (.slice a' N8 c'))):=Hd ⟨rfl,_,by
    have:=HP.out.1;rw[HL.out] at this
    exact this,(Zb.of_below HB1.out).then HP.out.2 fun k hk e=>e,HO.out.imp id fun⟨k,e1,e2⟩=>⟨k,e1,Nat.le_trans HB1.out.size e2⟩⟩
   go_wp2_with fail;go_end0;exact HE.out
  refine Zco rfl (fun K hK=>?_) ?_
  ·go_simp
   rw[←HW1.out];refine hK.out _ _ HS1.out (fun hH=>?_);clear hK K;try simp only[Act.put,zA,zB,zC]
   refine rdA 4 rfl (fun K hK=>?_);go_simp;refine hK.out _ _ hH (fun hH=>?_);clear hK K;try simp only[Act.put,zA,zB,zC]
   refine rdA 10 rfl (fun K hK=>?_);go_simp;refine HI.out.mono ?_;rintro e w1 ⟨v',rfl,hm,ht,ho⟩;rw[←HV0.out] at ht ho;have hb:w1.heap[nb]?=some (ndO true v):=(ht.block _ H1.out.lt fun e=>H1.out.ne e rfl).trans H1.out.box
   have f1:=Zf hb 1;have m1:=(Zc hb).2;rw[HV0.out] at m1;have HP:=Hd (H1.out.put hm ht);have HO:=Hd ho;have hS2:w1.heap[kb]?=some (Ql key)∧w1.heap[vb]?=some (Ql val):=⟨(ht.block _ (Za HS1.out.1) fun e=>HVK.out _ H.out.row e _ HS0.out.1).trans HS1.out.1,(ht.block _ (Za HS1.out.2) fun e=>HVK.out _ H.out.row e _ HS0.out.2).trans HS1.out.2⟩;have HS3:Hid (∀u,(w1.setCell ⟨nb,1,none⟩ u).heap[kb]?=some (Ql key)∧(w1.setCell ⟨nb,1,none⟩ u).heap[vb]?=some (Ql val)):=Hd fun u=>⟨(Below.heap_setCell _ _ _ _ HNB.out.1).trans hS2.1,(Below.heap_setCell _ _ _ _ HNB.out.2).trans hS2.2⟩;obtain⟨a',c',hv',_,_⟩:=hm.isE.form;generalize L'.length=N8 at hv';subst hv';clear hm ht ho hb;go_wp2_with fail;refine hK.out _ _ hS2 (fun hH=>?_);clear hK K;try simp only[Act.put,zA,zB,zC]
   refine tkB 11 rfl (v:=?_) ?_ hH ?_;rotate_left
   ·rintro w ⟨s0,s1⟩;have k0:=Yp s0;have k1:=Yp s1;go_simp;try with_reducible rfl
   try simp only[Act.put,zA,zB,zC]
   refine tkB 12 rfl (v:=?_) ?_ hH ?_;rotate_left
   ·rintro w ⟨s0,s1⟩;have k0:=Yp s0;have k1:=Yp s1;go_simp;try with_reducible rfl
   try simp only[Act.put,zA,zB,zC]
   refine rdA 13 rfl (fun K hK=>?_);go_simp;refine hK.out _ _ (HS3.out _) (fun hH=>?_);clear hK K;try simp only[Act.put,zA,zB,zC]
   refine dnA ?_;clear hH
   have HE:Hid (ChgEnd w B nb v (putC key val l i false) (.returned (.tuple #[])) (w1.setCell ⟨nb,1,none⟩ (.slice a' N8 c'))):=Hd ⟨rfl,_,by
    have:=HP.out.1;rw[HL.out] at this
    exact this,(Zb.of_below HB1.out).then HP.out.2 fun k hk e=>e,HO.out.imp id fun⟨k,e1,e2⟩=>⟨k,e1,Nat.le_trans HB1.out.size e2⟩⟩
   go_wp2_with fail;go_end0;exact HE.out
  exact AllReadyH.nil
end
end
section
open Go.RowKit
theorem Zey (l r:List En) (e:En):Zg true 0 (l++e::r)=Zg true 0 l+e.size true 0+Zg true 0 r:=by
 rw[Yl,Zg];have h1:e.size true (0+l.length)=e.size true 0:=by unfold En.size;rfl
 have h2:∀(r:List En) (i:Nat),Zg true i r=Zg true 0 r:=by
  intro r
  induction r with
  | nil=>intro i;rfl
  | cons x r ih =>
   intro i;rw[Zg,Zg,ih (i+1),ih (0+1)];rfl
 rw[h1,h2 r (0+l.length+1)];omega
theorem putC_ok (key val:List UInt8) (hk:key.length≤80) (hv:val.length≤200):ChgOk (putC key val):=by
 intro l i is hf hs hi his;have hx:(⟨key,val,0⟩:En).few:=⟨hk,hv,Int.le_refl _,by show (0:Int)<65536;decide⟩
 cases is with
 | true =>
  have hlt:=his rfl;have e1:putC key val l i true=l.take i++{ l[i] with val:=val }::l.drop (i+1):=by unfold putC;rw[if_pos rfl,List.modify_eq_take_cons_drop hlt]
  have e2:l=l.take i++l[i]::l.drop (i+1):=by rw[←List.drop_eq_getElem_cons hlt,List.take_append_drop]
  have hfi:=hf _ (List.getElem_mem hlt);rw[e1];constructor
  ·intro e he
   rcases List.mem_append.1 he with he | he
   ·exact hf e (List.mem_of_mem_take he)
   ·rcases List.mem_cons.1 he with rfl | he
    ·exact⟨hfi.key,hv,hfi.k0,hfi.k1⟩
    ·exact hf e (List.mem_of_mem_drop he)
  ·rw[e2,Zey] at hs
   rw[Zey];have:En.size true 0 { l[i] with val:=val }≤282:=by unfold En.size;simp;have:=hfi.key;omega
   omega
 | false =>
  have e1:putC key val l i false=l.take i++⟨key,val,0⟩::l.drop i:=by unfold putC;simp
  rw[e1];constructor
  ·intro e he
   rcases List.mem_append.1 he with he | he
   ·exact hf e (List.mem_of_mem_take he)
   ·rcases List.mem_cons.1 he with rfl | he
    ·exact hx
    ·exact hf e (List.mem_of_mem_drop he)
  ·rw[Zey]
   have h1:=Yl true (l.take i) (l.drop i) 0;rw[List.take_append_drop] at h1;have h2:=Zba true (l.drop i) (0+(l.take i).length);have:En.size true 0 ⟨key,val,0⟩≤282:=by unfold En.size;simp;omega
   omega
theorem delC_ok:ChgOk delC:=by
 intro l i is hf hs hi his
 cases is with
 | true =>
  have hlt:=his rfl;have e1:delC l i true=l.take i++l.drop (i+1):=by unfold delC;simp
  have e2:l=l.take i++l[i]::l.drop (i+1):=by rw[←List.drop_eq_getElem_cons hlt,List.take_append_drop]
  rw[e1];refine⟨fun e he=>(List.mem_append.1 he).elim (fun he=>hf e (List.mem_of_mem_take he)) fun he=>hf e (List.mem_of_mem_drop he),?_⟩;rw[e2,Zey] at hs;rw[Yl];have h3:=Zad true (l.drop (i+1)) (0+(l.take i).length) fun e he=>(hf e (List.mem_of_mem_drop he)).key
  simp only[if_true] at h3;omega
 | false =>
  have e1:delC l i false=l:=by unfold delC;simp
  rw[e1];exact⟨hf,by omega⟩
theorem put_chr (key val:List UInt8) (hk:key.length≤80) (hv:val.length≤200) (vb kb:Nat):Chr 42 #[.pointer (some ⟨vb,0,none⟩),.pointer (some ⟨kb,0,none⟩)] (fun k=>k=vb∨k=kb) (fun w=>w.heap[kb]?=some (Ql key)∧w.heap[vb]?=some (Ql val)) (putC key val) where
 run:=fun w B nb v l i is h1 h2 h3 h4 h5 h6=>putChg_any key val vb kb h1.1 h1.2 i is h2 h3 h4 h5 h6
 keep:=fun T w w' h ht hT=>⟨(ht.block _ (Za h.1) (hT _ (.inr rfl))).trans h.1,(ht.block _ (Za h.2) (hT _ (.inl rfl))).trans h.2⟩
 lt:=fun w k h hk=>hk.elim (fun e=>by rw[e];exact Za h.2) fun e=>by rw[e];exact Za h.1
 ok:=putC_ok key val hk hv
theorem del_chr:Chr 44 #[] (fun _=>False) (fun _=>True) delC where
 run:=fun w B nb v l i is h1 h2 h3 h4 h5 h6=>delChg_any i is h2 h3 h4 h5 h6
 keep:=fun _ _ _ _ _ _=>trivial
 lt:=fun _ _ _ h=>h.elim
 ok:=delC_ok
end
section
open Go.RowKit
section
variable {n : Nat} {J : Jn} {seq : Int} {B : List (List UInt8)} {F : Ft} {p : Nat} {tb : Nat} {w w' : World} {f : Pf} {R R' : Rp} {Bn nb : Nat} {v : Value} {l : List En}
def Zfv (n:Nat) (J:Jn) (seq:Int) (B:List (List UInt8)) (w:World) (F:Ft) (p:Nat) (f:Pf) (tb:Nat) (Bn nb:Nat) (v:Value) (X:(Int × List En) × Rp) (e:Ending) (w':World):Prop :=
 e=.returned (.int .i64 X.1.1)∧∃v' f',NdAt w' Bn nb false v' X.1.2∧Tr n J seq B w' F p f' X.2 tb∧f'.q=f.q∧(∀k,PT f' k→PT f k∨w.heap.size≤k)∧Zb (fun k=>PJ F p f k∨k=nb∨v.ownBlock=some k) w w'∧¬PJ F p f' nb∧∀k,Zap v' k→¬PJ F p f' k
theorem NdAt.kid {g cap ix:Nat} {leaf:Bool} (h:NdAt w Bn nb leaf (.slice (some ⟨g,0,none⟩) l.length cap) l) (hix:ix<l.length):w.cell? ⟨g,ix*3,none⟩=some (.string ⟨(atK l ix).toArray⟩)∧w.cell? ⟨g,ix*3+2,none⟩=some (.int .i64 (Zn l ix)):=by
 obtain⟨b,o,e,c0,c1,c2⟩:=h.row.isE.at ix hix;simp only[Option.some.injEq,Addr.mk.injEq,and_true] at e;obtain⟨rfl,rfl⟩:=e;rw[Nat.zero_add] at c0 c2;have h1:Zn l ix=l[ix].kid:=by rw[Zn,List.getElem?_eq_getElem hix];rfl
 rw[h1,Zer hix];exact⟨c0,c2⟩
theorem Zfv.early {f':Pf} (hN:NdAt w Bn nb false v l) (hp1:¬PJ F p f nb) (hp2:∀k,Zap v k→¬PJ F p f k) (hT:Tr n J seq B w' F p f' R' tb) (hq:f'.q=f.q) (hk:∀k,PT f' k→PT f k∨w.heap.size≤k) (ht:Zb (PJ F p f) w w') (e:Int):Zfv n J seq B w F p f tb Bn nb v ((e,l),R') (.returned (.int .i64 e)) w' :=
 ⟨rfl,v,f',hN.turned ht hp1 hp2,hT,hq,hk,ht.mono fun k _ h=>.inl h,Xj (w:=w) hk hp1 hN.lt,fun k h=>Xj (w:=w) hk (hp2 k h) (hN.row.isE_blk h).2⟩
theorem layN_ne:∀(fu:Nat) (R:Rp) (nd:Nd),nd.l.length<fu→nd.l≠[]→(∀e∈nd.l,e.few)→(R.layN fu nd).1.2=0→(R.layN fu nd).1.1≠[]
 | 0,R,nd,h,_,_,_=>by omega
 | fu+1,R,nd,h,hne,hf,he=>by
  rw[Rp.layN,if_neg hne] at he ⊢;by_cases hs:893<nd.sum
  ·rw[if_pos hs] at he ⊢
   by_cases h1:(R.layN fu ⟨nd.leaf,nd.l.take nd.cut⟩).1.2≠0
   ·rw[if_pos h1] at he;exact absurd he h1
   ·rw[if_neg h1]
    obtain⟨c1,c2,_⟩:=Nd.cut_spec hs fun e he=>En.few2 (hf e he)
    have:=layN_ne fu R ⟨nd.leaf,nd.l.take nd.cut⟩ (by simp only[List.length_take];omega) (fun e=>by
     have:=congrArg List.length e;simp only[List.length_take,List.length_nil] at this
     omega) (fun e he=>hf e (List.mem_of_mem_take he)) (by simpa using h1)
    intro e;exact this (List.append_eq_nil_iff.1 e).1
  ·rw[if_neg hs]
   split<;>simp
theorem Zq.setKey {B0:Nat} {v:Value} {l:List En} (h:Zq B0 w v l) (hi:0<l.length) (key:List UInt8):∃g cap,v=.slice (some ⟨g,0,none⟩) l.length cap∧w.cell? ⟨g,0,none⟩=some (.string ⟨l[0].key.toArray⟩)∧w.frozen? ⟨g,0,none⟩=false ∧
  Zq B0 (w.setCell ⟨g,0,none⟩ (.string ⟨key.toArray⟩)) v (Zr key l)∧Zb (·=g) w (w.setCell ⟨g,0,none⟩ (.string ⟨key.toArray⟩)):=by
 have hE:=h.isE;rcases h.form with ⟨_,hn⟩ | ⟨g,cap,rfl,hnc,hcm,hBg,hg⟩
 ·subst hn;simp at hi
 ·obtain⟨b,o,e,c0,c1,c2⟩:=hE.at 0 hi
  simp only[Option.some.injEq,Addr.mk.injEq,and_true] at e;obtain⟨rfl,rfl⟩:=e;rw[Nat.zero_mul,Nat.zero_add] at c0;obtain⟨hr,hl,_,_,_,_⟩:=h.lies;obtain⟨cur,hcur,hcs⟩:=hr;refine⟨g,cap,rfl,c0,Zf hcur _,?_,Zd _ _ _ _⟩;have hh:=Ze hcur (i:=0) (.string ⟨key.toArray⟩)
  have hlen:=Qq key l
  have kk:=Yb.mine (B:=B0) (w:=w.setCell ⟨g,0,none⟩ (.string ⟨key.toArray⟩)) (g:=g) (cap:=cap) (L:=Zr key l) ⟨_,hh,by simp[hcs]⟩ (fun j u hj=>by
   cases l with
   | nil=>simp at hi
   | cons x r =>
    have hold:=hl j;rw[Nat.zero_mul,Nat.zero_add,cell_of_row _ _ _ _ _ _ hcur] at hold;rw[Nat.zero_mul,Nat.zero_add,cell_of_row _ _ _ _ _ _ hh,Array.getElem?_setIfInBounds];have e1:enV (Zr key (x::r))=.string ⟨key.toArray⟩::(enV (x::r)).tail:=rfl;have e2:enV (x::r)=.string ⟨x.key.toArray⟩::(enV (x::r)).tail:=rfl;rw[e1] at hj;rw[e2] at hold
    cases j with
    | zero =>
     rw[if_pos rfl,if_pos (by simp at hnc;omega)];exact hj
    | succ j =>
     rw[if_neg (by omega)]
     exact hold u hj) (by omega) hcm hBg
  rw[hlen] at kk;exact kk
structure Far (w WL:World) (F:Ft) (p:Nat) (f fq:Pf) (wr:World):Prop where
 q:fq.q=f.q
 pt:∀k,PT fq k→PT f k∨w.heap.size≤k
 turn:Zb (PJ F p f) w wr
 size:WL.heap.size≤wr.heap.size
 blk:∀k,k<WL.heap.size→¬PJ F p f k→wr.heap[k]?=WL.heap[k]?
 apart:∀k,w.heap.size≤k→k<WL.heap.size→¬PJ F p fq k
theorem Far.start {WL:World} (ht:Zb (PJ F p f) w WL) (hl:∀k,w.heap.size≤k→¬PJ F p f k):Far w WL F p f f WL:=⟨rfl,fun _ h=>.inl h,ht,Nat.le_refl _,fun _ _ _=>rfl,fun k h _=>hl k h⟩
theorem Far.next {WL wr w7:World} {fq f7:Pf} (h:Far w WL F p f fq wr) (hq7:f7.q=fq.q) (hk7:∀k,PT f7 k→PT fq k∨wr.heap.size≤k) (ht7:Zb (PJ F p fq) wr w7) (hw:w.heap.size≤WL.heap.size):Far w WL F p f f7 w7:=by
 refine⟨hq7.trans h.q,fun k hk=>(hk7 k hk).elim (h.pt k) fun e=>.inr (by have:=h.size;omega),h.turn.then ht7 fun i hi hp=>?_,Nat.le_trans h.size ht7.size,fun k hk hn=>?_,fun k h1 h2=>Xj (w:=wr) hk7 (h.apart k h1 h2) (by have:=h.size;omega)⟩
 ·rcases hp with e | e
  ·exact .inl e
  ·rcases h.pt i e with e | e
   ·exact .inr e
   ·omega
 ·refine(ht7.block k (by have:=h.size;omega) ?_).trans (h.blk k hk hn)
  rcases Nat.lt_or_ge k w.heap.size with h1 | h1
  ·exact Xj (w:=w) h.pt hn h1
  ·exact h.apart k h1 hk
theorem Far.nd {WL wr:World} {fq:Pf} {B0 nb0:Nat} {leaf:Bool} {v0:Value} {l0:List En} (h:Far w WL F p f fq wr) (hn:NdAt WL B0 nb0 leaf v0 l0) (h1:¬PJ F p f nb0) (h2:∀k,Zap v0 k→¬PJ F p f k):NdAt wr B0 nb0 leaf v0 l0 :=
 ⟨(h.blk _ hn.lt h1).trans hn.box,hn.row.keep1 fun k hk=>h.blk k (hn.row.lt hk).2 (h2 k (hn.row.in_blk hk)),hn.low⟩
theorem Tr.own {T:Nat→Prop} {w1 w2:World} {f1:Pf} (h:Tr n J seq B w1 F p f1 R tb) (ht:Zb T w1 w2) (hT:∀k,T k→¬PJ F p f1 k∧k≠0∧k≠tb):Tr n J seq B w2 F p f1 R tb :=
 ⟨h.lp.turned ht fun k hk e=>by
  rcases hk with hk | hk
  ·exact(hT k e).1 hk
  ·exact(hT k e).2.1 hk,(ht.block _ (Za h.head) fun e=>(hT _ e).2.2 rfl).trans h.head,h.apart⟩
theorem Tr.nd_not (h:Tr n J seq B w F p f R tb) {leaf:Bool} {B0 nb0:Nat} {v0:Value} {l0:List En} (hn:NdAt w B0 nb0 leaf v0 l0):nb0≠0∧nb0≠tb:=by
 constructor
 ·rintro rfl
  obtain⟨P,_,h2,_⟩:=h.lp;have h1:=h2.nib 0 (by omega)
  rw[(Zc hn.box).1] at h1;cases h1
 ·rintro rfl;have:=hn.box;rw[h.head] at this;simp only[Option.some.injEq,Obj.cells.injEq,and_true] at this;exact absurd this.2 (by decide)
theorem Tr.row_not (h:Tr n J seq B w F p f R tb) {B0:Nat} {v0:Value} {l0:List En} (hn:Zq B0 w v0 l0) (h0:0<l0.length) {k:Nat} (hk:v0.ownBlock=some k):k≠0∧k≠tb:=by
 obtain⟨_,c,hc⟩:=Zek hn hk.symm;constructor
 ·rintro rfl
  obtain⟨P,_,h2,_⟩:=h.lp;have h1:=h2.nib 0 (by omega)
  rcases hn.form with ⟨rfl,_⟩ | ⟨g,cap,rfl,_⟩
  ·cases hk
  ·cases hk;obtain⟨b,o,e,c0,_⟩:=hn.isE.at 0 h0;simp only[Option.some.injEq,Addr.mk.injEq,and_true] at e;obtain⟨rfl,rfl⟩:=e;rw[Nat.zero_mul,Nat.zero_add] at c0;rw[c0] at h1;cases h1
 ·rintro rfl;rw[h.head] at hc;simp only[Option.some.injEq,Obj.cells.injEq,and_true] at hc;exact absurd hc.2 (by decide)
def Zbw (R:Rp) (K0 K1:Int):Nat→Rp
 | 0=>R
 | 1=>(R.free K0).2
 | _=>((R.free K0).2.free K1).2
theorem join_any (hT:Tr n J seq B w F p f R tb) (hN:NdAt w Bn nb false v l) (hB:Bn≤w.heap.size) (hp1:¬PJ F p f nb) (hp2:∀k,Zap v k→¬PJ F p f k) (hl:Rowy 976 l) (k i:Nat) (hk:k+1<l.length) (hi:i<l.length) :
  Calls Tryz.prog 107 #[trp tb,.pointer (some ⟨nb,0,none⟩),.int .i64 (k:Int),.int .i64 (i:Int)] w (Zfv n J seq B w F p f tb Bn nb v (R.joinN l k i)):=by
 obtain⟨X,hX⟩:∃X,X=R.joinN l k i:=⟨_,rfl⟩;rw[←hX];have hlen:=hl.len
 obtain⟨g,cap,rfl⟩:∃g cap,v=.slice (some ⟨g,0,none⟩) l.length cap:=by
  rcases hN.row.form with ⟨_,e⟩ | ⟨g,cap,e,_⟩
  ·subst e;simp at hi
  ·exact⟨g,cap,e⟩
 have HX:=Hd hX;have HE:Hid (∀(f':Pf) (R':Rp) (w':World) (e:Int),Tr n J seq B w' F p f' R' tb→f'.q=f.q→(∀k,PT f' k→PT f k∨w.heap.size≤k)→Zb (PJ F p f) w w'→Zfv n J seq B w F p f tb Bn nb (.slice (some ⟨g,0,none⟩) l.length cap) ((e,l),R') (.returned (.int .i64 e)) w'):=Hd fun f' R' w' e a b c d=>Zfv.early hN hp1 hp2 a b c d e;have HP1:=Hd hp1;have HP2:=Hd hp2;have HL:=Hd hl;have HN:=Hd hN;have HT:=Hd hT;have HNN:=Hd (hT.nd_not hN);have HRN:Hid (g≠0∧g≠tb):=Hd (hT.row_not hN.row (by omega) rfl);have HB:=Hd hB;have kf:=Zec hl.few;have kfi:=kf i;have kfk:=kf k;have kfk1:=kf (k+1);have n1:=(Zc hN.box).2;have c2:=(hN.kid hi).2;have hi0:(0:Int)≤(i:Int):=by omega
 have hi1:(i:Int)<(l.length:Int):=by omega
 have hk0:(0:Int)≤(k:Int):=by omega
 have hk1:(k:Int)<(l.length:Int):=by omega
 have hkk0:(0:Int)≤(k:Int)+1:=by omega
 have hkk1:(k:Int)+1<(l.length:Int):=by omega
 have hkt:((k:Int)+1).toNat=k+1:=by omega
 have hkw:IntKind.i64.wrap ((k:Int)+1)=(k:Int)+1:=IntWalk.i64_in _ (by omega);have HLD:=Hd (Zcm hT (Zn l i) (by omega) (by omega));have HZ:=Hd (And.intro hk hi);generalize hKI:Zn l i=KI at *;generalize hKK:Zn l k=KK at *;generalize hKK1:Zn l (k+1)=KK1 at *;have HKI:=Hd hKI;have HKK:=Hd hKK;have HKK1:=Hd hKK1;clear hX hT hN hp1 hp2 hl kf hKI hKK hKK1 hB hk hi hlen;go_enter Tryz.func107,Tryz.ntmps107;go_wp2_with fail;refine HLD.out.mono ?_;rintro e w1 ⟨lf1,va1,vk1,vc1,rfl,hT1,ht1,hnd1⟩;obtain⟨hb1,hbx1,hs1⟩:=nd_box w1 lf1 (.slice va1 vk1 vc1);obtain⟨B1,hW1⟩:∃B1,B1=w1.alloc (.cells #[.bool lf1,.slice va1 vk1 vc1] 84):=⟨_,rfl⟩;rw[←hW1] at hb1 hbx1 hs1;have HW1:=Hd hW1;have hTB1:=hT1.step hb1;have htt1:=(ht1.trans (Zb.of_below hb1));have HTB1:=Hd hTB1;have HTT1:=Hd htt1;have hNB1:=HN.out.turned htt1 HP1.out HP2.out;have HNB1:=Hd hNB1;have HHB1:=Hd hb1;have n1:=(Zc hNB1.box).2
 cases hl1:(R.load KI).1 with
 | none =>
  have hne:=Rp.load_none hl1;have hne2:((R.load KI).2 != 0)=true:=by rw[bne_iff_ne];exact hne
  have HXE:Hid (X=(((R.load KI).2,l),R)):=Hd (by
   obtain⟨E,hh,hE⟩:∃E,R.load KI=(none,E)∧E=(R.load KI).2:=⟨_,by rw[←hl1],rfl⟩;rw[HX.out,←hE]
   simp only[Rp.joinN,HKI.out,HKK.out,HKK1.out,hh])
  have HEE:=Hd (HE.out f R B1 (R.load KI).2 hTB1 rfl (fun _ h=>.inl h) htt1);clear hT1 ht1 hnd1 hb1 hbx1 hs1 hW1 hl1 hne hTB1 htt1 hNB1 HLD;go_wp2_with fail;rw[←HW1.out,HXE.out];go_ret;exact HEE.out
 | some nd1 =>
  obtain⟨hleaf1,hm1⟩:=hnd1 nd1 hl1;obtain⟨hfit1,he1⟩:=hT1.lp.load_fit hl1;have HFIT1:=Hd hfit1
  have HLEAF1:=Hd hleaf1;have HM1:=Hd (hm1.below hb1);have hvk1:vk1=nd1.l.length:=by obtain⟨_,_,e,_⟩:=hm1.isE.form;simp only[Value.slice.injEq] at e;exact e.2.1
  subst hvk1;have hz1:((R.load KI).2 != 0)=false:=by rw[he1];rfl
  have HLE1:Hid (R.load KI=(some nd1,0)):=Hd (by rw[←hl1,←he1]);have HBX1:=Hd hbx1;obtain⟨hln01,hln11⟩:=hfit1.len;have SZ1:=Hd ht1.size;have HHM1:=Hd hm1;rw[he1];have HSU:=Hd (sum_any B1 lf1 va1 nd1.l.length vc1 (HM1.out.isE) rfl (by omega) fun e he=>En.few2 (hfit1.few e he));rw[show Nd.mk lf1 nd1.l=nd1 by rw[←hleaf1]] at HSU
  obtain⟨S1,hS1⟩:∃S1,S1=nd1.sum:=⟨_,rfl⟩;rw[←hS1] at HSU;have HS1:=Hd hS1
  clear hS1;obtain⟨m0,m1⟩:=Zc hbx1;clear hT1 ht1 hnd1 hb1 hs1 hl1 hm1 hfit1 hleaf1 he1 hTB1 htt1 hNB1 hW1 hbx1 HHM1;go_wp2_with fail;rw[←HW1.out];refine HSU.out.mono ?_;rintro e w2 ⟨rfl,hb2⟩;have hT2:=HTB1.out.step hb2
  have htt2:=HTT1.out.trans (Zb.of_below hb2);have HTT2:=Hd htt2;have hN2:=HN.out.turned htt2 HP1.out HP2.out;have hsm:S1≤893:=by rw[HS1.out];exact HFIT1.out.sum
  by_cases hbig:297≤S1
  ·have hd:decide ((S1:Int)≥297)=true:=decide_eq_true (by omega)
   have HXE:Hid (X=((0,l),R)):=Hd (by
    rw[HX.out]
    simp only[Rp.joinN,HKI.out,HKK.out,HKK1.out,HLE1.out,if_pos (by rw[←HS1.out];exact hbig:297≤nd1.sum)])
   have HEE:=Hd (HE.out f R w2 0 hT2 rfl (fun _ h=>.inl h) htt2);clear hT2 htt2 hN2 hb2 HLD m0 m1 n1;go_wp2_with fail;rw[HXE.out];go_ret;exact HEE.out
  ·have hd:decide ((S1:Int)≥297)=false:=decide_eq_false (by omega)
   have n1:=(Zc hN2.box).2;have c2:=(hN2.kid (ix:=k) (by have:=HZ.out.1;omega)).2;clear HLD;have HLD:=Hd (Zcm hT2 KK (by omega) (by omega));rw[HKK.out] at c2;have HBIG:Hid (¬297≤nd1.sum):=Hd (by rw[←HS1.out];exact hbig);clear hT2 htt2 hN2 hb2 m0 m1;have hbig2:S1<297:=by omega
   clear hbig;go_wp2_with fail;refine HLD.out.mono ?_;rintro e w3 ⟨lf3,va3,vk3,vc3,rfl,hT3,ht3,hnd3⟩;obtain⟨hb3,hbx3,hs3⟩:=nd_box w3 lf3 (.slice va3 vk3 vc3);obtain⟨B3,hW3⟩:∃B3,B3=w3.alloc (.cells #[.bool lf3,.slice va3 vk3 vc3] 84):=⟨_,rfl⟩;rw[←hW3] at hb3 hbx3 hs3;have HW3:=Hd hW3
   have hTB3:=hT3.step hb3;have htt3:=HTT2.out.trans (ht3.trans (Zb.of_below hb3));have HTB3:=Hd hTB3;have HTT3:=Hd htt3;have hNB3:=HN.out.turned htt3 HP1.out HP2.out;have HNB3:=Hd hNB3;have HHB3:=Hd hb3;have n1:=(Zc hNB3.box).2
   cases hl3:(R.load KK).1 with
   | none =>
    have hne:=Rp.load_none hl3;have hne2:((R.load KK).2 != 0)=true:=by rw[bne_iff_ne];exact hne
    have HXE:Hid (X=(((R.load KK).2,l),R)):=Hd (by
     obtain⟨E,hh,hE⟩:∃E,R.load KK=(none,E)∧E=(R.load KK).2:=⟨_,by rw[←hl3],rfl⟩;rw[HX.out,←hE]
     simp only[Rp.joinN,HKI.out,HKK.out,HKK1.out,hh,HLE1.out,if_neg HBIG.out])
    have HEE:=Hd (HE.out f R B3 (R.load KK).2 hTB3 rfl (fun _ h=>.inl h) htt3);clear hT3 ht3 hnd3 hb3 hbx3 hs3 hW3 hl3 hne hTB3 htt3 hNB3 HLD;go_wp2_with fail;rw[←HW3.out,HXE.out];go_ret;exact HEE.out
   | some nd3 =>
    obtain⟨hleaf3,hm3⟩:=hnd3 nd3 hl3;obtain⟨hfit3,he3⟩:=hT3.lp.load_fit hl3;have HFIT3:=Hd hfit3
    have HLEAF3:=Hd hleaf3;have HM3:=Hd (hm3.below hb3);have hvk3:vk3=nd3.l.length:=by obtain⟨_,_,e,_⟩:=hm3.isE.form;simp only[Value.slice.injEq] at e;exact e.2.1
    subst hvk3;have hz3:((R.load KK).2 != 0)=false:=by rw[he3];rfl
    have HLE3:Hid (R.load KK=(some nd3,0)):=Hd (by rw[←hl3,←he3]);have HBX3:=Hd hbx3;obtain⟨hln03,hln13⟩:=hfit3.len;have SZ3:=Hd ht3.size;have HHM3:=Hd hm3;rw[he3];have c2:=(hNB3.kid (ix:=k+1) HZ.out.1).2;rw[HKK1.out] at c2;clear HLD;have HLD:=Hd (Zcm hTB3 KK1 (by omega) (by omega));clear hT3 ht3 hnd3 hb3 hs3 hl3 hm3 hfit3 hleaf3 he3 hTB3 htt3 hNB3 hW3 hbx3 HHM3;go_upto_region 7 with fail;rw[←HW3.out];go_wp2_with fail;refine HLD.out.mono ?_;rintro e w5 ⟨lf5,va5,vk5,vc5,rfl,hT5,ht5,hnd5⟩;obtain⟨hb5,hbx5,hs5⟩:=nd_box w5 lf5 (.slice va5 vk5 vc5);obtain⟨B5,hW5⟩:∃B5,B5=w5.alloc (.cells #[.bool lf5,.slice va5 vk5 vc5] 84):=⟨_,rfl⟩;rw[←hW5] at hb5 hbx5 hs5;have HW5:=Hd hW5;have hTB5:=hT5.step hb5;have htt5:=HTT3.out.trans (ht5.trans (Zb.of_below hb5));have HTB5:=Hd hTB5;have HTT5:=Hd htt5;have hNB5:=HN.out.turned htt5 HP1.out HP2.out;have HNB5:=Hd hNB5;have HHB5:=Hd hb5;have n1:=(Zc hNB5.box).2
    cases hl5:(R.load KK1).1 with
    | none =>
     have hne:=Rp.load_none hl5;have hne2:((R.load KK1).2 != 0)=true:=by rw[bne_iff_ne];exact hne
     have HXE:Hid (X=(((R.load KK1).2,l),R)):=Hd (by
      obtain⟨E,hh,hE⟩:∃E,R.load KK1=(none,E)∧E=(R.load KK1).2:=⟨_,by rw[←hl5],rfl⟩;rw[HX.out,←hE]
      simp only[Rp.joinN,HKI.out,HKK.out,HKK1.out,hh,HLE1.out,if_neg HBIG.out,HLE3.out])
     have HEE:=Hd (HE.out f R B5 (R.load KK1).2 hTB5 rfl (fun _ h=>.inl h) htt5);clear hT5 ht5 hnd5 hb5 hbx5 hs5 hW5 hl5 hne hTB5 htt5 hNB5 HLD;go_wp2_with fail;rw[←HW5.out,HXE.out];go_ret;exact HEE.out
    | some nd5 =>
     obtain⟨hleaf5,hm5⟩:=hnd5 nd5 hl5;obtain⟨hfit5,he5⟩:=hT5.lp.load_fit hl5;have HFIT5:=Hd hfit5
     have HLEAF5:=Hd hleaf5;have HM5:=Hd (hm5.below hb5);have hvk5:vk5=nd5.l.length:=by obtain⟨_,_,e,_⟩:=hm5.isE.form;simp only[Value.slice.injEq] at e;exact e.2.1
     subst hvk5;have hz5:((R.load KK1).2 != 0)=false:=by rw[he5];rfl
     have HLE5:Hid (R.load KK1=(some nd5,0)):=Hd (by rw[←hl5,←he5]);have HBX5:=Hd hbx5;obtain⟨hln05,hln15⟩:=hfit5.len;have SZ5:=Hd ht5.size;have HHM5:=Hd hm5;rw[he5];have hpj:∀k,w.heap.size≤k→¬PJ F p f k:=fun k h e=>by have:=HT.out.lp.lt e;omega
     have hsz2:w.heap.size≤w2.heap.size:=HTT2.out.size;have hsz3:w.heap.size≤B3.heap.size:=HTT3.out.size;have hna3:NdAt B3 w2.heap.size w3.heap.size lf3 (.slice va3 nd3.l.length vc3) nd3.l:=⟨HBX3.out,HM3.out,SZ3.out⟩;have hna5:=(hna3.turned ht5 (hpj _ (by have:=SZ3.out;omega)) (fun k hk=>hpj _ (by have:=(HM3.out.isE_blk hk).1;omega))).below hb5;have hnb5:NdAt B5 B3.heap.size w5.heap.size lf5 (.slice va5 nd5.l.length vc5) nd5.l:=⟨hbx5,HM5.out,ht5.size⟩;have HNA5:=Hd hna5;have HNB5B:=Hd hnb5;have HPJ:=Hd hpj;have HSZ2:=Hd hsz2;have HSZ3:=Hd hsz3;obtain⟨a0,a1⟩:=Zc hna5.box;obtain⟨b0,b1⟩:=Zc hnb5.box;clear hT5 ht5 hnd5 hb5 hs5 hl5 hm5 hfit5 hleaf5 he5 htt5 hNB5 hW5 hbx5 HHM5 HLD hna3 hna5 hnb5 hpj
     cases lf3 with
     | true =>
      cases lf5 with
      | false =>
       have HXE:Hid (X=((103,l),R)):=Hd (by
        rw[HX.out];simp only[Rp.joinN,HKI.out,HKK.out,HKK1.out,HLE1.out,if_neg HBIG.out,HLE3.out,HLE5.out,HLEAF3.out,HLEAF5.out]
        simp)
       have HEE:=Hd (HE.out f R B5 103 hTB5 rfl (fun _ h=>.inl h) HTT5.out);clear hTB5;go_upto_region 10 with fail;rw[←HW5.out];go_wp2_with fail;rw[HXE.out];go_ret;exact HEE.out
      | true =>
       have HTt:=Hd hTB5;have HTTt:=HTT5;have HNt:=HNB5;have HNAt:=HNA5;have HNBt:=HNB5B;clear hTB5;go_upto_region 10 with fail;rw[←HW5.out];go_upto_region 14 with fail;clear n1 c2 a0 a1 b0 b1;have hTt:Tr n J seq B B5 F p f R tb:=HTt.out;have n1:B5.drew.cell? ⟨nb,1,none⟩=some (.slice (some ⟨g,0,none⟩) l.length cap):=(Zc HNt.out.box).2;have ck:B5.drew.cell? ⟨g,k*3+2,none⟩=some (.int .i64 KK):=by have:=(HNt.out.kid (ix:=k) (by have:=HZ.out.1;omega)).2;rw[HKK.out] at this;exact this
       have ck1:B5.drew.cell? ⟨g,(k+1)*3+2,none⟩=some (.int .i64 KK1):=by have:=(HNt.out.kid (ix:=k+1) HZ.out.1).2;rw[HKK1.out] at this;exact this
       go_region;obtain⟨WL,hWL⟩:∃WL,WL=(B5.alloc (.cells #[.int .i64 KK,.int .i64 KK1] 3)).drew:=⟨_,rfl⟩;have hbL:Below B5.heap.size B5 WL:=by rw[hWL];exact((Below.refl _ _).alloc (Nat.le_refl _) _).drew
       have hgL:WL.heap[B5.heap.size]?=some (.cells #[.int .i64 KK,.int .i64 KK1] 3 (0,0)):=by rw[hWL];exact heap_alloc_new B5 _
       rw[←hWL];have HGL:=Hd hgL
       have hTTL:=HTTt.out.trans (Zb.of_below hbL);have HTTL:=Hd hTTL;have HTL:=Hd (HTt.out.step hbL);have HNL:=Hd (HNt.out.below hbL);have HAL:=Hd (HNAt.out.below hbL);have HBL:=Hd (HNBt.out.below hbL);have HSL:=Hd hTTL.size;have HGL2:Hid (w.heap.size≤B5.heap.size):=Hd HTTt.out.size;generalize hgi:B5.heap.size=gi at *;clear hWL hbL hgL n1 ck ck1 hTt hTTL hgi;go_wp2_with fail;go_loopw [111] (fun x wr=>∃(q:Nat) (fq:Pf),q≤2∧x=.int .i64 (q:Int)∧Tr n J seq B wr F p fq (Zbw R KK KK1 q) tb∧Far w WL F p f fq wr∧(1≤q→(R.free KK).1=0)∧(2≤q→((R.free KK).2.free KK1).1=0)) (fun x _=>2 - (intOf x).toNat)
       case atStart=>exact⟨0,f,by omega,rfl,HTL.out,Far.start HTTL.out HPJ.out,fun h=>by omega,fun h=>by omega⟩
       case round =>
        obtain⟨q,fq,hq2,rfl,hTq,hfar,he1,he2⟩:=hrel;have HFAR:=Hd hfar
        have HTQ:=Hd hTq;have hgq:=(hfar.blk gi (Za HGL.out) (HPJ.out _ HGL2.out)).trans HGL.out;have k0:wr.cell? ⟨gi,0,none⟩=some (.int .i64 KK):=by rw[cell_of_row _ _ _ _ _ _ hgq];rfl
        have k1:wr.cell? ⟨gi,1,none⟩=some (.int .i64 KK1):=by rw[cell_of_row _ _ _ _ _ _ hgq];rfl
        have t0:wr.cell? ⟨tb,0,none⟩=some (Xb f.q):=by rw[←hfar.q,cell_of_row _ _ _ _ _ _ hTq.head];rfl
        rcases(show q=0∨q=1∨q=2 by omega) with rfl | rfl | rfl
        ·have HFR:=Hd (Zeu hTq.lp KK (by omega) (by omega))
         rw[hfar.q] at HFR;have HE1:=Hd he1
         obtain⟨Y,hY⟩:∃Y,Y=Rp.free R KK:=⟨_,rfl⟩;have hY2:(Zbw R KK KK1 0).free KK=Y:=hY.symm
         rw[hY2] at HFR;have HY:=Hd hY
         clear hTq hfar he1 he2 hgq hY hY2;go_wp2_with fail;refine HFR.out.mono ?_;rintro e w7 ⟨rfl,hto⟩;obtain⟨f7,hT7,hq7,hk7,ht7⟩:=HTQ.out.to hto;have HFAR7:=Hd (HFAR.out.next hq7 hk7 ht7 HSL.out)
         have HT7:=Hd hT7;clear hto hT7 hq7 hk7 ht7 k0 k1 t0 HFR;by_cases hy:Y.1=0
         ·have hz:(Y.1 != 0)=false:=by rw[hy];rfl
          have HYZ:=Hd hy;clear hy;go_wp2_with fail;go_roundw
          case rel=>exact⟨0+1,f7,by omega,by go_num,by rw[show Zbw R KK KK1 (0+1)=Y.2 by rw[HY.out];rfl];exact HT7.out,HFAR7.out,fun _=>by rw[←HY.out];exact HYZ.out,fun h=>by omega⟩
          case measure=>simp[intOf]
         ·have hz:(Y.1 != 0)=true:=by rw[bne_iff_ne];exact hy
          have HXE:Hid (X=((Y.1,l),Y.2)):=Hd (by
           rw[HX.out,HY.out];rw[HY.out] at hy;simp only[Rp.joinN,HKI.out,HKK.out,HKK1.out,HLE1.out,if_neg HBIG.out,HLE3.out,HLE5.out,HLEAF3.out,HLEAF5.out,ne_eq,not_true_eq_false,if_false]
           rw[if_pos hy])
          have HEE:=Hd (HE.out f7 Y.2 w7 Y.1 HT7.out HFAR7.out.q HFAR7.out.pt HFAR7.out.turn);clear hy;go_wp2_with fail;rw[HXE.out];go_ret;exact HEE.out
        ·have HFR:=Hd (Zeu hTq.lp KK1 (by omega) (by omega))
         rw[hfar.q] at HFR;have HE1:=Hd he1
         obtain⟨Y,hY⟩:∃Y,Y=Rp.free (R.free KK).2 KK1:=⟨_,rfl⟩;have hY2:(Zbw R KK KK1 1).free KK1=Y:=hY.symm
         rw[hY2] at HFR;have HY:=Hd hY
         clear hTq hfar he1 he2 hgq hY hY2;go_wp2_with fail;refine HFR.out.mono ?_;rintro e w7 ⟨rfl,hto⟩;obtain⟨f7,hT7,hq7,hk7,ht7⟩:=HTQ.out.to hto;have HFAR7:=Hd (HFAR.out.next hq7 hk7 ht7 HSL.out)
         have HT7:=Hd hT7;clear hto hT7 hq7 hk7 ht7 k0 k1 t0 HFR;by_cases hy:Y.1=0
         ·have hz:(Y.1 != 0)=false:=by rw[hy];rfl
          have HYZ:=Hd hy;clear hy;go_wp2_with fail;go_roundw
          case rel=>exact⟨1+1,f7,by omega,by go_num,by rw[show Zbw R KK KK1 (1+1)=Y.2 by rw[HY.out];rfl];exact HT7.out,HFAR7.out,fun _=>HE1.out (by omega),fun _=>by rw[←HY.out];exact HYZ.out⟩
          case measure=>simp[intOf]
         ·have hz:(Y.1 != 0)=true:=by rw[bne_iff_ne];exact hy
          have HXE:Hid (X=((Y.1,l),Y.2)):=Hd (by
           rw[HX.out,HY.out];rw[HY.out] at hy;simp only[Rp.joinN,HKI.out,HKK.out,HKK1.out,HLE1.out,if_neg HBIG.out,HLE3.out,HLE5.out,HLEAF3.out,HLEAF5.out,ne_eq,not_true_eq_false,if_false,HE1.out (by omega),if_neg]
           rw[if_pos hy])
          have HEE:=Hd (HE.out f7 Y.2 w7 Y.1 HT7.out HFAR7.out.q HFAR7.out.pt HFAR7.out.turn);clear hy;go_wp2_with fail;rw[HXE.out];go_ret;exact HEE.out
        ·have hna:=hfar.nd HAL.out (HPJ.out _ (by have:=SZ3.out;have:=HSZ2.out;omega)) (fun k hk=>HPJ.out k (by have:=(HAL.out.row.isE_blk hk).1;have:=HSZ2.out;omega))
         have hnbb:=hfar.nd HBL.out (HPJ.out _ (by have:=HBL.out.low;have:=HSZ3.out;omega)) (fun k hk=>HPJ.out k (by have:=(HBL.out.row.isE_blk hk).1;have:=HSZ3.out;omega));obtain⟨hj1,hj2⟩:=joint HFIT3.out HFIT5.out (by rw[HLEAF3.out,HLEAF5.out]) (key:=atK l (k+1)) (Zdu HL.out.few _);obtain⟨v8,w8,hr,hm8,hg8,ho8⟩:=(show Zq w2.heap.size wr.drew (.slice va3 nd3.l.length vc3) nd3.l from hna.row).app (show IsE wr.drew (.slice va5 nd5.l.length vc5) nd5.l from hnbb.row.isE) (by have:=hfar.size;have:=HSL.out;have:=HFAR.out.turn.size;have:=HTT2.out.size;have:=SZ3.out;have h9:=Za HAL.out.box;show w2.heap.size≤wr.heap.size;omega) (by rw[show nd5.l.length=nd5.l.length from rfl];omega)
         have hws:w.heap.size≤wr.heap.size:=hfar.turn.size;have hT8':Zb (fun k=>(Value.slice va3 nd3.l.length vc3).ownBlock=some k) wr w8:=⟨hg8.os,hg8.tape,hg8.output,hg8.size,fun k hk hn=>hg8.block k hk fun e=>hn e.symm⟩;have hown3:∀k,(Value.slice va3 nd3.l.length vc3).ownBlock=some k→w.heap.size≤k∧k<WL.heap.size:=fun k hk=>by have:=HAL.out.row.lt hk;have:=HSZ2.out;omega
         have hT8:Tr n J seq B w8 F p fq (Zbw R KK KK1 2) tb:=hTq.own hT8' fun k hk=>⟨hfar.apart k (hown3 k hk).1 (hown3 k hk).2,hTq.row_not hna.row (by have:=HFIT3.out.len;omega) hk⟩;have hb8:w8.heap[w3.heap.size]?=some (ndO true (.slice va3 nd3.l.length vc3)):=(hT8'.block _ hna.lt fun e=>hna.ne e rfl).trans hna.box
         have hsep8:∀k,Zap v8 k→¬PJ F p fq k:=fun k hk=>by
          have hv8:v8.ownBlock=some k:=by obtain⟨x,_,_,e1,e2⟩:=hk;rw[e1,←e2];rfl
          rcases ho8 with ho8 | ho8
          ·rw[ho8] at hv8;exact hfar.apart k (hown3 k hv8).1 (hown3 k hv8).2
          ·rw[ho8] at hv8
           intro e;have:=hTq.lp.lt e
           simp only[Option.some.injEq] at hv8;have h9:wr.drew.heap.size=wr.heap.size:=rfl
           omega
         have ht8w:Zb (PJ F p f) w w8:=hfar.turn.then hT8' fun k hk e=>by have:=hown3 k e;omega
         obtain⟨Y9,hY9⟩:∃Y,Y=(Zbw R KK KK1 2).layL ⟨true,nd3.l++nd5.l⟩:=⟨_,rfl⟩;rw[show (if nd5.leaf then nd5.l else Zr (atK l (k+1)) nd5.l)=nd5.l by rw[HLEAF5.out];rfl] at hj1 hj2
         have HLY:=Hd (Zcr true hT8 hm8.isE (by have:=HFIT3.out.len;have:=HFIT5.out.len;rw[List.length_append];omega) hj1 hsep8);rw[←hY9] at HLY;have HY9:=Hd hY9
         have HJX:Hid (X=if ¬Y9.1.2=0 then ((Y9.1.2,l),Y9.2) else ((0,l.take k++(Zr (atK l k) Y9.1.1++l.drop (k+2))),Y9.2)):=Hd (by
          rw[HX.out,hY9];simp only[Rp.joinN,HKI.out,HKK.out,HKK1.out,HLE1.out,if_neg HBIG.out,HLE3.out,HLE5.out,HLEAF3.out,HLEAF5.out,ne_eq,not_true_eq_false,if_false,he1 (by omega),he2 (by omega),if_true]
          rfl)
         have HJ1:=Hd hj1;obtain⟨a0,a1⟩:=Zc (w:=wr.drew) hna.box;obtain⟨b0,b1⟩:=Zc (w:=wr.drew) hnbb.box;have d0:=(Zc hb8).1;have HT8:=Hd hT8;have HTW8:=Hd ht8w;have HWS8:Hid (w.heap.size≤w8.heap.size):=Hd (Nat.le_trans hws hg8.size);have HR:=Hd hr;have HE1:=Hd (And.intro (he1 (by omega)) (he2 (by omega)));obtain⟨a8,c8,hv8,_,_⟩:=hm8.isE.form;generalize (nd3.l++nd5.l).length=N8 at hv8;subst hv8;clear hTq hfar he1 he2 hgq hna hnbb hj1 hj2 hr hm8 hg8 ho8 hws hT8' hown3 hT8 hb8 hsep8 ht8w hY9 k0 k1 t0;go_upto_region 21 with fail;have hr:=HR.out;go_region_law (first | refine Zcp rfl (.tmp 130) (.tmp 132) 78 78 rfl _ _ _ (by rfl) (by rfl) hr ?_ | (go_simp;go_at_call 39;refine HLY.out.mono ?_;rintro e w9 ⟨v9,rfl,hm9,ht9⟩;have HM9:=Hd hm9;have HT9:=Hd ht9;obtain⟨a9,c9,hv9,_,_⟩:=hm9.isE.form;generalize hN9:Y9.1.1.length=N9 at *;have HN9:=Hd hN9;subst hv9;clear hm9 ht9 hN9))
         all_goals
          clear a0 a1 b0 b1 d0 hr
          obtain⟨f9,hT9,hq9,hk9,ht9,hsv9⟩:=HT9.out
          have hq9':f9.q=f.q:=hq9.trans HFAR.out.q
          have hk9':∀k,PT f9 k→PT f k∨w.heap.size≤k:=fun k h=>(hk9 k h).elim (HFAR.out.pt k) fun e=>.inr (Nat.le_trans HWS8.out e)
          have htw9:Zb (PJ F p f) w w9:=HTW8.out.then ht9 fun i hi hp=>by
           rcases hp with e | e
           ·exact .inl e
           ·rcases HFAR.out.pt i e with e | e
            ·exact .inr e
            ·omega
          by_cases hy:Y9.1.2=0
          ·have hz:(Y9.1.2 != 0)=false:=by rw[hy];rfl
           have HXE:Hid (X=((0,l.take k++(Zr (atK l k) Y9.1.1++l.drop (k+2))),Y9.2)):=Hd (by rw[HJX.out,if_neg (fun h=>h hy)]);have hne:Y9.1.1≠[]:=by rw[HY9.out] at hy ⊢;refine layN_ne _ _ _ (Nat.lt_succ_self _) (fun e=>?_) HJ1.out hy;exact HFIT3.out.some (List.append_eq_nil_iff.1 e).1
           have hlen9:Y9.1.1.length≤1000:=by have:=Zbz (nd3.l.length+nd5.l.length+1) (Zbw R KK KK1 2) ⟨true,nd3.l++nd5.l⟩;rw[HY9.out];unfold Rp.layL;dsimp only at this ⊢;rw[List.length_append] at this ⊢;have:=HFIT3.out.len;have:=HFIT5.out.len;omega
           have hN9:=HN.out.turned htw9 HP1.out HP2.out;obtain⟨g9,cap9,hv9,c0,e0,hm10,ht10⟩:=HM9.out.setKey (List.length_pos_iff.2 hne) (atK l k);have hg9:=HM9.out.lt (k:=g9) (by rw[hv9];rfl);rw[HN9.out] at hv9;simp only[Value.slice.injEq] at hv9;obtain⟨rfl,_,rfl⟩:=hv9;have hwg:w.heap.size≤g9:=Nat.le_trans HWS8.out hg9.1;have hnlt:=HN.out.lt;have hN10:=hN9.turned ht10 (fun e=>by omega) (fun k hk e=>by have:=(HN.out.row.isE_blk hk).2;omega);have hT10:=hT9.own ht10 fun k e=>by subst e;exact⟨hsv9 _ ⟨_,_,_,rfl,rfl⟩,fun e=>by have:=HT.out.lp.nib_lt;omega,fun e=>by have:=Za HT.out.head;omega⟩
           have hw10:(w9.setCell ⟨g9,0,none⟩ (.string ⟨(atK l k).toArray⟩)).heap.size=w9.heap.size:=by simp[World.setCell]
           have hrep:=Zdv k (k+2) hN10.row hm10 (fun q hq e=>by
            have hq2:g9=q:=by simpa [Value.ownBlock] using hq
            have:=(HN.out.row.lt e).2
            omega) (by omega) (by have:=HZ.out.1;omega) (by rw[hw10];have:=HB.out;have:=htw9.size;omega) (by have:=HL.out.len;omega) (by rw[Qq];omega)
           rw[show ((k+2:Nat):Int)=(k:Int)+2 by omega] at hrep
           have HREP:=Hd hrep;have n1:=(Zc hN9.box).2;have ck:=(hN9.kid (ix:=k) (by have:=HZ.out.1;omega)).1;have n2:=(Zc hN10.box).2;have z2:IntKind.i64.wrap ((k:Int)+2)=(k:Int)+2:=IntWalk.i64_in _ (by have:=HZ.out.1;have:=HL.out.len;omega);have q0:(0:Int)<(N9:Int):=by have:=List.length_pos_iff.2 hne;rw[HN9.out] at this;omega
           have HN10:=Hd hN10;have HT10:=Hd hT10;have HK9:=Hd hk9';have HQ9:=Hd hq9';have HTW:=Hd (htw9.then ht10 fun i hi e=>by omega);have HW10:=Hd hw10;have HLT9:Hid (∀q,PJ F p f9 q→q<w9.heap.size):=Hd fun q e=>hT9.lp.lt e;generalize (Y9.1.1[0]'(List.length_pos_iff.2 hne)).key=okey at *;generalize atK l k=akey at *;obtain⟨w10,hw10e⟩:∃w10,w10=w9.setCell ⟨g9,0,none⟩ (.string ⟨akey.toArray⟩):=⟨_,rfl⟩;rw[←hw10e] at HREP n2 HN10 HT10 HTW HW10;have HW10E:=Hd hw10e;clear hT9 hq9 hk9 ht9 hsv9 hq9' hk9' htw9 hy hN9 hg9 hwg hnlt hN10 hT10 hw10 hrep hm10 ht10 hlen9 hne hw10e;go_upto_region 25 with fail;rw[←HW10E.out];go_wp2_with fail;refine HREP.out.mono ?_;rintro e w11 ⟨v11,rfl,hm11,ht11,ho11⟩;obtain⟨hn12,ht12⟩:=HN10.out.put hm11 ht11;have hb11:w11.heap[nb]?=some (ndO false (.slice (some ⟨g,0,none⟩) l.length cap)):=(ht11.block _ HN10.out.lt fun e=>HN10.out.ne e rfl).trans HN10.out.box;have m1:=(Zc hb11).2;have f1:=Zf hb11 1
           have hT12:=HT10.out.own ht12 fun q e=>by
            rcases e with e | e
            ·subst e;exact⟨Xj (w:=w) HK9.out HP1.out HN.out.lt,HNN.out⟩
            ·simp only[Value.ownBlock,Option.some.injEq] at e;subst e;exact⟨Xj (w:=w) HK9.out (HP2.out _ ⟨_,_,_,rfl,rfl⟩) (HN.out.row.lt (k:=g) rfl).2,HRN.out⟩
           have HEE:Hid (Zfv n J seq B w F p f tb Bn nb (.slice (some ⟨g,0,none⟩) l.length cap) X (.returned (.int .i64 0)) (w11.setCell ⟨nb,1,none⟩ v11)):=Hd (by
            rw[HXE.out];refine⟨rfl,v11,f9,hn12,hT12,HQ9.out,HK9.out,(HTW.out.mono fun k _ h=>.inl h).trans (ht12.mono fun k _ h=>.inr h),Xj (w:=w) HK9.out HP1.out HN.out.lt,fun q hq hp=>?_⟩;have hv11:v11.ownBlock=some q:=by obtain⟨x,_,_,e1,e2⟩:=hq;rw[e1,←e2];rfl
            rcases ho11 with ho11 | ⟨q',ho11,hle⟩
            ·rw[ho11] at hv11
             have hg:g=q:=by simpa [Value.ownBlock] using hv11
             subst hg;exact Xj (w:=w) HK9.out (HP2.out _ ⟨_,_,_,rfl,rfl⟩) (HN.out.row.lt (k:=g) rfl).2 hp
            ·rw[ho11] at hv11
             have hg:q'=q:=by simpa using hv11
             subst hg;have:=HLT9.out _ hp
             have:=HW10.out
             omega)
           obtain⟨a11,c11,hv11,_,_⟩:=hm11.isE.form;generalize (l.take k++(Zr akey Y9.1.1++l.drop (k+2))).length=N11 at hv11;subst hv11;clear hm11 ht11 ho11 hn12 ht12 hb11 hT12;go_wp2_with fail;go_ret;exact HEE.out
          ·have hz:(Y9.1.2 != 0)=true:=by rw[bne_iff_ne];exact hy
           have HXE:Hid (X=((Y9.1.2,l),Y9.2)):=Hd (by rw[HJX.out,if_pos hy]);have HEE:=Hd (HE.out f9 Y9.2 w9 Y9.1.2 hT9 hq9' hk9' htw9);clear hT9 hq9 hk9 ht9 hsv9 hq9' hk9' htw9 hy;go_wp2_with fail;rw[HXE.out];go_ret;exact HEE.out
     | false =>
      cases lf5 with
      | true =>
       have HXE:Hid (X=((103,l),R)):=Hd (by
        rw[HX.out];simp only[Rp.joinN,HKI.out,HKK.out,HKK1.out,HLE1.out,if_neg HBIG.out,HLE3.out,HLE5.out,HLEAF3.out,HLEAF5.out]
        simp)
       have HEE:=Hd (HE.out f R B5 103 hTB5 rfl (fun _ h=>.inl h) HTT5.out);clear hTB5;go_upto_region 10 with fail;rw[←HW5.out];go_wp2_with fail;rw[HXE.out];go_ret;exact HEE.out
      | false =>
       obtain⟨g5,cap5,hv5,c5',e5',hm6',ht6'⟩:=HNB5B.out.row.setKey (by have:=HFIT5.out.len;omega) (atK l (k+1));simp only[Value.slice.injEq,true_and] at hv5;obtain⟨rfl,rfl⟩:=hv5;have hg5:=HNB5B.out.row.lt (k:=g5) rfl
       have c5:B5.drew.cell? ⟨g5,0,none⟩=_:=c5';have e5:B5.drew.frozen? ⟨g5,0,none⟩=false:=e5';obtain⟨B6,hB6⟩:∃B6,B6=(B5.setCell ⟨g5,0,none⟩ (.string ⟨(atK l (k+1)).toArray⟩)).drew:=⟨_,rfl⟩;have hm6:Zq B3.heap.size B6 (.slice (some ⟨g5,0,none⟩) nd5.l.length vc5) (Zr (atK l (k+1)) nd5.l):=by rw[hB6];exact hm6'.keep fun _ _ _=>rfl
       have ht56:Zb (·=g5) B5 B6:=by rw[hB6];exact ht6'.drew
       have HTt:=Hd (HTB5.out.own ht56 fun q e=>by
        subst e
        exact⟨HPJ.out _ (by have:=HSZ3.out;omega),fun e=>by have:=HT.out.lp.nib_lt;have:=HSZ3.out;omega,fun e=>by have:=Za HT.out.head;have:=HSZ3.out;omega⟩)
       have HTTt:=Hd (HTT5.out.then ht56 fun i hi e=>by have:=HSZ3.out;omega);have HNt:=Hd (HNB5.out.turned ht56 (fun e=>by have:=HN.out.lt;have:=HSZ3.out;omega) (fun q hq e=>by have:=(HN.out.row.isE_blk hq).2;have:=HSZ3.out;omega));have hb3s:w3.heap.size<B3.heap.size:=Za HBX3.out;have HNAt:=Hd (HNA5.out.turned ht56 (fun e=>by omega) (fun q hq e=>by have:=(HM3.out.isE_blk hq).2;omega));have HNBt:Hid (NdAt B6 B3.heap.size w5.heap.size false (.slice (some ⟨g5,0,none⟩) nd5.l.length vc5) (Zr (atK l (k+1)) nd5.l)):=Hd ⟨(ht56.block _ HNB5B.out.lt fun e=>HNB5B.out.ne (k:=g5) rfl e.symm).trans HNB5B.out.box,hm6,HNB5B.out.low⟩;have HB6:=Hd hB6;have nx1:B5.drew.cell? ⟨nb,1,none⟩=some (.slice (some ⟨g,0,none⟩) l.length cap):=(Zc HNB5.out.box).2;have bx1:B5.drew.cell? ⟨w5.heap.size,1,none⟩=some (.slice (some ⟨g5,0,none⟩) nd5.l.length vc5):=(Zc HNB5B.out.box).2;have cx:B5.drew.cell? ⟨g,(k+1)*3,none⟩=some (.string ⟨(atK l (k+1)).toArray⟩):=(HNB5.out.kid (ix:=k+1) HZ.out.1).1;have q5:(0:Int)<(nd5.l.length:Int):=by omega
       generalize (nd5.l[0]'(by have:=HFIT5.out.len;omega)).key=okey5 at *;clear hTB5 hm6 hm6' ht6' c5' e5' ht56 hB6 hg5 hb3s;go_upto_region 10 with fail;rw[←HW5.out];go_upto_region 13 with fail;clear n1 c2 a0 a1 b0 b1;go_region;rw[←HB6.out];clear nx1 bx1 cx c5 e5;go_upto_region 14 with fail;have hTt:Tr n J seq B B6 F p f R tb:=HTt.out
       have n1:B6.drew.cell? ⟨nb,1,none⟩=some (.slice (some ⟨g,0,none⟩) l.length cap):=(Zc HNt.out.box).2;have ck:B6.drew.cell? ⟨g,k*3+2,none⟩=some (.int .i64 KK):=by have:=(HNt.out.kid (ix:=k) (by have:=HZ.out.1;omega)).2;rw[HKK.out] at this;exact this
       have ck1:B6.drew.cell? ⟨g,(k+1)*3+2,none⟩=some (.int .i64 KK1):=by have:=(HNt.out.kid (ix:=k+1) HZ.out.1).2;rw[HKK1.out] at this;exact this
       go_region;obtain⟨WL,hWL⟩:∃WL,WL=(B6.alloc (.cells #[.int .i64 KK,.int .i64 KK1] 3)).drew:=⟨_,rfl⟩;have hbL:Below B6.heap.size B6 WL:=by rw[hWL];exact((Below.refl _ _).alloc (Nat.le_refl _) _).drew
       have hgL:WL.heap[B6.heap.size]?=some (.cells #[.int .i64 KK,.int .i64 KK1] 3 (0,0)):=by rw[hWL];exact heap_alloc_new B6 _
       rw[←hWL];have HGL:=Hd hgL
       have hTTL:=HTTt.out.trans (Zb.of_below hbL);have HTTL:=Hd hTTL;have HTL:=Hd (HTt.out.step hbL);have HNL:=Hd (HNt.out.below hbL);have HAL:=Hd (HNAt.out.below hbL);have HBL:=Hd (HNBt.out.below hbL);have HSL:=Hd hTTL.size;have HGL2:Hid (w.heap.size≤B6.heap.size):=Hd HTTt.out.size;generalize hgi:B6.heap.size=gi at *;clear hWL hbL hgL n1 ck ck1 hTt hTTL hgi;go_wp2_with fail;go_loopw [111] (fun x wr=>∃(q:Nat) (fq:Pf),q≤2∧x=.int .i64 (q:Int)∧Tr n J seq B wr F p fq (Zbw R KK KK1 q) tb∧Far w WL F p f fq wr∧(1≤q→(R.free KK).1=0)∧(2≤q→((R.free KK).2.free KK1).1=0)) (fun x _=>2 - (intOf x).toNat)
       case atStart=>exact⟨0,f,by omega,rfl,HTL.out,Far.start HTTL.out HPJ.out,fun h=>by omega,fun h=>by omega⟩
       case round =>
        obtain⟨q,fq,hq2,rfl,hTq,hfar,he1,he2⟩:=hrel;have HFAR:=Hd hfar
        have HTQ:=Hd hTq;have hgq:=(hfar.blk gi (Za HGL.out) (HPJ.out _ HGL2.out)).trans HGL.out;have k0:wr.cell? ⟨gi,0,none⟩=some (.int .i64 KK):=by rw[cell_of_row _ _ _ _ _ _ hgq];rfl
        have k1:wr.cell? ⟨gi,1,none⟩=some (.int .i64 KK1):=by rw[cell_of_row _ _ _ _ _ _ hgq];rfl
        have t0:wr.cell? ⟨tb,0,none⟩=some (Xb f.q):=by rw[←hfar.q,cell_of_row _ _ _ _ _ _ hTq.head];rfl
        rcases(show q=0∨q=1∨q=2 by omega) with rfl | rfl | rfl
        ·have HFR:=Hd (Zeu hTq.lp KK (by omega) (by omega))
         rw[hfar.q] at HFR;have HE1:=Hd he1
         obtain⟨Y,hY⟩:∃Y,Y=Rp.free R KK:=⟨_,rfl⟩;have hY2:(Zbw R KK KK1 0).free KK=Y:=hY.symm
         rw[hY2] at HFR;have HY:=Hd hY
         clear hTq hfar he1 he2 hgq hY hY2;go_wp2_with fail;refine HFR.out.mono ?_;rintro e w7 ⟨rfl,hto⟩;obtain⟨f7,hT7,hq7,hk7,ht7⟩:=HTQ.out.to hto;have HFAR7:=Hd (HFAR.out.next hq7 hk7 ht7 HSL.out)
         have HT7:=Hd hT7;clear hto hT7 hq7 hk7 ht7 k0 k1 t0 HFR;by_cases hy:Y.1=0
         ·have hz:(Y.1 != 0)=false:=by rw[hy];rfl
          have HYZ:=Hd hy;clear hy;go_wp2_with fail;go_roundw
          case rel=>exact⟨0+1,f7,by omega,by go_num,by rw[show Zbw R KK KK1 (0+1)=Y.2 by rw[HY.out];rfl];exact HT7.out,HFAR7.out,fun _=>by rw[←HY.out];exact HYZ.out,fun h=>by omega⟩
          case measure=>simp[intOf]
         ·have hz:(Y.1 != 0)=true:=by rw[bne_iff_ne];exact hy
          have HXE:Hid (X=((Y.1,l),Y.2)):=Hd (by
           rw[HX.out,HY.out];rw[HY.out] at hy;simp only[Rp.joinN,HKI.out,HKK.out,HKK1.out,HLE1.out,if_neg HBIG.out,HLE3.out,HLE5.out,HLEAF3.out,HLEAF5.out,ne_eq,not_true_eq_false,if_false]
           rw[if_pos hy])
          have HEE:=Hd (HE.out f7 Y.2 w7 Y.1 HT7.out HFAR7.out.q HFAR7.out.pt HFAR7.out.turn);clear hy;go_wp2_with fail;rw[HXE.out];go_ret;exact HEE.out
        ·have HFR:=Hd (Zeu hTq.lp KK1 (by omega) (by omega))
         rw[hfar.q] at HFR;have HE1:=Hd he1
         obtain⟨Y,hY⟩:∃Y,Y=Rp.free (R.free KK).2 KK1:=⟨_,rfl⟩;have hY2:(Zbw R KK KK1 1).free KK1=Y:=hY.symm
         rw[hY2] at HFR;have HY:=Hd hY
         clear hTq hfar he1 he2 hgq hY hY2;go_wp2_with fail;refine HFR.out.mono ?_;rintro e w7 ⟨rfl,hto⟩;obtain⟨f7,hT7,hq7,hk7,ht7⟩:=HTQ.out.to hto;have HFAR7:=Hd (HFAR.out.next hq7 hk7 ht7 HSL.out)
         have HT7:=Hd hT7;clear hto hT7 hq7 hk7 ht7 k0 k1 t0 HFR;by_cases hy:Y.1=0
         ·have hz:(Y.1 != 0)=false:=by rw[hy];rfl
          have HYZ:=Hd hy;clear hy;go_wp2_with fail;go_roundw
          case rel=>exact⟨1+1,f7,by omega,by go_num,by rw[show Zbw R KK KK1 (1+1)=Y.2 by rw[HY.out];rfl];exact HT7.out,HFAR7.out,fun _=>HE1.out (by omega),fun _=>by rw[←HY.out];exact HYZ.out⟩
          case measure=>simp[intOf]
         ·have hz:(Y.1 != 0)=true:=by rw[bne_iff_ne];exact hy
          have HXE:Hid (X=((Y.1,l),Y.2)):=Hd (by
           rw[HX.out,HY.out];rw[HY.out] at hy;simp only[Rp.joinN,HKI.out,HKK.out,HKK1.out,HLE1.out,if_neg HBIG.out,HLE3.out,HLE5.out,HLEAF3.out,HLEAF5.out,ne_eq,not_true_eq_false,if_false,HE1.out (by omega),if_neg]
           rw[if_pos hy])
          have HEE:=Hd (HE.out f7 Y.2 w7 Y.1 HT7.out HFAR7.out.q HFAR7.out.pt HFAR7.out.turn);clear hy;go_wp2_with fail;rw[HXE.out];go_ret;exact HEE.out
        ·have hna:=hfar.nd HAL.out (HPJ.out _ (by have:=SZ3.out;have:=HSZ2.out;omega)) (fun k hk=>HPJ.out k (by have:=(HAL.out.row.isE_blk hk).1;have:=HSZ2.out;omega))
         have hnbb:=hfar.nd HBL.out (HPJ.out _ (by have:=HBL.out.low;have:=HSZ3.out;omega)) (fun k hk=>HPJ.out k (by have:=(HBL.out.row.isE_blk hk).1;have:=HSZ3.out;omega));obtain⟨hj1,hj2⟩:=joint HFIT3.out HFIT5.out (by rw[HLEAF3.out,HLEAF5.out]) (key:=atK l (k+1)) (Zdu HL.out.few _);obtain⟨v8,w8,hr,hm8,hg8,ho8⟩:=(show Zq w2.heap.size wr.drew (.slice va3 nd3.l.length vc3) nd3.l from hna.row).app (show IsE wr.drew (.slice (some ⟨g5,0,none⟩) nd5.l.length vc5) (Zr (atK l (k+1)) nd5.l) from hnbb.row.isE) (by have:=hfar.size;have:=HSL.out;have:=HFAR.out.turn.size;have:=HTT2.out.size;have:=SZ3.out;have h9:=Za HAL.out.box;show w2.heap.size≤wr.heap.size;omega) (by rw[Qq];omega)
         have hws:w.heap.size≤wr.heap.size:=hfar.turn.size;have hT8':Zb (fun k=>(Value.slice va3 nd3.l.length vc3).ownBlock=some k) wr w8:=⟨hg8.os,hg8.tape,hg8.output,hg8.size,fun k hk hn=>hg8.block k hk fun e=>hn e.symm⟩;have hown3:∀k,(Value.slice va3 nd3.l.length vc3).ownBlock=some k→w.heap.size≤k∧k<WL.heap.size:=fun k hk=>by have:=HAL.out.row.lt hk;have:=HSZ2.out;omega
         have hT8:Tr n J seq B w8 F p fq (Zbw R KK KK1 2) tb:=hTq.own hT8' fun k hk=>⟨hfar.apart k (hown3 k hk).1 (hown3 k hk).2,hTq.row_not hna.row (by have:=HFIT3.out.len;omega) hk⟩;have hb8:w8.heap[w3.heap.size]?=some (ndO false (.slice va3 nd3.l.length vc3)):=(hT8'.block _ hna.lt fun e=>hna.ne e rfl).trans hna.box
         have hsep8:∀k,Zap v8 k→¬PJ F p fq k:=fun k hk=>by
          have hv8:v8.ownBlock=some k:=by obtain⟨x,_,_,e1,e2⟩:=hk;rw[e1,←e2];rfl
          rcases ho8 with ho8 | ho8
          ·rw[ho8] at hv8;exact hfar.apart k (hown3 k hv8).1 (hown3 k hv8).2
          ·rw[ho8] at hv8
           intro e;have:=hTq.lp.lt e
           simp only[Option.some.injEq] at hv8;have h9:wr.drew.heap.size=wr.heap.size:=rfl
           omega
         have ht8w:Zb (PJ F p f) w w8:=hfar.turn.then hT8' fun k hk e=>by have:=hown3 k e;omega
         obtain⟨Y9,hY9⟩:∃Y,Y=(Zbw R KK KK1 2).layL ⟨false,nd3.l++(Zr (atK l (k+1)) nd5.l)⟩:=⟨_,rfl⟩;rw[show (if nd5.leaf then nd5.l else Zr (atK l (k+1)) nd5.l)=(Zr (atK l (k+1)) nd5.l) by rw[HLEAF5.out];rfl] at hj1 hj2
         have HLY:=Hd (Zcr false hT8 hm8.isE (by have:=HFIT3.out.len;have:=HFIT5.out.len;rw[List.length_append];rw[Qq];omega) hj1 hsep8);rw[←hY9] at HLY;have HY9:=Hd hY9
         have HJX:Hid (X=if ¬Y9.1.2=0 then ((Y9.1.2,l),Y9.2) else ((0,l.take k++(Zr (atK l k) Y9.1.1++l.drop (k+2))),Y9.2)):=Hd (by
          rw[HX.out,hY9];simp only[Rp.joinN,HKI.out,HKK.out,HKK1.out,HLE1.out,if_neg HBIG.out,HLE3.out,HLE5.out,HLEAF3.out,HLEAF5.out,ne_eq,not_true_eq_false,if_false,he1 (by omega),he2 (by omega),Bool.false_eq_true,if_false]
          rfl)
         have HJ1:=Hd hj1;obtain⟨a0,a1⟩:=Zc (w:=wr.drew) hna.box;obtain⟨b0,b1⟩:=Zc (w:=wr.drew) hnbb.box;have d0:=(Zc hb8).1;have HT8:=Hd hT8;have HTW8:=Hd ht8w;have HWS8:Hid (w.heap.size≤w8.heap.size):=Hd (Nat.le_trans hws hg8.size);have HR:=Hd hr;have HE1:=Hd (And.intro (he1 (by omega)) (he2 (by omega)));obtain⟨a8,c8,hv8,_,_⟩:=hm8.isE.form;generalize (nd3.l++(Zr (atK l (k+1)) nd5.l)).length=N8 at hv8;subst hv8;clear hTq hfar he1 he2 hgq hna hnbb hj1 hj2 hr hm8 hg8 ho8 hws hT8' hown3 hT8 hb8 hsep8 ht8w hY9 k0 k1 t0;go_upto_region 21 with fail;have hr:=HR.out;go_region_law (first | refine Zcp rfl (.tmp 130) (.tmp 132) 78 78 rfl _ _ _ (by rfl) (by rfl) hr ?_ | (go_simp;go_at_call 39;refine HLY.out.mono ?_;rintro e w9 ⟨v9,rfl,hm9,ht9⟩;have HM9:=Hd hm9;have HT9:=Hd ht9;obtain⟨a9,c9,hv9,_,_⟩:=hm9.isE.form;generalize hN9:Y9.1.1.length=N9 at *;have HN9:=Hd hN9;subst hv9;clear hm9 ht9 hN9))
         all_goals
          clear a0 a1 b0 b1 d0 hr
          obtain⟨f9,hT9,hq9,hk9,ht9,hsv9⟩:=HT9.out
          have hq9':f9.q=f.q:=hq9.trans HFAR.out.q
          have hk9':∀k,PT f9 k→PT f k∨w.heap.size≤k:=fun k h=>(hk9 k h).elim (HFAR.out.pt k) fun e=>.inr (Nat.le_trans HWS8.out e)
          have htw9:Zb (PJ F p f) w w9:=HTW8.out.then ht9 fun i hi hp=>by
           rcases hp with e | e
           ·exact .inl e
           ·rcases HFAR.out.pt i e with e | e
            ·exact .inr e
            ·omega
          by_cases hy:Y9.1.2=0
          ·have hz:(Y9.1.2 != 0)=false:=by rw[hy];rfl
           have HXE:Hid (X=((0,l.take k++(Zr (atK l k) Y9.1.1++l.drop (k+2))),Y9.2)):=Hd (by rw[HJX.out,if_neg (fun h=>h hy)]);have hne:Y9.1.1≠[]:=by rw[HY9.out] at hy ⊢;refine layN_ne _ _ _ (Nat.lt_succ_self _) (fun e=>?_) HJ1.out hy;exact HFIT3.out.some (List.append_eq_nil_iff.1 e).1
           have hlen9:Y9.1.1.length≤1000:=by have:=Zbz (nd3.l.length+(Zr (atK l (k+1)) nd5.l).length+1) (Zbw R KK KK1 2) ⟨false,nd3.l++(Zr (atK l (k+1)) nd5.l)⟩;rw[HY9.out];unfold Rp.layL;dsimp only at this ⊢;rw[List.length_append] at this ⊢;have:=HFIT3.out.len;have:=HFIT5.out.len;simp only[Qq] at *;omega
           have hN9:=HN.out.turned htw9 HP1.out HP2.out;obtain⟨g9,cap9,hv9,c0,e0,hm10,ht10⟩:=HM9.out.setKey (List.length_pos_iff.2 hne) (atK l k);have hg9:=HM9.out.lt (k:=g9) (by rw[hv9];rfl);rw[HN9.out] at hv9;simp only[Value.slice.injEq] at hv9;obtain⟨rfl,_,rfl⟩:=hv9;have hwg:w.heap.size≤g9:=Nat.le_trans HWS8.out hg9.1;have hnlt:=HN.out.lt;have hN10:=hN9.turned ht10 (fun e=>by omega) (fun k hk e=>by have:=(HN.out.row.isE_blk hk).2;omega);have hT10:=hT9.own ht10 fun k e=>by subst e;exact⟨hsv9 _ ⟨_,_,_,rfl,rfl⟩,fun e=>by have:=HT.out.lp.nib_lt;omega,fun e=>by have:=Za HT.out.head;omega⟩
           have hw10:(w9.setCell ⟨g9,0,none⟩ (.string ⟨(atK l k).toArray⟩)).heap.size=w9.heap.size:=by simp[World.setCell]
           have hrep:=Zdv k (k+2) hN10.row hm10 (fun q hq e=>by
            have hq2:g9=q:=by simpa [Value.ownBlock] using hq
            have:=(HN.out.row.lt e).2
            omega) (by omega) (by have:=HZ.out.1;omega) (by rw[hw10];have:=HB.out;have:=htw9.size;omega) (by have:=HL.out.len;omega) (by rw[Qq];omega)
           rw[show ((k+2:Nat):Int)=(k:Int)+2 by omega] at hrep
           have HREP:=Hd hrep;have n1:=(Zc hN9.box).2;have ck:=(hN9.kid (ix:=k) (by have:=HZ.out.1;omega)).1;have n2:=(Zc hN10.box).2;have z2:IntKind.i64.wrap ((k:Int)+2)=(k:Int)+2:=IntWalk.i64_in _ (by have:=HZ.out.1;have:=HL.out.len;omega);have q0:(0:Int)<(N9:Int):=by have:=List.length_pos_iff.2 hne;rw[HN9.out] at this;omega
           have HN10:=Hd hN10;have HT10:=Hd hT10;have HK9:=Hd hk9';have HQ9:=Hd hq9';have HTW:=Hd (htw9.then ht10 fun i hi e=>by omega);have HW10:=Hd hw10;have HLT9:Hid (∀q,PJ F p f9 q→q<w9.heap.size):=Hd fun q e=>hT9.lp.lt e;generalize (Y9.1.1[0]'(List.length_pos_iff.2 hne)).key=okey at *;generalize atK l k=akey at *;obtain⟨w10,hw10e⟩:∃w10,w10=w9.setCell ⟨g9,0,none⟩ (.string ⟨akey.toArray⟩):=⟨_,rfl⟩;rw[←hw10e] at HREP n2 HN10 HT10 HTW HW10;have HW10E:=Hd hw10e;clear hT9 hq9 hk9 ht9 hsv9 hq9' hk9' htw9 hy hN9 hg9 hwg hnlt hN10 hT10 hw10 hrep hm10 ht10 hlen9 hne hw10e;go_upto_region 25 with fail;rw[←HW10E.out];go_wp2_with fail;refine HREP.out.mono ?_;rintro e w11 ⟨v11,rfl,hm11,ht11,ho11⟩;obtain⟨hn12,ht12⟩:=HN10.out.put hm11 ht11;have hb11:w11.heap[nb]?=some (ndO false (.slice (some ⟨g,0,none⟩) l.length cap)):=(ht11.block _ HN10.out.lt fun e=>HN10.out.ne e rfl).trans HN10.out.box;have m1:=(Zc hb11).2;have f1:=Zf hb11 1
           have hT12:=HT10.out.own ht12 fun q e=>by
            rcases e with e | e
            ·subst e;exact⟨Xj (w:=w) HK9.out HP1.out HN.out.lt,HNN.out⟩
            ·simp only[Value.ownBlock,Option.some.injEq] at e;subst e;exact⟨Xj (w:=w) HK9.out (HP2.out _ ⟨_,_,_,rfl,rfl⟩) (HN.out.row.lt (k:=g) rfl).2,HRN.out⟩
           have HEE:Hid (Zfv n J seq B w F p f tb Bn nb (.slice (some ⟨g,0,none⟩) l.length cap) X (.returned (.int .i64 0)) (w11.setCell ⟨nb,1,none⟩ v11)):=Hd (by
            rw[HXE.out];refine⟨rfl,v11,f9,hn12,hT12,HQ9.out,HK9.out,(HTW.out.mono fun k _ h=>.inl h).trans (ht12.mono fun k _ h=>.inr h),Xj (w:=w) HK9.out HP1.out HN.out.lt,fun q hq hp=>?_⟩;have hv11:v11.ownBlock=some q:=by obtain⟨x,_,_,e1,e2⟩:=hq;rw[e1,←e2];rfl
            rcases ho11 with ho11 | ⟨q',ho11,hle⟩
            ·rw[ho11] at hv11
             have hg:g=q:=by simpa [Value.ownBlock] using hv11
             subst hg;exact Xj (w:=w) HK9.out (HP2.out _ ⟨_,_,_,rfl,rfl⟩) (HN.out.row.lt (k:=g) rfl).2 hp
            ·rw[ho11] at hv11
             have hg:q'=q:=by simpa using hv11
             subst hg;have:=HLT9.out _ hp
             have:=HW10.out
             omega)
           obtain⟨a11,c11,hv11,_,_⟩:=hm11.isE.form;generalize (l.take k++(Zr akey Y9.1.1++l.drop (k+2))).length=N11 at hv11;subst hv11;clear hm11 ht11 ho11 hn12 ht12 hb11 hT12;go_wp2_with fail;go_ret;exact HEE.out
          ·have hz:(Y9.1.2 != 0)=true:=by rw[bne_iff_ne];exact hy
           have HXE:Hid (X=((Y9.1.2,l),Y9.2)):=Hd (by rw[HJX.out,if_pos hy]);have HEE:=Hd (HE.out f9 Y9.2 w9 Y9.1.2 hT9 hq9' hk9' htw9);clear hT9 hq9 hk9 ht9 hsv9 hq9' hk9' htw9 hy;go_wp2_with fail;rw[HXE.out];go_ret;exact HEE.out
end
end
section
open Go.RowKit
section
variable {n : Nat} {J : Jn} {seq : Int} {B : List (List UInt8)} {F : Ft} {p : Nat} {tb : Nat}
abbrev chV (fid:Nat) (caps:Array Value):Value:=.func (.func fid) #[] caps
def AnewAt (n:Nat) (J:Jn) (seq:Int) (B:List (List UInt8)) (F:Ft) (p:Nat) (tb:Nat) (fid:Nat) (caps:Array Value) (K:Nat→Prop) (Cs:World→Prop) (c:Chg) (key:List UInt8) (fu:Nat):Prop :=
 ∀(w:World) (f:Pf) (R:Rp) (page:Int),Tr n J seq B w F p f R tb→Cs w→(∀k,K k→¬PJ F p f k)→-9223372036854775808≤page→page≤9223372036854775807 →
  Calls Tryz.prog 81 #[trp tb,.int .i64 page,.string ⟨key.toArray⟩,chV fid caps,.int .i64 (41 - (fu:Int))] w (Zan n J seq B w F p f tb (R.anewN c key fu page))
variable {fid : Nat} {caps : Array Value} {K : Nat → Prop} {Cs : World → Prop} {c : Chg} {key : List UInt8}
theorem anew_zero:AnewAt n J seq B F p tb fid caps K Cs c key 0:=by
 intro w f R page hT hC hK b1 b2;have HEND:Hid (Zan n J seq B w F p f tb (([],103),R) (.returned (.tuple #[.slice none 0 0,.int .i64 103])) w):=Hd ⟨_,rfl,Zq.nil _ _,(Qc.same hT).nil⟩
 have hr:R.anewN c key 0 page=(([],103),R):=rfl;rw[hr];have hd:(41 - ((0:Nat):Int))=41:=by decide
 rw[hd];clear hr hd hT hC hK;go_enter Tryz.func81,Tryz.ntmps81;go_wp2_with fail;go_ret2;exact HEND.out
theorem anew_succ (hch:Chr fid caps K Cs c) (hen:∀(args:Array Value) (w:World),(callFunc fid args).run Tryz.prog w=.ok (.enter fid args) w) (fu:Nat) (hfu:fu≤40) (ih:AnewAt n J seq B F p tb fid caps K Cs c key fu):AnewAt n J seq B F p tb fid caps K Cs c key (fu+1):=by
 intro w f R page hT hC hK pb1 pb2;obtain⟨X,hX⟩:∃X,X=R.anewN c key (fu+1) page:=⟨_,rfl⟩;rw[←hX];have HX:=Hd hX
 obtain⟨D,hD⟩:∃D:Int,D=41 - ((fu+1:Nat):Int):=⟨_,rfl⟩;rw[←hD];have hd1:¬D > 40:=by omega
 have hd2:0≤D:=by omega
 have hd3:D≤40:=by omega
 have hd4:D+1=41 - (fu:Int):=by omega
 have HD4:=Hd hd4;have HCH:=Hd hch;have HIH:=Hd ih;have HT:=Hd hT;have HC:=Hd hC;have HK:=Hd hK;have HLD:=Hd (Zcm hT page pb1 pb2);have HPJ:Hid (∀k,w.heap.size≤k→¬PJ F p f k):=Hd fun k h e=>by have:=hT.lp.lt e;omega
 have HPB:=Hd (And.intro pb1 pb2);have HKS:Hid (∀k,K k→k<w.heap.size):=Hd fun k h=>hch.lt w k hC h;have HGD:=Hd hT.lp.good;clear hX hD hT hC hK hch ih hfu hd4;go_enter Tryz.func81,Tryz.ntmps81;go_wp2_with fail;refine HLD.out.mono ?_;rintro e w1 ⟨lf,va,vk,vc,rfl,hT1,ht1,hnd1⟩;obtain⟨hb1,hbx1,hs1⟩:=nd_box w1 lf (.slice va vk vc);obtain⟨B1,hW1⟩:∃B1,B1=w1.alloc (.cells #[.bool lf,.slice va vk vc] 84):=⟨_,rfl⟩;rw[←hW1] at hb1 hbx1 hs1;have HW1:=Hd hW1;have hTB1:=hT1.step hb1;have htt1:=ht1.trans (Zb.of_below hb1);have HTB1:=Hd hTB1;have HTT1:=Hd htt1
 cases hl1:(R.load page).1 with
 | none =>
  have hne:=Rp.load_none hl1;have hne2:((R.load page).2 != 0)=true:=by rw[bne_iff_ne];exact hne
  have HXE:Hid (X=(([],(R.load page).2),R)):=Hd (by
   obtain⟨E,hh,hE⟩:∃E,R.load page=(none,E)∧E=(R.load page).2:=⟨_,by rw[←hl1],rfl⟩;rw[HX.out,←hE]
   simp only[Rp.anewN,hh])
  have HEE:Hid (Zan n J seq B w F p f tb (([],(R.load page).2),R) (.returned (.tuple #[.slice none 0 0,.int .i64 (R.load page).2])) B1):=Hd ⟨_,rfl,Zq.nil _ _,Qc.nil ⟨f,hTB1,rfl,fun _ h=>.inl h,htt1⟩⟩;clear hT1 ht1 hnd1 hb1 hbx1 hs1 hW1 hl1 hne hTB1 htt1 HLD;go_wp2_with fail;rw[←HW1.out,HXE.out];go_ret2;exact HEE.out
 | some nd =>
  obtain⟨hleaf,hm1⟩:=hnd1 nd hl1;obtain⟨hfit,he1⟩:=hT1.lp.load_fit hl1;have HFIT:=Hd hfit
  have HLEAF:=Hd hleaf;have hm1b:=hm1.below hb1;have hvk:vk=nd.l.length:=by obtain⟨_,_,e,_⟩:=hm1.isE.form;simp only[Value.slice.injEq] at e;exact e.2.1
  subst hvk;have hz1:((R.load page).2 != 0)=false:=by rw[he1];rfl
  have HLE:Hid (R.load page=(some nd,0)):=Hd (by rw[←hl1,←he1]);obtain⟨hln0,hln1⟩:=hfit.len;have hsz1:=ht1.size;have hN1:NdAt B1 w.heap.size w1.heap.size lf (.slice va nd.l.length vc) nd.l:=⟨hbx1,hm1b,hsz1⟩;have HN1:=Hd hN1;have hbe:=behind_any B1 lf va nd.l.length vc hm1b.isE rfl hln0 (by omega) (by have:=hfit.srt;rw[show nd=⟨nd.leaf,nd.l⟩ from rfl,hleaf] at this;exact this) key
  rw[show Nd.mk lf nd.l=nd by rw[←hleaf]] at hbe
  have HBE:=Hd hbe;have hw1n:w.heap.size≤w1.heap.size:=hsz1;rw[he1];clear hT1 ht1 hnd1 hb1 hbx1 hs1 hW1 hl1 hm1 hfit hleaf he1 hm1b hbe hTB1 htt1 HLD hsz1 hN1;go_wp2_with fail;rw[←HW1.out];refine HBE.out.mono ?_;rintro e w2 ⟨rfl,hb2⟩;have hT2:=HTB1.out.step hb2;have htt2:=HTT1.out.trans (Zb.of_below hb2);have hN2:=HN1.out.below hb2;have HT2:=Hd hT2;have HTT2:=Hd htt2;have HN2:=Hd hN2;have hC2:=HCH.out.keep _ _ _ HC.out htt2 HK.out;have HC2:=Hd hC2;obtain⟨m0,m1⟩:=Zc hN2.box;clear HBE
  cases lf with
  | true =>
   obtain⟨bl1,bl2⟩:=Zbh HLEAF.out key;obtain⟨IX,hIX⟩:∃IX,IX=nd.behind key:=⟨_,rfl⟩;rw[←hIX] at bl1 bl2 ⊢;have HIX:=Hd hIX
   have HRUN:=Hd (HCH.out.run w2 w.heap.size w1.heap.size (.slice va nd.l.length vc) nd.l IX.1 IX.2 HC2.out HN2.out bl1 bl2 (by omega) HTT2.out.size);obtain⟨hcf,hcs⟩:=HCH.out.ok nd.l IX.1 IX.2 HFIT.out.few (by have:=HFIT.out.sum;unfold Nd.sum at this;rw[HLEAF.out] at this;exact this) bl1 bl2;have HFW:Hid (∀e∈c nd.l IX.1 IX.2,e.few):=Hd hcf;have HLW:Hid ((c nd.l IX.1 IX.2).length≤1000):=Hd (by have:=Zav true (c nd.l IX.1 IX.2) 0;omega)
   have HXW:Hid (X=R.relay page ⟨true,c nd.l IX.1 IX.2⟩):=Hd (by
    rw[HX.out,hIX]
    simp only[Rp.anewN,HLE.out,if_pos HLEAF.out])
   clear hT2 htt2 hN2 hC2 hb2 hIX bl1 bl2 hcf hcs;generalize IX.2=IS at *;generalize IX.1=II at *;go_wp2_with fail;refine HRUN.out.mono ?_;rintro e w3 ⟨rfl,v3,hn3,ht3,ho3⟩;have hpj2:¬PJ F p f w1.heap.size:=HPJ.out _ hw1n
   have HT3:=Hd (HT2.out.own ht3 fun k e=>by
    rcases e with e | e
    ·subst e;exact⟨hpj2,HT2.out.nd_not HN2.out⟩
    ·exact⟨HPJ.out _ (HN2.out.row.lt e).1,HT2.out.row_not HN2.out.row hln0 e⟩)
   have HNW:=Hd hn3
   have HTTW:=Hd (HTT2.out.then ht3 fun i hi e=>by
    rcases e with e | e
    ·omega
    ·have:=(HN2.out.row.lt e).1;omega)
   have HTW:=HT3;have HAW:Hid (¬PJ F p f w1.heap.size∧∀k,Zap v3 k→¬PJ F p f k):=Hd ⟨hpj2,fun k hk=>HPJ.out k (hn3.row.isE_blk hk).1⟩;clear hn3 ht3 ho3 hpj2 m0 m1 hen;have HFR:=Hd (Zfs HTW.out page HPB.out.1 HPB.out.2);go_wp2_with fail;refine HFR.out.mono ?_;rintro e w7 ⟨rfl,hto7⟩;obtain⟨f7,hT7,hq7,hk7,ht7⟩:=hto7;have hN7:=HNW.out.turned ht7 HAW.out.1 HAW.out.2;have HN7:=Hd hN7;have HT7:=Hd hT7
   have HC7:Hid (f7.q=f.q∧(∀k,PT f7 k→PT f k∨w.heap.size≤k)∧Zb (PJ F p f) w w7∧w.heap.size≤w7.heap.size):=Hd ⟨hq7.trans rfl,fun k h=>(hk7 k h).elim ((fun q (h:PT f q)=>(Or.inl h:PT f q∨w.heap.size≤q)) k) fun e=>.inr (by have:=HTTW.out.size;omega),HTTW.out.then ht7 (fun i hi hp=>by
    rcases hp with e | e
    ·exact .inl e
    ·rcases(fun q (h:PT f q)=>(Or.inl h:PT f q∨w.heap.size≤q)) i e with e | e
     ·exact .inr e
     ·omega),Nat.le_trans HTTW.out.size ht7.size⟩
   have HA7:Hid (∀k,Zap v3 k→¬PJ F p f7 k):=Hd fun k hk=>Xj (w:=w3) hk7 (HAW.out.2 k hk) (HNW.out.row.isE_blk hk).2;by_cases hy:(R.freeT page).1=0
   ·have hz:((R.freeT page).1 != 0)=false:=by rw[hy];rfl
    have HXL:Hid (X=(R.freeT page).2.layL ⟨true,c nd.l II IS⟩):=Hd (by rw[HXW.out,Rp.relay,if_neg (fun h=>h hy)]);have HLY:=Hd (Zcr true hT7 hN7.row.isE (by have:=HLW.out;omega) HFW.out HA7.out);rw[←HXL.out] at HLY;obtain⟨n0,n1⟩:=Zc hN7.box;clear hT7 hq7 hk7 ht7 hN7 hy HFR;generalize (R.freeT page).1=EF at *;go_wp2_with fail;refine HLY.out.mono ?_;rintro e w9 ⟨v9,rfl,hm9,ht9⟩;have HEE:Hid (Zan n J seq B w F p f tb X (.returned (.tuple #[v9,.int .i64 X.1.2])) w9):=Hd ⟨v9,rfl,hm9.low HC7.out.2.2.2,TrV.then HC7.out.1 HC7.out.2.1 HC7.out.2.2.1 ht9⟩;clear hm9 ht9;go_wp2_with fail;go_ret2;exact HEE.out
   ·have hz:((R.freeT page).1 != 0)=true:=by rw[bne_iff_ne];exact hy
    have HXE:Hid (X=(([],(R.freeT page).1),(R.freeT page).2)):=Hd (by rw[HXW.out,Rp.relay,if_pos hy]);have HEE:Hid (Zan n J seq B w F p f tb (([],(R.freeT page).1),(R.freeT page).2) (.returned (.tuple #[.slice none 0 0,.int .i64 (R.freeT page).1])) w7):=Hd ⟨_,rfl,Zq.nil _ _,Qc.nil ⟨f7,HT7.out,HC7.out.1,HC7.out.2.1,HC7.out.2.2.1⟩⟩;clear hT7 hq7 hk7 ht7 hN7 hy HFR;go_wp2_with fail;rw[HXE.out];go_ret2;exact HEE.out
  | false =>
   have hll:=Zdz HFIT.out.some HLEAF.out key;obtain⟨II,hII⟩:∃II,II=(nd.behind key).1:=⟨_,rfl⟩;rw[←hII] at hll ⊢;have HII:=Hd hII
   obtain⟨g,rfl⟩:∃g,va=some ⟨g,0,none⟩:=by
    rcases hN2.row.form with ⟨_,e⟩ | ⟨g,cap,e,_⟩
    ·rw[e] at hln0;simp at hln0
    ·simp only[Value.slice.injEq] at e;exact⟨g,e.1⟩
   obtain⟨k0,k2⟩:=hN2.kid (ix:=II) hll;have kf:=Zec HFIT.out.few II
   have hi0:(0:Int)≤(II:Int):=by omega
   have hi1:(II:Int)<(nd.l.length:Int):=by omega
   obtain⟨KD,hKD⟩:∃KD,KD=Zn nd.l II:=⟨_,rfl⟩;rw[←hKD] at k2 kf;have HKD:=Hd hKD
   have hih:=HIH.out w2 f R KD hT2 hC2 HK.out (by omega) (by omega);rw[←HD4.out] at hih;have HREC:=Hd hih;obtain⟨hg1,hg2,hg3⟩:=Zfw HCH.out.ok key fu KD HGD.out;obtain⟨Y,hY⟩:∃Y,Y=R.anewN c key fu KD:=⟨_,rfl⟩;rw[←hY] at HREC hg1 hg2 hg3;have HY:=Hd hY;have HG:=Hd (And.intro hg1 hg2);have hlow:(atK nd.l II).length≤80:=Zdu HFIT.out.few II;obtain⟨low,hlw⟩:∃low,low=atK nd.l II:=⟨_,rfl⟩;rw[←hlw] at k0 hlow;have HLW2:=Hd hlw
   have HXN:Hid (X=if Y.1.2≠0 then (([],Y.1.2),Y.2) else if Y.1.1.length=1∧1<(Yr nd.l Y.1.1 II).length then (if (Y.2.joinN (Yr nd.l Y.1.1 II) (min II ((Yr nd.l Y.1.1 II).length - 2)) II).1.1≠0 then (([],(Y.2.joinN (Yr nd.l Y.1.1 II) (min II ((Yr nd.l Y.1.1 II).length - 2)) II).1.1),(Y.2.joinN (Yr nd.l Y.1.1 II) (min II ((Yr nd.l Y.1.1 II).length - 2)) II).2) else (Y.2.joinN (Yr nd.l Y.1.1 II) (min II ((Yr nd.l Y.1.1 II).length - 2)) II).2.relay page ⟨false,(Y.2.joinN (Yr nd.l Y.1.1 II) (min II ((Yr nd.l Y.1.1 II).length - 2)) II).1.2⟩) else Y.2.relay page ⟨false,Yr nd.l Y.1.1 II⟩):=Hd (by
    rw[HX.out,hY,hKD,hII]
    simp only[Rp.anewN,HLE.out,HLEAF.out,Bool.false_eq_true,if_false])
   have hsum:Zg false 0 nd.l≤893:=by have:=HFIT.out.sum;unfold Nd.sum at this;rw[HLEAF.out] at this;exact this
   have HROW:Hid (Rowy (893+83*Y.1.1.length) (Yr nd.l Y.1.1 II)):=Hd ⟨merge_few _ _ HFIT.out.few hg2 (by rw[←hlw];exact hlow),by
    have:=Zfo (l:=nd.l) II (II+1) (by omega) (by omega) hg2 (key:=atK nd.l II) (by rw[←hlw];exact hlow);unfold Yr
    omega⟩
   clear hT2 htt2 hN2 hC2 hb2 hII hKD hih hY hg1 hlw hsum hen;go_wp2_with fail;refine HREC.out.mono ?_;rintro e w3 ⟨v3,rfl,hm3,ht3v⟩;obtain⟨f3,hT3,hq3,hk3,ht3,hsv3⟩:=ht3v;have hsz3:=ht3.size
   have hnlt:=HN2.out.lt;have hk3':∀k,PT f3 k→PT f k∨w.heap.size≤k:=fun k h=>(hk3 k h).elim .inl fun e=>.inr (by have:=HTT2.out.size;omega);have htt3:=HTT2.out.trans ht3;have hN3:=HN2.out.turned ht3 (HPJ.out _ hw1n) (fun k hk=>HPJ.out k (HN2.out.row.isE_blk hk).1);have hp3:¬PJ F p f3 w1.heap.size:=Xj (w:=w2) hk3 (HPJ.out _ hw1n) hnlt;have hpg:¬PJ F p f3 g:=Xj (w:=w2) hk3 (HPJ.out _ (HN2.out.row.lt (k:=g) rfl).1) (HN2.out.row.lt (k:=g) rfl).2;by_cases hy:Y.1.2=0
   ·have hz:(Y.1.2 != 0)=false:=by rw[hy];rfl
    have HHY:=Hd hy;obtain⟨a3,c3,hv3,_,_⟩:=hm3.isE.form;by_cases hem:Y.1.1=[]
    ·have hem0:Y.1.1=[]:=hem
     have hlen0:Y.1.1.length=0:=by rw[hem0];rfl
     have HLEN0:=Hd hlen0;have hm4:Zq w2.heap.size w3 v3 (Zr low Y.1.1):=by rw[hem0] at hm3 ⊢;exact hm3
     have hN4:=hN3;have hT4:=hT3;have htt4:=htt3;rw[hlen0] at hv3;subst hv3;have hlM:(Zr low Y.1.1).length≤4:=by rw[Qq];exact hg3
     have hrep:=Zdv II (II+1) hN4.row hm4 (fun q hq e=>by
      have h1:=(hm4.lt hq).1;have h2:=(HN2.out.row.lt e).2
      omega) (by omega) (by omega) (by have:=htt4.size;omega) (by omega) (by omega)
     rw[show ((II+1:Nat):Int)=(II:Int)+1 by omega] at hrep
     obtain⟨L6,hL6⟩:∃L6,L6=Yr nd.l Y.1.1 II:=⟨_,rfl⟩;rw[show nd.l.take II++(Zr low Y.1.1++nd.l.drop (II+1))=L6 by rw[hL6,HLW2.out];rfl] at hrep
     have HREP:=Hd hrep;have HL6:=Hd hL6;have HROW6:Hid (Rowy (893+83*Y.1.1.length) L6):=Hd (by rw[hL6];exact HROW.out);have n1:=(Zc hN4.box).2;have z2:IntKind.i64.wrap ((II:Int)+1)=(II:Int)+1:=IntWalk.i64_in _ (by omega);have HN4:=Hd hN4;have HT4:=Hd hT4;have HTT4:=Hd htt4;have HQ3:Hid (f3.q=f.q):=Hd hq3;have HK3:=Hd hk3';have HP3:Hid (¬PJ F p f3 w1.heap.size∧¬PJ F p f3 g):=Hd ⟨hp3,hpg⟩;have HLT4:Hid (∀q,PJ F p f3 q→q<w3.heap.size):=Hd fun q e=>hT4.lp.lt e;have HG3:=Hd hg3;clear hrep hL6 hN4 hT4 htt4 hq3 hk3' hp3 hpg hm4 hlM hm3 hT3 hk3 ht3 hsv3 htt3 hN3 hem hem0 hlen0;go_upto_region 15 with fail;go_wp2_with fail;refine HREP.out.mono ?_;rintro e w5 ⟨v5,rfl,hm5,ht5,ho5⟩;obtain⟨hn6,ht6⟩:=HN4.out.put hm5 ht5;have hb5:w5.heap[w1.heap.size]?=some (ndO false (.slice (some ⟨g,0,none⟩) nd.l.length vc)):=(ht5.block _ HN4.out.lt fun e=>HN4.out.ne e rfl).trans HN4.out.box;have m1:=(Zc hb5).2;have f1:=Zf hb5 1
     have HTW:=Hd (HT4.out.own ht6 fun q e=>by
      rcases e with e | e
      ·subst e;exact⟨HP3.out.1,HT4.out.nd_not HN4.out⟩
      ·have hgq:g=q:=by simpa [Value.ownBlock] using e
       subst hgq
       exact⟨HP3.out.2,HT4.out.row_not HN4.out.row hln0 (k:=g) rfl⟩)
     have HNW:=Hd hn6
     have HTTW:=Hd (HTT4.out.then ht6 fun i hi e=>by
      rcases e with e | e
      ·omega
      ·have:=(HN4.out.row.lt e).1;omega)
     have HAW:Hid (¬PJ F p f3 w1.heap.size∧∀k,Zap v5 k→¬PJ F p f3 k):=Hd ⟨HP3.out.1,fun q hq hp=>by
      have hv5:v5.ownBlock=some q:=by obtain⟨x,_,_,e1,e2⟩:=hq;rw[e1,←e2];rfl
      rcases ho5 with ho5 | ⟨q',ho5,hle⟩
      ·rw[ho5] at hv5
       have hgq:g=q:=by simpa [Value.ownBlock] using hv5
       subst hgq;exact HP3.out.2 hp
      ·rw[ho5] at hv5
       have hgq:q'=q:=by simpa using hv5
       subst hgq;have:=HLT4.out _ hp
       omega⟩
     have HSL:Hid (∃a5 c5,v5=.slice a5 L6.length c5):=Hd (by
      obtain⟨a5,c5,hv5,_,_⟩:=hm5.isE.form
      exact⟨a5,c5,hv5⟩)
     obtain⟨a5,c5,hv5⟩:=HSL.out;obtain⟨N6,hN6⟩:∃N6,N6=L6.length:=⟨_,rfl⟩;rw[←hN6] at hv5;have HN6:=Hd hN6
     have hN6b:N6≤1000:=by rw[hN6];have:=HROW6.out.len;have:=HG3.out;omega
     subst hv5;clear hm5 ht5 ho5 hn6 ht6 hb5 hN6;have HFW:Hid (∀e∈L6,e.few):=Hd HROW6.out.few
     have HLW:Hid (L6.length≤1000):=Hd (by rw[←HN6.out];exact hN6b);have HXW:Hid (X=Y.2.relay page ⟨false,L6⟩):=Hd (by rw[HXN.out,if_neg (fun h=>h HHY.out),if_neg (fun h=>by have:=HLEN0.out;have:=h.1;omega),←HL6.out]);have HFR:=Hd (Zfs HTW.out page HPB.out.1 HPB.out.2);go_wp2_with fail;refine HFR.out.mono ?_;rintro e w7 ⟨rfl,hto7⟩;obtain⟨f7,hT7,hq7,hk7,ht7⟩:=hto7;have hN7:=HNW.out.turned ht7 HAW.out.1 HAW.out.2;have HN7:=Hd hN7;have HT7:=Hd hT7
     have HC7:Hid (f7.q=f.q∧(∀k,PT f7 k→PT f k∨w.heap.size≤k)∧Zb (PJ F p f) w w7∧w.heap.size≤w7.heap.size):=Hd ⟨hq7.trans HQ3.out,fun k h=>(hk7 k h).elim (HK3.out k) fun e=>.inr (by have:=HTTW.out.size;omega),HTTW.out.then ht7 (fun i hi hp=>by
      rcases hp with e | e
      ·exact .inl e
      ·rcases HK3.out i e with e | e
       ·exact .inr e
       ·omega),Nat.le_trans HTTW.out.size ht7.size⟩
     have HA7:Hid (∀k,Zap (.slice a5 N6 c5) k→¬PJ F p f7 k):=Hd fun k hk=>Xj (w:=(w5.setCell ⟨w1.heap.size,1,none⟩ (.slice a5 N6 c5))) hk7 (HAW.out.2 k hk) (HNW.out.row.isE_blk hk).2;by_cases hy:(Y.2.freeT page).1=0
     ·have hz:((Y.2.freeT page).1 != 0)=false:=by rw[hy];rfl
      have HXL:Hid (X=(Y.2.freeT page).2.layL ⟨false,L6⟩):=Hd (by rw[HXW.out,Rp.relay,if_neg (fun h=>h hy)]);have HLY:=Hd (Zcr false hT7 hN7.row.isE (by have:=HLW.out;omega) HFW.out HA7.out);rw[←HXL.out] at HLY;obtain⟨n0,n1⟩:=Zc hN7.box;clear hT7 hq7 hk7 ht7 hN7 hy HFR;generalize (Y.2.freeT page).1=EF at *;go_wp2_with fail;refine HLY.out.mono ?_;rintro e w9 ⟨v9,rfl,hm9,ht9⟩;have HEE:Hid (Zan n J seq B w F p f tb X (.returned (.tuple #[v9,.int .i64 X.1.2])) w9):=Hd ⟨v9,rfl,hm9.low HC7.out.2.2.2,TrV.then HC7.out.1 HC7.out.2.1 HC7.out.2.2.1 ht9⟩;clear hm9 ht9;go_wp2_with fail;go_ret2;exact HEE.out
     ·have hz:((Y.2.freeT page).1 != 0)=true:=by rw[bne_iff_ne];exact hy
      have HXE:Hid (X=(([],(Y.2.freeT page).1),(Y.2.freeT page).2)):=Hd (by rw[HXW.out,Rp.relay,if_pos hy]);have HEE:Hid (Zan n J seq B w F p f tb (([],(Y.2.freeT page).1),(Y.2.freeT page).2) (.returned (.tuple #[.slice none 0 0,.int .i64 (Y.2.freeT page).1])) w7):=Hd ⟨_,rfl,Zq.nil _ _,Qc.nil ⟨f7,HT7.out,HC7.out.1,HC7.out.2.1,HC7.out.2.2.1⟩⟩;clear hT7 hq7 hk7 ht7 hN7 hy HFR;go_wp2_with fail;rw[HXE.out];go_ret2;exact HEE.out
    ·have hne0:=List.length_pos_iff.2 hem
     obtain⟨g3,cap3,hv3',c0,e0,hm4,ht4⟩:=hm3.setKey hne0 low;have hg3b:=hm3.lt (k:=g3) (by rw[hv3'];rfl)
     have hsv3g:¬PJ F p f3 g3:=hsv3 _ ⟨_,_,_,hv3',rfl⟩;obtain⟨N3,hN3e⟩:∃N3,N3=Y.1.1.length:=⟨_,rfl⟩;rw[←hN3e] at hv3 hv3';rw[hv3] at hv3';simp only[Value.slice.injEq,true_and] at hv3';obtain⟨rfl,rfl⟩:=hv3';have HN3E:=Hd hN3e;subst hv3;have hw2s:=HTT2.out.size;have hN4:=hN3.turned ht4 (fun e=>by omega) (fun q hq e=>by have:=(HN2.out.row.isE_blk hq).2;omega);have hT4:=hT3.own ht4 fun q e=>by subst e;exact⟨hsv3g,fun e=>by have:=HT.out.lp.nib_lt;omega,fun e=>by have:=Za HT.out.head;omega⟩
     have htt4:=htt3.then ht4 fun i hi e=>by omega
     obtain⟨w4,hw4⟩:∃w4,w4=w3.setCell ⟨g3,0,none⟩ (.string ⟨low.toArray⟩):=⟨_,rfl⟩;rw[←hw4] at hm4 hN4 hT4 htt4;have HW4:=Hd hw4
     have q0:(0:Int)<(N3:Int):=by omega
     have q3:(N3:Int)≤4:=by omega
     generalize (Y.1.1[0]'hne0).key=okey at *;have hlM:(Zr low Y.1.1).length≤4:=by rw[Qq];exact hg3
     have hrep:=Zdv II (II+1) hN4.row hm4 (fun q hq e=>by
      have h1:=(hm4.lt hq).1;have h2:=(HN2.out.row.lt e).2
      omega) (by omega) (by omega) (by have:=htt4.size;omega) (by omega) (by omega)
     rw[show ((II+1:Nat):Int)=(II:Int)+1 by omega] at hrep
     obtain⟨L6,hL6⟩:∃L6,L6=Yr nd.l Y.1.1 II:=⟨_,rfl⟩;rw[show nd.l.take II++(Zr low Y.1.1++nd.l.drop (II+1))=L6 by rw[hL6,HLW2.out];rfl] at hrep
     have HREP:=Hd hrep;have HL6:=Hd hL6;have HROW6:Hid (Rowy (893+83*Y.1.1.length) L6):=Hd (by rw[hL6];exact HROW.out);have n1:=(Zc hN4.box).2;have z2:IntKind.i64.wrap ((II:Int)+1)=(II:Int)+1:=IntWalk.i64_in _ (by omega);have HN4:=Hd hN4;have HT4:=Hd hT4;have HTT4:=Hd htt4;have HQ3:Hid (f3.q=f.q):=Hd hq3;have HK3:=Hd hk3';have HP3:Hid (¬PJ F p f3 w1.heap.size∧¬PJ F p f3 g):=Hd ⟨hp3,hpg⟩;have HLT4:Hid (∀q,PJ F p f3 q→q<w4.heap.size):=Hd fun q e=>hT4.lp.lt e;have HG3:=Hd hg3;clear hrep hL6 hN4 hT4 htt4 hq3 hk3' hp3 hpg hm4 hlM hm3 hT3 hk3 ht3 hsv3 htt3 hN3 hem hne0 ht4 hg3b hsv3g hw4 hN3e;go_upto_region 15 with fail;rw[←HW4.out];go_wp2_with fail;refine HREP.out.mono ?_;rintro e w5 ⟨v5,rfl,hm5,ht5,ho5⟩;obtain⟨hn6,ht6⟩:=HN4.out.put hm5 ht5;have hb5:w5.heap[w1.heap.size]?=some (ndO false (.slice (some ⟨g,0,none⟩) nd.l.length vc)):=(ht5.block _ HN4.out.lt fun e=>HN4.out.ne e rfl).trans HN4.out.box;have m1:=(Zc hb5).2;have f1:=Zf hb5 1
     have HTW:=Hd (HT4.out.own ht6 fun q e=>by
      rcases e with e | e
      ·subst e;exact⟨HP3.out.1,HT4.out.nd_not HN4.out⟩
      ·have hgq:g=q:=by simpa [Value.ownBlock] using e
       subst hgq
       exact⟨HP3.out.2,HT4.out.row_not HN4.out.row hln0 (k:=g) rfl⟩)
     have HNW:=Hd hn6
     have HTTW:=Hd (HTT4.out.then ht6 fun i hi e=>by
      rcases e with e | e
      ·omega
      ·have:=(HN4.out.row.lt e).1;omega)
     have HAW:Hid (¬PJ F p f3 w1.heap.size∧∀k,Zap v5 k→¬PJ F p f3 k):=Hd ⟨HP3.out.1,fun q hq hp=>by
      have hv5:v5.ownBlock=some q:=by obtain⟨x,_,_,e1,e2⟩:=hq;rw[e1,←e2];rfl
      rcases ho5 with ho5 | ⟨q',ho5,hle⟩
      ·rw[ho5] at hv5
       have hgq:g=q:=by simpa [Value.ownBlock] using hv5
       subst hgq;exact HP3.out.2 hp
      ·rw[ho5] at hv5
       have hgq:q'=q:=by simpa using hv5
       subst hgq;have:=HLT4.out _ hp
       omega⟩
     have HSL:Hid (∃a5 c5,v5=.slice a5 L6.length c5):=Hd (by
      obtain⟨a5,c5,hv5,_,_⟩:=hm5.isE.form
      exact⟨a5,c5,hv5⟩)
     obtain⟨a5,c5,hv5⟩:=HSL.out;obtain⟨N6,hN6⟩:∃N6,N6=L6.length:=⟨_,rfl⟩;rw[←hN6] at hv5;have HN6:=Hd hN6
     have hN6b:N6≤1000:=by rw[hN6];have:=HROW6.out.len;have:=HG3.out;omega
     subst hv5;clear hm5 ht5 ho5 hn6 ht6 hb5 hN6;by_cases hj:N3=1∧1<N6
     ·obtain⟨hj1,hj2⟩:=hj
      have HJ1:=Hd hj1;have HJ2:=Hd hj2;have hlen6:N6=nd.l.length:=by rw[HN6.out,HL6.out,Yr,List.length_append,List.length_append,Qq,←HN3E.out,hj1,List.length_take,List.length_drop];omega
      obtain⟨KM,hKM⟩:∃KM,KM=min II (N6 - 2):=⟨_,rfl⟩;have hjn:=join_any HTW.out HNW.out HTTW.out.size HAW.out.1 HAW.out.2 ⟨HROW6.out.few,by have:=HROW6.out.sum;rw[←HN3E.out,hj1] at this;exact this⟩ KM II (by rw[←HN6.out];omega) (by rw[←HN6.out];omega)
      have hmin:min (II:Int) ((N6:Int) - 2)=(KM:Int):=by omega
      obtain⟨Z,hZ⟩:∃Z,Z=Y.2.joinN L6 KM II:=⟨_,rfl⟩;rw[←hZ] at hjn;have HZ:=Hd hZ
      have HJN:=Hd hjn;have HKM:=Hd hKM;have d1:decide ((N6:Int) > 1)=true:=decide_eq_true (by omega);have d2:(1:Int)<(N6:Int):=by omega
      have zz:((N3:Int)==1)=true:=by rw[beq_iff_eq];omega
      have z6:IntKind.i64.wrap ((N6:Int) - 2)=(N6:Int) - 2:=IntWalk.i64_in _ (by omega);have hjb:=Zgd HG.out.1 (l:=L6) (s:=976) ⟨HROW6.out.few,by have:=HROW6.out.sum;rw[←HN3E.out,hj1] at this;exact this⟩ (k:=KM) (i:=II) (by rw[←HN6.out];omega);rw[←hZ] at hjb;have HJB:=Hd hjb
      have HXJ:Hid (X=if Z.1.1≠0 then (([],Z.1.1),Z.2) else Z.2.relay page ⟨false,Z.1.2⟩):=Hd (by
       have e1:Y.1.1.length=1:=by rw[←HN3E.out];exact hj1
       rw[HXN.out,if_neg (fun h=>h HHY.out),←HL6.out,←HN6.out,←hKM,←hZ,if_pos ⟨e1,hj2⟩])
      clear hj1 hj2 hlen6 hjn hZ hKM hjb;go_wp2_with fail;refine HJN.out.mono ?_;rintro e w6 ⟨rfl,v6,f6,hN6',hT6,hq6,hk6,ht6,hp6,hs6⟩;have HQ6:Hid (f6.q=f.q):=Hd (hq6.trans HQ3.out)
      have HK6:Hid (∀k,PT f6 k→PT f k∨w.heap.size≤k):=Hd fun k h=>(hk6 k h).elim (HK3.out k) fun e=>.inr (Nat.le_trans HTTW.out.size e);have HTTV:=HTTW;clear HTTW
      have HTTW:Hid (Zb (PJ F p f) w w6):=Hd (HTTV.out.then ht6 fun i hi e=>by
       rcases e with e | e | e
       ·rcases e with e | e
        ·exact .inl e
        ·rcases HK3.out i e with e | e
         ·exact .inr e
         ·omega
       ·omega
       ·have:=(HNW.out.row.lt e).1;omega)
      clear HTW HNW HAW;have HTW:=Hd hT6
      have HNW:=Hd hN6';have HAW:Hid (¬PJ F p f6 w1.heap.size∧∀k,Zap v6 k→¬PJ F p f6 k):=Hd ⟨hp6,hs6⟩;clear hN6' hT6 hq6 hk6 ht6 hp6 hs6;by_cases hyj:Z.1.1=0
      ·have hz:(Z.1.1 != 0)=false:=by rw[hyj];rfl
       have HFW:Hid (∀e∈Z.1.2,e.few):=Hd HJB.out.2.few;have HLW:Hid (Z.1.2.length≤1000):=Hd (by have:=HJB.out.2.len;omega);have HXW:Hid (X=Z.2.relay page ⟨false,Z.1.2⟩):=Hd (by rw[HXJ.out,if_neg (fun h=>h hyj)]);clear hyj;have HFR:=Hd (Zfs HTW.out page HPB.out.1 HPB.out.2);go_wp2_with fail;refine HFR.out.mono ?_;rintro e w7 ⟨rfl,hto7⟩;obtain⟨f7,hT7,hq7,hk7,ht7⟩:=hto7;have hN7:=HNW.out.turned ht7 HAW.out.1 HAW.out.2;have HN7:=Hd hN7;have HT7:=Hd hT7
       have HC7:Hid (f7.q=f.q∧(∀k,PT f7 k→PT f k∨w.heap.size≤k)∧Zb (PJ F p f) w w7∧w.heap.size≤w7.heap.size):=Hd ⟨hq7.trans HQ6.out,fun k h=>(hk7 k h).elim (HK6.out k) fun e=>.inr (by have:=HTTW.out.size;omega),HTTW.out.then ht7 (fun i hi hp=>by
        rcases hp with e | e
        ·exact .inl e
        ·rcases HK6.out i e with e | e
         ·exact .inr e
         ·omega),Nat.le_trans HTTW.out.size ht7.size⟩
       have HA7:Hid (∀k,Zap v6 k→¬PJ F p f7 k):=Hd fun k hk=>Xj (w:=w6) hk7 (HAW.out.2 k hk) (HNW.out.row.isE_blk hk).2;by_cases hy:(Z.2.freeT page).1=0
       ·have hz:((Z.2.freeT page).1 != 0)=false:=by rw[hy];rfl
        have HXL:Hid (X=(Z.2.freeT page).2.layL ⟨false,Z.1.2⟩):=Hd (by rw[HXW.out,Rp.relay,if_neg (fun h=>h hy)]);have HLY:=Hd (Zcr false hT7 hN7.row.isE (by have:=HLW.out;omega) HFW.out HA7.out);rw[←HXL.out] at HLY;obtain⟨n0,n1⟩:=Zc hN7.box;clear hT7 hq7 hk7 ht7 hN7 hy HFR;generalize (Z.2.freeT page).1=EF at *;go_wp2_with fail;refine HLY.out.mono ?_;rintro e w9 ⟨v9,rfl,hm9,ht9⟩;have HEE:Hid (Zan n J seq B w F p f tb X (.returned (.tuple #[v9,.int .i64 X.1.2])) w9):=Hd ⟨v9,rfl,hm9.low HC7.out.2.2.2,TrV.then HC7.out.1 HC7.out.2.1 HC7.out.2.2.1 ht9⟩;clear hm9 ht9;go_wp2_with fail;go_ret2;exact HEE.out
       ·have hz:((Z.2.freeT page).1 != 0)=true:=by rw[bne_iff_ne];exact hy
        have HXE:Hid (X=(([],(Z.2.freeT page).1),(Z.2.freeT page).2)):=Hd (by rw[HXW.out,Rp.relay,if_pos hy]);have HEE:Hid (Zan n J seq B w F p f tb (([],(Z.2.freeT page).1),(Z.2.freeT page).2) (.returned (.tuple #[.slice none 0 0,.int .i64 (Z.2.freeT page).1])) w7):=Hd ⟨_,rfl,Zq.nil _ _,Qc.nil ⟨f7,HT7.out,HC7.out.1,HC7.out.2.1,HC7.out.2.2.1⟩⟩;clear hT7 hq7 hk7 ht7 hN7 hy HFR;go_wp2_with fail;rw[HXE.out];go_ret2;exact HEE.out
      ·have hz:(Z.1.1 != 0)=true:=by rw[bne_iff_ne];exact hyj
       have HXE:Hid (X=(([],Z.1.1),Z.2)):=Hd (by rw[HXJ.out,if_pos hyj]);have HEE:Hid (Zan n J seq B w F p f tb (([],Z.1.1),Z.2) (.returned (.tuple #[.slice none 0 0,.int .i64 Z.1.1])) w6):=Hd ⟨_,rfl,Zq.nil _ _,Qc.nil ⟨f6,HTW.out,HQ6.out,HK6.out,HTTW.out⟩⟩;clear hyj;go_wp2_with fail;rw[HXE.out];go_ret2;exact HEE.out
     ·have zz:N3=1→((N6:Int) > 1)=False:=fun h=>by have:=fun h2=>hj ⟨h,h2⟩;simp;omega
      by_cases h31:N3=1
      ·have z3:((N3:Int)==1)=true:=by rw[beq_iff_eq];omega
       have z4:¬(1:Int)<(N6:Int):=by have:=fun h2=>hj ⟨h31,h2⟩;omega
       have HNJ:Hid (¬(Y.1.1.length=1∧1<(Yr nd.l Y.1.1 II).length)):=Hd (by rw[←HN3E.out,←HL6.out,←HN6.out];exact hj);clear zz hj h31;have HFW:Hid (∀e∈L6,e.few):=Hd HROW6.out.few;have HLW:Hid (L6.length≤1000):=Hd (by rw[←HN6.out];exact hN6b);have HXW:Hid (X=Y.2.relay page ⟨false,L6⟩):=Hd (by rw[HXN.out,if_neg (fun h=>h HHY.out),if_neg HNJ.out,←HL6.out]);have HFR:=Hd (Zfs HTW.out page HPB.out.1 HPB.out.2);go_wp2_with fail;refine HFR.out.mono ?_;rintro e w7 ⟨rfl,hto7⟩;obtain⟨f7,hT7,hq7,hk7,ht7⟩:=hto7;have hN7:=HNW.out.turned ht7 HAW.out.1 HAW.out.2;have HN7:=Hd hN7;have HT7:=Hd hT7
       have HC7:Hid (f7.q=f.q∧(∀k,PT f7 k→PT f k∨w.heap.size≤k)∧Zb (PJ F p f) w w7∧w.heap.size≤w7.heap.size):=Hd ⟨hq7.trans HQ3.out,fun k h=>(hk7 k h).elim (HK3.out k) fun e=>.inr (by have:=HTTW.out.size;omega),HTTW.out.then ht7 (fun i hi hp=>by
        rcases hp with e | e
        ·exact .inl e
        ·rcases HK3.out i e with e | e
         ·exact .inr e
         ·omega),Nat.le_trans HTTW.out.size ht7.size⟩
       have HA7:Hid (∀k,Zap (.slice a5 N6 c5) k→¬PJ F p f7 k):=Hd fun k hk=>Xj (w:=(w5.setCell ⟨w1.heap.size,1,none⟩ (.slice a5 N6 c5))) hk7 (HAW.out.2 k hk) (HNW.out.row.isE_blk hk).2;by_cases hy:(Y.2.freeT page).1=0
       ·have hz:((Y.2.freeT page).1 != 0)=false:=by rw[hy];rfl
        have HXL:Hid (X=(Y.2.freeT page).2.layL ⟨false,L6⟩):=Hd (by rw[HXW.out,Rp.relay,if_neg (fun h=>h hy)]);have HLY:=Hd (Zcr false hT7 hN7.row.isE (by have:=HLW.out;omega) HFW.out HA7.out);rw[←HXL.out] at HLY;obtain⟨n0,n1⟩:=Zc hN7.box;clear hT7 hq7 hk7 ht7 hN7 hy HFR;generalize (Y.2.freeT page).1=EF at *;go_wp2_with fail;refine HLY.out.mono ?_;rintro e w9 ⟨v9,rfl,hm9,ht9⟩;have HEE:Hid (Zan n J seq B w F p f tb X (.returned (.tuple #[v9,.int .i64 X.1.2])) w9):=Hd ⟨v9,rfl,hm9.low HC7.out.2.2.2,TrV.then HC7.out.1 HC7.out.2.1 HC7.out.2.2.1 ht9⟩;clear hm9 ht9;go_wp2_with fail;go_ret2;exact HEE.out
       ·have hz:((Y.2.freeT page).1 != 0)=true:=by rw[bne_iff_ne];exact hy
        have HXE:Hid (X=(([],(Y.2.freeT page).1),(Y.2.freeT page).2)):=Hd (by rw[HXW.out,Rp.relay,if_pos hy]);have HEE:Hid (Zan n J seq B w F p f tb (([],(Y.2.freeT page).1),(Y.2.freeT page).2) (.returned (.tuple #[.slice none 0 0,.int .i64 (Y.2.freeT page).1])) w7):=Hd ⟨_,rfl,Zq.nil _ _,Qc.nil ⟨f7,HT7.out,HC7.out.1,HC7.out.2.1,HC7.out.2.2.1⟩⟩;clear hT7 hq7 hk7 ht7 hN7 hy HFR;go_wp2_with fail;rw[HXE.out];go_ret2;exact HEE.out
      ·have z3:((N3:Int)==1)=false:=by rw[beq_eq_false_iff_ne];omega
       have HNJ:Hid (¬(Y.1.1.length=1∧1<(Yr nd.l Y.1.1 II).length)):=Hd (by rw[←HN3E.out,←HL6.out,←HN6.out];exact hj);clear zz hj h31;have HFW:Hid (∀e∈L6,e.few):=Hd HROW6.out.few;have HLW:Hid (L6.length≤1000):=Hd (by rw[←HN6.out];exact hN6b);have HXW:Hid (X=Y.2.relay page ⟨false,L6⟩):=Hd (by rw[HXN.out,if_neg (fun h=>h HHY.out),if_neg HNJ.out,←HL6.out]);have HFR:=Hd (Zfs HTW.out page HPB.out.1 HPB.out.2);go_wp2_with fail;refine HFR.out.mono ?_;rintro e w7 ⟨rfl,hto7⟩;obtain⟨f7,hT7,hq7,hk7,ht7⟩:=hto7;have hN7:=HNW.out.turned ht7 HAW.out.1 HAW.out.2;have HN7:=Hd hN7;have HT7:=Hd hT7
       have HC7:Hid (f7.q=f.q∧(∀k,PT f7 k→PT f k∨w.heap.size≤k)∧Zb (PJ F p f) w w7∧w.heap.size≤w7.heap.size):=Hd ⟨hq7.trans HQ3.out,fun k h=>(hk7 k h).elim (HK3.out k) fun e=>.inr (by have:=HTTW.out.size;omega),HTTW.out.then ht7 (fun i hi hp=>by
        rcases hp with e | e
        ·exact .inl e
        ·rcases HK3.out i e with e | e
         ·exact .inr e
         ·omega),Nat.le_trans HTTW.out.size ht7.size⟩
       have HA7:Hid (∀k,Zap (.slice a5 N6 c5) k→¬PJ F p f7 k):=Hd fun k hk=>Xj (w:=(w5.setCell ⟨w1.heap.size,1,none⟩ (.slice a5 N6 c5))) hk7 (HAW.out.2 k hk) (HNW.out.row.isE_blk hk).2;by_cases hy:(Y.2.freeT page).1=0
       ·have hz:((Y.2.freeT page).1 != 0)=false:=by rw[hy];rfl
        have HXL:Hid (X=(Y.2.freeT page).2.layL ⟨false,L6⟩):=Hd (by rw[HXW.out,Rp.relay,if_neg (fun h=>h hy)]);have HLY:=Hd (Zcr false hT7 hN7.row.isE (by have:=HLW.out;omega) HFW.out HA7.out);rw[←HXL.out] at HLY;obtain⟨n0,n1⟩:=Zc hN7.box;clear hT7 hq7 hk7 ht7 hN7 hy HFR;generalize (Y.2.freeT page).1=EF at *;go_wp2_with fail;refine HLY.out.mono ?_;rintro e w9 ⟨v9,rfl,hm9,ht9⟩;have HEE:Hid (Zan n J seq B w F p f tb X (.returned (.tuple #[v9,.int .i64 X.1.2])) w9):=Hd ⟨v9,rfl,hm9.low HC7.out.2.2.2,TrV.then HC7.out.1 HC7.out.2.1 HC7.out.2.2.1 ht9⟩;clear hm9 ht9;go_wp2_with fail;go_ret2;exact HEE.out
       ·have hz:((Y.2.freeT page).1 != 0)=true:=by rw[bne_iff_ne];exact hy
        have HXE:Hid (X=(([],(Y.2.freeT page).1),(Y.2.freeT page).2)):=Hd (by rw[HXW.out,Rp.relay,if_pos hy]);have HEE:Hid (Zan n J seq B w F p f tb (([],(Y.2.freeT page).1),(Y.2.freeT page).2) (.returned (.tuple #[.slice none 0 0,.int .i64 (Y.2.freeT page).1])) w7):=Hd ⟨_,rfl,Zq.nil _ _,Qc.nil ⟨f7,HT7.out,HC7.out.1,HC7.out.2.1,HC7.out.2.2.1⟩⟩;clear hT7 hq7 hk7 ht7 hN7 hy HFR;go_wp2_with fail;rw[HXE.out];go_ret2;exact HEE.out
   ·have hz:(Y.1.2 != 0)=true:=by rw[bne_iff_ne];exact hy
    have HXE:Hid (X=(([],Y.1.2),Y.2)):=Hd (by rw[HXN.out,if_pos hy]);have HEE:Hid (Zan n J seq B w F p f tb (([],Y.1.2),Y.2) (.returned (.tuple #[.slice none 0 0,.int .i64 Y.1.2])) w3):=Hd ⟨_,rfl,Zq.nil _ _,Qc.nil ⟨f3,hT3,hq3,hk3',htt3⟩⟩;obtain⟨a3,c3,hv3,_,_⟩:=hm3.isE.form;subst hv3;clear hm3 hT3 hq3 hk3 ht3 hsv3 hk3' htt3 hN3 hp3 hpg hy;go_wp2_with fail;rw[HXE.out];go_ret2;exact HEE.out
end
end
end Go.Proofs.YtofibccplbnaiaaGreatDoor
