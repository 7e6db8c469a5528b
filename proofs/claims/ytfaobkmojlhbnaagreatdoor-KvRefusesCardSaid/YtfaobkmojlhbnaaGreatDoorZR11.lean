/- Contracts of the functions that the statements of this seat reach, part 11: each says what the call answers and what it leaves of the memory. -/
import Derived.Test.YtfaobkmojlhbnaaGreatDoorZR10
import Derived.Test.YtfaobkmojlhbnaaGreatDoorZR2
import Derived.StillTailTactics
set_option linter.unusedVariables false
set_option linter.unusedSimpArgs false
set_option maxRecDepth 100000
set_option maxHeartbeats 64000000
namespace Go.Proofs.YtfaobkmojlhbnaaGreatDoor
section
open Go.RowKit
theorem Zen {w:World} {k:Nat} {x:List UInt8} (h:w.heap[k]?=some (Zar x)):w.cell? ⟨k,0,none⟩=some (.string ⟨x.toArray⟩):=by rw[Vc _ _ _ _ _ _ h];rfl
def ChgEnd (w:World) (B nb:Nat) (v:Value) (l':List En) (e:Ending) (w':World):Prop:=e=.returned (.tuple #[])/\∃v',NdAt w' B nb true v' l'/\Zb (λk=>k=nb\/v.ownBlock=some k) w w'/\(v'.ownBlock=v.ownBlock\/∃k,v'.ownBlock=some k/\w.heap.size<=k)
structure Chr (fid:Nat) (caps:Array Value) (K:Nat->Prop) (Cs:World->Prop) (c:Chg):Prop where
 run:∀(w:World) (B nb:Nat) (v:Value) (l:List En) (i:Nat) (is:Bool),Cs w->NdAt w B nb true v l->i<=l.length->(is=true->i<l.length)->l.length<=1000->B<=w.heap.size ->
  Calls Tryz.prog fid (#[.pointer (some ⟨nb,0,none⟩),.int .i64 (i:Int),.bool is]++caps) w (ChgEnd w B nb v (c l i is))
 keep:∀(T:Nat->Prop) (w w':World),Cs w->Zb T w w'->(∀k,K k->¬T k)->Cs w'
 lt:∀(w:World) (k:Nat),Cs w->K k->k<w.heap.size
 ok:ChgOk c
section
variable {w : World} {B nb : Nat} {v : Value} {l : List En}
theorem NdAt.put {w1:World} {v':Value} {l':List En} {leaf:Bool} (h:NdAt w B nb leaf v l) (hm:Zq B w1 v' l') (ht:Zb (λk=>v.ownBlock=some k) w w1):NdAt (w1.setCell ⟨nb,1,none⟩ v') B nb leaf v' l'/\Zb (λk=>k=nb\/v.ownBlock=some k) w (w1.setCell ⟨nb,1,none⟩ v'):=by have d:w1.heap[nb]?=some (ndO leaf v):=(ht.block _ h.lt λe=>h.ne e rfl).trans h.box;have hh:=Ze d (i:=1) v';refine⟨⟨hh,?_,h.low⟩,(ht.mono λk _ a=>.inr a).trans ((Zc w1 nb 1 v').mono λk _ a=>.inl a)⟩;refine hm.keep1 λk a=>Vx _ _ _ _ ?_;rintro rfl;obtain⟨_,c,b⟩:=Zcv hm a.symm;rw[d] at b;simp only[Option.some.injEq,Obj.cells.injEq,and_true] at b;exact absurd b.2 (by decide)
theorem delChg_any (i:Nat) (d:Bool) (h:NdAt w B nb true v l) (r:i<=l.length) (a:d=true->i<l.length) (hl:l.length<=1000) (hB:B<=w.heap.size) :
  Calls Tryz.prog 126 #[.pointer (some ⟨nb,0,none⟩),.int .i64 (i:Int),.bool d] w (ChgEnd w B nb v (delC l i d)):=by
 cases d with
 | false =>
  have f:Hid (ChgEnd w B nb v (delC l i false) (.returned (.tuple #[])) w):=Hd ⟨rfl,v,by simpa [delC] using h,Zb.refl _ _,.inl rfl⟩;clear h r a hl;go_enter Tryz.func126,Tryz.ntmps126;go_wp2_with fail;go_end0;exact f.out
 | true =>
  have g:=a rfl;have HD:=Hd (edelete_any i h.row g (by omega));obtain⟨s,t⟩:=Zd h.box;have H:=Hd h;have u:IntKind.i64.wrap ((i:Int)+1)=((i+1:Nat):Int):=by rw[Vf _ (by omega)];omega
  clear h;go_enter Tryz.func126,Tryz.ntmps126;go_wp2_with fail;refine HD.out.mono ?_;rintro e n ⟨o,rfl,j,k,p⟩;obtain⟨q,b⟩:=H.out.put j k;have m:n.heap[nb]?=some (ndO true v):=(k.block _ H.out.lt λe=>H.out.ne e rfl).trans H.out.box
  obtain⟨x,y⟩:=Zd m;have f1:=Zf m 1
  have f:Hid (ChgEnd w B nb v (delC l i true) (.returned (.tuple #[])) (n.setCell ⟨nb,1,none⟩ o)):=Hd ⟨rfl,o,by simpa [delC] using q,b,p⟩;obtain⟨z,A,c,_⟩:=j.isE.form;generalize (l.take i++l.drop (i+1)).length=C at c;subst c;clear j k p q b m s t;go_wp2_with fail;go_end0;exact f.out
theorem IsE.set {v:Value} {l:List En} (h:Zq B w v l) (i:Nat) (y:i<l.length) (val:List UInt8):∃g cap,v=.slice (some ⟨g,0,none⟩) l.length cap/\w.cell? ⟨g,i*3+1,none⟩=some (.string ⟨l[i].val.toArray⟩)/\w.frozen? ⟨g,i*3+1,none⟩=false /\
  Zq B (w.setCell ⟨g,i*3+1,none⟩ (.string ⟨val.toArray⟩)) v (l.modify i λe=>{ e with val:=val })/\Zb (·=g) w (w.setCell ⟨g,i*3+1,none⟩ (.string ⟨val.toArray⟩)):=by
 have A:=h.isE;rcases h.form with ⟨_,C⟩ | ⟨g,cap,rfl,D,p,s,J⟩
 .subst C;simp at y
 .obtain⟨b,o,e,M,z,N⟩:=A.at i y
  simp only[Option.some.injEq,Addr.mk.injEq,and_true] at e;obtain⟨rfl,rfl⟩:=e;rw[Nat.zero_add] at z;obtain⟨E,F,_,_,_,_⟩:=h.lies;obtain⟨G,c,t⟩:=E;refine⟨g,cap,rfl,z,Zf c _,?_,Zc _ _ _ _⟩;have hh:=Ze c (i:=i*3+1) (.string ⟨val.toArray⟩)
  have f:(l.modify i λe=>{ e with val:=val }).length=l.length:=by simp
  have k:=Yc.mine (B:=B) (w:=w.setCell ⟨g,i*3+1,none⟩ (.string ⟨val.toArray⟩)) (g:=g) (cap:=cap) (L:=l.modify i λe=>{ e with val:=val }) ⟨_,hh,by simp[t]⟩ (λj u d=>by
   have H:j<(l.modify i λe=>{ e with val:=val }).length*3:=by have:=(List.getElem?_eq_some_iff.1 d).1;rwa[Zw] at this
   obtain⟨q,r,rfl,m⟩:∃q r,j=q*3+r/\r<3:=⟨j / 3,j % 3,by omega,Nat.mod_lt _ (by omega)⟩;have I:q<(l.modify i λe=>{ e with val:=val }).length:=by omega
   have x:q<l.length:=by omega
   rw[enV_get _ q I r m] at d;have hold:=F (q*3+r) _ (List.getElem?_eq_getElem (by rw[Zw];omega))
   have a:=enV_get l q x r m;rw[List.getElem?_eq_getElem (by rw[Zw];omega)] at a;rw[Nat.zero_mul,Nat.zero_add,Vc _ _ _ _ _ _ c] at hold;rw[Nat.zero_mul,Nat.zero_add,Vc _ _ _ _ _ _ hh,Array.getElem?_setIfInBounds];rw[List.getElem_modify] at d;by_cases n:q=i
   .subst n
    rw[if_pos rfl] at d;rcases(show r=0\/r=1\/r=2 by omega) with rfl | rfl | rfl
    .rw[if_neg (by omega),hold,a,<-d];rfl
    .rw[if_pos rfl,if_pos (by omega),<-d];rfl
    .rw[if_neg (by omega),hold,a,<-d];rfl
   .rw[if_neg (λe=>n e.symm)] at d
    rw[if_neg (by omega),hold,a,d]) (by omega) p s
  rw[f] at k;exact k
theorem putChg_any (key val:List UInt8) (n o:Nat) (hk:w.heap[o]?=some (Zar key)) (hv:w.heap[n]?=some (Zar val)) (i:Nat) (P:Bool) (h:NdAt w B nb true v l) (hi:i<=l.length) (I:P=true->i<l.length) (hl:l.length<=1000) (hB:B<=w.heap.size) :
  Calls Tryz.prog 104 #[.pointer (some ⟨nb,0,none⟩),.int .i64 (i:Int),.bool P,.pointer (some ⟨n,0,none⟩),.pointer (some ⟨o,0,none⟩)] w (ChgEnd w B nb v (putC key val l i P)):=by
 have kc:w.drew.cell? ⟨o,0,none⟩=some (.string ⟨key.toArray⟩):=by
  show w.cell? _=_
  rw[Vc _ _ _ _ _ _ hk];rfl
 have vc:w.drew.cell? ⟨n,0,none⟩=some (.string ⟨val.toArray⟩):=by
  show w.cell? _=_
  rw[Vc _ _ _ _ _ _ hv];rfl
 obtain⟨n0,n1⟩:=Zd (w:=w.drew) h.box
 cases P with
 | true =>
  have U:=I rfl;obtain⟨g,a1,A,c1,Q,s,d⟩:=IsE.set h.row i U val;have V:g≠nb:=h.ne (by rw[A];rfl)
  have J:Hid (ChgEnd w B nb v (putC key val l i true) (.returned (.tuple #[])) (w.drew.setCell ⟨g,i*3+1,none⟩ (.string ⟨val.toArray⟩))):=Hd ⟨rfl,v,⟨(d.block _ h.lt λe=>V e.symm).trans h.box,show Zq B _ v (l.modify i λe=>{ e with val:=val }) from s.keep (w':=w.drew.setCell ⟨g,i*3+1,none⟩ (.string ⟨val.toArray⟩)) λk _ _=>rfl,h.low⟩,by
   have:=d.mono (T':=λk=>k=nb\/v.ownBlock=some k) λk _ hk=>.inr (by rw[A,hk];rfl)
   exact⟨this.os,this.tape,this.output,this.size,this.block⟩,.inl rfl⟩
  subst A;have d1:w.drew.cell? ⟨g,i*3+1,none⟩=some (.string ⟨l[i].val.toArray⟩):=c1
  have C:w.drew.frozen? ⟨g,i*3+1,none⟩=false:=Q;obtain⟨a2,a3⟩:(0:Int)<=(i:Int)/\(i:Int)<(l.length:Int):=by omega
  clear h s d c1 Q hk hv;generalize l[i].val=ov at *;generalize X:l.length=N at *;clear X;go_enter Tryz.func104,Tryz.ntmps104;go_upto_region 1 with fail;go_region;go_wp2_with fail;go_end0;exact J.out
 | false =>
  obtain⟨W1,p⟩:∃W1,W1=(w.alloc (.cells (enC ⟨key,val,0⟩).toArray 179)).drew:=⟨_,rfl⟩;have j:Below w.heap.size w W1:=by rw[p];exact((Ve _ _).alloc (Va _) _).drew
  have L:W1.heap[w.heap.size]?=some (.cells (enC ⟨key,val,0⟩).toArray 179 (0,0)):=by rw[p];exact Vg w _
  have R:=h.below j;have HI:=Hd (einsert_any (gx:=w.heap.size) (x:=⟨key,val,0⟩) i R.row L (λe=>by have:=(h.row.lt e).2;omega) (by have:=j.size;omega) hi (by omega));have H1:=Hd R;have H:=Hd h;have HB1:=Hd j;have C:(enC ⟨key,val,0⟩).toArray=#[.string ⟨key.toArray⟩,.string ⟨val.toArray⟩,.int .i64 0]:=rfl;obtain⟨a0,c0,t,_⟩:=h.row.isE.form;generalize X:l.length=N at *;obtain⟨T,D⟩:∃T,T=l.take i++(⟨key,val,0⟩:En)::l.drop i:=⟨_,rfl⟩;rw[<-D] at HI;have HL:=Hd D;have HV0:=Hd t;have q:Hid (w.drew.heap[o]?=some (Zar key)/\w.drew.heap[n]?=some (Zar val)):=Hd ⟨hk,hv⟩;have b:Hid (W1.heap[o]?=some (Zar key)/\W1.heap[n]?=some (Zar val)):=Hd ⟨(j.block _ (Za hk)).trans hk,(j.block _ (Za hv)).trans hv⟩;have y:Hid (o≠nb/\n≠nb):=Hd ⟨λe=>by subst e;have:=h.box;rw[hk] at this;simp only[Option.some.injEq,Obj.cells.injEq,and_true] at this;exact absurd this.2 (by decide),λe=>by subst e;have:=h.box;rw[hv] at this;simp only[Option.some.injEq,Obj.cells.injEq,and_true] at this;exact absurd this.2 (by decide)⟩
  have z:Hid (∀k,Zq B w v l->v.ownBlock=some k->∀x,w.heap[k]?=some (Zar x)->False):=Hd λk hr e x hx=>by obtain⟨_,c,Y⟩:=Zcv hr e.symm;rw[hx] at Y;simp only[Option.some.injEq,Obj.cells.injEq,and_true] at Y;exact absurd Y.2 (by decide)
  have Z:W1.cell? ⟨nb,1,none⟩=some v:=(Zd R.box).2;rw[t] at Z;clear h R j L hk hv X D I;rw[t] at n1 HI;rw[C] at p;have HW1:=Hd p;clear t C p;go_enter Tryz.func104,Tryz.ntmps104;go_upto_region 2 with fail;refine rgA (S:=(λW=>W.heap[o]?=some (Zar key)/\W.heap[n]?=some (Zar val))) q.out (λhH=>?_);refine tdI [0,1,2,3,5,6,7,8] ?_
  iterate 8
   refine tdS (v:=?_) ?_ hH ?_;rotate_left
   .rintro w ⟨M,O⟩;have k0:=Zen M;have k1:=Zen O;go_simp;try with_reducible rfl
   try simp only[Act.put,zA,zB,zC]
  refine tdE ?_;refine wpAnyH_ready (rs:=[4,9]) (by kernel_rfl) (by simp) ?_;refine Zdk rfl (λK a=>?_) ?_
  .go_simp
   refine a.out _ _ hH (λhH=>?_);clear a K;try simp only[Act.put,zA,zB,zC]
   refine rdA 9 rfl (λK a=>?_);go_simp;rw[<-HW1.out];refine a.out _ _ b.out (λhH=>?_);clear a K;try simp only[Act.put,zA,zB,zC]
   refine rdA 10 rfl (λK a=>?_);go_simp;refine HI.out.mono ?_;rintro e m ⟨v',rfl,s,d,E⟩;rw[<-HV0.out] at d E;have F:m.heap[nb]?=some (ndO true v):=(d.block _ H1.out.lt λe=>H1.out.ne e rfl).trans H1.out.box
   have Q:=Zf F 1;have m1:=(Zd F).2;rw[HV0.out] at m1;have HP:=Hd (H1.out.put s d);have HO:=Hd E;have f:m.heap[o]?=some (Zar key)/\m.heap[n]?=some (Zar val):=⟨(d.block _ (Za b.out.1) λe=>z.out _ H.out.row e _ q.out.1).trans b.out.1,(d.block _ (Za b.out.2) λe=>z.out _ H.out.row e _ q.out.2).trans b.out.2⟩;have G:Hid (∀u,(m.setCell ⟨nb,1,none⟩ u).heap[o]?=some (Zar key)/\(m.setCell ⟨nb,1,none⟩ u).heap[n]?=some (Zar val)):=Hd λu=>⟨(Vx _ _ _ _ y.out.1).trans f.1,(Vx _ _ _ _ y.out.2).trans f.2⟩;obtain⟨a',c',r,_,_⟩:=s.isE.form;generalize T.length=N8 at r;subst r;clear s d E F;go_wp2_with fail;refine a.out _ _ f (λhH=>?_);clear a K;try simp only[Act.put,zA,zB,zC]
   refine tdI [11,12] ?_
   iterate 2
    refine tdS (v:=?_) ?_ hH ?_;rotate_left
    .rintro w ⟨M,O⟩;have k0:=Zen M;have k1:=Zen O;go_simp;try with_reducible rfl
    try simp only[Act.put,zA,zB,zC]
   refine tdE ?_;refine rdA 13 rfl (λK a=>?_);go_simp;refine a.out _ _ (G.out _) (λhH=>?_);clear a K;try simp only[Act.put,zA,zB,zC]
   refine dnA ?_;clear hH
   have J:Hid (ChgEnd w B nb v (putC key val l i false) (.returned (.tuple #[])) (m.setCell ⟨nb,1,none⟩ (.slice a' N8 c'))):=Hd ⟨rfl,_,by
    have:=HP.out.1;rw[HL.out] at this
    exact this,(Zb.of_below HB1.out).then HP.out.2 λk hk e=>e,HO.out.imp id λ⟨k,C,e2⟩=>⟨k,C,Vk HB1.out.size e2⟩⟩
   go_wp2_with fail;go_end0;exact J.out
  refine Zdk rfl (λK a=>?_) ?_
  .go_simp
   rw[<-HW1.out];refine a.out _ _ b.out (λhH=>?_);clear a K;try simp only[Act.put,zA,zB,zC]
   refine rdA 4 rfl (λK a=>?_);go_simp;refine a.out _ _ hH (λhH=>?_);clear a K;try simp only[Act.put,zA,zB,zC]
   refine rdA 10 rfl (λK a=>?_);go_simp;refine HI.out.mono ?_;rintro e m ⟨v',rfl,s,d,E⟩;rw[<-HV0.out] at d E;have F:m.heap[nb]?=some (ndO true v):=(d.block _ H1.out.lt λe=>H1.out.ne e rfl).trans H1.out.box
   have Q:=Zf F 1;have m1:=(Zd F).2;rw[HV0.out] at m1;have HP:=Hd (H1.out.put s d);have HO:=Hd E;have f:m.heap[o]?=some (Zar key)/\m.heap[n]?=some (Zar val):=⟨(d.block _ (Za b.out.1) λe=>z.out _ H.out.row e _ q.out.1).trans b.out.1,(d.block _ (Za b.out.2) λe=>z.out _ H.out.row e _ q.out.2).trans b.out.2⟩;have G:Hid (∀u,(m.setCell ⟨nb,1,none⟩ u).heap[o]?=some (Zar key)/\(m.setCell ⟨nb,1,none⟩ u).heap[n]?=some (Zar val)):=Hd λu=>⟨(Vx _ _ _ _ y.out.1).trans f.1,(Vx _ _ _ _ y.out.2).trans f.2⟩;obtain⟨a',c',r,_,_⟩:=s.isE.form;generalize T.length=N8 at r;subst r;clear s d E F;go_wp2_with fail;refine a.out _ _ f (λhH=>?_);clear a K;try simp only[Act.put,zA,zB,zC]
   refine tdI [11,12] ?_
   iterate 2
    refine tdS (v:=?_) ?_ hH ?_;rotate_left
    .rintro w ⟨M,O⟩;have k0:=Zen M;have k1:=Zen O;go_simp;try with_reducible rfl
    try simp only[Act.put,zA,zB,zC]
   refine tdE ?_;refine rdA 13 rfl (λK a=>?_);go_simp;refine a.out _ _ (G.out _) (λhH=>?_);clear a K;try simp only[Act.put,zA,zB,zC]
   refine dnA ?_;clear hH
   have J:Hid (ChgEnd w B nb v (putC key val l i false) (.returned (.tuple #[])) (m.setCell ⟨nb,1,none⟩ (.slice a' N8 c'))):=Hd ⟨rfl,_,by
    have:=HP.out.1;rw[HL.out] at this
    exact this,(Zb.of_below HB1.out).then HP.out.2 λk hk e=>e,HO.out.imp id λ⟨k,C,e2⟩=>⟨k,C,Vk HB1.out.size e2⟩⟩
   go_wp2_with fail;go_end0;exact J.out
  exact AllReadyH.nil
end
end
section
open Go.RowKit
theorem Zge (l r:List En) (e:En):Zg true 0 (l++e::r)=Zg true 0 l+e.size true 0+Zg true 0 r:=by
 rw[Ym,Zg];have b:e.size true (0+l.length)=e.size true 0:=by unfold En.size;rfl
 have c:∀(r:List En) (i:Nat),Zg true i r=Zg true 0 r:=by
  intro r
  induction r with
  | nil=>intro i;rfl
  | cons x r a =>
   intro i;rw[Zg,Zg,a (i+1),a (0+1)];rfl
 rw[b,c r (0+l.length+1)];omega
theorem putC_ok (key val:List UInt8) (hk:key.length<=80) (hv:val.length<=200):ChgOk (putC key val):=by
 intro l i h d j o f;have k:(⟨key,val,0⟩:En).few:=⟨hk,hv,Int.le_refl _,by show (0:Int)<65536;decide⟩
 cases h with
 | true =>
  have c:=f rfl;have g:putC key val l i true=l.take i++{ l[i] with val:=val }::l.drop (i+1):=by unfold putC;rw[if_pos rfl,List.modify_eq_take_cons_drop c]
  have m:l=l.take i++l[i]::l.drop (i+1):=by rw[<-List.drop_eq_getElem_cons c,List.take_append_drop]
  have b:=d _ (Vo c);rw[g];constructor
  .intro e a
   rcases List.mem_append.1 a with a | a
   .exact d e (Vr a)
   .rcases List.mem_cons.1 a with rfl | a
    .exact⟨b.key,hv,b.k0,b.k1⟩
    .exact d e (Vt a)
  .rw[m,Zge] at j
   rw[Zge];have:En.size true 0 { l[i] with val:=val }<=282:=by unfold En.size;simp;have:=b.key;omega
   omega
 | false =>
  have g:putC key val l i false=l.take i++⟨key,val,0⟩::l.drop i:=by unfold putC;simp
  rw[g];constructor
  .intro e a
   rcases List.mem_append.1 a with a | a
   .exact d e (Vr a)
   .rcases List.mem_cons.1 a with rfl | a
    .exact k
    .exact d e (Vt a)
  .rw[Zge]
   have n:=Ym true (l.take i) (l.drop i) 0;rw[List.take_append_drop] at n;have h2:=Zbf true (l.drop i) (0+(l.take i).length);have:En.size true 0 ⟨key,val,0⟩<=282:=by unfold En.size;simp;omega
   omega
theorem delC_ok:ChgOk delC:=by
 intro l i g b h k c
 cases g with
 | true =>
  have d:=c rfl;have f:delC l i true=l.take i++l.drop (i+1):=by unfold delC;simp
  have j:l=l.take i++l[i]::l.drop (i+1):=by rw[<-List.drop_eq_getElem_cons d,List.take_append_drop]
  rw[f];refine⟨λe a=>(List.mem_append.1 a).elim (λa=>b e (Vr a)) λa=>b e (Vt a),?_⟩;rw[j,Zge] at h;rw[Ym];have h3:=Zad true (l.drop (i+1)) (0+(l.take i).length) λe a=>(b e (Vt a)).key
  simp only[if_true] at h3;omega
 | false =>
  have f:delC l i false=l:=by unfold delC;simp
  rw[f];exact⟨b,by omega⟩
theorem put_chr (key val:List UInt8) (hk:key.length<=80) (hv:val.length<=200) (a b:Nat):Chr 104 #[.pointer (some ⟨a,0,none⟩),.pointer (some ⟨b,0,none⟩)] (λk=>k=a\/k=b) (λw=>w.heap[b]?=some (Zar key)/\w.heap[a]?=some (Zar val)) (putC key val) where
 run:=λw B q v l i g c j m n o p=>putChg_any key val a b c.1 c.2 i g j m n o p
 keep:=λT w r h d f=>⟨(d.block _ (Za h.1) (f _ (.inr rfl))).trans h.1,(d.block _ (Za h.2) (f _ (.inl rfl))).trans h.2⟩
 lt:=λw k h hk=>hk.elim (λe=>by rw[e];exact Za h.2) λe=>by rw[e];exact Za h.1
 ok:=putC_ok key val hk hv
theorem del_chr:Chr 126 #[] (λ_=>False) (λ_=>True) delC where
 run:=λw B g v l i a j b c d e f=>delChg_any i a b c d e f
 keep:=λ_ _ _ _ _ _=>trivial
 lt:=λ_ _ _ h=>h.elim
 ok:=delC_ok
end
section
open Go.RowKit
variable {leaf:Bool}{B0 nb0:Nat}{WL wr:World}{v0:Value}{l0:List En}
section
variable {n : Nat} {J : Jn} {seq : Int} {B : List (List UInt8)} {F : Ft} {p : Nat} {tb : Nat} {w w' : World} {f : Pf} {R R' : Rp} {Bn nb : Nat} {v : Value} {l : List En}
def Zhf (n:Nat) (J:Jn) (seq:Int) (B:List (List UInt8)) (w:World) (F:Ft) (p:Nat) (f:Pf) (tb:Nat) (Bn nb:Nat) (v:Value) (X:(Int × List En) × Rp) (e:Ending) (w':World):Prop :=
 e=.returned (.int .i64 X.1.1)/\∃v' f',NdAt w' Bn nb false v' X.1.2/\Tr n J seq B w' F p f' X.2 tb/\f'.q=f.q/\(∀k,PT f' k->PT f k\/w.heap.size<=k)/\Zb (λk=>PJ F p f k\/k=nb\/v.ownBlock=some k) w w'/\¬PJ F p f' nb/\∀k,Zap v' k->¬PJ F p f' k
theorem NdAt.kid {g cap ix:Nat} (h:NdAt w Bn nb leaf (.slice (some ⟨g,0,none⟩) l.length cap) l) (a:ix<l.length):w.cell? ⟨g,ix*3,none⟩=some (.string ⟨(atK l ix).toArray⟩)/\w.cell? ⟨g,ix*3+2,none⟩=some (.int .i64 (Zn l ix)):=by
 obtain⟨b,o,e,c,j,d⟩:=h.row.isE.at ix a;simp only[Option.some.injEq,Addr.mk.injEq,and_true] at e;obtain⟨rfl,rfl⟩:=e;rw[Nat.zero_add] at c d;have i:Zn l ix=l[ix].kid:=by rw[Zn,List.getElem?_eq_getElem a];rfl
 rw[i,Zfv a];exact⟨c,d⟩
theorem Zhf.early {f':Pf} (hN:NdAt w Bn nb false v l) (a:¬PJ F p f nb) (b:∀k,Zap v k->¬PJ F p f k) (c:Tr n J seq B w' F p f' R' tb) (hq:f'.q=f.q) (hk:∀k,PT f' k->PT f k\/w.heap.size<=k) (ht:Zb (PJ F p f) w w') (e:Int):Zhf n J seq B w F p f tb Bn nb v ((e,l),R') (.returned (.int .i64 e)) w' :=
 ⟨rfl,v,f',hN.turned ht a b,c,hq,hk,ht.mono λk _ h=>.inl h,Xk (w:=w) hk a hN.lt,λk h=>Xk (w:=w) hk (b k h) (hN.row.isE_blk h).2⟩
theorem layN_ne:∀(fu:Nat) (R:Rp) (a:Nd),a.l.length<fu->a.l≠[]->(∀e∈a.l,e.few)->(R.layN fu a).1.2=0->(R.layN fu a).1.1≠[]
 | 0,R,a,h,_,_,_=>by omega
 | fu+1,R,a,h,d,i,b=>by
  rw[Rp.layN,if_neg d] at b ⊢;by_cases g:893<a.sum
  .rw[if_pos g] at b ⊢
   by_cases c:(R.layN fu ⟨a.leaf,a.l.take a.cut⟩).1.2≠0
   .rw[if_pos c] at b;exact absurd b c
   .rw[if_neg c]
    obtain⟨j,k,_⟩:=Nd.cut_spec g λe b=>En.few2 (i e b)
    have:=layN_ne fu R ⟨a.leaf,a.l.take a.cut⟩ (by simp only[List.length_take];omega) (λe=>by
     have:=Vs List.length e;simp only[List.length_take,List.length_nil] at this
     omega) (λe b=>i e (Vr b)) (by simpa using c)
    intro e;exact this (List.append_eq_nil_iff.1 e).1
  .rw[if_neg g]
   split<;>simp
theorem Zq.setKey {v:Value} {l:List En} (h:Zq B0 w v l) (k:0<l.length) (key:List UInt8):∃g cap,v=.slice (some ⟨g,0,none⟩) l.length cap/\w.cell? ⟨g,0,none⟩=some (.string ⟨l[0].key.toArray⟩)/\w.frozen? ⟨g,0,none⟩=false /\
  Zq B0 (w.setCell ⟨g,0,none⟩ (.string ⟨key.toArray⟩)) v (Zr key l)/\Zb (·=g) w (w.setCell ⟨g,0,none⟩ (.string ⟨key.toArray⟩)):=by
 have C:=h.isE;rcases h.form with ⟨_,D⟩ | ⟨g,cap,rfl,m,q,s,N⟩
 .subst D;simp at k
 .obtain⟨b,o,e,z,O,P⟩:=C.at 0 k
  simp only[Option.some.injEq,Addr.mk.injEq,and_true] at e;obtain⟨rfl,rfl⟩:=e;rw[Nat.zero_mul,Nat.zero_add] at z;obtain⟨E,G,_,_,_,_⟩:=h.lies;obtain⟨H,a,t⟩:=E;refine⟨g,cap,rfl,z,Zf a _,?_,Zc _ _ _ _⟩;have hh:=Ze a (i:=0) (.string ⟨key.toArray⟩)
  have d:=Qq key l
  have A:=Yc.mine (B:=B0) (w:=w.setCell ⟨g,0,none⟩ (.string ⟨key.toArray⟩)) (g:=g) (cap:=cap) (L:=Zr key l) ⟨_,hh,by simp[t]⟩ (λj u y=>by
   cases l with
   | nil=>simp at k
   | cons x r =>
    have c:=G j;rw[Nat.zero_mul,Nat.zero_add,Vc _ _ _ _ _ _ a] at c;rw[Nat.zero_mul,Nat.zero_add,Vc _ _ _ _ _ _ hh,Array.getElem?_setIfInBounds];have I:enV (Zr key (x::r))=.string ⟨key.toArray⟩::(enV (x::r)).tail:=rfl;have M:enV (x::r)=.string ⟨x.key.toArray⟩::(enV (x::r)).tail:=rfl;rw[I] at y;rw[M] at c
    cases j with
    | zero =>
     rw[if_pos rfl,if_pos (by simp at m;omega)];exact y
    | succ j =>
     rw[if_neg (by omega)]
     exact c u y) (by omega) q s
  rw[d] at A;exact A
structure Far (w WL:World) (F:Ft) (p:Nat) (f fq:Pf) (wr:World):Prop where
 q:fq.q=f.q
 pt:∀k,PT fq k->PT f k\/w.heap.size<=k
 turn:Zb (PJ F p f) w wr
 size:WL.heap.size<=wr.heap.size
 blk:∀k,k<WL.heap.size->¬PJ F p f k->wr.heap[k]?=WL.heap[k]?
 apart:∀k,w.heap.size<=k->k<WL.heap.size->¬PJ F p fq k
theorem Far.start (ht:Zb (PJ F p f) w WL) (hl:∀k,w.heap.size<=k->¬PJ F p f k):Far w WL F p f f WL:=⟨rfl,λ_ h=>.inl h,ht,Va _,λ_ _ _=>rfl,λk h _=>hl k h⟩
theorem Far.next {w7:World} {b f7:Pf} (h:Far w WL F p f b wr) (d:f7.q=b.q) (hk7:∀k,PT f7 k->PT b k\/wr.heap.size<=k) (ht7:Zb (PJ F p b) wr w7) (hw:w.heap.size<=WL.heap.size):Far w WL F p f f7 w7:=by
 refine⟨d.trans h.q,λk c=>(hk7 k c).elim (h.pt k) λe=>.inr (by have:=h.size;omega),h.turn.then ht7 λi o j=>?_,Vk h.size ht7.size,λk c g=>?_,λk a m=>Xk (w:=wr) hk7 (h.apart k a m) (by have:=h.size;omega)⟩
 .rcases j with e | e
  .exact .inl e
  .rcases h.pt i e with e | e
   .exact .inr e
   .omega
 .refine(ht7.block k (by have:=h.size;omega) ?_).trans (h.blk k c g)
  rcases Ua k w.heap.size with a | a
  .exact Xk (w:=w) h.pt g a
  .exact h.apart k a c
theorem Far.nd {b:Pf} (h:Far w WL F p f b wr) (hn:NdAt WL B0 nb0 leaf v0 l0) (h1:¬PJ F p f nb0) (h2:∀k,Zap v0 k->¬PJ F p f k):NdAt wr B0 nb0 leaf v0 l0 :=
 ⟨(h.blk _ hn.lt h1).trans hn.box,hn.row.keep1 λk a=>h.blk k (hn.row.lt a).2 (h2 k (hn.row.in_blk a)),hn.low⟩
theorem Tr.own {T:Nat->Prop} {w1 w2:World} {f1:Pf} (h:Tr n J seq B w1 F p f1 R tb) (ht:Zb T w1 w2) (b:∀k,T k->¬PJ F p f1 k/\k≠0/\k≠tb):Tr n J seq B w2 F p f1 R tb :=
 ⟨h.lp.turned ht λk a e=>by
  rcases a with a | a
  .exact(b k e).1 a
  .exact(b k e).2.1 a,(ht.block _ (Za h.head) λe=>(b _ e).2.2 rfl).trans h.head,h.apart⟩
theorem Tr.nd_not (h:Tr n J seq B w F p f R tb) (hn:NdAt w B0 nb0 leaf v0 l0):nb0≠0/\nb0≠tb:=by
 constructor
 .rintro rfl
  obtain⟨P,_,a,_⟩:=h.lp;have h1:=a.nib 0 (by omega)
  rw[(Zd hn.box).1] at h1;cases h1
 .rintro rfl;have:=hn.box;rw[h.head] at this;simp only[Option.some.injEq,Obj.cells.injEq,and_true] at this;exact absurd this.2 (by decide)
theorem Tr.row_not (h:Tr n J seq B w F p f R tb) (hn:Zq B0 w v0 l0) (h0:0<l0.length) {k:Nat} (hk:v0.ownBlock=some k):k≠0/\k≠tb:=by
 obtain⟨_,c,a⟩:=Zcv hn hk.symm;constructor
 .rintro rfl
  obtain⟨P,_,i,_⟩:=h.lp;have h1:=i.nib 0 (by omega)
  rcases hn.form with ⟨rfl,_⟩ | ⟨g,j,rfl,_⟩
  .cases hk
  .cases hk;obtain⟨b,o,e,d,_⟩:=hn.isE.at 0 h0;simp only[Option.some.injEq,Addr.mk.injEq,and_true] at e;obtain⟨rfl,rfl⟩:=e;rw[Nat.zero_mul,Nat.zero_add] at d;rw[d] at h1;cases h1
 .rintro rfl;rw[h.head] at a;simp only[Option.some.injEq,Obj.cells.injEq,and_true] at a;exact absurd a.2 (by decide)
def Zcc (R:Rp) (K0 K1:Int):Nat->Rp
 | 0=>R
 | 1=>(R.free K0).2
 | _=>((R.free K0).2.free K1).2
theorem join_any (hT:Tr n J seq B w F p f R tb) (hN:NdAt w Bn nb false v l) (hB:Bn<=w.heap.size) (bU:¬PJ F p f nb) (bV:∀k,Zap v k->¬PJ F p f k) (hl:Rowy 976 l) (k i:Nat) (hk:k+1<l.length) (hi:i<l.length):
  Calls Tryz.prog 147 #[trp tb,.pointer (some ⟨nb,0,none⟩),.int .i64 (k:Int),.int .i64 (i:Int)] w (Zhf n J seq B w F p f tb Bn nb v (R.joinN l k i)):=by
 obtain⟨X,hX⟩:∃X,X=R.joinN l k i:=⟨_,rfl⟩;rw[<-hX];have hlen:=hl.len
 obtain⟨g,cap,rfl⟩:∃g cap,v=.slice (some ⟨g,0,none⟩) l.length cap:=by
  rcases hN.row.form with ⟨_,e⟩ | ⟨g,cap,e,_⟩
  .subst e;simp at hi
  .exact⟨g,cap,e⟩
 have HX:=Hd hX;have HE:Hid (∀(f':Pf) (R':Rp) (w':World) (e:Int),Tr n J seq B w' F p f' R' tb->f'.q=f.q->(∀k,PT f' k->PT f k\/w.heap.size<=k)->Zb (PJ F p f) w w'->Zhf n J seq B w F p f tb Bn nb (.slice (some ⟨g,0,none⟩) l.length cap) ((e,l),R') (.returned (.int .i64 e)) w'):=Hd λf' R' w' e a b c d=>Zhf.early hN bU bV a b c d e;have HP1:=Hd bU;have HP2:=Hd bV;have HL:=Hd hl;have HN:=Hd hN;have HT:=Hd hT;have HNN:=Hd (hT.nd_not hN);have cf:Hid (g≠0/\g≠tb):=Hd (hT.row_not hN.row (by omega) rfl);have HB:=Hd hB;have kf:=Zfg hl.few;have kfi:=kf i;have kfk:=kf k;have kfk1:=kf (k+1);have n1:=(Zd hN.box).2;have c2:=(hN.kid hi).2;obtain⟨cN,cO,cP,cQ,cK,cL,cR⟩:(0:Int)<=(i:Int)/\(i:Int)<(l.length:Int)/\(0:Int)<=(k:Int)/\(k:Int)<(l.length:Int)/\(0:Int)<=(k:Int)+1/\(k:Int)+1<(l.length:Int)/\((k:Int)+1).toNat=k+1:=by omega
 have cS:IntKind.i64.wrap ((k:Int)+1)=(k:Int)+1:=Vf _ (by omega);have HLD:=Hd (Zep hT (Zn l i) (by omega) (by omega));have HZ:=Hd (And.intro hk hi);generalize cg:Zn l i=KI at *;generalize ch:Zn l k=KK at *;generalize bP:Zn l (k+1)=KK1 at *;have HKI:=Hd cg;have HKK:=Hd ch;have HKK1:=Hd bP;clear hX hT hN bU bV hl kf cg ch bP hB hk hi hlen;go_enter Tryz.func147,Tryz.ntmps147;go_wp2_with fail;refine HLD.out.mono ?_;rintro e w1 ⟨bu,bW,bX,bY,rfl,bw,bx,bc⟩;obtain⟨aR,aE,bZ⟩:=nd_box w1 bu (.slice bW bX bY);obtain⟨B1,bz⟩:∃B1,B1=w1.alloc (.cells #[.bool bu,.slice bW bX bY] 174):=⟨_,rfl⟩;rw[<-bz] at aR aE bZ;have HW1:=Hd bz;have hTB1:=bw.step aR;have htt1:=(bx.trans (Zb.of_below aR));have HTB1:=Hd hTB1;have HTT1:=Hd htt1;have hNB1:=HN.out.turned htt1 HP1.out HP2.out;have HNB1:=Hd hNB1;have HHB1:=Hd aR;have n1:=(Zd hNB1.box).2
 cases aS:(R.load KI).1 with
 | none =>
  have I:=Rp.load_none aS;have bQ:((R.load KI).2 != 0)=true:=by rw[bne_iff_ne];exact I
  have r:Hid (X=(((R.load KI).2,l),R)):=Hd (by
   obtain⟨E,hh,hE⟩:∃E,R.load KI=(none,E)/\E=(R.load KI).2:=⟨_,by rw[<-aS],rfl⟩;rw[HX.out,<-hE]
   simp only[Rp.joinN,HKI.out,HKK.out,HKK1.out,hh])
  have HEE:=Hd (HE.out f R B1 (R.load KI).2 hTB1 rfl (λ_ h=>.inl h) htt1);clear bw bx bc aR aE bZ bz aS I hTB1 htt1 hNB1 HLD;go_wp2_with fail;rw[<-HW1.out,r.out];go_ret;exact HEE.out
 | some ay =>
  obtain⟨az,bA⟩:=bc ay aS;obtain⟨aA,C⟩:=bw.lp.load_fit aS;have HFIT1:=Hd aA
  have cv:=Hd az;have HM1:=Hd (bA.below aR);have ci:bX=ay.l.length:=by obtain⟨_,_,e,_⟩:=bA.isE.form;simp only[Value.slice.injEq] at e;exact e.2.1
  subst ci;have cT:((R.load KI).2 != 0)=false:=by rw[C];rfl
  have L:Hid (R.load KI=(some ay,0)):=Hd (by rw[<-aS,<-C]);have HBX1:=Hd aE;obtain⟨cw,cy⟩:=aA.len;have SZ1:=Hd bx.size;have HHM1:=Hd bA;rw[C];have HSU:=Hd (sum_any B1 bu bW ay.l.length bY (HM1.out.isE) rfl (by omega) λe he=>En.few2 (aA.few e he));rw[show Nd.mk bu ay.l=ay by rw[<-az]] at HSU
  obtain⟨S1,c1⟩:∃S1,S1=ay.sum:=⟨_,rfl⟩;rw[<-c1] at HSU;have HS1:=Hd c1
  clear c1;obtain⟨m0,m1⟩:=Zd aE;clear bw bx bc aR bZ aS bA aA az C hTB1 htt1 hNB1 bz aE HHM1;go_wp2_with fail;rw[<-HW1.out];refine HSU.out.mono ?_;rintro e w2 ⟨rfl,bB⟩;have hT2:=HTB1.out.step bB
  have aF:=HTT1.out.trans (Zb.of_below bB);have HTT2:=Hd aF;have hN2:=HN.out.turned aF HP1.out HP2.out;have cU:S1<=893:=by rw[HS1.out];exact HFIT1.out.sum
  by_cases bd:297<=S1
  .have hd:decide ((S1:Int)>=297)=true:=Vd (by omega)
   have r:Hid (X=((0,l),R)):=Hd (by
    rw[HX.out]
    simp only[Rp.joinN,HKI.out,HKK.out,HKK1.out,L.out,if_pos (by rw[<-HS1.out];exact bd:297<=ay.sum)])
   have HEE:=Hd (HE.out f R w2 0 hT2 rfl (λ_ h=>.inl h) aF);clear hT2 aF hN2 bB HLD m0 m1 n1;go_wp2_with fail;rw[r.out];go_ret;exact HEE.out
  .have hd:decide ((S1:Int)>=297)=false:=Vb (by omega)
   have n1:=(Zd hN2.box).2;have c2:=(hN2.kid (ix:=k) (by have:=HZ.out.1;omega)).2;clear HLD;have HLD:=Hd (Zep hT2 KK (by omega) (by omega));rw[HKK.out] at c2;have O:Hid (¬297<=ay.sum):=Hd (by rw[<-HS1.out];exact bd);clear hT2 aF hN2 bB m0 m1;have cz:S1<297:=by omega
   clear bd;go_wp2_with fail;refine HLD.out.mono ?_;rintro e w3 ⟨bC,a7,c3,aa,rfl,bD,bE,be⟩;obtain⟨aT,b8,hs3⟩:=nd_box w3 bC (.slice a7 c3 aa);obtain⟨B3,bF⟩:∃B3,B3=w3.alloc (.cells #[.bool bC,.slice a7 c3 aa] 174):=⟨_,rfl⟩;rw[<-bF] at aT b8 hs3;have HW3:=Hd bF
   have aG:=bD.step aT;have htt3:=HTT2.out.trans (bE.trans (Zb.of_below aT));have HTB3:=Hd aG;have HTT3:=Hd htt3;have hNB3:=HN.out.turned htt3 HP1.out HP2.out;have HNB3:=Hd hNB3;have HHB3:=Hd aT;have n1:=(Zd hNB3.box).2
   cases aU:(R.load KK).1 with
   | none =>
    have I:=Rp.load_none aU;have bQ:((R.load KK).2 != 0)=true:=by rw[bne_iff_ne];exact I
    have r:Hid (X=(((R.load KK).2,l),R)):=Hd (by
     obtain⟨E,hh,hE⟩:∃E,R.load KK=(none,E)/\E=(R.load KK).2:=⟨_,by rw[<-aU],rfl⟩;rw[HX.out,<-hE]
     simp only[Rp.joinN,HKI.out,HKK.out,HKK1.out,hh,L.out,if_neg O.out])
    have HEE:=Hd (HE.out f R B3 (R.load KK).2 aG rfl (λ_ h=>.inl h) htt3);clear bD bE be aT b8 hs3 bF aU I aG htt3 hNB3 HLD;go_wp2_with fail;rw[<-HW3.out,r.out];go_ret;exact HEE.out
   | some y =>
    obtain⟨b9,bG⟩:=be y aU;obtain⟨aV,bH⟩:=bD.lp.load_fit aU;have HFIT3:=Hd aV
    have t:=Hd b9;have HM3:=Hd (bG.below aT);have cj:c3=y.l.length:=by obtain⟨_,_,e,_⟩:=bG.isE.form;simp only[Value.slice.injEq] at e;exact e.2.1
    subst cj;have cV:((R.load KK).2 != 0)=false:=by rw[bH];rfl
    have T:Hid (R.load KK=(some y,0)):=Hd (by rw[<-aU,<-bH]);have HBX3:=Hd b8;obtain⟨cA,cB⟩:=aV.len;have SZ3:=Hd bE.size;have HHM3:=Hd bG;rw[bH];have c2:=(hNB3.kid (ix:=k+1) HZ.out.1).2;rw[HKK1.out] at c2;clear HLD;have HLD:=Hd (Zep aG KK1 (by omega) (by omega));clear bD bE be aT hs3 aU bG aV b9 bH aG htt3 hNB3 bF b8 HHM3;go_upto_region 7 with fail;rw[<-HW3.out];go_wp2_with fail;refine HLD.out.mono ?_;rintro e w5 ⟨bf,bI,c4,aH,rfl,bJ,bb,bg⟩;obtain⟨aI,aJ,c6⟩:=nd_box w5 bf (.slice bI c4 aH);obtain⟨B5,bK⟩:∃B5,B5=w5.alloc (.cells #[.bool bf,.slice bI c4 aH] 174):=⟨_,rfl⟩;rw[<-bK] at aI aJ c6;have HW5:=Hd bK;have hTB5:=bJ.step aI;have htt5:=HTT3.out.trans (bb.trans (Zb.of_below aI));have HTB5:=Hd hTB5;have HTT5:=Hd htt5;have hNB5:=HN.out.turned htt5 HP1.out HP2.out;have HNB5:=Hd hNB5;have HHB5:=Hd aI;have n1:=(Zd hNB5.box).2
    cases aW:(R.load KK1).1 with
    | none =>
     have I:=Rp.load_none aW;have bQ:((R.load KK1).2 != 0)=true:=by rw[bne_iff_ne];exact I
     have r:Hid (X=(((R.load KK1).2,l),R)):=Hd (by
      obtain⟨E,hh,hE⟩:∃E,R.load KK1=(none,E)/\E=(R.load KK1).2:=⟨_,by rw[<-aW],rfl⟩;rw[HX.out,<-hE]
      simp only[Rp.joinN,HKI.out,HKK.out,HKK1.out,hh,L.out,if_neg O.out,T.out])
     have HEE:=Hd (HE.out f R B5 (R.load KK1).2 hTB5 rfl (λ_ h=>.inl h) htt5);clear bJ bb bg aI aJ c6 bK aW I hTB5 htt5 hNB5 HLD;go_wp2_with fail;rw[<-HW5.out,r.out];go_ret;exact HEE.out
    | some m =>
     obtain⟨ba,bL⟩:=bg m aW;obtain⟨aX,bM⟩:=bJ.lp.load_fit aW;have HFIT5:=Hd aX
     have o:=Hd ba;have HM5:=Hd (bL.below aI);have cl:c4=m.l.length:=by obtain⟨_,_,e,_⟩:=bL.isE.form;simp only[Value.slice.injEq] at e;exact e.2.1
     subst cl;have cW:((R.load KK1).2 != 0)=false:=by rw[bM];rfl
     have a6:Hid (R.load KK1=(some m,0)):=Hd (by rw[<-aW,<-bM]);have HBX5:=Hd aJ;obtain⟨cC,cD⟩:=aX.len;have SZ5:=Hd bb.size;have HHM5:=Hd bL;rw[bM];have bN:∀k,w.heap.size<=k->¬PJ F p f k:=λk h e=>by have:=HT.out.lp.lt e;omega
     have cm:w.heap.size<=w2.heap.size:=HTT2.out.size;have cn:w.heap.size<=B3.heap.size:=HTT3.out.size;have bR:NdAt B3 w2.heap.size w3.heap.size bC (.slice a7 y.l.length aa) y.l:=⟨HBX3.out,HM3.out,SZ3.out⟩;have hna5:=(bR.turned bb (bN _ (by have:=SZ3.out;omega)) (λk hk=>bN _ (by have:=(HM3.out.isE_blk hk).1;omega))).below aI;have bh:NdAt B5 B3.heap.size w5.heap.size bf (.slice bI m.l.length aH) m.l:=⟨aJ,HM5.out,bb.size⟩;have HNA5:=Hd hna5;have HNB5B:=Hd bh;have HPJ:=Hd bN;have HSZ2:=Hd cm;have HSZ3:=Hd cn;obtain⟨a0,a1⟩:=Zd hna5.box;obtain⟨b0,b1⟩:=Zd bh.box;clear bJ bb bg aI c6 aW bL aX ba bM htt5 hNB5 bK aJ HHM5 HLD bR hna5 bh bN
     cases bC with
     | true =>
      cases bf with
      | false =>
       have r:Hid (X=((103,l),R)):=Hd (by
        rw[HX.out];simp only[Rp.joinN,HKI.out,HKK.out,HKK1.out,L.out,if_neg O.out,T.out,a6.out,t.out,o.out]
        simp)
       have HEE:=Hd (HE.out f R B5 103 hTB5 rfl (λ_ h=>.inl h) HTT5.out);clear hTB5;go_upto_region 10 with fail;rw[<-HW5.out];go_wp2_with fail;rw[r.out];go_ret;exact HEE.out
      | true =>
       have bi:=Hd hTB5;have HTTt:=HTT5;have HNt:=HNB5;have HNAt:=HNA5;have HNBt:=HNB5B;clear hTB5;go_upto_region 10 with fail;rw[<-HW5.out];go_upto_region 14 with fail;clear n1 c2 a0 a1 b0 b1;have c7:Tr n J seq B B5 F p f R tb:=bi.out;have n1:B5.drew.cell? ⟨nb,1,none⟩=some (.slice (some ⟨g,0,none⟩) l.length cap):=(Zd HNt.out.box).2;have ck:B5.drew.cell? ⟨g,k*3+2,none⟩=some (.int .i64 KK):=by have:=(HNt.out.kid (ix:=k) (by have:=HZ.out.1;omega)).2;rw[HKK.out] at this;exact this
       have ca:B5.drew.cell? ⟨g,(k+1)*3+2,none⟩=some (.int .i64 KK1):=by have:=(HNt.out.kid (ix:=k+1) HZ.out.1).2;rw[HKK1.out] at this;exact this
       go_region;obtain⟨WL,aB⟩:∃WL,WL=(B5.alloc (.cells #[.int .i64 KK,.int .i64 KK1] 3)).drew:=⟨_,rfl⟩;have a2:Below B5.heap.size B5 WL:=by rw[aB];exact((Ve _ _).alloc (Va _) _).drew
       have bj:WL.heap[B5.heap.size]?=some (.cells #[.int .i64 KK,.int .i64 KK1] 3 (0,0)):=by rw[aB];exact Vg B5 _
       rw[<-aB];have HGL:=Hd bj
       have ab:=HTTt.out.trans (Zb.of_below a2);have HTTL:=Hd ab;have HTL:=Hd (bi.out.step a2);have HNL:=Hd (HNt.out.below a2);have HAL:=Hd (HNAt.out.below a2);have HBL:=Hd (HNBt.out.below a2);have HSL:=Hd ab.size;have bk:Hid (w.heap.size<=B5.heap.size):=Hd HTTt.out.size;generalize cb:B5.heap.size=gi at *;clear aB a2 bj n1 ck ca c7 ab cb;go_wp2_with fail;go_loopw [111] (λx wr=>∃(q:Nat) (fq:Pf),q<=2/\x=.int .i64 (q:Int)/\Tr n J seq B wr F p fq (Zcc R KK KK1 q) tb/\Far w WL F p f fq wr/\(1<=q->(R.free KK).1=0)/\(2<=q->((R.free KK).2.free KK1).1=0)) (λx _=>2 - (intOf x).toNat)
       case atStart=>exact⟨0,f,by omega,rfl,HTL.out,Far.start HTTL.out HPJ.out,λh=>by omega,λh=>by omega⟩
       case round =>
        obtain⟨q,fq,cc,rfl,A,j,C,ad⟩:=hrel;have HFAR:=Hd j
        have bl:=Hd A;have hgq:=(j.blk gi (Za HGL.out) (HPJ.out _ bk.out)).trans HGL.out;have k0:wr.cell? ⟨gi,0,none⟩=some (.int .i64 KK):=by rw[Vc _ _ _ _ _ _ hgq];rfl
        have k1:wr.cell? ⟨gi,1,none⟩=some (.int .i64 KK1):=by rw[Vc _ _ _ _ _ _ hgq];rfl
        have t0:wr.cell? ⟨tb,0,none⟩=some (Qs f.q):=by rw[<-j.q,Vc _ _ _ _ _ _ A.head];rfl
        rcases(show q=0\/q=1\/q=2 by omega) with rfl | rfl | rfl
        .have HFR:=Hd (Zga A.lp KK (by omega) (by omega))
         rw[j.q] at HFR;have HE1:=Hd C
         obtain⟨Y,hY⟩:∃Y,Y=Rp.free R KK:=⟨_,rfl⟩;have ae:(Zcc R KK KK1 0).free KK=Y:=hY.symm
         rw[ae] at HFR;have HY:=Hd hY
         clear A j C ad hgq hY ae;go_wp2_with fail;refine HFR.out.mono ?_;rintro e w7 ⟨rfl,af⟩;obtain⟨f7,ag,ah,ai,aj⟩:=bl.out.to af;have HFAR7:=Hd (HFAR.out.next ah ai aj HSL.out)
         have ak:=Hd ag;clear af ag ah ai aj k0 k1 t0 HFR;by_cases u:Y.1=0
         .have hz:(Y.1 != 0)=false:=by rw[u];rfl
          have aY:=Hd u;clear u;go_wp2_with fail;go_roundw
          case rel=>exact⟨0+1,f7,by omega,by go_num,by rw[show Zcc R KK KK1 (0+1)=Y.2 by rw[HY.out];rfl];exact ak.out,HFAR7.out,λ_=>by rw[<-HY.out];exact aY.out,λh=>by omega⟩
          case measure=>simp[intOf]
         .have hz:(Y.1 != 0)=true:=by rw[bne_iff_ne];exact u
          have r:Hid (X=((Y.1,l),Y.2)):=Hd (by
           rw[HX.out,HY.out];rw[HY.out] at u;simp only[Rp.joinN,HKI.out,HKK.out,HKK1.out,L.out,if_neg O.out,T.out,a6.out,t.out,o.out,ne_eq,not_true_eq_false,if_false]
           rw[if_pos u])
          have HEE:=Hd (HE.out f7 Y.2 w7 Y.1 ak.out HFAR7.out.q HFAR7.out.pt HFAR7.out.turn);clear u;go_wp2_with fail;rw[r.out];go_ret;exact HEE.out
        .have HFR:=Hd (Zga A.lp KK1 (by omega) (by omega))
         rw[j.q] at HFR;have HE1:=Hd C
         obtain⟨Y,hY⟩:∃Y,Y=Rp.free (R.free KK).2 KK1:=⟨_,rfl⟩;have ae:(Zcc R KK KK1 1).free KK1=Y:=hY.symm
         rw[ae] at HFR;have HY:=Hd hY
         clear A j C ad hgq hY ae;go_wp2_with fail;refine HFR.out.mono ?_;rintro e w7 ⟨rfl,af⟩;obtain⟨f7,ag,ah,ai,aj⟩:=bl.out.to af;have HFAR7:=Hd (HFAR.out.next ah ai aj HSL.out)
         have ak:=Hd ag;clear af ag ah ai aj k0 k1 t0 HFR;by_cases u:Y.1=0
         .have hz:(Y.1 != 0)=false:=by rw[u];rfl
          have aY:=Hd u;clear u;go_wp2_with fail;go_roundw
          case rel=>exact⟨1+1,f7,by omega,by go_num,by rw[show Zcc R KK KK1 (1+1)=Y.2 by rw[HY.out];rfl];exact ak.out,HFAR7.out,λ_=>HE1.out (by omega),λ_=>by rw[<-HY.out];exact aY.out⟩
          case measure=>simp[intOf]
         .have hz:(Y.1 != 0)=true:=by rw[bne_iff_ne];exact u
          have r:Hid (X=((Y.1,l),Y.2)):=Hd (by
           rw[HX.out,HY.out];rw[HY.out] at u;simp only[Rp.joinN,HKI.out,HKK.out,HKK1.out,L.out,if_neg O.out,T.out,a6.out,t.out,o.out,ne_eq,not_true_eq_false,if_false,HE1.out (by omega),if_neg]
           rw[if_pos u])
          have HEE:=Hd (HE.out f7 Y.2 w7 Y.1 ak.out HFAR7.out.q HFAR7.out.pt HFAR7.out.turn);clear u;go_wp2_with fail;rw[r.out];go_ret;exact HEE.out
        .have hna:=j.nd HAL.out (HPJ.out _ (by have:=SZ3.out;have:=HSZ2.out;omega)) (λk hk=>HPJ.out k (by have:=(HAL.out.row.isE_blk hk).1;have:=HSZ2.out;omega))
         have al:=j.nd HBL.out (HPJ.out _ (by have:=HBL.out.low;have:=HSZ3.out;omega)) (λk hk=>HPJ.out k (by have:=(HBL.out.row.isE_blk hk).1;have:=HSZ3.out;omega));obtain⟨aC,bm⟩:=joint HFIT3.out HFIT5.out (by rw[t.out,o.out]) (key:=atK l (k+1)) (Zey HL.out.few _);obtain⟨v8,w8,hr,aZ,P,a3⟩:=(show Zq w2.heap.size wr.drew (.slice a7 y.l.length aa) y.l from hna.row).app (show IsE wr.drew (.slice bI m.l.length aH) m.l from al.row.isE) (by have:=j.size;have:=HSL.out;have:=HFAR.out.turn.size;have:=HTT2.out.size;have:=SZ3.out;have h9:=Za HAL.out.box;show w2.heap.size<=wr.heap.size;omega) (by rw[show m.l.length=m.l.length from rfl];omega)
         have bn:w.heap.size<=wr.heap.size:=j.turn.size;have U:Zb (λk=>(Value.slice a7 y.l.length aa).ownBlock=some k) wr w8:=⟨P.os,P.tape,P.output,P.size,λk hk hn=>P.block k hk λe=>hn e.symm⟩;have s:∀k,(Value.slice a7 y.l.length aa).ownBlock=some k->w.heap.size<=k/\k<WL.heap.size:=λk hk=>by have:=HAL.out.row.lt hk;have:=HSZ2.out;omega
         have b2:Tr n J seq B w8 F p fq (Zcc R KK KK1 2) tb:=A.own U λk hk=>⟨j.apart k (s k hk).1 (s k hk).2,A.row_not hna.row (by have:=HFIT3.out.len;omega) hk⟩;have bo:w8.heap[w3.heap.size]?=some (ndO true (.slice a7 y.l.length aa)):=(U.block _ hna.lt λe=>hna.ne e rfl).trans hna.box
         have am:∀k,Zap v8 k->¬PJ F p fq k:=λk hk=>by
          have M:v8.ownBlock=some k:=by obtain⟨x,_,_,e1,e2⟩:=hk;rw[e1,<-e2];rfl
          rcases a3 with a3 | a3
          .rw[a3] at M;exact j.apart k (s k M).1 (s k M).2
          .rw[a3] at M
           intro e;have:=A.lp.lt e
           simp only[Option.some.injEq] at M;have h9:wr.drew.heap.size=wr.heap.size:=rfl
           omega
         have aK:Zb (PJ F p f) w w8:=j.turn.then U λk hk e=>by have:=s k e;omega
         obtain⟨H,aD⟩:∃Y,Y=(Zcc R KK KK1 2).layL ⟨true,y.l++m.l⟩:=⟨_,rfl⟩;rw[show (if m.leaf then m.l else Zr (atK l (k+1)) m.l)=m.l by rw[o.out];rfl] at aC bm
         have bp:=Hd (Zdm true b2 aZ.isE (by have:=HFIT3.out.len;have:=HFIT5.out.len;rw[List.length_append];omega) aC am);rw[<-aD] at bp;have HY9:=Hd aD
         have bq:Hid (X=if ¬H.1.2=0 then ((H.1.2,l),H.2) else ((0,l.take k++(Zr (atK l k) H.1.1++l.drop (k+2))),H.2)):=Hd (by
          rw[HX.out,aD];simp only[Rp.joinN,HKI.out,HKK.out,HKK1.out,L.out,if_neg O.out,T.out,a6.out,t.out,o.out,ne_eq,not_true_eq_false,if_false,C (by omega),ad (by omega),if_true]
          rfl)
         have cd:=Hd aC;obtain⟨a0,a1⟩:=Zd (w:=wr.drew) hna.box;obtain⟨b0,b1⟩:=Zd (w:=wr.drew) al.box;have d0:=(Zd bo).1;have HT8:=Hd b2;have HTW8:=Hd aK;have aL:Hid (w.heap.size<=w8.heap.size):=Hd (Vk bn P.size);have HR:=Hd hr;have HE1:=Hd (And.intro (C (by omega)) (ad (by omega)));obtain⟨a8,c8,M,_,_⟩:=aZ.isE.form;generalize (y.l++m.l).length=N8 at M;subst M;clear A j C ad hgq hna al aC bm hr aZ P a3 bn U s b2 bo am aK aD k0 k1 t0;go_upto_region 21 with fail;have hr:=HR.out;go_region_law (first | refine Zdl rfl (.tmp 130) (.tmp 132) 172 172 rfl _ _ _ (by rfl) (by rfl) hr ?_ | (go_simp;go_at_call 101;refine bp.out.mono ?_;rintro e w9 ⟨v9,rfl,b3,a4⟩;have HM9:=Hd b3;have HT9:=Hd a4;obtain⟨a9,c9,a5,_,_⟩:=b3.isE.form;generalize Q:H.1.1.length=N9 at *;have HN9:=Hd Q;subst a5;clear b3 a4 Q))
         all_goals
          clear a0 a1 b0 b1 d0 hr
          obtain⟨f9,an,b4,b5,a4,ao⟩:=HT9.out
          have V:f9.q=f.q:=b4.trans HFAR.out.q
          have W:∀k,PT f9 k->PT f k\/w.heap.size<=k:=λk h=>(b5 k h).elim (HFAR.out.pt k) λe=>.inr (Vk aL.out e)
          have D:Zb (PJ F p f) w w9:=HTW8.out.then a4 λi hi hp=>by
           rcases hp with e | e
           .exact .inl e
           .rcases HFAR.out.pt i e with e | e
            .exact .inr e
            .omega
          by_cases u:H.1.2=0
          .have hz:(H.1.2 != 0)=false:=by rw[u];rfl
           have r:Hid (X=((0,l.take k++(Zr (atK l k) H.1.1++l.drop (k+2))),H.2)):=Hd (by rw[bq.out,if_neg (λh=>h u)]);have I:H.1.1≠[]:=by rw[HY9.out] at u ⊢;refine layN_ne _ _ _ (Uf _) (λe=>?_) cd.out u;exact HFIT3.out.some (List.append_eq_nil_iff.1 e).1
           have b6:H.1.1.length<=1000:=by have:=Zch (y.l.length+m.l.length+1) (Zcc R KK KK1 2) ⟨true,y.l++m.l⟩;rw[HY9.out];unfold Rp.layL;dsimp only at this ⊢;rw[List.length_append] at this ⊢;have:=HFIT3.out.len;have:=HFIT5.out.len;omega
           have Q:=HN.out.turned D HP1.out HP2.out;obtain⟨g9,co,a5,c0,e0,aM,Z⟩:=HM9.out.setKey (List.length_pos_iff.2 I) (atK l k);have hg9:=HM9.out.lt (k:=g9) (by rw[a5];rfl);rw[HN9.out] at a5;simp only[Value.slice.injEq] at a5;obtain⟨rfl,_,rfl⟩:=a5;have ce:w.heap.size<=g9:=Vk aL.out hg9.1;have hnlt:=HN.out.lt;have hN10:=Q.turned Z (λe=>by omega) (λk hk e=>by have:=(HN.out.row.isE_blk hk).2;omega);have hT10:=an.own Z λk e=>by subst e;exact⟨ao _ ⟨_,_,_,rfl,rfl⟩,λe=>by have:=HT.out.lp.nib_lt;omega,λe=>by have:=Za HT.out.head;omega⟩
           have ap:(w9.setCell ⟨g9,0,none⟩ (.string ⟨(atK l k).toArray⟩)).heap.size=w9.heap.size:=by simp[World.setCell]
           have aq:=Zfa k (k+2) hN10.row aM (λq hq e=>by
            have cc:g9=q:=by simpa [Value.ownBlock] using hq
            have:=(HN.out.row.lt e).2
            omega) (by omega) (by have:=HZ.out.1;omega) (by rw[ap];have:=HB.out;have:=D.size;omega) (by have:=HL.out.len;omega) (by rw[Qq];omega)
           rw[show ((k+2:Nat):Int)=(k:Int)+2 by omega] at aq
           have aN:=Hd aq;have n1:=(Zd Q.box).2;have ck:=(Q.kid (ix:=k) (by have:=HZ.out.1;omega)).1;have n2:=(Zd hN10.box).2;have z2:IntKind.i64.wrap ((k:Int)+2)=(k:Int)+2:=Vf _ (by have:=HZ.out.1;have:=HL.out.len;omega);have q0:(0:Int)<(N9:Int):=by have:=List.length_pos_iff.2 I;rw[HN9.out] at this;omega
           have N:=Hd hN10;have HT10:=Hd hT10;have HK9:=Hd W;have HQ9:=Hd V;have HTW:=Hd (D.then Z λi hi e=>by omega);have HW10:=Hd ap;have br:Hid (∀q,PJ F p f9 q->q<w9.heap.size):=Hd λq e=>an.lp.lt e;generalize (H.1.1[0]'(List.length_pos_iff.2 I)).key=cp at *;generalize atK l k=aO at *;obtain⟨bs,S⟩:∃bs,bs=w9.setCell ⟨g9,0,none⟩ (.string ⟨aO.toArray⟩):=⟨_,rfl⟩;rw[<-S] at aN n2 N HT10 HTW HW10;have HW10E:=Hd S;clear an b4 b5 a4 ao V W D u Q hg9 ce hnlt hN10 hT10 ap aq aM Z b6 I S;go_upto_region 25 with fail;rw[<-HW10E.out];go_wp2_with fail;refine aN.out.mono ?_;rintro e bt ⟨b7,rfl,ar,au,G⟩;obtain⟨aP,av⟩:=N.out.put ar au;have aw:bt.heap[nb]?=some (ndO false (.slice (some ⟨g,0,none⟩) l.length cap)):=(au.block _ N.out.lt λe=>N.out.ne e rfl).trans N.out.box;have m1:=(Zd aw).2;have f1:=Zf aw 1
           have aQ:=HT10.out.own av λq e=>by
            rcases e with e | e
            .subst e;exact⟨Xk (w:=w) HK9.out HP1.out HN.out.lt,HNN.out⟩
            .simp only[Value.ownBlock,Option.some.injEq] at e;subst e;exact⟨Xk (w:=w) HK9.out (HP2.out _ ⟨_,_,_,rfl,rfl⟩) (HN.out.row.lt (k:=g) rfl).2,cf.out⟩
           have HEE:Hid (Zhf n J seq B w F p f tb Bn nb (.slice (some ⟨g,0,none⟩) l.length cap) X (.returned (.int .i64 0)) (bt.setCell ⟨nb,1,none⟩ b7)):=Hd (by
            rw[r.out];refine⟨rfl,b7,f9,aP,aQ,HQ9.out,HK9.out,(HTW.out.mono λk _ h=>.inl h).trans (av.mono λk _ h=>.inr h),Xk (w:=w) HK9.out HP1.out HN.out.lt,λq hq hp=>?_⟩;have z:b7.ownBlock=some q:=by obtain⟨x,_,_,e1,e2⟩:=hq;rw[e1,<-e2];rfl
            rcases G with G | ⟨q',G,cE⟩
            .rw[G] at z
             have hg:g=q:=by simpa [Value.ownBlock] using z
             subst hg;exact Xk (w:=w) HK9.out (HP2.out _ ⟨_,_,_,rfl,rfl⟩) (HN.out.row.lt (k:=g) rfl).2 hp
            .rw[G] at z
             have hg:q'=q:=by simpa using z
             subst hg;have:=br.out _ hp
             have:=HW10.out
             omega)
           obtain⟨cF,cG,z,_,_⟩:=ar.isE.form;generalize (l.take k++(Zr aO H.1.1++l.drop (k+2))).length=cH at z;subst z;clear ar au G aP av aw aQ;go_wp2_with fail;go_ret;exact HEE.out
          .have hz:(H.1.2 != 0)=true:=by rw[bne_iff_ne];exact u
           have r:Hid (X=((H.1.2,l),H.2)):=Hd (by rw[bq.out,if_pos u]);have HEE:=Hd (HE.out f9 H.2 w9 H.1.2 an V W D);clear an b4 b5 a4 ao V W D u;go_wp2_with fail;rw[r.out];go_ret;exact HEE.out
     | false =>
      cases bf with
      | true =>
       have r:Hid (X=((103,l),R)):=Hd (by
        rw[HX.out];simp only[Rp.joinN,HKI.out,HKK.out,HKK1.out,L.out,if_neg O.out,T.out,a6.out,t.out,o.out]
        simp)
       have HEE:=Hd (HE.out f R B5 103 hTB5 rfl (λ_ h=>.inl h) HTT5.out);clear hTB5;go_upto_region 10 with fail;rw[<-HW5.out];go_wp2_with fail;rw[r.out];go_ret;exact HEE.out
      | false =>
       obtain⟨g5,cM,cq,cr,cs,bS,bT⟩:=HNB5B.out.row.setKey (by have:=HFIT5.out.len;omega) (atK l (k+1));simp only[Value.slice.injEq,true_and] at cq;obtain⟨rfl,rfl⟩:=cq;have hg5:=HNB5B.out.row.lt (k:=g5) rfl
       have c5:B5.drew.cell? ⟨g5,0,none⟩=_:=cr;have e5:B5.drew.frozen? ⟨g5,0,none⟩=false:=cs;obtain⟨B6,bO⟩:∃B6,B6=(B5.setCell ⟨g5,0,none⟩ (.string ⟨(atK l (k+1)).toArray⟩)).drew:=⟨_,rfl⟩;have ct:Zq B3.heap.size B6 (.slice (some ⟨g5,0,none⟩) m.l.length aH) (Zr (atK l (k+1)) m.l):=by rw[bO];exact bS.keep λ_ _ _=>rfl
       have ax:Zb (·=g5) B5 B6:=by rw[bO];exact bT.drew
       have bi:=Hd (HTB5.out.own ax λq e=>by
        subst e
        exact⟨HPJ.out _ (by have:=HSZ3.out;omega),λe=>by have:=HT.out.lp.nib_lt;have:=HSZ3.out;omega,λe=>by have:=Za HT.out.head;have:=HSZ3.out;omega⟩)
       have HTTt:=Hd (HTT5.out.then ax λi hi e=>by have:=HSZ3.out;omega);have HNt:=Hd (HNB5.out.turned ax (λe=>by have:=HN.out.lt;have:=HSZ3.out;omega) (λq hq e=>by have:=(HN.out.row.isE_blk hq).2;have:=HSZ3.out;omega));have cu:w3.heap.size<B3.heap.size:=Za HBX3.out;have HNAt:=Hd (HNA5.out.turned ax (λe=>by omega) (λq hq e=>by have:=(HM3.out.isE_blk hq).2;omega));have HNBt:Hid (NdAt B6 B3.heap.size w5.heap.size false (.slice (some ⟨g5,0,none⟩) m.l.length aH) (Zr (atK l (k+1)) m.l)):=Hd ⟨(ax.block _ HNB5B.out.lt λe=>HNB5B.out.ne (k:=g5) rfl e.symm).trans HNB5B.out.box,ct,HNB5B.out.low⟩;have HB6:=Hd bO;have cI:B5.drew.cell? ⟨nb,1,none⟩=some (.slice (some ⟨g,0,none⟩) l.length cap):=(Zd HNB5.out.box).2;have cJ:B5.drew.cell? ⟨w5.heap.size,1,none⟩=some (.slice (some ⟨g5,0,none⟩) m.l.length aH):=(Zd HNB5B.out.box).2;have cx:B5.drew.cell? ⟨g,(k+1)*3,none⟩=some (.string ⟨(atK l (k+1)).toArray⟩):=(HNB5.out.kid (ix:=k+1) HZ.out.1).1;have q5:(0:Int)<(m.l.length:Int):=by omega
       generalize (m.l[0]'(by have:=HFIT5.out.len;omega)).key=okey5 at *;clear hTB5 ct bS bT cr cs ax bO hg5 cu;go_upto_region 10 with fail;rw[<-HW5.out];go_upto_region 13 with fail;clear n1 c2 a0 a1 b0 b1;go_region;rw[<-HB6.out];clear cI cJ cx c5 e5;go_upto_region 14 with fail;have c7:Tr n J seq B B6 F p f R tb:=bi.out
       have n1:B6.drew.cell? ⟨nb,1,none⟩=some (.slice (some ⟨g,0,none⟩) l.length cap):=(Zd HNt.out.box).2;have ck:B6.drew.cell? ⟨g,k*3+2,none⟩=some (.int .i64 KK):=by have:=(HNt.out.kid (ix:=k) (by have:=HZ.out.1;omega)).2;rw[HKK.out] at this;exact this
       have ca:B6.drew.cell? ⟨g,(k+1)*3+2,none⟩=some (.int .i64 KK1):=by have:=(HNt.out.kid (ix:=k+1) HZ.out.1).2;rw[HKK1.out] at this;exact this
       go_region;obtain⟨WL,aB⟩:∃WL,WL=(B6.alloc (.cells #[.int .i64 KK,.int .i64 KK1] 3)).drew:=⟨_,rfl⟩;have a2:Below B6.heap.size B6 WL:=by rw[aB];exact((Ve _ _).alloc (Va _) _).drew
       have bj:WL.heap[B6.heap.size]?=some (.cells #[.int .i64 KK,.int .i64 KK1] 3 (0,0)):=by rw[aB];exact Vg B6 _
       rw[<-aB];have HGL:=Hd bj
       have ab:=HTTt.out.trans (Zb.of_below a2);have HTTL:=Hd ab;have HTL:=Hd (bi.out.step a2);have HNL:=Hd (HNt.out.below a2);have HAL:=Hd (HNAt.out.below a2);have HBL:=Hd (HNBt.out.below a2);have HSL:=Hd ab.size;have bk:Hid (w.heap.size<=B6.heap.size):=Hd HTTt.out.size;generalize cb:B6.heap.size=gi at *;clear aB a2 bj n1 ck ca c7 ab cb;go_wp2_with fail;go_loopw [111] (λx wr=>∃(q:Nat) (fq:Pf),q<=2/\x=.int .i64 (q:Int)/\Tr n J seq B wr F p fq (Zcc R KK KK1 q) tb/\Far w WL F p f fq wr/\(1<=q->(R.free KK).1=0)/\(2<=q->((R.free KK).2.free KK1).1=0)) (λx _=>2 - (intOf x).toNat)
       case atStart=>exact⟨0,f,by omega,rfl,HTL.out,Far.start HTTL.out HPJ.out,λh=>by omega,λh=>by omega⟩
       case round =>
        obtain⟨q,fq,cc,rfl,A,j,C,ad⟩:=hrel;have HFAR:=Hd j
        have bl:=Hd A;have hgq:=(j.blk gi (Za HGL.out) (HPJ.out _ bk.out)).trans HGL.out;have k0:wr.cell? ⟨gi,0,none⟩=some (.int .i64 KK):=by rw[Vc _ _ _ _ _ _ hgq];rfl
        have k1:wr.cell? ⟨gi,1,none⟩=some (.int .i64 KK1):=by rw[Vc _ _ _ _ _ _ hgq];rfl
        have t0:wr.cell? ⟨tb,0,none⟩=some (Qs f.q):=by rw[<-j.q,Vc _ _ _ _ _ _ A.head];rfl
        rcases(show q=0\/q=1\/q=2 by omega) with rfl | rfl | rfl
        .have HFR:=Hd (Zga A.lp KK (by omega) (by omega))
         rw[j.q] at HFR;have HE1:=Hd C
         obtain⟨Y,hY⟩:∃Y,Y=Rp.free R KK:=⟨_,rfl⟩;have ae:(Zcc R KK KK1 0).free KK=Y:=hY.symm
         rw[ae] at HFR;have HY:=Hd hY
         clear A j C ad hgq hY ae;go_wp2_with fail;refine HFR.out.mono ?_;rintro e w7 ⟨rfl,af⟩;obtain⟨f7,ag,ah,ai,aj⟩:=bl.out.to af;have HFAR7:=Hd (HFAR.out.next ah ai aj HSL.out)
         have ak:=Hd ag;clear af ag ah ai aj k0 k1 t0 HFR;by_cases u:Y.1=0
         .have hz:(Y.1 != 0)=false:=by rw[u];rfl
          have aY:=Hd u;clear u;go_wp2_with fail;go_roundw
          case rel=>exact⟨0+1,f7,by omega,by go_num,by rw[show Zcc R KK KK1 (0+1)=Y.2 by rw[HY.out];rfl];exact ak.out,HFAR7.out,λ_=>by rw[<-HY.out];exact aY.out,λh=>by omega⟩
          case measure=>simp[intOf]
         .have hz:(Y.1 != 0)=true:=by rw[bne_iff_ne];exact u
          have r:Hid (X=((Y.1,l),Y.2)):=Hd (by
           rw[HX.out,HY.out];rw[HY.out] at u;simp only[Rp.joinN,HKI.out,HKK.out,HKK1.out,L.out,if_neg O.out,T.out,a6.out,t.out,o.out,ne_eq,not_true_eq_false,if_false]
           rw[if_pos u])
          have HEE:=Hd (HE.out f7 Y.2 w7 Y.1 ak.out HFAR7.out.q HFAR7.out.pt HFAR7.out.turn);clear u;go_wp2_with fail;rw[r.out];go_ret;exact HEE.out
        .have HFR:=Hd (Zga A.lp KK1 (by omega) (by omega))
         rw[j.q] at HFR;have HE1:=Hd C
         obtain⟨Y,hY⟩:∃Y,Y=Rp.free (R.free KK).2 KK1:=⟨_,rfl⟩;have ae:(Zcc R KK KK1 1).free KK1=Y:=hY.symm
         rw[ae] at HFR;have HY:=Hd hY
         clear A j C ad hgq hY ae;go_wp2_with fail;refine HFR.out.mono ?_;rintro e w7 ⟨rfl,af⟩;obtain⟨f7,ag,ah,ai,aj⟩:=bl.out.to af;have HFAR7:=Hd (HFAR.out.next ah ai aj HSL.out)
         have ak:=Hd ag;clear af ag ah ai aj k0 k1 t0 HFR;by_cases u:Y.1=0
         .have hz:(Y.1 != 0)=false:=by rw[u];rfl
          have aY:=Hd u;clear u;go_wp2_with fail;go_roundw
          case rel=>exact⟨1+1,f7,by omega,by go_num,by rw[show Zcc R KK KK1 (1+1)=Y.2 by rw[HY.out];rfl];exact ak.out,HFAR7.out,λ_=>HE1.out (by omega),λ_=>by rw[<-HY.out];exact aY.out⟩
          case measure=>simp[intOf]
         .have hz:(Y.1 != 0)=true:=by rw[bne_iff_ne];exact u
          have r:Hid (X=((Y.1,l),Y.2)):=Hd (by
           rw[HX.out,HY.out];rw[HY.out] at u;simp only[Rp.joinN,HKI.out,HKK.out,HKK1.out,L.out,if_neg O.out,T.out,a6.out,t.out,o.out,ne_eq,not_true_eq_false,if_false,HE1.out (by omega),if_neg]
           rw[if_pos u])
          have HEE:=Hd (HE.out f7 Y.2 w7 Y.1 ak.out HFAR7.out.q HFAR7.out.pt HFAR7.out.turn);clear u;go_wp2_with fail;rw[r.out];go_ret;exact HEE.out
        .have hna:=j.nd HAL.out (HPJ.out _ (by have:=SZ3.out;have:=HSZ2.out;omega)) (λk hk=>HPJ.out k (by have:=(HAL.out.row.isE_blk hk).1;have:=HSZ2.out;omega))
         have al:=j.nd HBL.out (HPJ.out _ (by have:=HBL.out.low;have:=HSZ3.out;omega)) (λk hk=>HPJ.out k (by have:=(HBL.out.row.isE_blk hk).1;have:=HSZ3.out;omega));obtain⟨aC,bm⟩:=joint HFIT3.out HFIT5.out (by rw[t.out,o.out]) (key:=atK l (k+1)) (Zey HL.out.few _);obtain⟨v8,w8,hr,aZ,P,a3⟩:=(show Zq w2.heap.size wr.drew (.slice a7 y.l.length aa) y.l from hna.row).app (show IsE wr.drew (.slice (some ⟨g5,0,none⟩) m.l.length aH) (Zr (atK l (k+1)) m.l) from al.row.isE) (by have:=j.size;have:=HSL.out;have:=HFAR.out.turn.size;have:=HTT2.out.size;have:=SZ3.out;have h9:=Za HAL.out.box;show w2.heap.size<=wr.heap.size;omega) (by rw[Qq];omega)
         have bn:w.heap.size<=wr.heap.size:=j.turn.size;have U:Zb (λk=>(Value.slice a7 y.l.length aa).ownBlock=some k) wr w8:=⟨P.os,P.tape,P.output,P.size,λk hk hn=>P.block k hk λe=>hn e.symm⟩;have s:∀k,(Value.slice a7 y.l.length aa).ownBlock=some k->w.heap.size<=k/\k<WL.heap.size:=λk hk=>by have:=HAL.out.row.lt hk;have:=HSZ2.out;omega
         have b2:Tr n J seq B w8 F p fq (Zcc R KK KK1 2) tb:=A.own U λk hk=>⟨j.apart k (s k hk).1 (s k hk).2,A.row_not hna.row (by have:=HFIT3.out.len;omega) hk⟩;have bo:w8.heap[w3.heap.size]?=some (ndO false (.slice a7 y.l.length aa)):=(U.block _ hna.lt λe=>hna.ne e rfl).trans hna.box
         have am:∀k,Zap v8 k->¬PJ F p fq k:=λk hk=>by
          have M:v8.ownBlock=some k:=by obtain⟨x,_,_,e1,e2⟩:=hk;rw[e1,<-e2];rfl
          rcases a3 with a3 | a3
          .rw[a3] at M;exact j.apart k (s k M).1 (s k M).2
          .rw[a3] at M
           intro e;have:=A.lp.lt e
           simp only[Option.some.injEq] at M;have h9:wr.drew.heap.size=wr.heap.size:=rfl
           omega
         have aK:Zb (PJ F p f) w w8:=j.turn.then U λk hk e=>by have:=s k e;omega
         obtain⟨H,aD⟩:∃Y,Y=(Zcc R KK KK1 2).layL ⟨false,y.l++(Zr (atK l (k+1)) m.l)⟩:=⟨_,rfl⟩;rw[show (if m.leaf then m.l else Zr (atK l (k+1)) m.l)=(Zr (atK l (k+1)) m.l) by rw[o.out];rfl] at aC bm
         have bp:=Hd (Zdm false b2 aZ.isE (by have:=HFIT3.out.len;have:=HFIT5.out.len;rw[List.length_append];rw[Qq];omega) aC am);rw[<-aD] at bp;have HY9:=Hd aD
         have bq:Hid (X=if ¬H.1.2=0 then ((H.1.2,l),H.2) else ((0,l.take k++(Zr (atK l k) H.1.1++l.drop (k+2))),H.2)):=Hd (by
          rw[HX.out,aD];simp only[Rp.joinN,HKI.out,HKK.out,HKK1.out,L.out,if_neg O.out,T.out,a6.out,t.out,o.out,ne_eq,not_true_eq_false,if_false,C (by omega),ad (by omega),Bool.false_eq_true,if_false]
          rfl)
         have cd:=Hd aC;obtain⟨a0,a1⟩:=Zd (w:=wr.drew) hna.box;obtain⟨b0,b1⟩:=Zd (w:=wr.drew) al.box;have d0:=(Zd bo).1;have HT8:=Hd b2;have HTW8:=Hd aK;have aL:Hid (w.heap.size<=w8.heap.size):=Hd (Vk bn P.size);have HR:=Hd hr;have HE1:=Hd (And.intro (C (by omega)) (ad (by omega)));obtain⟨a8,c8,M,_,_⟩:=aZ.isE.form;generalize (y.l++(Zr (atK l (k+1)) m.l)).length=N8 at M;subst M;clear A j C ad hgq hna al aC bm hr aZ P a3 bn U s b2 bo am aK aD k0 k1 t0;go_upto_region 21 with fail;have hr:=HR.out;go_region_law (first | refine Zdl rfl (.tmp 130) (.tmp 132) 172 172 rfl _ _ _ (by rfl) (by rfl) hr ?_ | (go_simp;go_at_call 101;refine bp.out.mono ?_;rintro e w9 ⟨v9,rfl,b3,a4⟩;have HM9:=Hd b3;have HT9:=Hd a4;obtain⟨a9,c9,a5,_,_⟩:=b3.isE.form;generalize Q:H.1.1.length=N9 at *;have HN9:=Hd Q;subst a5;clear b3 a4 Q))
         all_goals
          clear a0 a1 b0 b1 d0 hr
          obtain⟨f9,an,b4,b5,a4,ao⟩:=HT9.out
          have V:f9.q=f.q:=b4.trans HFAR.out.q
          have W:∀k,PT f9 k->PT f k\/w.heap.size<=k:=λk h=>(b5 k h).elim (HFAR.out.pt k) λe=>.inr (Vk aL.out e)
          have D:Zb (PJ F p f) w w9:=HTW8.out.then a4 λi hi hp=>by
           rcases hp with e | e
           .exact .inl e
           .rcases HFAR.out.pt i e with e | e
            .exact .inr e
            .omega
          by_cases u:H.1.2=0
          .have hz:(H.1.2 != 0)=false:=by rw[u];rfl
           have r:Hid (X=((0,l.take k++(Zr (atK l k) H.1.1++l.drop (k+2))),H.2)):=Hd (by rw[bq.out,if_neg (λh=>h u)]);have I:H.1.1≠[]:=by rw[HY9.out] at u ⊢;refine layN_ne _ _ _ (Uf _) (λe=>?_) cd.out u;exact HFIT3.out.some (List.append_eq_nil_iff.1 e).1
           have b6:H.1.1.length<=1000:=by have:=Zch (y.l.length+(Zr (atK l (k+1)) m.l).length+1) (Zcc R KK KK1 2) ⟨false,y.l++(Zr (atK l (k+1)) m.l)⟩;rw[HY9.out];unfold Rp.layL;dsimp only at this ⊢;rw[List.length_append] at this ⊢;have:=HFIT3.out.len;have:=HFIT5.out.len;simp only[Qq] at *;omega
           have Q:=HN.out.turned D HP1.out HP2.out;obtain⟨g9,co,a5,c0,e0,aM,Z⟩:=HM9.out.setKey (List.length_pos_iff.2 I) (atK l k);have hg9:=HM9.out.lt (k:=g9) (by rw[a5];rfl);rw[HN9.out] at a5;simp only[Value.slice.injEq] at a5;obtain⟨rfl,_,rfl⟩:=a5;have ce:w.heap.size<=g9:=Vk aL.out hg9.1;have hnlt:=HN.out.lt;have hN10:=Q.turned Z (λe=>by omega) (λk hk e=>by have:=(HN.out.row.isE_blk hk).2;omega);have hT10:=an.own Z λk e=>by subst e;exact⟨ao _ ⟨_,_,_,rfl,rfl⟩,λe=>by have:=HT.out.lp.nib_lt;omega,λe=>by have:=Za HT.out.head;omega⟩
           have ap:(w9.setCell ⟨g9,0,none⟩ (.string ⟨(atK l k).toArray⟩)).heap.size=w9.heap.size:=by simp[World.setCell]
           have aq:=Zfa k (k+2) hN10.row aM (λq hq e=>by
            have cc:g9=q:=by simpa [Value.ownBlock] using hq
            have:=(HN.out.row.lt e).2
            omega) (by omega) (by have:=HZ.out.1;omega) (by rw[ap];have:=HB.out;have:=D.size;omega) (by have:=HL.out.len;omega) (by rw[Qq];omega)
           rw[show ((k+2:Nat):Int)=(k:Int)+2 by omega] at aq
           have aN:=Hd aq;have n1:=(Zd Q.box).2;have ck:=(Q.kid (ix:=k) (by have:=HZ.out.1;omega)).1;have n2:=(Zd hN10.box).2;have z2:IntKind.i64.wrap ((k:Int)+2)=(k:Int)+2:=Vf _ (by have:=HZ.out.1;have:=HL.out.len;omega);have q0:(0:Int)<(N9:Int):=by have:=List.length_pos_iff.2 I;rw[HN9.out] at this;omega
           have N:=Hd hN10;have HT10:=Hd hT10;have HK9:=Hd W;have HQ9:=Hd V;have HTW:=Hd (D.then Z λi hi e=>by omega);have HW10:=Hd ap;have br:Hid (∀q,PJ F p f9 q->q<w9.heap.size):=Hd λq e=>an.lp.lt e;generalize (H.1.1[0]'(List.length_pos_iff.2 I)).key=cp at *;generalize atK l k=aO at *;obtain⟨bs,S⟩:∃bs,bs=w9.setCell ⟨g9,0,none⟩ (.string ⟨aO.toArray⟩):=⟨_,rfl⟩;rw[<-S] at aN n2 N HT10 HTW HW10;have HW10E:=Hd S;clear an b4 b5 a4 ao V W D u Q hg9 ce hnlt hN10 hT10 ap aq aM Z b6 I S;go_upto_region 25 with fail;rw[<-HW10E.out];go_wp2_with fail;refine aN.out.mono ?_;rintro e bt ⟨b7,rfl,ar,au,G⟩;obtain⟨aP,av⟩:=N.out.put ar au;have aw:bt.heap[nb]?=some (ndO false (.slice (some ⟨g,0,none⟩) l.length cap)):=(au.block _ N.out.lt λe=>N.out.ne e rfl).trans N.out.box;have m1:=(Zd aw).2;have f1:=Zf aw 1
           have aQ:=HT10.out.own av λq e=>by
            rcases e with e | e
            .subst e;exact⟨Xk (w:=w) HK9.out HP1.out HN.out.lt,HNN.out⟩
            .simp only[Value.ownBlock,Option.some.injEq] at e;subst e;exact⟨Xk (w:=w) HK9.out (HP2.out _ ⟨_,_,_,rfl,rfl⟩) (HN.out.row.lt (k:=g) rfl).2,cf.out⟩
           have HEE:Hid (Zhf n J seq B w F p f tb Bn nb (.slice (some ⟨g,0,none⟩) l.length cap) X (.returned (.int .i64 0)) (bt.setCell ⟨nb,1,none⟩ b7)):=Hd (by
            rw[r.out];refine⟨rfl,b7,f9,aP,aQ,HQ9.out,HK9.out,(HTW.out.mono λk _ h=>.inl h).trans (av.mono λk _ h=>.inr h),Xk (w:=w) HK9.out HP1.out HN.out.lt,λq hq hp=>?_⟩;have z:b7.ownBlock=some q:=by obtain⟨x,_,_,e1,e2⟩:=hq;rw[e1,<-e2];rfl
            rcases G with G | ⟨q',G,cE⟩
            .rw[G] at z
             have hg:g=q:=by simpa [Value.ownBlock] using z
             subst hg;exact Xk (w:=w) HK9.out (HP2.out _ ⟨_,_,_,rfl,rfl⟩) (HN.out.row.lt (k:=g) rfl).2 hp
            .rw[G] at z
             have hg:q'=q:=by simpa using z
             subst hg;have:=br.out _ hp
             have:=HW10.out
             omega)
           obtain⟨cF,cG,z,_,_⟩:=ar.isE.form;generalize (l.take k++(Zr aO H.1.1++l.drop (k+2))).length=cH at z;subst z;clear ar au G aP av aw aQ;go_wp2_with fail;go_ret;exact HEE.out
          .have hz:(H.1.2 != 0)=true:=by rw[bne_iff_ne];exact u
           have r:Hid (X=((H.1.2,l),H.2)):=Hd (by rw[bq.out,if_pos u]);have HEE:=Hd (HE.out f9 H.2 w9 H.1.2 an V W D);clear an b4 b5 a4 ao V W D u;go_wp2_with fail;rw[r.out];go_ret;exact HEE.out
end
end
section
open Go.RowKit
section
variable {n : Nat} {J : Jn} {seq : Int} {B : List (List UInt8)} {F : Ft} {p : Nat} {tb : Nat}
abbrev chV (fid:Nat) (caps:Array Value):Value:=.func (.func fid) #[] caps
def AnewAt (n:Nat) (J:Jn) (seq:Int) (B:List (List UInt8)) (F:Ft) (p:Nat) (tb:Nat) (fid:Nat) (caps:Array Value) (K:Nat->Prop) (Cs:World->Prop) (c:Chg) (key:List UInt8) (fu:Nat):Prop :=
 ∀(w:World) (f:Pf) (R:Rp) (page:Int),Tr n J seq B w F p f R tb->Cs w->(∀k,K k->¬PJ F p f k)->-9223372036854775808<=page->page<=9223372036854775807 ->
  Calls Tryz.prog 133 #[trp tb,.int .i64 page,.string ⟨key.toArray⟩,chV fid caps,.int .i64 (41 - (fu:Int))] w (Zam n J seq B w F p f tb (R.anewN c key fu page))
variable {fid : Nat} {caps : Array Value} {K : Nat → Prop} {Cs : World → Prop} {c : Chg} {key : List UInt8}
theorem anew_zero:AnewAt n J seq B F p tb fid caps K Cs c key 0:=by
 intro w f R a d h i j k;have b:Hid (Zam n J seq B w F p f tb (([],103),R) (.returned (.tuple #[.slice none 0 0,.int .i64 103])) w):=Hd ⟨_,rfl,Zq.nil _ _,(Qa.same d).nil⟩
 have e:R.anewN c key 0 a=(([],103),R):=rfl;rw[e];have g:(41 - ((0:Nat):Int))=41:=by decide
 rw[g];clear e g d h i;go_enter Tryz.func133,Tryz.ntmps133;go_wp2_with fail;go_ret2;exact b.out
theorem anew_succ (b5:Chr fid caps K Cs c) (bl:∀(args:Array Value) (w:World),(callFunc fid args).run Tryz.prog w=.ok (.enter fid args) w) (fu:Nat) (bI:fu<=40) (ih:AnewAt n J seq B F p tb fid caps K Cs c key fu):AnewAt n J seq B F p tb fid caps K Cs c key (fu+1):=by
 intro w f R page hT hC hK bm bn;obtain⟨X,hX⟩:∃X,X=R.anewN c key (fu+1) page:=⟨_,rfl⟩;rw[<-hX];have HX:=Hd hX
 obtain⟨D,hD⟩:∃D:Int,D=41 - ((fu+1:Nat):Int):=⟨_,rfl⟩;rw[<-hD];obtain⟨bV,bW,bX,bo⟩:¬D > 40/\0<=D/\D<=40/\D+1=41 - (fu:Int):=by omega
 have bJ:=Hd bo;have HCH:=Hd b5;have HIH:=Hd ih;have HT:=Hd hT;have HC:=Hd hC;have HK:=Hd hK;have HLD:=Hd (Zep hT page bm bn);have ag:Hid (∀k,w.heap.size<=k->¬PJ F p f k):=Hd λk h e=>by have:=hT.lp.lt e;omega
 have U:=Hd (And.intro bm bn);have bY:Hid (∀k,K k->k<w.heap.size):=Hd λk h=>b5.lt w k hC h;have HGD:=Hd hT.lp.good;clear hX hD hT hC hK b5 ih bI bo;go_enter Tryz.func133,Tryz.ntmps133;go_wp2_with fail;refine HLD.out.mono ?_;rintro e w1 ⟨lf,va,vk,vc,rfl,aQ,aR,az⟩;obtain⟨ar,an,b6⟩:=nd_box w1 lf (.slice va vk vc);obtain⟨B1,aS⟩:∃B1,B1=w1.alloc (.cells #[.bool lf,.slice va vk vc] 174):=⟨_,rfl⟩;rw[<-aS] at ar an b6;have HW1:=Hd aS;have hTB1:=aQ.step ar;have htt1:=aR.trans (Zb.of_below ar);have HTB1:=Hd hTB1;have HTT1:=Hd htt1
 cases ah:(R.load page).1 with
 | none =>
  have bp:=Rp.load_none ah;have bQ:((R.load page).2 != 0)=true:=by rw[bne_iff_ne];exact bp
  have C:Hid (X=(([],(R.load page).2),R)):=Hd (by
   obtain⟨E,hh,hE⟩:∃E,R.load page=(none,E)/\E=(R.load page).2:=⟨_,by rw[<-ah],rfl⟩;rw[HX.out,<-hE]
   simp only[Rp.anewN,hh])
  have m:Hid (Zam n J seq B w F p f tb (([],(R.load page).2),R) (.returned (.tuple #[.slice none 0 0,.int .i64 (R.load page).2])) B1):=Hd ⟨_,rfl,Zq.nil _ _,Qa.nil ⟨f,hTB1,rfl,λ_ h=>.inl h,htt1⟩⟩;clear aQ aR az ar an b6 aS ah bp hTB1 htt1 HLD;go_wp2_with fail;rw[<-HW1.out,C.out];go_ret2;exact m.out
 | some j =>
  obtain⟨a4,b7⟩:=az j ah;obtain⟨ao,aT⟩:=aQ.lp.load_fit ah;have HFIT:=Hd ao
  have N:=Hd a4;have hm1b:=b7.below ar;have bK:vk=j.l.length:=by obtain⟨_,_,e,_⟩:=b7.isE.form;simp only[Value.slice.injEq] at e;exact e.2.1
  subst bK;have bZ:((R.load page).2 != 0)=false:=by rw[aT];rfl
  have bq:Hid (R.load page=(some j,0)):=Hd (by rw[<-ah,<-aT]);obtain⟨a0,bR⟩:=ao.len;have hsz1:=aR.size;have br:NdAt B1 w.heap.size w1.heap.size lf (.slice va j.l.length vc) j.l:=⟨an,hm1b,hsz1⟩;have HN1:=Hd br;have hbe:=behind_any B1 lf va j.l.length vc hm1b.isE rfl a0 (by omega) (by have:=ao.srt;rw[show j=⟨j.leaf,j.l⟩ from rfl,a4] at this;exact this) key
  rw[show Nd.mk lf j.l=j by rw[<-a4]] at hbe
  have bs:=Hd hbe;have aA:w.heap.size<=w1.heap.size:=hsz1;rw[aT];clear aQ aR az ar an b6 aS ah b7 ao a4 aT hm1b hbe hTB1 htt1 HLD hsz1 br;go_wp2_with fail;rw[<-HW1.out];refine bs.out.mono ?_;rintro e w2 ⟨rfl,aB⟩;have hT2:=HTB1.out.step aB;have htt2:=HTT1.out.trans (Zb.of_below aB);have hN2:=HN1.out.below aB;have HT2:=Hd hT2;have HTT2:=Hd htt2;have HN2:=Hd hN2;have hC2:=HCH.out.keep _ _ _ HC.out htt2 HK.out;have HC2:=Hd hC2;obtain⟨m0,m1⟩:=Zd hN2.box;clear bs
  cases lf with
  | true =>
   obtain⟨aU,aV⟩:=Zbo N.out key;obtain⟨IX,aW⟩:∃IX,IX=j.behind key:=⟨_,rfl⟩;rw[<-aW] at aU aV ⊢;have HIX:=Hd aW
   have bt:=Hd (HCH.out.run w2 w.heap.size w1.heap.size (.slice va j.l.length vc) j.l IX.1 IX.2 HC2.out HN2.out aU aV (by omega) HTT2.out.size);obtain⟨bu,bL⟩:=HCH.out.ok j.l IX.1 IX.2 HFIT.out.few (by have:=HFIT.out.sum;unfold Nd.sum at this;rw[N.out] at this;exact this) aU aV;have a6:Hid (∀e∈c j.l IX.1 IX.2,e.few):=Hd bu;have a7:Hid ((c j.l IX.1 IX.2).length<=1000):=Hd (by have:=Zaz true (c j.l IX.1 IX.2) 0;omega)
   have G:Hid (X=R.relay page ⟨true,c j.l IX.1 IX.2⟩):=Hd (by
    rw[HX.out,aW]
    simp only[Rp.anewN,bq.out,if_pos N.out])
   clear hT2 htt2 hN2 hC2 aB aW aU aV bu bL;generalize IX.2=IS at *;generalize IX.1=II at *;go_wp2_with fail;refine bt.out.mono ?_;rintro e w3 ⟨rfl,v3,b8,V,bM⟩;have aC:¬PJ F p f w1.heap.size:=ag.out _ aA
   have bN:=Hd (HT2.out.own V λk e=>by
    rcases e with e | e
    .subst e;exact⟨aC,HT2.out.nd_not HN2.out⟩
    .exact⟨ag.out _ (HN2.out.row.lt e).1,HT2.out.row_not HN2.out.row a0 e⟩)
   have A:=Hd b8
   have b:=Hd (HTT2.out.then V λi hi e=>by
    rcases e with e | e
    .omega
    .have:=(HN2.out.row.lt e).1;omega)
   have HTW:=bN;have t:Hid (¬PJ F p f w1.heap.size/\∀k,Zap v3 k->¬PJ F p f k):=Hd ⟨aC,λk hk=>ag.out k (b8.row.isE_blk hk).1⟩;clear b8 V bM aC m0 m1 bl;have HFR:=Hd (Zhc HTW.out page U.out.1 U.out.2);go_wp2_with fail;refine HFR.out.mono ?_;rintro e w7 ⟨rfl,H⟩;obtain⟨Q,o,y,r,d⟩:=H;have hN7:=A.out.turned d t.out.1 t.out.2;have HN7:=Hd hN7;have HT7:=Hd o
   have a:Hid (Q.q=f.q/\(∀k,PT Q k->PT f k\/w.heap.size<=k)/\Zb (PJ F p f) w w7/\w.heap.size<=w7.heap.size):=Hd ⟨y.trans rfl,λk h=>(r k h).elim ((λq (h:PT f q)=>(Or.inl h:PT f q\/w.heap.size<=q)) k) λe=>.inr (by have:=b.out.size;omega),b.out.then d (λi hi hp=>by
    rcases hp with e | e
    .exact .inl e
    .rcases(λq (h:PT f q)=>(Or.inl h:PT f q\/w.heap.size<=q)) i e with e | e
     .exact .inr e
     .omega),Vk b.out.size d.size⟩
   have a8:Hid (∀k,Zap v3 k->¬PJ F p Q k):=Hd λk hk=>Xk (w:=w3) r (t.out.2 k hk) (A.out.row.isE_blk hk).2;by_cases v:(R.freeT page).1=0
   .have hz:((R.freeT page).1 != 0)=false:=by rw[v];rfl
    have a9:Hid (X=(R.freeT page).2.layL ⟨true,c j.l II IS⟩):=Hd (by rw[G.out,Rp.relay,if_neg (λh=>h v)]);have HLY:=Hd (Zdm true o hN7.row.isE (by have:=a7.out;omega) a6.out a8.out);rw[<-a9.out] at HLY;obtain⟨n0,n1⟩:=Zd hN7.box;clear o y r d hN7 v HFR;generalize (R.freeT page).1=EF at *;go_wp2_with fail;refine HLY.out.mono ?_;rintro e w9 ⟨v9,rfl,I,L⟩;have m:Hid (Zam n J seq B w F p f tb X (.returned (.tuple #[v9,.int .i64 X.1.2])) w9):=Hd ⟨v9,rfl,I.low a.out.2.2.2,TrV.then a.out.1 a.out.2.1 a.out.2.2.1 L⟩;clear I L;go_wp2_with fail;go_ret2;exact m.out
   .have hz:((R.freeT page).1 != 0)=true:=by rw[bne_iff_ne];exact v
    have C:Hid (X=(([],(R.freeT page).1),(R.freeT page).2)):=Hd (by rw[G.out,Rp.relay,if_pos v]);have m:Hid (Zam n J seq B w F p f tb (([],(R.freeT page).1),(R.freeT page).2) (.returned (.tuple #[.slice none 0 0,.int .i64 (R.freeT page).1])) w7):=Hd ⟨_,rfl,Zq.nil _ _,Qa.nil ⟨Q,HT7.out,a.out.1,a.out.2.1,a.out.2.2.1⟩⟩;clear o y r d hN7 v HFR;go_wp2_with fail;rw[C.out];go_ret2;exact m.out
  | false =>
   have bw:=Zff HFIT.out.some N.out key;obtain⟨II,aX⟩:∃II,II=(j.behind key).1:=⟨_,rfl⟩;rw[<-aX] at bw ⊢;have HII:=Hd aX
   obtain⟨g,rfl⟩:∃g,va=some ⟨g,0,none⟩:=by
    rcases hN2.row.form with ⟨_,e⟩ | ⟨g,c1,e,_⟩
    .rw[e] at a0;simp at a0
    .simp only[Value.slice.injEq] at e;exact⟨g,e.1⟩
   obtain⟨k0,k2⟩:=hN2.kid (ix:=II) bw;have kf:=Zfg HFIT.out.few II
   obtain⟨c2,c4⟩:(0:Int)<=(II:Int)/\(II:Int)<(j.l.length:Int):=by omega
   obtain⟨KD,aY⟩:∃KD,KD=Zn j.l II:=⟨_,rfl⟩;rw[<-aY] at k2 kf;have HKD:=Hd aY
   have b9:=HIH.out w2 f R KD hT2 hC2 HK.out (by omega) (by omega);rw[<-bJ.out] at b9;have HREC:=Hd b9;obtain⟨ba,aZ,aD⟩:=Zhg HCH.out.ok key fu KD HGD.out;obtain⟨Y,hY⟩:∃Y,Y=R.anewN c key fu KD:=⟨_,rfl⟩;rw[<-hY] at HREC ba aZ aD;have HY:=Hd hY;have HG:=Hd (And.intro ba aZ);have aE:(atK j.l II).length<=80:=Zey HFIT.out.few II;obtain⟨low,aF⟩:∃low,low=atK j.l II:=⟨_,rfl⟩;rw[<-aF] at k0 aE;have HLW2:=Hd aF
   have aG:Hid (X=if Y.1.2≠0 then (([],Y.1.2),Y.2) else if Y.1.1.length=1/\1<(Yr j.l Y.1.1 II).length then (if (Y.2.joinN (Yr j.l Y.1.1 II) (min II ((Yr j.l Y.1.1 II).length - 2)) II).1.1≠0 then (([],(Y.2.joinN (Yr j.l Y.1.1 II) (min II ((Yr j.l Y.1.1 II).length - 2)) II).1.1),(Y.2.joinN (Yr j.l Y.1.1 II) (min II ((Yr j.l Y.1.1 II).length - 2)) II).2) else (Y.2.joinN (Yr j.l Y.1.1 II) (min II ((Yr j.l Y.1.1 II).length - 2)) II).2.relay page ⟨false,(Y.2.joinN (Yr j.l Y.1.1 II) (min II ((Yr j.l Y.1.1 II).length - 2)) II).1.2⟩) else Y.2.relay page ⟨false,Yr j.l Y.1.1 II⟩):=Hd (by
    rw[HX.out,hY,aY,aX]
    simp only[Rp.anewN,bq.out,N.out,Bool.false_eq_true,if_false])
   have bx:Zg false 0 j.l<=893:=by have:=HFIT.out.sum;unfold Nd.sum at this;rw[N.out] at this;exact this
   have b3:Hid (Rowy (893+83*Y.1.1.length) (Yr j.l Y.1.1 II)):=Hd ⟨merge_few _ _ HFIT.out.few aZ (by rw[<-aF];exact aE),by
    have:=Zgw (l:=j.l) II (II+1) (by omega) (by omega) aZ (key:=atK j.l II) (by rw[<-aF];exact aE);unfold Yr
    omega⟩
   clear hT2 htt2 hN2 hC2 aB aX aY b9 hY ba aF bx bl;go_wp2_with fail;refine HREC.out.mono ?_;rintro e w3 ⟨v3,rfl,aa,bz⟩;obtain⟨f3,au,av,aw,V,ap⟩:=bz;have hsz3:=V.size
   have bA:=HN2.out.lt;have a1:∀k,PT f3 k->PT f k\/w.heap.size<=k:=λk h=>(aw k h).elim .inl λe=>.inr (by have:=HTT2.out.size;omega);have htt3:=HTT2.out.trans V;have hN3:=HN2.out.turned V (ag.out _ aA) (λk hk=>ag.out k (HN2.out.row.isE_blk hk).1);have aH:¬PJ F p f3 w1.heap.size:=Xk (w:=w2) aw (ag.out _ aA) bA;have aI:¬PJ F p f3 g:=Xk (w:=w2) aw (ag.out _ (HN2.out.row.lt (k:=g) rfl).1) (HN2.out.row.lt (k:=g) rfl).2;by_cases v:Y.1.2=0
   .have hz:(Y.1.2 != 0)=false:=by rw[v];rfl
    have b0:=Hd v;obtain⟨a3,c3,ai,_,_⟩:=aa.isE.form;by_cases b1:Y.1.1=[]
    .have aJ:Y.1.1=[]:=b1
     have aj:Y.1.1.length=0:=by rw[aJ];rfl
     have bb:=Hd aj;have af:Zq w2.heap.size w3 v3 (Zr low Y.1.1):=by rw[aJ] at aa ⊢;exact aa
     have hN4:=hN3;have hT4:=au;have htt4:=htt3;rw[aj] at ai;subst ai;have bc:(Zr low Y.1.1).length<=4:=by rw[Qq];exact aD
     have M:=Zfa II (II+1) hN4.row af (λq hq e=>by
      have h1:=(af.lt hq).1;have h2:=(HN2.out.row.lt e).2
      omega) (by omega) (by omega) (by have:=htt4.size;omega) (by omega) (by omega)
     rw[show ((II+1:Nat):Int)=(II:Int)+1 by omega] at M
     obtain⟨O,ab⟩:∃O,O=Yr j.l Y.1.1 II:=⟨_,rfl⟩;rw[show j.l.take II++(Zr low Y.1.1++j.l.drop (II+1))=O by rw[ab,HLW2.out];rfl] at M
     have aK:=Hd M;have HL6:=Hd ab;have u:Hid (Rowy (893+83*Y.1.1.length) O):=Hd (by rw[ab];exact b3.out);have n1:=(Zd hN4.box).2;have z2:IntKind.i64.wrap ((II:Int)+1)=(II:Int)+1:=Vf _ (by omega);have HN4:=Hd hN4;have HT4:=Hd hT4;have HTT4:=Hd htt4;have aL:Hid (f3.q=f.q):=Hd av;have HK3:=Hd a1;have ad:Hid (¬PJ F p f3 w1.heap.size/\¬PJ F p f3 g):=Hd ⟨aH,aI⟩;have aM:Hid (∀q,PJ F p f3 q->q<w3.heap.size):=Hd λq e=>hT4.lp.lt e;have HG3:=Hd aD;clear M ab hN4 hT4 htt4 av a1 aH aI af bc aa au aw V ap htt3 hN3 b1 aJ aj;go_upto_region 15 with fail;go_wp2_with fail;refine aK.out.mono ?_;rintro e w5 ⟨v5,rfl,ak,al,P⟩;obtain⟨aN,W⟩:=HN4.out.put ak al;have am:w5.heap[w1.heap.size]?=some (ndO false (.slice (some ⟨g,0,none⟩) j.l.length vc)):=(al.block _ HN4.out.lt λe=>HN4.out.ne e rfl).trans HN4.out.box;have m1:=(Zd am).2;have f1:=Zf am 1
     have HTW:=Hd (HT4.out.own W λq e=>by
      rcases e with e | e
      .subst e;exact⟨ad.out.1,HT4.out.nd_not HN4.out⟩
      .have S:g=q:=by simpa [Value.ownBlock] using e
       subst S
       exact⟨ad.out.2,HT4.out.row_not HN4.out.row a0 (k:=g) rfl⟩)
     have A:=Hd aN
     have b:=Hd (HTT4.out.then W λi hi e=>by
      rcases e with e | e
      .omega
      .have:=(HN4.out.row.lt e).1;omega)
     have t:Hid (¬PJ F p f3 w1.heap.size/\∀k,Zap v5 k->¬PJ F p f3 k):=Hd ⟨ad.out.1,λq hq hp=>by
      have z:v5.ownBlock=some q:=by obtain⟨x,_,_,e1,e2⟩:=hq;rw[e1,<-e2];rfl
      rcases P with P | ⟨q',P,bO⟩
      .rw[P] at z
       have S:g=q:=by simpa [Value.ownBlock] using z
       subst S;exact ad.out.2 hp
      .rw[P] at z
       have S:q'=q:=by simpa using z
       subst S;have:=aM.out _ hp
       omega⟩
     have bd:Hid (∃a5 c5,v5=.slice a5 O.length c5):=Hd (by
      obtain⟨a5,c5,z,_,_⟩:=ak.isE.form
      exact⟨a5,c5,z⟩)
     obtain⟨a5,c5,z⟩:=bd.out;obtain⟨T,ae⟩:∃T,T=O.length:=⟨_,rfl⟩;rw[<-ae] at z;have HN6:=Hd ae
     have aq:T<=1000:=by rw[ae];have:=u.out.len;have:=HG3.out;omega
     subst z;clear ak al P aN W am ae;have a6:Hid (∀e∈O,e.few):=Hd u.out.few
     have a7:Hid (O.length<=1000):=Hd (by rw[<-HN6.out];exact aq);have G:Hid (X=Y.2.relay page ⟨false,O⟩):=Hd (by rw[aG.out,if_neg (λh=>h b0.out),if_neg (λh=>by have:=bb.out;have:=h.1;omega),<-HL6.out]);have HFR:=Hd (Zhc HTW.out page U.out.1 U.out.2);go_wp2_with fail;refine HFR.out.mono ?_;rintro e w7 ⟨rfl,H⟩;obtain⟨Q,o,y,r,d⟩:=H;have hN7:=A.out.turned d t.out.1 t.out.2;have HN7:=Hd hN7;have HT7:=Hd o
     have a:Hid (Q.q=f.q/\(∀k,PT Q k->PT f k\/w.heap.size<=k)/\Zb (PJ F p f) w w7/\w.heap.size<=w7.heap.size):=Hd ⟨y.trans aL.out,λk h=>(r k h).elim (HK3.out k) λe=>.inr (by have:=b.out.size;omega),b.out.then d (λi hi hp=>by
      rcases hp with e | e
      .exact .inl e
      .rcases HK3.out i e with e | e
       .exact .inr e
       .omega),Vk b.out.size d.size⟩
     have a8:Hid (∀k,Zap (.slice a5 T c5) k->¬PJ F p Q k):=Hd λk hk=>Xk (w:=(w5.setCell ⟨w1.heap.size,1,none⟩ (.slice a5 T c5))) r (t.out.2 k hk) (A.out.row.isE_blk hk).2;by_cases v:(Y.2.freeT page).1=0
     .have hz:((Y.2.freeT page).1 != 0)=false:=by rw[v];rfl
      have a9:Hid (X=(Y.2.freeT page).2.layL ⟨false,O⟩):=Hd (by rw[G.out,Rp.relay,if_neg (λh=>h v)]);have HLY:=Hd (Zdm false o hN7.row.isE (by have:=a7.out;omega) a6.out a8.out);rw[<-a9.out] at HLY;obtain⟨n0,n1⟩:=Zd hN7.box;clear o y r d hN7 v HFR;generalize (Y.2.freeT page).1=EF at *;go_wp2_with fail;refine HLY.out.mono ?_;rintro e w9 ⟨v9,rfl,I,L⟩;have m:Hid (Zam n J seq B w F p f tb X (.returned (.tuple #[v9,.int .i64 X.1.2])) w9):=Hd ⟨v9,rfl,I.low a.out.2.2.2,TrV.then a.out.1 a.out.2.1 a.out.2.2.1 L⟩;clear I L;go_wp2_with fail;go_ret2;exact m.out
     .have hz:((Y.2.freeT page).1 != 0)=true:=by rw[bne_iff_ne];exact v
      have C:Hid (X=(([],(Y.2.freeT page).1),(Y.2.freeT page).2)):=Hd (by rw[G.out,Rp.relay,if_pos v]);have m:Hid (Zam n J seq B w F p f tb (([],(Y.2.freeT page).1),(Y.2.freeT page).2) (.returned (.tuple #[.slice none 0 0,.int .i64 (Y.2.freeT page).1])) w7):=Hd ⟨_,rfl,Zq.nil _ _,Qa.nil ⟨Q,HT7.out,a.out.1,a.out.2.1,a.out.2.2.1⟩⟩;clear o y r d hN7 v HFR;go_wp2_with fail;rw[C.out];go_ret2;exact m.out
    .have hne0:=List.length_pos_iff.2 b1
     obtain⟨g3,bS,a2,c0,e0,af,b2⟩:=aa.setKey hne0 low;have hg3b:=aa.lt (k:=g3) (by rw[a2];rfl)
     have aO:¬PJ F p f3 g3:=ap _ ⟨_,_,_,a2,rfl⟩;obtain⟨N3,aP⟩:∃N3,N3=Y.1.1.length:=⟨_,rfl⟩;rw[<-aP] at ai a2;rw[ai] at a2;simp only[Value.slice.injEq,true_and] at a2;obtain⟨rfl,rfl⟩:=a2;have HN3E:=Hd aP;subst ai;have hw2s:=HTT2.out.size;have hN4:=hN3.turned b2 (λe=>by omega) (λq hq e=>by have:=(HN2.out.row.isE_blk hq).2;omega);have hT4:=au.own b2 λq e=>by subst e;exact⟨aO,λe=>by have:=HT.out.lp.nib_lt;omega,λe=>by have:=Za HT.out.head;omega⟩
     have htt4:=htt3.then b2 λi hi e=>by omega
     obtain⟨w4,be⟩:∃w4,w4=w3.setCell ⟨g3,0,none⟩ (.string ⟨low.toArray⟩):=⟨_,rfl⟩;rw[<-be] at af hN4 hT4 htt4;have HW4:=Hd be
     obtain⟨q0,q3⟩:(0:Int)<(N3:Int)/\(N3:Int)<=4:=by omega
     generalize (Y.1.1[0]'hne0).key=bT at *;have bc:(Zr low Y.1.1).length<=4:=by rw[Qq];exact aD
     have M:=Zfa II (II+1) hN4.row af (λq hq e=>by
      have h1:=(af.lt hq).1;have h2:=(HN2.out.row.lt e).2
      omega) (by omega) (by omega) (by have:=htt4.size;omega) (by omega) (by omega)
     rw[show ((II+1:Nat):Int)=(II:Int)+1 by omega] at M
     obtain⟨O,ab⟩:∃O,O=Yr j.l Y.1.1 II:=⟨_,rfl⟩;rw[show j.l.take II++(Zr low Y.1.1++j.l.drop (II+1))=O by rw[ab,HLW2.out];rfl] at M
     have aK:=Hd M;have HL6:=Hd ab;have u:Hid (Rowy (893+83*Y.1.1.length) O):=Hd (by rw[ab];exact b3.out);have n1:=(Zd hN4.box).2;have z2:IntKind.i64.wrap ((II:Int)+1)=(II:Int)+1:=Vf _ (by omega);have HN4:=Hd hN4;have HT4:=Hd hT4;have HTT4:=Hd htt4;have aL:Hid (f3.q=f.q):=Hd av;have HK3:=Hd a1;have ad:Hid (¬PJ F p f3 w1.heap.size/\¬PJ F p f3 g):=Hd ⟨aH,aI⟩;have aM:Hid (∀q,PJ F p f3 q->q<w4.heap.size):=Hd λq e=>hT4.lp.lt e;have HG3:=Hd aD;clear M ab hN4 hT4 htt4 av a1 aH aI af bc aa au aw V ap htt3 hN3 b1 hne0 b2 hg3b aO be aP;go_upto_region 15 with fail;rw[<-HW4.out];go_wp2_with fail;refine aK.out.mono ?_;rintro e w5 ⟨v5,rfl,ak,al,P⟩;obtain⟨aN,W⟩:=HN4.out.put ak al;have am:w5.heap[w1.heap.size]?=some (ndO false (.slice (some ⟨g,0,none⟩) j.l.length vc)):=(al.block _ HN4.out.lt λe=>HN4.out.ne e rfl).trans HN4.out.box;have m1:=(Zd am).2;have f1:=Zf am 1
     have HTW:=Hd (HT4.out.own W λq e=>by
      rcases e with e | e
      .subst e;exact⟨ad.out.1,HT4.out.nd_not HN4.out⟩
      .have S:g=q:=by simpa [Value.ownBlock] using e
       subst S
       exact⟨ad.out.2,HT4.out.row_not HN4.out.row a0 (k:=g) rfl⟩)
     have A:=Hd aN
     have b:=Hd (HTT4.out.then W λi hi e=>by
      rcases e with e | e
      .omega
      .have:=(HN4.out.row.lt e).1;omega)
     have t:Hid (¬PJ F p f3 w1.heap.size/\∀k,Zap v5 k->¬PJ F p f3 k):=Hd ⟨ad.out.1,λq hq hp=>by
      have z:v5.ownBlock=some q:=by obtain⟨x,_,_,e1,e2⟩:=hq;rw[e1,<-e2];rfl
      rcases P with P | ⟨q',P,bO⟩
      .rw[P] at z
       have S:g=q:=by simpa [Value.ownBlock] using z
       subst S;exact ad.out.2 hp
      .rw[P] at z
       have S:q'=q:=by simpa using z
       subst S;have:=aM.out _ hp
       omega⟩
     have bd:Hid (∃a5 c5,v5=.slice a5 O.length c5):=Hd (by
      obtain⟨a5,c5,z,_,_⟩:=ak.isE.form
      exact⟨a5,c5,z⟩)
     obtain⟨a5,c5,z⟩:=bd.out;obtain⟨T,ae⟩:∃T,T=O.length:=⟨_,rfl⟩;rw[<-ae] at z;have HN6:=Hd ae
     have aq:T<=1000:=by rw[ae];have:=u.out.len;have:=HG3.out;omega
     subst z;clear ak al P aN W am ae;by_cases hj:N3=1/\1<T
     .obtain⟨ax,bf⟩:=hj
      have c6:=Hd ax;have HJ2:=Hd bf;have bg:T=j.l.length:=by rw[HN6.out,HL6.out,Yr,List.length_append,List.length_append,Qq,<-HN3E.out,ax,List.length_take,List.length_drop];omega
      obtain⟨KM,bh⟩:∃KM,KM=min II (T - 2):=⟨_,rfl⟩;have hjn:=join_any HTW.out A.out b.out.size t.out.1 t.out.2 ⟨u.out.few,by have:=u.out.sum;rw[<-HN3E.out,ax] at this;exact this⟩ KM II (by rw[<-HN6.out];omega) (by rw[<-HN6.out];omega)
      have bU:min (II:Int) ((T:Int) - 2)=(KM:Int):=by omega
      obtain⟨Z,hZ⟩:∃Z,Z=Y.2.joinN O KM II:=⟨_,rfl⟩;rw[<-hZ] at hjn;have HZ:=Hd hZ
      have bP:=Hd hjn;have HKM:=Hd bh;have d1:decide ((T:Int) > 1)=true:=Vd (by omega);have d2:(1:Int)<(T:Int):=by omega
      have zz:((N3:Int)==1)=true:=by rw[beq_iff_eq];omega
      have z6:IntKind.i64.wrap ((T:Int) - 2)=(T:Int) - 2:=Vf _ (by omega);have hjb:=Zhn HG.out.1 (l:=O) (s:=976) ⟨u.out.few,by have:=u.out.sum;rw[<-HN3E.out,ax] at this;exact this⟩ (k:=KM) (i:=II) (by rw[<-HN6.out];omega);rw[<-hZ] at hjb;have HJB:=Hd hjb
      have bB:Hid (X=if Z.1.1≠0 then (([],Z.1.1),Z.2) else Z.2.relay page ⟨false,Z.1.2⟩):=Hd (by
       have e1:Y.1.1.length=1:=by rw[<-HN3E.out];exact ax
       rw[aG.out,if_neg (λh=>h b0.out),<-HL6.out,<-HN6.out,<-bh,<-hZ,if_pos ⟨e1,bf⟩])
      clear ax bf bg hjn hZ bh hjb;go_wp2_with fail;refine bP.out.mono ?_;rintro e w6 ⟨rfl,v6,f6,b4,bC,bD,bE,W,bF,bG⟩;have bH:Hid (f6.q=f.q):=Hd (bD.trans aL.out)
      have bi:Hid (∀k,PT f6 k->PT f k\/w.heap.size<=k):=Hd λk h=>(bE k h).elim (HK3.out k) λe=>.inr (Vk b.out.size e);have HTTV:=b;clear b
      have b:Hid (Zb (PJ F p f) w w6):=Hd (HTTV.out.then W λi hi e=>by
       rcases e with e | e | e
       .rcases e with e | e
        .exact .inl e
        .rcases HK3.out i e with e | e
         .exact .inr e
         .omega
       .omega
       .have:=(A.out.row.lt e).1;omega)
      clear HTW A t;have HTW:=Hd bC
      have A:=Hd b4;have t:Hid (¬PJ F p f6 w1.heap.size/\∀k,Zap v6 k->¬PJ F p f6 k):=Hd ⟨bF,bG⟩;clear b4 bC bD bE W bF bG;by_cases ay:Z.1.1=0
      .have hz:(Z.1.1 != 0)=false:=by rw[ay];rfl
       have a6:Hid (∀e∈Z.1.2,e.few):=Hd HJB.out.2.few;have a7:Hid (Z.1.2.length<=1000):=Hd (by have:=HJB.out.2.len;omega);have G:Hid (X=Z.2.relay page ⟨false,Z.1.2⟩):=Hd (by rw[bB.out,if_neg (λh=>h ay)]);clear ay;have HFR:=Hd (Zhc HTW.out page U.out.1 U.out.2);go_wp2_with fail;refine HFR.out.mono ?_;rintro e w7 ⟨rfl,H⟩;obtain⟨Q,o,y,r,d⟩:=H;have hN7:=A.out.turned d t.out.1 t.out.2;have HN7:=Hd hN7;have HT7:=Hd o
       have a:Hid (Q.q=f.q/\(∀k,PT Q k->PT f k\/w.heap.size<=k)/\Zb (PJ F p f) w w7/\w.heap.size<=w7.heap.size):=Hd ⟨y.trans bH.out,λk h=>(r k h).elim (bi.out k) λe=>.inr (by have:=b.out.size;omega),b.out.then d (λi hi hp=>by
        rcases hp with e | e
        .exact .inl e
        .rcases bi.out i e with e | e
         .exact .inr e
         .omega),Vk b.out.size d.size⟩
       have a8:Hid (∀k,Zap v6 k->¬PJ F p Q k):=Hd λk hk=>Xk (w:=w6) r (t.out.2 k hk) (A.out.row.isE_blk hk).2;by_cases v:(Z.2.freeT page).1=0
       .have hz:((Z.2.freeT page).1 != 0)=false:=by rw[v];rfl
        have a9:Hid (X=(Z.2.freeT page).2.layL ⟨false,Z.1.2⟩):=Hd (by rw[G.out,Rp.relay,if_neg (λh=>h v)]);have HLY:=Hd (Zdm false o hN7.row.isE (by have:=a7.out;omega) a6.out a8.out);rw[<-a9.out] at HLY;obtain⟨n0,n1⟩:=Zd hN7.box;clear o y r d hN7 v HFR;generalize (Z.2.freeT page).1=EF at *;go_wp2_with fail;refine HLY.out.mono ?_;rintro e w9 ⟨v9,rfl,I,L⟩;have m:Hid (Zam n J seq B w F p f tb X (.returned (.tuple #[v9,.int .i64 X.1.2])) w9):=Hd ⟨v9,rfl,I.low a.out.2.2.2,TrV.then a.out.1 a.out.2.1 a.out.2.2.1 L⟩;clear I L;go_wp2_with fail;go_ret2;exact m.out
       .have hz:((Z.2.freeT page).1 != 0)=true:=by rw[bne_iff_ne];exact v
        have C:Hid (X=(([],(Z.2.freeT page).1),(Z.2.freeT page).2)):=Hd (by rw[G.out,Rp.relay,if_pos v]);have m:Hid (Zam n J seq B w F p f tb (([],(Z.2.freeT page).1),(Z.2.freeT page).2) (.returned (.tuple #[.slice none 0 0,.int .i64 (Z.2.freeT page).1])) w7):=Hd ⟨_,rfl,Zq.nil _ _,Qa.nil ⟨Q,HT7.out,a.out.1,a.out.2.1,a.out.2.2.1⟩⟩;clear o y r d hN7 v HFR;go_wp2_with fail;rw[C.out];go_ret2;exact m.out
      .have hz:(Z.1.1 != 0)=true:=by rw[bne_iff_ne];exact ay
       have C:Hid (X=(([],Z.1.1),Z.2)):=Hd (by rw[bB.out,if_pos ay]);have m:Hid (Zam n J seq B w F p f tb (([],Z.1.1),Z.2) (.returned (.tuple #[.slice none 0 0,.int .i64 Z.1.1])) w6):=Hd ⟨_,rfl,Zq.nil _ _,Qa.nil ⟨f6,HTW.out,bH.out,bi.out,b.out⟩⟩;clear ay;go_wp2_with fail;rw[C.out];go_ret2;exact m.out
     .have zz:N3=1->((T:Int) > 1)=False:=λh=>by have:=λh2=>hj ⟨h,h2⟩;simp;omega
      by_cases bj:N3=1
      .have z3:((N3:Int)==1)=true:=by rw[beq_iff_eq];omega
       have z4:¬(1:Int)<(T:Int):=by have:=λh2=>hj ⟨bj,h2⟩;omega
       have bk:Hid (¬(Y.1.1.length=1/\1<(Yr j.l Y.1.1 II).length)):=Hd (by rw[<-HN3E.out,<-HL6.out,<-HN6.out];exact hj);clear zz hj bj;have a6:Hid (∀e∈O,e.few):=Hd u.out.few;have a7:Hid (O.length<=1000):=Hd (by rw[<-HN6.out];exact aq);have G:Hid (X=Y.2.relay page ⟨false,O⟩):=Hd (by rw[aG.out,if_neg (λh=>h b0.out),if_neg bk.out,<-HL6.out]);have HFR:=Hd (Zhc HTW.out page U.out.1 U.out.2);go_wp2_with fail;refine HFR.out.mono ?_;rintro e w7 ⟨rfl,H⟩;obtain⟨Q,o,y,r,d⟩:=H;have hN7:=A.out.turned d t.out.1 t.out.2;have HN7:=Hd hN7;have HT7:=Hd o
       have a:Hid (Q.q=f.q/\(∀k,PT Q k->PT f k\/w.heap.size<=k)/\Zb (PJ F p f) w w7/\w.heap.size<=w7.heap.size):=Hd ⟨y.trans aL.out,λk h=>(r k h).elim (HK3.out k) λe=>.inr (by have:=b.out.size;omega),b.out.then d (λi hi hp=>by
        rcases hp with e | e
        .exact .inl e
        .rcases HK3.out i e with e | e
         .exact .inr e
         .omega),Vk b.out.size d.size⟩
       have a8:Hid (∀k,Zap (.slice a5 T c5) k->¬PJ F p Q k):=Hd λk hk=>Xk (w:=(w5.setCell ⟨w1.heap.size,1,none⟩ (.slice a5 T c5))) r (t.out.2 k hk) (A.out.row.isE_blk hk).2;by_cases v:(Y.2.freeT page).1=0
       .have hz:((Y.2.freeT page).1 != 0)=false:=by rw[v];rfl
        have a9:Hid (X=(Y.2.freeT page).2.layL ⟨false,O⟩):=Hd (by rw[G.out,Rp.relay,if_neg (λh=>h v)]);have HLY:=Hd (Zdm false o hN7.row.isE (by have:=a7.out;omega) a6.out a8.out);rw[<-a9.out] at HLY;obtain⟨n0,n1⟩:=Zd hN7.box;clear o y r d hN7 v HFR;generalize (Y.2.freeT page).1=EF at *;go_wp2_with fail;refine HLY.out.mono ?_;rintro e w9 ⟨v9,rfl,I,L⟩;have m:Hid (Zam n J seq B w F p f tb X (.returned (.tuple #[v9,.int .i64 X.1.2])) w9):=Hd ⟨v9,rfl,I.low a.out.2.2.2,TrV.then a.out.1 a.out.2.1 a.out.2.2.1 L⟩;clear I L;go_wp2_with fail;go_ret2;exact m.out
       .have hz:((Y.2.freeT page).1 != 0)=true:=by rw[bne_iff_ne];exact v
        have C:Hid (X=(([],(Y.2.freeT page).1),(Y.2.freeT page).2)):=Hd (by rw[G.out,Rp.relay,if_pos v]);have m:Hid (Zam n J seq B w F p f tb (([],(Y.2.freeT page).1),(Y.2.freeT page).2) (.returned (.tuple #[.slice none 0 0,.int .i64 (Y.2.freeT page).1])) w7):=Hd ⟨_,rfl,Zq.nil _ _,Qa.nil ⟨Q,HT7.out,a.out.1,a.out.2.1,a.out.2.2.1⟩⟩;clear o y r d hN7 v HFR;go_wp2_with fail;rw[C.out];go_ret2;exact m.out
      .have z3:((N3:Int)==1)=false:=by rw[beq_eq_false_iff_ne];omega
       have bk:Hid (¬(Y.1.1.length=1/\1<(Yr j.l Y.1.1 II).length)):=Hd (by rw[<-HN3E.out,<-HL6.out,<-HN6.out];exact hj);clear zz hj bj;have a6:Hid (∀e∈O,e.few):=Hd u.out.few;have a7:Hid (O.length<=1000):=Hd (by rw[<-HN6.out];exact aq);have G:Hid (X=Y.2.relay page ⟨false,O⟩):=Hd (by rw[aG.out,if_neg (λh=>h b0.out),if_neg bk.out,<-HL6.out]);have HFR:=Hd (Zhc HTW.out page U.out.1 U.out.2);go_wp2_with fail;refine HFR.out.mono ?_;rintro e w7 ⟨rfl,H⟩;obtain⟨Q,o,y,r,d⟩:=H;have hN7:=A.out.turned d t.out.1 t.out.2;have HN7:=Hd hN7;have HT7:=Hd o
       have a:Hid (Q.q=f.q/\(∀k,PT Q k->PT f k\/w.heap.size<=k)/\Zb (PJ F p f) w w7/\w.heap.size<=w7.heap.size):=Hd ⟨y.trans aL.out,λk h=>(r k h).elim (HK3.out k) λe=>.inr (by have:=b.out.size;omega),b.out.then d (λi hi hp=>by
        rcases hp with e | e
        .exact .inl e
        .rcases HK3.out i e with e | e
         .exact .inr e
         .omega),Vk b.out.size d.size⟩
       have a8:Hid (∀k,Zap (.slice a5 T c5) k->¬PJ F p Q k):=Hd λk hk=>Xk (w:=(w5.setCell ⟨w1.heap.size,1,none⟩ (.slice a5 T c5))) r (t.out.2 k hk) (A.out.row.isE_blk hk).2;by_cases v:(Y.2.freeT page).1=0
       .have hz:((Y.2.freeT page).1 != 0)=false:=by rw[v];rfl
        have a9:Hid (X=(Y.2.freeT page).2.layL ⟨false,O⟩):=Hd (by rw[G.out,Rp.relay,if_neg (λh=>h v)]);have HLY:=Hd (Zdm false o hN7.row.isE (by have:=a7.out;omega) a6.out a8.out);rw[<-a9.out] at HLY;obtain⟨n0,n1⟩:=Zd hN7.box;clear o y r d hN7 v HFR;generalize (Y.2.freeT page).1=EF at *;go_wp2_with fail;refine HLY.out.mono ?_;rintro e w9 ⟨v9,rfl,I,L⟩;have m:Hid (Zam n J seq B w F p f tb X (.returned (.tuple #[v9,.int .i64 X.1.2])) w9):=Hd ⟨v9,rfl,I.low a.out.2.2.2,TrV.then a.out.1 a.out.2.1 a.out.2.2.1 L⟩;clear I L;go_wp2_with fail;go_ret2;exact m.out
       .have hz:((Y.2.freeT page).1 != 0)=true:=by rw[bne_iff_ne];exact v
        have C:Hid (X=(([],(Y.2.freeT page).1),(Y.2.freeT page).2)):=Hd (by rw[G.out,Rp.relay,if_pos v]);have m:Hid (Zam n J seq B w F p f tb (([],(Y.2.freeT page).1),(Y.2.freeT page).2) (.returned (.tuple #[.slice none 0 0,.int .i64 (Y.2.freeT page).1])) w7):=Hd ⟨_,rfl,Zq.nil _ _,Qa.nil ⟨Q,HT7.out,a.out.1,a.out.2.1,a.out.2.2.1⟩⟩;clear o y r d hN7 v HFR;go_wp2_with fail;rw[C.out];go_ret2;exact m.out
   .have hz:(Y.1.2 != 0)=true:=by rw[bne_iff_ne];exact v
    have C:Hid (X=(([],Y.1.2),Y.2)):=Hd (by rw[aG.out,if_pos v]);have m:Hid (Zam n J seq B w F p f tb (([],Y.1.2),Y.2) (.returned (.tuple #[.slice none 0 0,.int .i64 Y.1.2])) w3):=Hd ⟨_,rfl,Zq.nil _ _,Qa.nil ⟨f3,au,av,a1,htt3⟩⟩;obtain⟨a3,c3,ai,_,_⟩:=aa.isE.form;subst ai;clear aa au av aw V ap a1 htt3 hN3 aH aI v;go_wp2_with fail;rw[C.out];go_ret2;exact m.out
end
end
end Go.Proofs.YtfaobkmojlhbnaaGreatDoor
