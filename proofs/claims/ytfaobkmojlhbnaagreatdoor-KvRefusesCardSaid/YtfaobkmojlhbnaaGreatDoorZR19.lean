/- Contracts of the functions that the statements of this seat reach, part 19: each says what the call answers and what it leaves of the memory. -/
import Derived.Test.YtfaobkmojlhbnaaGreatDoorZR18
import Derived.Test.YtfaobkmojlhbnaaGreatDoorZR1
import Derived.MapKept
import Derived.WideLaws
import Derived.Laws.StructEq
import Derived.Laws.Strings
import Derived.Test.YtfaobkmojlhbnaaGreatDoorZR6
set_option linter.unusedVariables false
set_option linter.unusedSimpArgs false
set_option maxRecDepth 100000
set_option maxHeartbeats 64000000
namespace Go.Proofs.YtfaobkmojlhbnaaGreatDoor
section
open Go.RowKit Go.Shelf Go.Lib
variable {W:Nat}
section
variable {n m k : Nat} {c : Int} {o : Nat} {F : Ft} {p tb sb : Nat} {sq wt off : Int} {a b M : List KV} {sums : Option (List UInt8)} {w : World} {f : Pf}
theorem kdrop_any (h:KS n m k c o F p tb sb sq wt off a b w f) (hE:Qe a M sums) (d:∀l,Zab l<=W->Roomy m l) (hW:Zab a<=W) (sp:Nat) (key:List UInt8) (hsp:sp<=255) (hk:key.length<=64):
  Calls Tryz.prog 63 #[stp sb,.int .i64 (sp:Int),.string ⟨key.toArray⟩] w λe w'=>(∃z,e=.returned (.tuple #[.int .i64 z,.int .i64 0]))/\Xe n m k c o F p tb sb sq wt off (dropV a (UInt8.ofNat sp) key) b w f w':=by
 have D:=Hd (kget_ks h hE sp key hsp hk);obtain⟨s,X⟩:∃s,s=UInt8.ofNat sp:=⟨_,rfl⟩;have HPL:=Hd (λ(w:World) (j:Nat) (E:j<=255)=>Zct w sp j key hsp E hk);have hgv:=hE.getV s key;rw[<-X] at D HPL ⊢;have i:Hid (dropV a s key=if (Zv M (s::key)).2 then Zdp a s key (1+(Zv M (s::key)).1.length / 190) else a):=Hd (by unfold dropV;rw[hgv])
 clear hgv;have HK:=Hd h
 cases y:(Zv M (s::key)).2 with
 | false =>
  rw[y,if_neg (by simp)] at i;rw[i.out];rw[y] at D;clear hE d hW X y h;go_enter Tryz.func63,Tryz.ntmps63;go_wp2_with fail;refine D.out.mono ?_;rintro e Y ⟨rfl,G,q⟩;have T:Hid (Xe n m k c o F p tb sb sq wt off a b w f Y):=Hd ⟨f,G,rfl,λ_ Z=>.inl Z,q.mono λ_ _ e=>.inl e⟩
  clear G q;go_wp2_with fail;go_ret2;exact⟨⟨_,rfl⟩,T.out⟩
 | true =>
  obtain⟨v,U⟩:∃v,v=(Zv M (s::key)).1:=⟨_,rfl⟩;rw[y,<-U,if_pos rfl] at i;rw[y,<-U] at D;rw[i.out];have A:ctM M s key=some v:=ctM_some (by rw[U,<-y])
  have H:=hE.enc.few s key v A;obtain⟨N,hN⟩:∃N,N=v.length / 190:=⟨_,rfl⟩;have a2:N<=21:=by omega
  have I:Hid (∀j,j<=1+N->Zab (Zdp a s key j)<=W):=Hd λj E=>by have:=drop_wgt hE.enc A j (by omega);omega
  have J:Hid (∀(V:World) (f1:Pf) (j:Nat),j<1+N->KS n m k c o F p tb sb sq wt off (Zdp a s key j) b V f1->Calls Tryz.prog 100 #[stp tb,.string ⟨(Ye s j key).toArray⟩] V λe L=>(∃x,e=.returned (.tuple #[.bool x,.int .i64 0]))/\Xe n m k c o F p tb sb sq wt off (Zdp a s key (j+1)) b V f1 L):=Hd λV f1 j E hx=>hx.del (d _ (I.out j (by omega))) (by simp only[Ye,List.length_cons];omega);have HWT:=Hd (λw:World=>Zic w key v.length hk H);have hq:(v.length:Int).tdiv 190=(N:Int):=by rw[Int.tdiv_eq_ediv_of_nonneg (by omega)];omega
  have a3:IntKind.i64.wrap (1+(N:Int))=1+(N:Int):=Vf _ (by omega);rw[<-hN];clear hE d hW X y h U A H hN i I;go_enter Tryz.func63,Tryz.ntmps63;go_wp2_with fail;refine D.out.mono ?_;rintro e Y ⟨rfl,G,q⟩;have T:Hid (Xe n m k c o F p tb sb sq wt off (Zdp a s key 0) b w f Y):=Hd ⟨f,G,rfl,λ_ Z=>.inl Z,q.mono λ_ _ e=>.inl e⟩;clear G q D;go_wp2_with fail;go_loopw [33] (λx wr=>∃j:Nat,j<=1+N/\x=.int .i64 (j:Int)/\Xe n m k c o F p tb sb sq wt off (Zdp a s key j) b w f wr) (λx _=>1+N - (intOf x).toNat)
  case atStart=>exact⟨0,Vl _,rfl,T.out⟩
  case round =>
   clear T;obtain⟨j,E,rfl,a0⟩:=hrel;obtain⟨fr,u,q1,q2,q3⟩:=a0;have cR:=u.cells.2.2.1
   have O:=Hd u;have P:Hid (∀L,Xe n m k c o F p tb sb sq wt off (Zdp a s key (j+1)) b wr fr L->Xe n m k c o F p tb sb sq wt off (Zdp a s key (j+1)) b w f L):=Hd λL h2=>Xe.comp q1 q2 q3 h2;have a1:Hid (Xe n m k c o F p tb sb sq wt off (Zdp a s key j) b w f wr):=Hd (Xe.comp q1 q2 q3 (Xe.same u));clear q1 q2 q3 u;by_cases B:j<1+N
   .have e1:decide ((j:Int)<1+(N:Int))=true:=Vd (by omega)
    have r:j<=255:=by omega
    have a4:IntKind.i64.wrap ((j:Int)+1)=(j:Int)+1:=Vf _ (by omega);have HPLJ:=Hd λw:World=>HPL.out w j r;have HJ:Hid (j<1+N):=Hd B;clear E B r;go_wp2_with fail;refine rgA (S:=(λW=>W.cell? ⟨sb,2,none⟩=some (stp tb))) cR (λhH=>?_);refine tdI [0,1,2,3,4,5,6] ?_
    iterate 7
     refine tdS (v:=?_) ?_ hH ?_;rotate_left
     .intro w C;have hS1:=C;go_simp;try with_reducible rfl
     try simp only[Act.put,zA,zB,zC]
    refine tdE ?_;refine rdA 7 rfl (λK Q=>?_);go_simp;refine(HPLJ.out _).mono ?_;rintro e w5 ⟨rfl,hb5⟩;have hb5:=(Ve wr.heap.size wr).drew.trans hb5
    have R:=Hd (O.out.step hb5);have HB5:=Hd hb5;clear hb5;go_wp2_with fail;refine Q.out _ _ R.out.cells.2.2.1 (λhH=>?_);clear Q K;try simp only[Act.put,zA,zB,zC]
    refine rdA 8 rfl (λK Q=>?_);go_simp;refine(J.out w5 fr j HJ.out R.out).mono ?_;rintro e w6 ⟨⟨x6,rfl⟩,t⟩;have HTO6:=Hd t
    have g:w6.cell? ⟨sb,2,none⟩=some (stp tb):=by obtain⟨fx,hx,_⟩:=t;exact hx.cells.2.2.1
    clear t;go_wp2_with fail;refine Q.out _ _ g (λhH=>?_);clear g;clear Q K;try simp only[Act.put,zA,zB,zC]
    refine tdI [9,10,11,12,13] ?_
    iterate 5
     refine tdS (v:=?_) ?_ hH ?_;rotate_left
     .intro w C;have hS1:=C;go_simp;try with_reducible rfl
     try simp only[Act.put,zA,zB,zC]
    refine tdE ?_;refine dnA ?_;clear hH;go_wp2_with fail;go_roundw
    case rel=>exact⟨j+1,HJ.out,by go_num,P.out _ (HTO6.out.ahead HB5.out)⟩
    case measure=>have:=HJ.out;simp[intOf];omega
   .obtain rfl:j=1+N:=by omega
    have e1:decide (((1+N:Nat):Int)<1+(N:Int))=false:=Vb (by omega);have e2:((1+N:Nat):Int)=1+(N:Int):=by omega
    rw[e2];clear E B e1 e2 cR O P;go_wp2_with fail;refine(HWT.out _).mono ?_;rintro e w7 ⟨rfl,e7⟩;obtain rfl:wr=w7:=e7.symm;go_wp2_with fail;go_ret2;exact⟨⟨_,rfl⟩,a1.out⟩
theorem klay_any (h:KS n m k c o F p tb sb sq wt off a b w f) (g:∀l,Zab l<=W->Roomy m l) (sp:Nat) (key v:List UInt8) (hsp:sp<=255) (hk:key.length<=64) (hv:v.length<=4096) (hW:∀j,j<=1+v.length / 190->Zab (layK a (UInt8.ofNat sp) key v j)<=W):
  Calls Tryz.prog 64 #[stp sb,.int .i64 (sp:Int),.string ⟨key.toArray⟩,.string ⟨v.toArray⟩] w λe w'=>e=.returned (.int .i64 0)/\Xe n m k c o F p tb sb sq wt off (layK a (UInt8.ofNat sp) key v (1+v.length / 190)) b w f w':=by
 obtain⟨s,hs⟩:∃s,s=UInt8.ofNat sp:=⟨_,rfl⟩;have HPL:=Hd (λ(w:World) (j:Nat) (H:j<=255)=>Zct w sp j key hsp H hk)
 rw[<-hs] at HPL hW ⊢;obtain⟨I,hI⟩:∃I,I=Zaq (v.length:Int):=⟨_,rfl⟩;have hIl:I.length<=10:=by rw[hI];exact(Zdi _ (by omega) (by omega)).2
 obtain⟨N,hN⟩:∃N,N=v.length / 190:=⟨_,rfl⟩;obtain⟨aa,J⟩:N<=21/\(N*190<=v.length/\v.length<(N+1)*190):=by omega
 rw[<-hN] at hW ⊢;have L:Hid (∀j,Qk v j=(if j=0 then I else [])++(v.drop (j*190)).take 190):=Hd λj=>by rw[hI];rfl
 have O:Hid (∀(W1:World) (f1:Pf) (j:Nat),j<1+N->KS n m k c o F p tb sb sq wt off (layK a s key v j) b W1 f1->Calls Tryz.prog 65 #[stp tb,.string ⟨(Ye s j key).toArray⟩,.string ⟨(Qk v j).toArray⟩] W1 λe Q=>e=.returned (.int .i64 0)/\Xe n m k c o F p tb sb sq wt off (layK a s key v (j+1)) b W1 f1 Q):=Hd λW1 f1 j H hx=>hx.put (g _ (hW j (by omega))) (by simp only[Ye,List.length_cons];omega) (by
  rw[L.out,List.length_append,List.length_take];split
  .omega
  .simp;omega)
 have B:=Hd (putInt_any (.slice none 0 0) [] (v.length:Int) w (IsB.nil w) (by simp) (by omega) (by omega));rw[List.nil_append,<-hI] at B;have hq:(v.length:Int).tdiv 190=(N:Int):=by rw[Int.tdiv_eq_ediv_of_nonneg (by omega)];omega
 have ae:IntKind.i64.wrap (1+(N:Int))=1+(N:Int):=Vf _ (by omega);have HK:=Hd h;have HV:=Hd (And.intro hv J);have HIL:=Hd hIl;clear g hW hs h hv J hN hIl hI;go_enter Tryz.func64,Tryz.ntmps64;go_wp2_with fail;refine B.out.mono ?_;rintro e w1 ⟨u,rfl,R,T⟩;have hst:=run_str (P:=Tryz.prog) R.isB 77 9 5 Tryz.underlying77 Tryz.underlying5 Tryz.underlying9;have HE:Hid (Xe n m k c o F p tb sb sq wt off (layK a s key v 0) b w f w1):=Hd ((Xe.same HK.out).step T);clear R T B;go_wp2_with fail;go_loopw [9,21] (λy x wr=>∃j:Nat,j<=1+N/\x=.int .i64 (j:Int)/\(∃G:List UInt8,y=.string ⟨G.toArray⟩/\Hid (G=if j=0 then I else []))/\Xe n m k c o F p tb sb sq wt off (layK a s key v j) b w f wr) (λ_ x _=>1+N - (intOf x).toNat)
 case atStart=>exact⟨0,Vl _,rfl,⟨I,rfl,Hd (by rw[if_pos rfl])⟩,HE.out⟩
 case round =>
  clear HE hst;obtain⟨j,H,rfl,⟨G,rfl,t⟩,a2⟩:=hrel;obtain⟨fr,z,q1,q2,q3⟩:=a2;have cR:=z.cells.2.2.1
  have U:=Hd z;have V:Hid (∀Q,Xe n m k c o F p tb sb sq wt off (layK a s key v (j+1)) b wr fr Q->Xe n m k c o F p tb sb sq wt off (layK a s key v (j+1)) b w f Q):=Hd λQ h2=>Xe.comp q1 q2 q3 h2;have a3:Hid (Xe n m k c o F p tb sb sq wt off (layK a s key v j) b w f wr):=Hd (Xe.comp q1 q2 q3 (Xe.same z));clear q1 q2 q3 z;by_cases C:j<1+N
  .have e1:decide ((j:Int)<1+(N:Int))=true:=Vd (by omega)
   have i:j<=255:=by omega
   have af:IntKind.i64.wrap ((j:Int)+1)=(j:Int)+1:=Vf _ (by omega);have HPLJ:=Hd λw:World=>HPL.out w j i;have HJ:Hid (j<1+N):=Hd C;have hVl:=HV.out;have hIl:=HIL.out;obtain⟨D,X⟩:∃D,D=j*190:=⟨_,rfl⟩;obtain⟨m2,a4⟩:∃m2,m2=(j+1)*190:=⟨_,rfl⟩;have g1:IntKind.i64.wrap ((j:Int)*190)=(D:Int):=by rw[Vf _ (by omega)];omega
   have g2:IntKind.i64.wrap (((j:Int)+1)*190)=(m2:Int):=by rw[Vf _ (by omega)];omega
   have Y:D<=v.length:=by have:j*190<=N*190:=Ug _ (by omega);omega
   obtain⟨q,A⟩:∃q,q=(v.drop D).take 190:=⟨_,rfl⟩;have a5:q.length<=190:=by rw[A,List.length_take];omega
   have a6:Hid (G++q=Qk v j):=Hd (by rw[L.out,<-X,<-A,t.out])
   have a7:G.length<=10:=by
    rw[t.out];split
    .exact hIl
    .simp
   have ab:¬(9223372036854775807<G.length+q.length):=by omega
   obtain⟨Z,a8⟩:∃Z,Z=min v.length m2:=⟨_,rfl⟩;have ad:min (v.length:Int) (m2:Int)=(Z:Int):=by omega
   have a0:(v.take Z).drop D=q:=by
    rw[A,List.drop_take];rcases Nat.le_total v.length m2 with h | h
    .rw[List.take_of_length_le (by rw[List.length_drop];omega),List.take_of_length_le (by rw[List.length_drop];omega)]
    .congr 1;omega
   have a9:=λw:World=>run_str_lh (P:=Tryz.prog) Tryz.underlying9 w v D Z (by omega) (by omega);rw[a0] at a9;clear H C i hVl hIl X a4 Y A a5 a7 t a0 a8;go_wp2_with fail;refine rgA (S:=(λW=>W.cell? ⟨sb,2,none⟩=some (stp tb))) cR (λhH=>?_);refine tdI [0,1,2,3,4,5,6,8,9,10] ?_
   iterate 10
    refine tdS (v:=?_) ?_ hH ?_;rotate_left
    .intro w E;have hS1:=E;go_simp;try with_reducible rfl
    try simp only[Act.put,zA,zB,zC]
   refine tdE ?_;refine rdA 7 rfl (λK hK=>?_);go_simp;refine(HPLJ.out _).mono ?_;rintro e w5 ⟨rfl,hb5⟩;have hb5:=(Ve wr.heap.size wr).drew.trans hb5
   have a1:=Hd (U.out.step hb5);have HB5:=Hd hb5;clear hb5;go_wp2_with fail;refine hK.out _ _ a1.out.cells.2.2.1 (λhH=>?_);clear hK K;try simp only[Act.put,zA,zB,zC]
   refine rdA 11 rfl (λK hK=>?_);go_simp;rw[str_append,a6.out];refine(O.out w5 fr j HJ.out a1.out).mono ?_;rintro e w6 ⟨rfl,r⟩;have HTO6:=Hd r
   have d:w6.cell? ⟨sb,2,none⟩=some (stp tb):=by obtain⟨fx,hx,_⟩:=r;exact hx.cells.2.2.1
   clear r;go_wp2_with fail;refine hK.out _ _ d (λhH=>?_);clear d;clear hK K;try simp only[Act.put,zA,zB,zC]
   refine tkB 12 rfl (v:=?_) ?_ hH ?_;rotate_left
   .intro w E;have hS1:=E;go_simp;try with_reducible rfl
   try simp only[Act.put,zA,zB,zC]
   refine dnA ?_;clear hH;go_wp2_with fail;go_roundw
   case rel=>exact⟨j+1,HJ.out,by go_num,⟨[],rfl,Hd (by rw[if_neg (by omega)])⟩,V.out _ (HTO6.out.ahead HB5.out)⟩
   case measure=>have:=HJ.out;simp[intOf];omega
  .obtain rfl:j=1+N:=by omega
   have e1:decide (((1+N:Nat):Int)<1+(N:Int))=false:=Vb (by omega);have e2:((1+N:Nat):Int)=1+(N:Int):=by omega
   rw[e2];clear H C e1 e2 cR U V t;go_wp2_with fail;go_ret;exact⟨rfl,a3.out⟩
end
end
section
open Go.RowKit
variable {w:World}{M:Nat}
section
variable {α : Type} {enc : α → Value}
def VMap (enc:α->Value) (w:World) (M:Nat) (kv:List (α × Value)):Prop :=
 ∃(es:List MapEntry) (clock:Nat),w.heap[M]?=some (.map es.toArray clock)/\es.map (λe=>(e.key,e.val))=kv.map λx=>(enc x.1,x.2)
theorem VMap.made (w:World):VMap enc (w.alloc (.map #[] 0)) w.heap.size []:=⟨[],0,Vg w _,rfl⟩
theorem VMap.keep {w':World} {kv:List (α × Value)} (h:VMap enc w M kv) (hw:w'.heap[M]?=w.heap[M]?):VMap enc w' M kv:=by obtain⟨a,b,c,d⟩:=h;exact⟨a,b,hw.trans c,d⟩
theorem VMap.lt {kv:List (α × Value)} (h:VMap enc w M kv):M<w.heap.size:=by obtain⟨b,c,a,d⟩:=h;exact Za a
end
section
variable {α : Type} [DecidableEq α]
def vAt:List (α × Value)->α->Nat->Option (Nat × Value)
 | [],_,_=>none
 | x::r,a,k=>if x.1=a then some (k,x.2) else vAt r a (k+1)
def Zbv:List (α × Value)->α->Option Value
 | [],_=>none
 | x::r,a=>if x.1=a then some x.2 else Zbv r a
def vSet:List (α × Value)->α->Value->List (α × Value)
 | [],a,v=>[(a,v)]
 | x::r,a,v=>if x.1=a then (a,v)::r else x::vSet r a v
theorem vAt_look:∀(b:List (α × Value)) (a:α) (k:Nat),(vAt b a k).map (·.2)=Zbv b a
 | [],_,_=>rfl
 | x::r,a,k=>by
  unfold vAt Zbv;split
  .rfl
  .exact vAt_look r a (k+1)
theorem Zec:∀(d:List (α × Value)) (a:α) (v:Value) (b:α),Zbv (vSet d a v) b=if b=a then some v else Zbv d b
 | [],a,v,b=>by
  show (if a=b then some v else none)=_
  by_cases e:b=a
  .rw[if_pos e,if_pos e.symm]
  .rw[if_neg e,if_neg (λh=>e h.symm)];rfl
 | x::r,a,v,b=>by
  unfold vSet;by_cases e:x.1=a
  .rw[if_pos e]
   show (if a=b then some v else Zbv r b)=_
   by_cases c:b=a
   .rw[if_pos c,if_pos c.symm]
   .rw[if_neg c,if_neg (λh=>c h.symm)]
    show _=if x.1=b then some x.2 else Zbv r b
    rw[if_neg (λh=>c (h.symm.trans e))]
  .rw[if_neg e]
   show (if x.1=b then some x.2 else Zbv (vSet r a v) b)=_
   rw[Zec r a v b];show _=if b=a then some v else (if x.1=b then some x.2 else Zbv r b)
   by_cases c:x.1=b
   .rw[if_pos c,if_pos c,if_neg (λh=>e (c.trans h))]
   .rw[if_neg c,if_neg c]
structure Keyed (P:Program) (K:TypeId) (enc:α->Value):Prop where
 find:∀(es:List MapEntry) (kv:List (α × Value)) (a:α) (w:World),es.map (λe=>(e.key,e.val))=kv.map (λx=>(enc x.1,x.2))->(Instr.findKey K (enc a) es).run P w=.ok (vAt kv a 0) w
 chk:∀(e:Bool) (a:α) (w:World),(Instr.checkKey e 10000 K (enc a)).run P w=.ok () w
 stay:∀(a:α) (w:World),(Instr.keyThatStays (enc a) (enc a)).run P w=.ok (enc a) w
variable {P : Program} {T K E : TypeId} {enc : α → Value}
theorem findNow_v {d:TypeDesc} (hs:∀a b:α,Instr.sameNow d (enc a) (enc b)=some (decide (a=b))):∀(c:List MapEntry) (f:List (α × Value)) (a:α) (k:Nat),c.map (λe=>(e.key,e.val))=f.map (λx=>(enc x.1,x.2))->Instr.findNow d (enc a) c k=some (vAt f a k)
 | [],[],a,k,_=>rfl
 | [],_::_,a,k,h=>by simp at h
 | _::_,[],a,k,h=>by simp at h
 | e::c,x::f,a,k,h=>by
  simp only[List.map_cons,List.cons.injEq,Prod.mk.injEq] at h;obtain⟨⟨i,j⟩,l⟩:=h;have ih:=findNow_v hs c f a (k+1) l
  simp only[Instr.findNow,i,hs,vAt];by_cases g:a=x.1
  .rw[Vd g,if_pos g.symm,j]
  .rw[Vb g,if_neg (λh=>g h.symm)];exact ih
theorem findAsking_v (hq:∀(a b:α) (w:World),(Op.equal K (enc a) (enc b)).run P w=.ok (decide (a=b)) w):∀(c:List MapEntry) (d:List (α × Value)) (a:α) (k:Nat) (w:World),c.map (λe=>(e.key,e.val))=d.map (λx=>(enc x.1,x.2))->(Instr.findAsking K (enc a) c k).run P w=.ok (vAt d a k) w
 | [],[],a,k,w,_=>rfl
 | [],_::_,a,k,w,h=>by simp at h
 | _::_,[],a,k,w,h=>by simp at h
 | e::c,x::d,a,k,w,h=>by
  simp only[List.map_cons,List.cons.injEq,Prod.mk.injEq] at h;obtain⟨⟨g,i⟩,j⟩:=h;have ih:=findAsking_v hq c d a (k+1) w j
  unfold Instr.findAsking;rw[Sem.run_bind,g,hq];simp only[Result.andThen_ok,vAt]
  cases f:decide (a=x.1) with
  | true =>
   rw[if_pos (Uq f).symm,i];rfl
  | false =>
   rw[if_neg (show ¬x.1=a from λh=>of_decide_eq_false f h.symm)]
   exact ih
theorem VMap.run_look {kv:List (α × Value)} (h:VMap enc w M kv) (hk:Keyed P K enc) (c:P.underlying T=some (.map K E)) (z:Value) (hz:∀w,(zeroValue E).run P w=.ok z w) (a:α):
  (Instr.lookup T (.map (some M)) (enc a) false).run P w=.ok ((Zbv kv a).getD z) w:=by
 obtain⟨f,i,d,g⟩:=h;have hf:=hk.find f kv a w g
 have b:=vAt_look kv a 0
 cases e:vAt kv a 0 with
 | none =>
  rw[e] at hf b;simp[Instr.lookup,run_underlying c,Go.MapKept.run_getObj_map d,hk.chk,hf,Result.andThen,hz,<-b]
 | some x =>
  rw[e] at hf b;simp[Instr.lookup,run_underlying c,Go.MapKept.run_getObj_map d,hk.chk,hf,Result.andThen,<-b]
theorem VMap.run_look_ok {kv:List (α × Value)} (h:VMap enc w M kv) (hk:Keyed P K enc) (c:P.underlying T=some (.map K E)) (z:Value) (hz:∀w,(zeroValue E).run P w=.ok z w) (a:α):
  (Instr.lookup T (.map (some M)) (enc a) true).run P w=.ok (.tuple #[(Zbv kv a).getD z,.bool (Zbv kv a).isSome]) w:=by
 obtain⟨f,i,d,g⟩:=h;have hf:=hk.find f kv a w g
 have b:=vAt_look kv a 0
 cases e:vAt kv a 0 with
 | none =>
  rw[e] at hf b;simp[Instr.lookup,run_underlying c,Go.MapKept.run_getObj_map d,hk.chk,hf,Result.andThen,hz,<-b]
 | some x =>
  rw[e] at hf b;simp[Instr.lookup,run_underlying c,Go.MapKept.run_getObj_map d,hk.chk,hf,Result.andThen,<-b]
theorem vAt_none:∀{b:List (α × Value)} {a:α} {k:Nat},vAt b a k=none->∀v,vSet b a v=b++[(a,v)]
 | [],_,_,_,_=>rfl
 | x::r,a,k,h,v=>by
  unfold vAt at h;by_cases e:x.1=a
  .rw[if_pos e] at h;cases h
  .rw[if_neg e] at h;unfold vSet;rw[if_neg e,vAt_none h v];rfl
theorem vAt_some:∀{b:List (α × Value)} {a:α} {k j:Nat} {u:Value},vAt b a k=some (j,u)->∃i,j=k+i/\b[i]?=some (a,u)/\∀v,vSet b a v=b.modify i λ_=>(a,v)
 | [],_,_,_,_,h=>by cases h
 | x::r,a,k,j,u,h=>by
  unfold vAt at h;by_cases e:x.1=a
  .rw[if_pos e] at h;simp only[Option.some.injEq,Prod.mk.injEq] at h;obtain⟨rfl,rfl⟩:=h;refine⟨0,rfl,by simp[<-e],λv=>?_⟩;unfold vSet;rw[if_pos e];simp
  .rw[if_neg e] at h;obtain⟨i,f,c,d⟩:=vAt_some h;refine⟨i+1,by omega,by simpa using c,λv=>?_⟩;unfold vSet;rw[if_neg e,d v];simp
theorem VMap.run_put {kv:List (α × Value)} (h:VMap enc w M kv) (hk:Keyed P K enc) (y:P.underlying T=some (.map K E)) (a:α) (v:Value):
  ∃w',(Instr.mapUpdate T (.map (some M)) (enc a) v).run P w=.ok () w'/\VMap enc w' M (vSet kv a v)/\Zb (·=M) w w':=by
 obtain⟨d,f,g,p⟩:=h;have hf:=hk.find d kv a w p
 have turned:∀o,Zb (·=M) w { w with heap:=w.heap.setIfInBounds M o }:=λo=>⟨rfl,rfl,rfl,by simp,λk hk s=>by
  show (w.heap.setIfInBounds M _)[k]?=_
  rw[Array.getElem?_setIfInBounds_ne (λe=>s e.symm)]⟩
 have c:∀o,(w.heap.setIfInBounds M o)[M]?=some o:=λo=>by rw[Array.getElem?_setIfInBounds_self_of_lt (Za g)]
 cases r:vAt kv a 0 with
 | none =>
  rw[r] at hf;refine⟨{ w with heap:=w.heap.setIfInBounds M (.map (d.toArray.push ⟨enc a,v,f⟩) (f+1)) },?_,⟨d++[⟨enc a,v,f⟩],f+1,(c _).trans (by simp),?_⟩,turned _⟩
  .simp[Instr.mapUpdate,run_underlying y,Go.MapKept.run_getObj_map g,hk.chk,hf,Go.MapKept.run_setObj_map _ g,Result.andThen]
  .rw[vAt_none r];simp[p]
 | some x =>
  obtain⟨j,u⟩:=x;rw[r] at hf;obtain⟨i,A,z,m⟩:=vAt_some r;obtain rfl:j=i:=by omega
  obtain⟨e,b,t⟩:∃e,d[j]?=some e/\e.key=enc a:=by
   have:=Vs (λl=>l[j]?) p;simp only[List.getElem?_map,z,Option.map_some] at this
   cases b:d[j]? with
   | none=>rw[b] at this;simp at this
   | some e =>
    rw[b] at this;simp only[Option.map_some,Option.some.injEq,Prod.mk.injEq] at this;exact⟨e,rfl,this.1⟩
  refine⟨{ w with heap:=w.heap.setIfInBounds M (.map (d.toArray.modify j λe=>{ e with key:=enc a,val:=v }) f) },?_,⟨d.modify j λe=>{ e with key:=enc a,val:=v },f,(c _).trans (by simp),?_⟩,turned _⟩
  .simp[Instr.mapUpdate,run_underlying y,Go.MapKept.run_getObj_map g,hk.chk,hf,b,t,hk.stay,Go.MapKept.run_setObj_map _ g,Result.andThen]
  .rw[m]
   apply List.ext_getElem?;intro q;have hq:=Vs (λl=>l[q]?) p
   simp only[List.getElem?_map,List.getElem?_modify] at hq ⊢;by_cases n:j=q
   .subst n;simp[z,b]
   .simpa [n] using hq
end
theorem keyed_str {P:Program} {K:TypeId} (f:P.underlying K=some .string):Keyed P K (λs:List UInt8=>Value.string ⟨s.toArray⟩):=by
 have g:∀a b:List UInt8,((⟨a.toArray⟩:ByteArray)==⟨b.toArray⟩)=decide (a=b):=λa b=>by
  rw[beq_toListBytes];have h:∀c:List UInt8,(⟨c.toArray⟩:ByteArray).toList=c:=λc=>by simp
  rw[h,h];by_cases e:a=b
  .rw[Vd e,e];exact beq_self_eq_true b
  .rw[Vb e];exact beq_false_of_ne e
 refine⟨λi j a w l=>?_,λe a w=>Go.MapKept.run_checkKey f (by simp[Go.MapKept.IsKey]) e _,λa w=>Go.MapKept.run_keyThatStays (P:=P) (d:=.string) (k:=.string ⟨a.toArray⟩) (by simp[Go.MapKept.IsKey])⟩;exact Vz f (findNow_v (d:=.string) (enc:=λs:List UInt8=>Value.string ⟨s.toArray⟩) (λa b=>by simp only[Instr.sameNow];rw[g]) i j a 0 l)
end
section
open Go.RowKit
abbrev nmV (x:Int × List UInt8):Value:=.agg #[.int .i64 x.1,.string ⟨x.2.toArray⟩]
theorem beq_strB (a b:List UInt8):((⟨a.toArray⟩:ByteArray)==⟨b.toArray⟩)=decide (a=b):=by
 rw[beq_toListBytes];have h:∀c:List UInt8,(⟨c.toArray⟩:ByteArray).toList=c:=λc=>by simp
 rw[h,h];by_cases e:a=b
 .rw[Vd e,e];exact beq_self_eq_true b
 .rw[Vb e];exact beq_false_of_ne e
theorem nm_equal (a b:Int × List UInt8) (w:World):(Op.equal 130 (nmV a) (nmV b)).run Tryz.prog w=.ok (decide (a=b)) w:=by
 have c:=beq_strB a.2 b.2;rw[beq_toListBytes] at c
 have h:decide (a=b)=((a.1==b.1)&&decide (a.2=b.2)):=by
  rw[show (a.1==b.1)=decide (a.1=b.1) from rfl,<-Bool.decide_and]
  exact decide_eq_decide.2 ⟨λe=>by rw[e];exact⟨rfl,rfl⟩,λe=>Prod.ext e.1 e.2⟩
 rw[h];unfold Op.equal Op.maxDepth;have d:Tryz.prog.fieldsOf 130=(match Tryz.prog.underlying 130 with | some (.struct fs)=>fs | _=>#[]):=rfl
 rw[Tryz.underlying130] at d;dsimp only at d;rw[run_equalIn_struct w 9999 130 _ _ (by rw[d];exact Tryz.underlying130) (by kernel_rfl),d];have i:∀(x:Int) (s:ByteArray) (w:World),(part 3 #[.int .i64 x,.string s] 0).run Tryz.prog w=.ok (.int .i64 x) w:=λx s w=>by rfl
 have g:∀(x:Int) (s:ByteArray) (w:World),(part 9 #[.int .i64 x,.string s] 1).run Tryz.prog w=.ok (.string s) w:=λx s w=>by rfl
 simp only[Op.eqFields,ne_eq,String.reduceEq,not_false_eq_true,if_true,Sem.run_bind,i,g,Result.andThen_ok,run_equalIn_int _ _ _ _ _ _ _ Tryz.underlying3,run_equalIn_string _ _ _ _ _ Tryz.underlying9,c]
 cases j:(a.1==b.1)<;>cases f:decide (a.2=b.2)<;>rw[f] at c<;>simp[g,run_equalIn_string _ _ _ _ _ Tryz.underlying9,c]
 all_goals first | exact of_decide_eq_false f | exact Uq f
theorem keyed_nm:Keyed Tryz.prog 130 nmV:=by
 have c:=Tryz.underlying130;refine⟨λb d a w f=>?_,λe a w=>?_,λa w=>?_⟩
 .have h:=findAsking_v (P:=Tryz.prog) (K:=130) nm_equal b d a 0 w f
  unfold Instr.findKey;rw[Sem.run_bind,run_underlying c,Result.andThen_ok]
  cases b with
  | nil =>
   cases d with
   | nil=>rfl
   | cons x r=>simp at f
  | cons e b =>
   rw[Instr.findNow,show Instr.sameNow _ (nmV a) e.key=none from by cases e.key<;>rfl]
   exact h
 .have g:∀(x:Int) (s:ByteArray) (w:World),(part 3 #[.int .i64 x,.string s] 0).run Tryz.prog w=.ok (.int .i64 x) w:=λx s w=>by rfl
  have i:∀(x:Int) (s:ByteArray) (w:World),(part 9 #[.int .i64 x,.string s] 1).run Tryz.prog w=.ok (.string s) w:=λx s w=>by rfl
  have j:=λx w=>Go.MapKept.run_checkKey (w:=w) (k:=.int .i64 x) Tryz.underlying3 (by simp[Go.MapKept.IsKey]) e 9998;have c2:=λs w=>Go.MapKept.run_checkKey (w:=w) (k:=.string s) Tryz.underlying9 (by simp[Go.MapKept.IsKey]) e 9998;rw[show (10000:Nat)=9999+1 from rfl,Instr.checkKey]
  simp[Sem.run_bind,run_underlying c,g,i,j,c2]
 .unfold Instr.keyThatStays
  rw[show Instr.sameBits 10000 (nmV a) (nmV a)=true from by simp[Instr.sameBits,beq_strB]]
  rfl
end
section
variable {M:List KV}{ps:List Ya}{i:Nat}
abbrev nmOf (x:Int × List UInt8):List UInt8:=UInt8.ofNat x.1.toNat::x.2
def Zes (M:List KV) (ps:List Ya) (i:Nat) (kv:List ((Int × List UInt8) × Value)):Prop :=
 ∀x:Int × List UInt8,Zbv kv x=if ∃p∈ps.take i,(p.sp,p.key)=x then some (.int .i64 (wOf (Zbw M (ps.take i)) (nmOf x):Nat)) else none
theorem Zes.zero (M:List KV) (ps:List Ya):Zes M ps 0 []:=λx=>by rw[if_neg (by simp)];rfl
theorem name_inj {p q:Ya} (hp:p.right=true) (hq:q.right=true) (h:p.name=q.name):(p.sp,p.key)=(q.sp,q.key):=by
 obtain⟨a,b,_⟩:=Zay hp;obtain⟨c,d,_⟩:=Zay hq;unfold Ya.name Ya.s at h;injection h with h1 h2;have h3:=Vs UInt8.toNat h1
 rw[UInt8.toNat_ofNat',UInt8.toNat_ofNat'] at h3;rw[show p.sp=q.sp by omega,h2]
theorem appA_snoc (M:List KV) (a:List Ya) (p:Ya):Zbw M (a++[p])=appP (Zbw M a) p:=by unfold Zbw;rw[List.foldl_append];rfl
theorem Zhb {α:Type} (l:List α) (i:Nat) (h:i<l.length):l.take (i+1)=l.take i++[l[i]]:=List.take_succ_eq_append_getElem h
theorem wOf_free (hr:Xb M) {n:List UInt8} (h:∀p∈ps,n≠p.name):Zv (Zbw M ps) n=Zv M n:=by rw[get_appA n ps hr,finV_not _ h]
theorem Zes.step (hM:Xb M) {kv kv':List ((Int × List UInt8) × Value)} (h:Zes M ps i kv) (g:i<ps.length) (hr:∀p∈ps,p.right=true)
 (hs:∀x,Zbv kv' x=if x=(ps[i].sp,ps[i].key) then some (.int .i64 (ps[i].w:Nat)) else Zbv kv x):Zes M ps (i+1) kv':=λx=>by
 rw[hs,Zhb ps i g,appA_snoc];have hri:=hr _ (Vo g)
 have b:=Zgn (ps.take i) hM;by_cases e:x=(ps[i].sp,ps[i].key)
 .rw[if_pos e,if_pos ⟨ps[i],List.mem_append.2 (.inr (List.mem_singleton.2 rfl)),e.symm⟩]
  congr 3;rw[e];show ps[i].w=wOf (appP (Zbw M (ps.take i)) ps[i]) ps[i].name
  unfold wOf;rw[get_appP b,if_pos rfl];unfold Ya.w Ya.new
  cases ps[i].gone<;>simp
 .rw[if_neg e,h x]
  by_cases d:∃p∈ps.take i,(p.sp,p.key)=x
  .obtain⟨p,c,a⟩:=d
   rw[if_pos ⟨p,c,a⟩,if_pos ⟨p,by rw[Ul];exact .inl c,a⟩];congr 3;unfold wOf;have f:nmOf x≠ps[i].name:=λj=>by have:=name_inj (hr p (Vr c)) hri (by rw[<-j,<-a];rfl);exact e (a.symm.trans this)
   rw[get_appP b,if_neg f]
  .rw[if_neg d,if_neg]
   rintro⟨p,c,a⟩;rcases List.mem_append.1 c with c | c
   .exact d ⟨p,c,a⟩
   .rw[List.mem_singleton] at c;exact e (by rw[<-a,c])
theorem Zes.free (hM:Xb M) (b:i<ps.length) (hr:∀p∈ps,p.right=true) (h:¬∃p∈ps.take i,(p.sp,p.key)=(ps[i].sp,ps[i].key)):wOf (Zbw M (ps.take i)) ps[i].name=wOf M ps[i].name:=by unfold wOf;rw[wOf_free hM λp a e=>h ⟨p,a,name_inj (hr p (Vr a)) (hr _ (Vo b)) e.symm⟩]
theorem wM_le (hr:Xb M) {p:Ya} (hp:p.right=true):Yi wF (appP M p)<=Yi wF M+6000/\p.w<=6000/\wOf M p.name<=Yi wF M:=by
 have d:=wM_app hr p;obtain⟨_,_,e,f,_⟩:=Zay hp
 have a:p.w<=6000:=by
  unfold Ya.w;split
  .omega
  .show wP p.name.tail p.val<=6000
   unfold wP;have:(12+p.key.length)*(1+p.val.length / 190)<=76*22:=Nat.mul_le_mul (by omega) (by omega)
   show (12+p.key.length)*(1+p.val.length / 190)+p.val.length<=6000
   omega
 have b:wOf M p.name<=Yi wF M:=by
  unfold wOf
  cases c:(Zv M p.name).2 with
  | false=>simp
  | true =>
   have:=sumF_del wF (l:=M) (k:=p.name) (v:=(Zv M p.name).1) (by rw[<-c]);simp only[if_true];omega
 exact⟨by omega,a,b⟩
theorem sum_bound (hM:Xb M):∀(ps:List Ya),(∀p∈ps,p.right=true)->Yi wF (Zbw M ps)<=Yi wF M+6000*ps.length:=by
 intro ps;obtain⟨b,a⟩:∃b,b=ps.reverse:=⟨_,rfl⟩;obtain rfl:ps=b.reverse:=by rw[a,List.reverse_reverse]
 clear a
 induction b with
 | nil=>intro _;simp[Zbw]
 | cons p r d =>
  intro c;rw[List.reverse_cons,appA_snoc,List.length_append,List.length_singleton];have h1:=d λq e=>c q (by rw[List.reverse_cons,Ul];exact .inl e)
  have f:=(wM_le (Zgn r.reverse hM) (c p (by simp))).1;omega
end
section
variable {ps:List Ya}{kv:List (List UInt8 × Value)}
abbrev strV (s:List UInt8):Value:=.string ⟨s.toArray⟩
def nm0 (p:Ya):List UInt8:=Ye p.s 0 p.key
theorem nm0_iff {p q:Ya}:nm0 p=nm0 q↔p.name=q.name:=by
 unfold nm0 Ya.name;constructor
 .intro h;injection h with h1 h2;injection h2 with _ h3;rw[h1,h3]
 .intro h;injection h with h1 h2;rw[Ye,Ye,h1,h2]
def Zgf (ps:List Ya) (t:Nat) (kv:List (List UInt8 × Value)):Prop :=
 ∀i (h:i<ps.length),i<t->∃z:Nat,Zbv kv (nm0 ps[i])=some (.int .i64 (z:Int))/\z<t/\i<=z/\(∃hz:z<ps.length,ps[z].name=ps[i].name)/\∀j (hj:j<ps.length),z<j->j<t->ps[j].name≠ps[i].name
theorem Zgf.zero (ps:List Ya):Zgf ps 0 []:=λi h a=>by omega
theorem Zgf.step {t:Nat} (h:Zgf ps t kv) (ht:t<ps.length):Zgf ps (t+1) (vSet kv (nm0 ps[t]) (.int .i64 (t:Int))):=λi f g=>by
 rw[Zec];by_cases e:nm0 ps[i]=nm0 ps[t]
 .rw[if_pos e];exact⟨t,rfl,by omega,by omega,⟨ht,(nm0_iff.1 e).symm⟩,λj b c k=>by omega⟩
 .rw[if_neg e]
  have a:i<t:=by
   rcases Ua i t with h | h
   .exact h
   .obtain rfl:i=t:=by omega
    exact absurd rfl e
  obtain⟨z,c,k,l,m,n⟩:=h i f a;refine⟨z,c,by omega,l,m,λj b o q=>?_⟩;rcases Ua j t with d | d
  .exact n j b o d
  .obtain rfl:j=t:=by omega
   exact λp=>e (nm0_iff.2 p.symm)
theorem Zgf.says (h:Zgf ps ps.length kv) (i:Nat) (b:i<ps.length):∃z:Nat,Zbv kv (nm0 ps[i])=some (.int .i64 (z:Int))/\z<ps.length/\(z=i↔Zej ps i):=by
 obtain⟨z,f,g,p,⟨k,l⟩,m⟩:=h i b b;have e:ps.getD i default=ps[i]:=by rw[List.getD_eq_getElem?_getD,List.getElem?_eq_getElem b];rfl
 refine⟨z,f,g,λc=>?_,λn=>?_⟩
 .subst c;intro j d a;rw[e];exact m j d a d
 .rcases Ua i z with a | o
  .have:=n z k a;rw[e] at this;exact absurd l this
  .omega
theorem dropT_snoc (l:List KV) (a:List Ya) (p:Ya):dropT l (a++[p])=dropV (dropT l a) p.s p.key:=by unfold dropT;rw[List.foldl_append];rfl
theorem getD_at {i:Nat} (a:i<ps.length):ps.getD i default=ps[i]:=by rw[List.getD_eq_getElem?_getD,List.getElem?_eq_getElem a];rfl
end
section
open Go.RowKit
abbrev smV (a b:Int):Value:=.agg #[.int .i64 a,.int .i64 b]
abbrev smO (a b:Int):Obj:=.cells #[.int .i64 a,.int .i64 b] 97 (0,0)
theorem info_sums:(Tryz.prog.info? 97).map (·.size)=some 2:=by kernel_rfl
theorem sm_load {w:World} {g:Nat} {a b:Int} (h:w.heap[g]?=some (smO a b)):(loadVar 97 ⟨g,0,none⟩).run Tryz.prog w=.ok (smV a b) w :=
 Uh w g _ _ _ (0,0) _ h Tryz.underlying97 rfl (by rw[info_sums];rfl)
theorem takeI_at (A:List UInt8) (n:Int) (h1:-9223372036854775808<=n) (h2:n<=9223372036854775807) (r:List UInt8):takeI (A++(Zaq n++r)) (A.length:Int)=(n,((A.length+(Zaq n).length:Nat):Int),true):=by have h:=takeI_in (l:=A++(Zaq n++r)) (m:=A.length) (by rw[List.length_append];omega);rw[h,List.drop_left,Zaq,dec_uv _ (zig_lt n h1 h2) r,pack,zag_zig];simp
theorem ksummed_nil (w:World):Calls Tryz.prog 53 #[.string ⟨#[]⟩] w λe w'=>e=.returned (.tuple #[smV 0 0,.int .i64 0])/\Below w.heap.size w w':=by
 go_enter Tryz.func53,Tryz.ntmps53;have b:(w.alloc (smO 0 0)).heap[w.heap.size]?=some (smO 0 0):=Vg w _
 have a:=Hd (sm_load b);have c:Hid (Below w.heap.size w (w.alloc (smO 0 0))):=Hd ((Ve _ _).alloc (Va _) _);clear b;go_wp2_with fail;exact Vn (v:=.tuple #[smV 0 0,.int .i64 0]) (Zy Tryz.results53 rfl a.out) rfl ⟨rfl,c.out⟩
theorem ksummed_any (w:World) (sq wt:Int) (h1:-9223372036854775808<=sq) (h2:sq<=9223372036854775807) (h3:-9223372036854775808<=wt) (h4:wt<=9223372036854775807):Calls Tryz.prog 53 #[.string ⟨(Zaq sq++Zaq wt).toArray⟩] w λe w'=>e=.returned (.tuple #[smV sq wt,.int .i64 0])/\Below w.heap.size w w':=by
 have G:=takeI_zero sq h1 h2 (Zaq wt);have t2:=takeI_at (Zaq sq) wt h3 h4 [];rw[List.append_nil] at t2;have hl1:=Zdi sq h1 h2;have hl2:=Zdi wt h3 h4;obtain⟨A,q⟩:∃A,A=Zaq sq++Zaq wt:=⟨_,rfl⟩;obtain⟨a,F⟩:∃a,a=(Zaq sq).length:=⟨_,rfl⟩;have l:A.length=a+(Zaq wt).length:=by rw[q,F,List.length_append]
 rw[<-F,<-l,<-q] at t2;rw[<-q,<-F] at G;rw[<-q];have h:(⟨A.toArray⟩:ByteArray).size=A.length:=by simp[ByteArray.size]
 have r:A.length<=20:=by omega
 have N:A.isEmpty=false:=by rw[List.isEmpty_eq_false_iff];intro e;rw[e,List.length_nil] at l;omega
 have H:=Hd G;have HT2:=Hd t2;have I:Hid (a<=10/\A.length<=20):=Hd ⟨by omega,r⟩;obtain⟨W1,d⟩:∃W1,W1=w.alloc (smO 0 0):=⟨_,rfl⟩;have J:W1.heap[w.heap.size]?=some (smO 0 0):=by rw[d];exact Vg w _
 have s:Below w.heap.size w W1:=by rw[d];exact(Ve _ _).alloc (Va _) _
 clear G t2 hl1 hl2 q F l;go_enter Tryz.func53,Tryz.ntmps53;go_wp2_with ((with_reducible refine Zij (.tmp 14) 9 77 5 Tryz.underlying9 Tryz.underlying77 Tryz.underlying5 ⟨A.toArray⟩ ?_ (by rw[h];omega) ?_);(exact rfl);intro L w3 m n b g t u);rw[h] at b;have b:IsB w3 (.slice (some ⟨w.heap.size+1,0,none⟩) A.length L) A:=by simpa using b
 have M:(w.alloc (smO 0 0)).heap.size=w.heap.size+1:=by simp
 have x:Below w.heap.size w w3:=by rw[<-d] at g;exact s.trans (g.mono (by rw[d];simp))
 have y:w3.heap[w.heap.size]?=some (smO 0 0):=by rw[<-d] at g;exact(g.block _ (Za J)).trans J
 have HTI:=Hd (Zii _ A 0 w3 b (by omega) (by omega) (by omega));have HBW:=Hd x;have HH3:=Hd y;rw[H.out] at HTI;clear b g t u m n M x y s J d W1;refine HTI.out.mono ?_;rintro e O ⟨rfl,P⟩;obtain rfl:w3=O:=P;clear HTI;unfold three;dsimp only;go_wp2_with ((with_reducible refine Zij (.tmp 21) 9 77 5 Tryz.underlying9 Tryz.underlying77 Tryz.underlying5 ⟨A.toArray⟩ ?_ (by rw[h];omega) ?_);(exact rfl);intro z j m n c o C D);rw[h] at c;have c:IsB j (.slice (some ⟨w3.heap.size,0,none⟩) A.length z) A:=c;have p:Hid (Below w.heap.size w j):=Hd (HBW.out.trans (o.mono HBW.out.size));have f:j.heap[w.heap.size]?=some (smO 0 0):=(o.block _ (Za HH3.out)).trans HH3.out;have HTI:=Hd (Zii _ A (a:Int) j c (by omega) (by omega) (by have:=I.out;omega));rw[HT2.out] at HTI;have f0:=Zf f 0;have f1:=Zf f 1;have U:j.cell? ⟨w.heap.size,0,none⟩=some (.int .i64 0):=by rw[Vc _ _ _ _ _ _ f];rfl
 have V:j.cell? ⟨w.heap.size,1,none⟩=some (.int .i64 0):=by rw[Vc _ _ _ _ _ _ f];rfl
 have E:=Ze (Ze f (i:=0) (.int .i64 sq)) (i:=1) (.int .i64 wt);have HLD:=Hd (sm_load E);have ht:=(Zc j w.heap.size 0 (.int .i64 sq)).trans (Zc _ w.heap.size 1 (.int .i64 wt));have Q:Hid (Below w.heap.size w ((j.setCell ⟨w.heap.size,0,none⟩ (.int .i64 sq)).setCell ⟨w.heap.size,1,none⟩ (.int .i64 wt))):=Hd (p.out.trans (ht.below (B:=w.heap.size) p.out.size λk W=>by omega));have R:decide ((A.length:Int)=(A.length:Int))=true:=by simp
 clear c o C D m n f E ht p HBW HH3;refine HTI.out.mono ?_;rintro e S ⟨rfl,T⟩;obtain rfl:j=S:=T;clear HTI;unfold three;dsimp only;go_wp2_with fail;exact Vn (v:=.tuple #[smV sq wt,.int .i64 0]) (Zy Tryz.results53 rfl HLD.out) rfl ⟨rfl,Q.out⟩
end
end Go.Proofs.YtfaobkmojlhbnaaGreatDoor
