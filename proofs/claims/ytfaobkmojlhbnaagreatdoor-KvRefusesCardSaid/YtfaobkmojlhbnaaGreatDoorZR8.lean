/- Contracts of the functions that the statements of this seat reach, part 8: each says what the call answers and what it leaves of the memory. -/
import Derived.Test.YtfaobkmojlhbnaaGreatDoorZR7
import Derived.Test.YtfaobkmojlhbnaaGreatDoorZR6
import Derived.Test.YtfaobkmojlhbnaaGreatDoorZR2
set_option linter.unusedVariables false
set_option linter.unusedSimpArgs false
set_option maxRecDepth 100000
set_option maxHeartbeats 64000000
namespace Go.Proofs.YtfaobkmojlhbnaaGreatDoor
section
structure Kid where
 e:En
 l:List KV
 P:List Int
structure Xh (S:Int->List KV->List Int->Prop) (T:List Kid):Prop where
 kid:∀t∈T,S t.e.kid t.l t.P
 some:∀t∈T,t.l≠[]
 low:∀t∈T,∀x∈t.l,¬x.1<t.e.key
 ord:T.Pairwise λa b=>∀x∈a.l,x.1<b.e.key
def Qu (e:En):KV:=(e.key,e.val)
def Big (R:Rp) (page:Int):Prop:=∀n,(R.load page).1=some n->297<=n.sum
def Sub (R:Rp):Nat->Int->List KV->List Int->Prop
 | 0,page,l,P=>∃n,R.load page=(some n,0)/\n.leaf=true/\l=n.l.map Qu/\P=[page]
 | h+1,page,l,P=>∃n T,R.load page=(some n,0)/\n.leaf=false/\n.l=T.map (·.e)/\l=T.flatMap (·.l)/\P=page::T.flatMap (·.P)/\Xh (Sub R h) T/\∀t∈T,Big R t.e.kid
section
variable {S : Int → List KV → List Int → Prop} {T A C : List Kid}
theorem Xh.append (h1:Xh S A) (h2:Xh S C) (h:∀a∈A,∀c∈C,∀x∈a.l,x.1<c.e.key):Xh S (A++C) :=
 ⟨λt b=>(List.mem_append.1 b).elim (h1.kid t) (h2.kid t),λt b=>(List.mem_append.1 b).elim (h1.some t) (h2.some t),λt b=>(List.mem_append.1 b).elim (h1.low t) (h2.low t),List.pairwise_append.2 ⟨h1.ord,h2.ord,h⟩⟩
theorem Xh.left (h:Xh S (A++C)):Xh S A :=
 ⟨λt a=>h.kid t (Vq _ a),λt a=>h.some t (Vq _ a),λt a=>h.low t (Vq _ a),(List.pairwise_append.1 h.ord).1⟩
theorem Xh.right (h:Xh S (A++C)):Xh S C :=
 ⟨λt a=>h.kid t (Vp _ a),λt a=>h.some t (Vp _ a),λt a=>h.low t (Vp _ a),(List.pairwise_append.1 h.ord).2.1⟩
theorem Xh.mid (h:Xh S (A++C)):∀a∈A,∀c∈C,∀x∈a.l,x.1<c.e.key:=(List.pairwise_append.1 h.ord).2.2
end
def Xb (l:List KV):Prop:=l.Pairwise λa b=>a.1<b.1
theorem Xx {a b c:List UInt8} (h1:a<b) (h2:¬c<b):a<c:=by apply Vu;intro h;exact h2 (List.lt_of_le_of_lt (List.not_lt.1 h) h1)
theorem Xh.rise {S:Int->List KV->List Int->Prop}:∀{T:List Kid},Xh S T->(∀t∈T,Xb t.l)->Xb (T.flatMap (·.l))
 | [],_,_=>List.Pairwise.nil
 | t::r,h,e=>by have a:Xh S ([t]++r):=h;rw[List.flatMap_cons];refine List.pairwise_append.2 ⟨e t (Vi ..),Xh.rise a.right λx b=>e x (Vj _ b),λx b y d=>?_⟩;obtain⟨c,f,d⟩:=List.mem_flatMap.1 d;exact Xx (a.mid t (by simp) c f x b) (a.right.low c f y d)
end
section
variable {n:Nd}
def Zv (l:List KV) (key:List UInt8):List UInt8 × Bool:=match l.dropWhile (λx=>decide (x.1<key)) with
 | []=>([],false)
 | x::_=>if x.1=key then (x.2,true) else ([],false)
theorem Zgh {α:Type} {f:α->Bool}:∀{A:List α} (C:List α),(∀a∈A,f a=true)->(A++C).dropWhile f=C.dropWhile f
 | [],C,_=>rfl
 | a::r,C,h=>by rw[List.cons_append,List.dropWhile_cons,if_pos (h a (Vi ..))];exact Zgh C λx b=>h x (Vj _ b)
theorem getL_mid {A L C:List KV} {key:List UInt8} (hA:∀x∈A,x.1<key) (hC:∀x∈C,key<x.1):Zv (A++(L++C)) key=Zv L key:=by
 unfold Zv;rw[Zgh _ λa f=>by simpa using hA a f]
 have b:∀L:List KV,(match (L++C).dropWhile (λx=>decide (x.1<key)) with | []=>(([],false):List UInt8 × Bool) | x::_=>if x.1=key then (x.2,true) else ([],false))=match L.dropWhile (λx=>decide (x.1<key)) with | []=>([],false) | x::_=>if x.1=key then (x.2,true) else ([],false):=by
  intro L
  induction L with
  | nil =>
   cases C with
   | nil=>rfl
   | cons c r =>
    have e:=hC c (Vi ..);have g:¬c.1<key:=λh=>Vw _ (Vy e h);have i:¬c.1=key:=λh=>by rw[h] at e;exact Vw _ e
    rw[List.nil_append,List.dropWhile_cons,if_neg (by simpa using g)];simp[i]
  | cons x r j =>
   rw[List.cons_append,List.dropWhile_cons,List.dropWhile_cons];by_cases d:x.1<key
   .rw[if_pos (by simpa using d),if_pos (by simpa using d)];exact j
   .rw[if_neg (by simpa using d),if_neg (by simpa using d)]
 exact b L
theorem leaf_get (hl:n.leaf=true) (key:List UInt8):(if (n.behind key).2 then (((n.l[(n.behind key).1]?.map (·.val)).getD [],true):List UInt8 × Bool) else ([],false))=Zv (n.l.map Qu) key:=by
 unfold Nd.behind Zv;rw[hl];simp only[if_true]
 have c:∀l:List En,(l.map Qu).dropWhile (λx=>decide (x.1<key))=(l.dropWhile λe=>decide (e.key<key)).map Qu:=by
  intro l
  induction l with
  | nil=>rfl
  | cons e r a =>
   rw[List.map_cons,List.dropWhile_cons,List.dropWhile_cons];have:decide ((Qu e).1<key)=decide (e.key<key):=rfl
   rw[this];split
   .exact a
   .rfl
 have d:∀l:List En,l[(l.takeWhile λe=>decide (e.key<key)).length]?=(l.dropWhile λe=>decide (e.key<key)).head?:=by
  intro l
  induction l with
  | nil=>rfl
  | cons e r a =>
   rw[List.takeWhile_cons,List.dropWhile_cons];split
   .simpa using a
   .rfl
 rw[c,d]
 cases f:n.l.dropWhile (λe=>decide (e.key<key)) with
 | nil=>simp
 | cons e r =>
  simp only[List.head?_cons,Option.map_some,List.map_cons];by_cases b:e.key=key
  .simp[b,Qu]
  .simp[b,Qu]
theorem Zcm {α:Type} {f:α->Bool}:∀{l:List α} {x:α},x∈l.takeWhile f->f x=true
 | [],x,h=>by simp at h
 | a::r,x,h=>by
  rw[List.takeWhile_cons] at h;split at h
  .rename_i b
   rcases List.mem_cons.1 h with rfl | h
   .exact b
   .exact Zcm h
  .simp at h
theorem Zdg {α:Type} {f:α->Bool}:∀{l:List α} {x:α} {r:List α},l.dropWhile f=x::r->f x=false
 | [],x,r,h=>by simp at h
 | a::l,x,r,h=>by
  rw[List.dropWhile_cons] at h;split at h
  .exact Zdg h
  .rename_i b;rw[<-(List.cons.inj h).1];simpa using b
theorem Zia {S:Int->List KV->List Int->Prop} {T:List Kid} (h:Xh S T) (hl:n.leaf=false) (o:n.l=T.map (·.e)) (hne:n.l≠[]) (key:List UInt8):
  ∃A t C,T=A++t::C/\A.length=(n.behind key).1/\(∀a∈A,∀x∈a.l,x.1<key)/\(∀c∈C,key<c.e.key)/\(∀c∈C,∀x∈c.l,key<x.1)/\(A≠[]->¬key<t.e.key):=by
 have M:=Zff hne hl key;have D:T.length=n.l.length:=by rw[o,List.length_map]
 have m:(n.behind key).1=(n.l.tail.takeWhile λe=>!decide (key<e.key)).length:=by unfold Nd.behind;rw[hl];rfl
 cases T with
 | nil=>rw[o] at hne;exact absurd rfl hne
 | cons g r =>
  have H:n.l.tail=r.map (·.e):=by rw[o];rfl
  have I:∀r:List Kid,((r.map (·.e)).takeWhile λe=>!decide (key<e.key)).length=(r.takeWhile λt=>!decide (key<t.e.key)).length:=by
   intro r
   induction r with
   | nil=>rfl
   | cons x r J =>
    rw[List.map_cons,List.takeWhile_cons,List.takeWhile_cons];split
    .simpa using J
    .rfl
  rw[H,I] at m;obtain⟨U,p⟩:∃U,U=r.takeWhile λt=>!decide (key<t.e.key):=⟨_,rfl⟩;obtain⟨V,E⟩:∃V,V=r.dropWhile λt=>!decide (key<t.e.key):=⟨_,rfl⟩;have b:r=U++V:=by rw[p,E,List.takeWhile_append_dropWhile]
  have j:∀u∈U,¬key<u.e.key:=λu f=>by
   rw[p] at f;have:=Zcm f
   simpa using this
  rw[<-p] at m
  have i:∀c∈V,key<c.e.key:=by
   cases V with
   | nil=>simp
   | cons v s =>
    have F:key<v.e.key:=by have:=Zdg E.symm;simpa using this
    intro c d;rcases List.mem_cons.1 d with rfl | d
    .exact F
    .have q:Xh S ((g::U)++([v]++s)):=by rw[b] at h;exact h
     have w:=q.right;obtain⟨y,G⟩:=List.exists_mem_of_ne_nil _ (w.some v (by simp));have h4:=w.mid v (by simp) c d y G;have h5:=w.low v (by simp) y G;exact Vy F (List.lt_of_le_of_lt (List.not_lt.1 h5) h4)
  have k:∀c∈V,(g::r)=(g::U)++V->∀x∈c.l,key<x.1:=λc d _ x z=>by have:=h.low c (by rw[b];simp[d]) x z;exact Xx (i c d) this
  rcases List.eq_nil_or_concat U with rfl | ⟨B,u,f⟩
  .exact⟨[],g,V,by rw[b];rfl,by rw[m],by simp,i,λc d=>k c d (by rw[b];rfl),λh=>absurd rfl h⟩
  .rw[List.concat_eq_append] at f
   refine⟨g::B,u,V,by rw[b,f];simp,by rw[m,f];simp,λa L x z=>?_,i,λc d=>k c d (by rw[b];rfl),λ_=>j u (by rw[f];simp)⟩
   have q:Xh S ((g::B)++([u]++V)):=by
    have e:g::r=(g::B)++([u]++V):=by rw[b,f];simp
    rw[<-e];exact h
   exact Xx (q.mid a L u (by simp) x z) (j u (by rw[f];simp))
theorem sub_get {R:Rp} (key:List UInt8):∀(h:Nat) (f:Nat) (page:Int) (l:List KV) (P:List Int),R.good->Sub R h page l P->h<f->R.getN key f page=(Zv l key,0)/\0<=page
 | h,0,page,l,P,_,_,r=>by omega
 | 0,f+1,page,l,P,k,m,r=>by
  obtain⟨n,d,g,j,s⟩:=m
  have o:0<=page:=by
   have:(R.load page).2=0:=by rw[d]
   rcases Int.lt_or_le page 0 with i | i
   .unfold Rp.load at this
    have p:R.taken page=false:=by unfold Rp.taken;simp;omega
    rw[Rp.read,if_pos p] at this;simp at this
   .exact i
  refine⟨?_,o⟩;rw[Rp.getN,if_neg (by omega),d];simp only[g,if_true];have:=leaf_get g key
  rw[j,<-this]
  split<;>first | rfl | (split<;>rfl)
 | h+1,f+1,page,l,P,k,m,r=>by
  obtain⟨n,T,d,g,j,s,E,u,F⟩:=m
  have o:0<=page:=by
   have:(R.load page).2=0:=by rw[d]
   rcases Int.lt_or_le page 0 with i | i
   .unfold Rp.load at this
    have p:R.taken page=false:=by unfold Rp.taken;simp;omega
    rw[Rp.read,if_pos p] at this;simp at this
   .exact i
  refine⟨?_,o⟩;have hfit:=k.load (page:=page) (nd:=n) (by rw[d])
  obtain⟨A,t,C,q,v,w,G,y,H⟩:=Zia u g j hfit.some key;rw[Rp.getN,if_neg (by omega),d];simp only[g,Bool.false_eq_true,if_false];have z:Zn n.l (n.behind key).1=t.e.kid:=by rw[Zn,j,q,<-v,List.map_append,List.map_cons,List.getElem?_append_right (by simp)];simp
  rw[z,(sub_get key h f t.e.kid t.l t.P k (u.kid t (by rw[q];simp)) (by omega)).1,s,q,List.flatMap_append,List.flatMap_cons]
  rw[getL_mid (λx b=>by
   obtain⟨a,B,b⟩:=List.mem_flatMap.1 b;exact w a B x b) (λx b=>by
   obtain⟨c,D,b⟩:=List.mem_flatMap.1 b
   exact y c D x b)]
end
section
variable {p:Int}
structure Fr (R R':Rp) (X X':List Int):Prop where
 len:R'.pages.length=R.pages.length
 root:R'.root=R.root
 was:R'.was=R.was
 wroot:R'.wroot=R.wroot
 own:∀p∈X,R.taken p=true
 own':∀p∈X',R'.taken p=true
 nd:X.Nodup
 nd':X'.Nodup
 keep:∀p,R.taken p=true->p∉X->R'.taken p=true/\p∉X'/\R'.read p=R.read p
 back:∀p,R'.taken p=true->p∉X'->R.taken p=true/\p∉X
 count:Xw R'.pages+X'.length=Xw R.pages+X.length
 good:R.good->R'.good
section
variable {R R' R1 R2 : Rp} {X X' X1 X2 Y : List Int}
theorem Fr.refl (h:∀p∈X,R.taken p=true) (hn:X.Nodup):Fr R R X X:=⟨rfl,rfl,rfl,rfl,h,h,hn,hn,λp a b=>⟨a,b,rfl⟩,λp a b=>⟨a,b⟩,rfl,id⟩
theorem Fr.trans (h1:Fr R R1 X X1) (h2:Fr R1 R2 X1 X2):Fr R R2 X X2 :=
 ⟨h2.len.trans h1.len,h2.root.trans h1.root,h2.was.trans h1.was,h2.wroot.trans h1.wroot,h1.own,h2.own',h1.nd,h2.nd',λp a b=>by
  obtain⟨c,d,e⟩:=h1.keep p a b;obtain⟨f,h,i⟩:=h2.keep p c d;exact⟨f,h,i.trans e⟩,λp a b=>by
  obtain⟨c,d⟩:=h2.back p a b
  exact h1.back p c d,by have:=h1.count;have:=h2.count;omega,λg=>h2.good (h1.good g)⟩
theorem Fr.beside (h:Fr R R' X X') (hy:∀p∈Y,R.taken p=true) (j:∀p∈Y,p∉X) (hn:Y.Nodup):Fr R R' (X++Y) (X'++Y):=by
 have k:∀p∈Y,R'.taken p=true/\p∉X'/\R'.read p=R.read p:=λp c=>h.keep p (hy p c) (j p c);refine⟨h.len,h.root,h.was,h.wroot,λp c=>(List.mem_append.1 c).elim (h.own p) (hy p),λp c=>(List.mem_append.1 c).elim (h.own' p) λq=>(k p q).1,?_,?_,λp a b=>?_,λp a b=>?_,by have:=h.count;simp only[List.length_append];omega,h.good⟩
 .exact List.nodup_append.2 ⟨h.nd,hn,λa d b f e=>j b f (e▸d)⟩
 .exact List.nodup_append.2 ⟨h.nd',hn,λa d b f e=>(k b f).2.1 (e▸d)⟩
 .rw[Ul] at b;obtain⟨g,i,l⟩:=h.keep p a λe=>b (.inl e);exact⟨g,λe=>(List.mem_append.1 e).elim i λe=>b (.inr e),l⟩
 .rw[Ul] at b;obtain⟨g,i⟩:=h.back p a λe=>b (.inl e);exact⟨g,λe=>(List.mem_append.1 e).elim i λe=>b (.inr e)⟩
theorem Fr.perm (h:Fr R R' X X') (h1:X.Perm X1) (h2:X'.Perm X2):Fr R R' X1 X2 :=
 ⟨h.len,h.root,h.was,h.wroot,λp c=>h.own p (h1.mem_iff.2 c),λp c=>h.own' p (h2.mem_iff.2 c),h1.nodup_iff.1 h.nd,h2.nodup_iff.1 h.nd',λp a b=>by
  obtain⟨d,f,g⟩:=h.keep p a λe=>b (h1.mem_iff.1 e);exact⟨d,λe=>f (h2.mem_iff.2 e),g⟩,λp a b=>by
  obtain⟨d,f⟩:=h.back p a λe=>b (h2.mem_iff.1 e)
  exact⟨d,λe=>f (h1.mem_iff.2 e)⟩,by have:=h.count;have:=h1.length_eq;have:=h2.length_eq;omega,h.good⟩
theorem Rp.load_read (h:R'.read p=R.read p):R'.load p=R.load p:=by unfold Rp.load;rw[h]
theorem Yj {n:Nd} (h:R.load p=(some n,0)):R.taken p=true:=by
 cases a:R.taken p with
 | true=>rfl
 | false =>
  unfold Rp.load at h;rw[Rp.read,if_pos a] at h;simp at h
theorem Sub.same:∀(h:Nat) {page:Int} {l:List KV} {P:List Int},Sub R h page l P->(∀p∈P,R'.read p=R.read p)->Sub R' h page l P
 | 0,page,l,P,g,d=>by obtain⟨n,i,j,k,f⟩:=g;exact⟨n,by rw[Rp.load_read (d page (by rw[f];simp))];exact i,j,k,f⟩
 | h+1,page,l,P,g,d=>by
  obtain⟨n,T,i,j,k,f,o,b,s⟩:=g;have c:∀t∈T,∀p∈t.P,R'.read p=R.read p:=λt a p u=>d p (by rw[o];exact Vj _ (List.mem_flatMap.2 ⟨t,a,u⟩))
  refine⟨n,T,by rw[Rp.load_read (d page (by rw[o];simp))];exact i,j,k,f,o,⟨λt a=>Sub.same h (b.kid t a) (c t a),b.some,b.low,b.ord⟩,λt a m r=>?_⟩
  have q:t.e.kid∈t.P:=by
   have:=b.kid t a
   cases h with
   | zero=>obtain⟨_,_,_,_,e⟩:=this;rw[e];simp
   | succ h=>obtain⟨_,_,_,_,_,_,e,_⟩:=this;rw[e];simp
  rw[Rp.load_read (c t a _ q)] at r;exact s t a m r
theorem Sub.page:∀(h:Nat) {page:Int} {l:List KV} {P:List Int},Sub R h page l P->page∈P
 | 0,page,l,P,a=>by obtain⟨_,_,_,_,e⟩:=a;rw[e];simp
 | h+1,page,l,P,a=>by obtain⟨_,_,_,_,_,_,e,_⟩:=a;rw[e];simp
theorem Sub.taken:∀(h:Nat) {page:Int} {l:List KV} {P:List Int},Sub R h page l P->∀p∈P,R.taken p=true
 | 0,page,l,P,b=>by obtain⟨n,c,e,f,d⟩:=b;intro p a;rw[d,List.mem_singleton] at a;rw[a];exact Yj c
 | h+1,page,l,P,b=>by
  obtain⟨n,T,c,e,f,d,g,i,k⟩:=b;intro p a;rw[g] at a;rcases List.mem_cons.1 a with rfl | a
  .exact Yj c
  .obtain⟨t,j,a⟩:=List.mem_flatMap.1 a;exact Sub.taken h (i.kid t j) p a
end
end
section
variable {R:Rp}
theorem countP_at {α:Type} (g:α->Bool):∀(l:List α) (k:Nat) (x:α) (b:k<l.length),(l.set k x).countP g+(if g l[k] then 1 else 0)=l.countP g+(if g x then 1 else 0)
 | [],k,x,b=>by simp at b
 | a::r,0,x,b=>by simp only[List.set_cons_zero,List.countP_cons,List.getElem_cons_zero];omega
 | a::r,k+1,x,b=>by have:=countP_at g r k x (by simpa using b);simp only[List.set_cons_succ,List.countP_cons,List.getElem_cons_succ];omega
def pgAt (R:Rp) (p:Int):Option (List UInt8):=if 0<=p then R.pages.getD p.toNat none else none
theorem Xy (R:Rp) (p:Int):R.taken p=(pgAt R p).isSome:=by
 unfold Rp.taken pgAt;by_cases a:0<=p
 .rw[if_pos a]
  by_cases b:p<(R.pages.length:Int)
  .simp[a,b]
  .have:R.pages[p.toNat]?=none:=List.getElem?_eq_none (by omega);rw[List.getD_eq_getElem?_getD,this];simp[a]
 .simp[a]
theorem Zgy (R:Rp) (p:Int):R.read p=match pgAt R p with | none=>([],81) | some b=>(b,0):=by
 unfold Rp.read;rw[Xy]
 cases h:pgAt R p with
 | none=>simp
 | some b =>
  unfold pgAt at h;split at h
  .rw[h];simp
  .cases h
theorem pgAt_set {R':Rp} {k:Nat} {x:Option (List UInt8)} (hk:k<R.pages.length) (hp:R'.pages=R.pages.set k x) (p:Int):pgAt R' p=if p=(k:Int) then x else pgAt R p:=by
 unfold pgAt;rw[hp];by_cases a:0<=p
 .rw[if_pos a,if_pos a,List.getD_eq_getElem?_getD,List.getElem?_set,List.getD_eq_getElem?_getD]
  by_cases b:p=(k:Int)
  .have:k=p.toNat:=by omega
   rw[if_pos this,if_pos b,if_pos hk];rfl
  .rw[if_neg b,if_neg (by omega)]
 .rw[if_neg a,if_neg a,if_neg (by omega)]
theorem fr_put (hg:R.good) (h:0<Xw R.pages) (b:List UInt8) (hb:b.length=896):
  ∃k:Int,R.alloc.1=(k,0)/\(R.alloc.2.write k b).1=0/\Fr R (R.alloc.2.write k b).2 [] [k]/\(R.alloc.2.write k b).2.read k=(b,0):=by
 cases l:freeR R.pages with
 | none =>
  exfalso
  have:Xw R.pages=0:=by
   unfold Xw;rw[List.countP_eq_zero];intro x q;have:=List.findIdx?_eq_none_iff.1 l x q
   rw[this];simp
  omega
 | some k =>
  obtain⟨i,m,_⟩:=List.findIdx?_eq_some_iff_getElem.1 l;have g:R.pages[k]=none:=by simpa using m
  have j:R.alloc=(((k:Int),0),R.lay k Zdc):=by unfold Rp.alloc;rw[l]
  have n:(R.lay k Zdc).pages=R.pages.set k (some Zdc):=rfl;have r:(R.lay k Zdc).taken (k:Int)=true:=by rw[Xy,pgAt_set i n,if_pos rfl];rfl
  have o:(R.lay k Zdc).write (k:Int) b=(0,(R.lay k Zdc).lay k b):=by unfold Rp.write;rw[if_neg (by rw[r];simp),if_neg (by omega)];simp
  have f:((R.lay k Zdc).lay k b).pages=R.pages.set k (some b):=by
   show (R.pages.set k (some Zdc)).set k (some b)=_
   rw[List.set_set]
  have c:=λp=>pgAt_set (R:=R) (R':=(R.lay k Zdc).lay k b) i f p;have s:pgAt R (k:Int)=none:=by unfold pgAt;rw[if_pos (by omega),List.getD_eq_getElem?_getD];simp[i,g]
  refine⟨(k:Int),by rw[j],by rw[j];exact Vs Prod.fst o,?_,?_⟩
  .rw[j]
   dsimp only;rw[o];dsimp only;refine⟨by rw[f,List.length_set],rfl,rfl,rfl,by simp,λp t=>?_,by simp,by simp,λp a _=>?_,λp a u=>?_,?_,λhg=>(hg.put Zdb).put hb⟩
   .rw[List.mem_singleton.1 t,Xy,c,if_pos rfl];rfl
   .have d:p≠(k:Int):=λe=>by
     rw[Xy,e,s] at a;cases a
    refine⟨?_,by simpa using d,?_⟩
    .rw[Xy,c,if_neg d,<-Xy];exact a
    .rw[Zgy,c,if_neg d,<-Zgy]
   .have d:p≠(k:Int):=by simpa using u
    rw[Xy,c,if_neg d,<-Xy] at a;exact⟨a,by simp⟩
   .have:=countP_at (λx:Option (List UInt8)=>x.isNone) R.pages k (some b) i;rw[g] at this;unfold Xw;rw[f];simpa using this
  .rw[j];dsimp only;rw[o];dsimp only;rw[Zgy,c,if_pos rfl]
theorem fr_free {p:Int} (h:R.taken p=true) (hr:R.root≠p):(R.free p).1=0/\Fr R (R.free p).2 [p] []:=by
 obtain⟨n,f,b,j⟩:=Zca h;have k:R.free p=(0,{ R with pages:=R.pages.set p.toNat none,change:=true }):=by unfold Rp.free;rw[if_neg (by rw[h];simp),if_neg hr]
 have c:=λq=>pgAt_set (R:=R) (R':={ R with pages:=R.pages.set p.toNat none,change:=true }) f rfl q;have g:((p.toNat:Nat):Int)=p:=by omega
 rw[g] at c;rw[k];refine⟨rfl,by simp,rfl,rfl,rfl,λq i=>by rw[List.mem_singleton.1 i];exact h,by simp,by simp,by simp,λq a i=>?_,λq a _=>?_,?_,λl=>?_⟩
 .have d:q≠p:=by simpa using i
  refine⟨?_,by simp,?_⟩
  .rw[Xy,c,if_neg d,<-Xy];exact a
  .rw[Zgy,c,if_neg d,<-Zgy]
 .have d:q≠p:=λe=>by
   rw[Xy,c,if_pos e] at a;cases a
  rw[Xy,c,if_neg d,<-Xy] at a;exact⟨a,by simpa using d⟩
 .have:=countP_at (λx:Option (List UInt8)=>x.isNone) R.pages p.toNat none f
  have m:R.pages[p.toNat]=some b:=by rw[List.getElem?_eq_getElem f] at j;exact Ud j
  rw[m] at this;unfold Xw;simpa using this
 .have:=l.free p;rw[k] at this;exact this
end
section
def Qx:Nat->Nd->List (List En)
 | 0,_=>[]
 | f+1,n=>if n.l=[] then [] else if 893<n.sum then Qx f ⟨n.leaf,n.l.take n.cut⟩++Qx f ⟨n.leaf,n.l.drop n.cut⟩ else [n.l]
theorem Zgu:∀(f:Nat) (R:Rp) (a:Nd),a.l.length<f->(∀e∈a.l,e.few)->R.good->(Qx f a).length<=Xw R.pages ->
  ∃Z:List (List En × Int),(R.layN f a).1=(Z.map (λz=>⟨(Nd.mk a.leaf z.1).key0,[],z.2⟩),0)/\Z.map (·.1)=Qx f a/\Fr R (R.layN f a).2 [] (Z.map (·.2))/\∀z∈Z,(R.layN f a).2.read z.2=((Nd.mk a.leaf z.1).bytes,0)
 | 0,R,a,h,_,_,_=>by omega
 | f+1,R,a,h,n,o,g=>by
  rw[Rp.layN];rw[Qx] at g ⊢;by_cases i:a.l=[]
  .rw[if_pos i,if_pos i];exact⟨[],rfl,rfl,Fr.refl (by simp) (by simp),by simp⟩
  .rw[if_neg i,if_neg i]
   rw[if_neg i] at g;by_cases c:893<a.sum
   .rw[if_pos c,if_pos c]
    rw[if_pos c,List.length_append] at g;obtain⟨G,H,_⟩:=Nd.cut_spec c λe j=>En.few2 (n e j);obtain⟨m,q,r,d,u⟩:=Zgu f R ⟨a.leaf,a.l.take a.cut⟩ (by simp only[List.length_take];omega) (λe j=>n e (Vr j)) o (by omega);have hc:=d.count
    have v:(m.map (·.2)).length=(Qx f ⟨a.leaf,a.l.take a.cut⟩).length:=by rw[<-r,List.length_map,List.length_map]
    obtain⟨w,x,y,s,A⟩:=Zgu f (R.layN f ⟨a.leaf,a.l.take a.cut⟩).2 ⟨a.leaf,a.l.drop a.cut⟩ (by simp only[List.length_drop];omega) (λe j=>n e (Vt j)) (d.good o) (by simp only[List.length_nil] at hc;omega);have p:(R.layN f ⟨a.leaf,a.l.take a.cut⟩).1.2=0:=by rw[q]
    rw[if_neg (λh=>h p)];have hb:=s.beside (Y:=m.map (·.2)) d.own' (by simp) d.nd'
    refine⟨m++w,?_,by rw[List.map_append,r,y],?_,λz b=>?_⟩
    .dsimp only;rw[x,q,List.map_append]
    .rw[List.map_append];exact d.trans (hb.perm (by simp) List.perm_append_comm)
    .dsimp only
     rcases List.mem_append.1 b with b | b
     .have B:z.2∈m.map (·.2):=List.mem_map.2 ⟨z,b,rfl⟩;rw[(s.keep z.2 (d.own' _ B) (by simp)).2.2];exact u z b
     .exact A z b
   .rw[if_neg c,if_neg c]
    rw[if_neg c] at g;obtain⟨k,t,C,D,E⟩:=fr_put o (by simp at g;omega) a.bytes a.bytes_length;have p:R.alloc.1.2=0:=by rw[t]
    have F:R.alloc.1.1=k:=by rw[t]
    rw[if_pos p,F];refine⟨[(a.l,k)],?_,rfl,D,λz b=>?_⟩
    .dsimp only;rw[C];rfl
    .rw[List.mem_singleton.1 b];exact E
theorem Zaw:∀(f:Nat) (a:Nd),a.l.length<f->(∀e∈a.l,e.few)->(Qx f a).flatten=a.l/\(∀q∈Qx f a,q≠[]/\(Nd.mk a.leaf q).sum<=893)/\(297<=a.sum->∀q∈Qx f a,297<=(Nd.mk a.leaf q).sum)/\(a.sum<=893->Qx f a=if a.l=[] then [] else [a.l])
 | 0,a,h,_=>by omega
 | f+1,a,h,g=>by
  rw[Qx];by_cases d:a.l=[]
  .rw[if_pos d];exact⟨by rw[d];rfl,by simp,by simp,λ_=>by rw[if_pos d]⟩
  .rw[if_neg d]
   by_cases i:893<a.sum
   .rw[if_pos i];obtain⟨u,v,_⟩:=Nd.cut_spec i λe b=>En.few2 (g e b);obtain⟨j,k,w⟩:=Nd.cut_parts i λe b=>En.few2 (g e b);obtain⟨m,n,o,x⟩:=Zaw f ⟨a.leaf,a.l.take a.cut⟩ (by simp only[List.length_take];omega) λe b=>g e (Vr b);obtain⟨p,r,s,y⟩:=Zaw f ⟨a.leaf,a.l.drop a.cut⟩ (by simp only[List.length_drop];omega) λe b=>g e (Vt b);refine⟨by rw[List.flatten_append,m,p,List.take_append_drop],λq c=>(List.mem_append.1 c).elim (n q) (r q),λ_ q c=>(List.mem_append.1 c).elim (o j q) (s k q),λh=>by omega⟩
   .rw[if_neg i]
    refine⟨by simp,λq c=>?_,λt q c=>?_,λ_=>by rw[if_neg d]⟩
    .rw[List.mem_singleton.1 c];exact⟨d,by show a.sum<=893;omega⟩
    .rw[List.mem_singleton.1 c];exact t
theorem partsN_two {f:Nat} {nd:Nd} (h:nd.l.length<f) (hf:∀e∈nd.l,e.few) (hs:nd.sum<=1504):(Qx f nd).length<=2:=by
 cases f with
 | zero=>omega
 | succ f =>
  rw[Qx];split
  .simp
  .split
   .rename_i c b
    obtain⟨g,i,j,k,_⟩:=Nd.cut_spec b λe a=>En.few2 (hf e a);obtain⟨m,n,o⟩:=Nd.cut_parts b λe a=>En.few2 (hf e a);have h1:=(Zaw f ⟨nd.leaf,nd.l.take nd.cut⟩ (by simp only[List.length_take];omega) λe a=>hf e (Vr a)).2.2.2 (by unfold Nd.sum;dsimp only;omega)
    have d:=(Zaw f ⟨nd.leaf,nd.l.drop nd.cut⟩ (by simp only[List.length_drop];omega) λe a=>hf e (Vt a)).2.2.2 (by unfold Nd.sum at *;dsimp only;omega);rw[List.length_append,h1,d]
    split<;>split<;>simp
   .simp
end
section
variable {R:Rp}
theorem normFrom_leaf:∀(l:List En) (i:Nat),Zbd true i l=l
 | [],_=>rfl
 | e::r,i=>by rw[Zbd,normFrom_leaf r (i+1)];rfl
theorem Zhq:∀(l:List En) (i:Nat),0<i->Zbd false i l=l
 | [],_,_=>rfl
 | e::r,i,h=>by rw[Zbd,Zhq r (i+1) (by omega)];simp[En.norm,h]
theorem load_of_read {p:Int} {n m:Nd} (h:R.read p=(n.bytes,0)) (hr:Zah n.bytes=some m):R.load p=(some m,0):=by unfold Rp.load;rw[h];simp[hr]
theorem lay_leaf {l:List En} (hg:R.good) (hf:∀e∈l,e.few) (hk:∀e∈l,e.kid=0) (hs:(l.map (·.key)).Pairwise (· < ·)) (hm:l.length<=60000) (hr:(Qx (l.length+1) ⟨true,l⟩).length<=Xw R.pages):
  ∃T:List Kid,(R.layL ⟨true,l⟩).1=(T.map (·.e),0)/\T.flatMap (·.l)=l.map Qu/\Fr R (R.layL ⟨true,l⟩).2 [] (T.flatMap (·.P))/\Xh (Sub (R.layL ⟨true,l⟩).2 0) T/\T.length=(Qx (l.length+1) ⟨true,l⟩).length/\(297<=(Nd.mk true l).sum->∀t∈T,Big (R.layL ⟨true,l⟩).2 t.e.kid) /\
   (∀t∈T,∀m,((R.layL ⟨true,l⟩).2.load t.e.kid).1=some m->m.leaf=true):=by
 obtain⟨Z,D,s,E,F⟩:=Zgu (l.length+1) R ⟨true,l⟩ (Uf _) hf hg hr;obtain⟨G,u,H,N⟩:=Zaw (l.length+1) ⟨true,l⟩ (Uf _) hf;have q:∀z∈Z,z.1∈Qx (l.length+1) ⟨true,l⟩:=λz c=>by rw[<-s];exact List.mem_map.2 ⟨z,c,rfl⟩
 have i:(Z.map (·.1)).flatten=l:=by rw[s];exact G
 have j:∀z∈Z,∀e∈z.1,e∈l:=λz c e d=>by rw[<-i];exact List.mem_flatten.2 ⟨z.1,List.mem_map.2 ⟨z,c,rfl⟩,d⟩
 rw[<-i,List.map_flatten,List.pairwise_flatten] at hs;obtain⟨I,C⟩:=hs;have n:∀z∈Z,(z.1.map (·.key)).Pairwise (· < ·):=λz c=>I _ (List.mem_map.2 ⟨z.1,List.mem_map.2 ⟨z,c,rfl⟩,rfl⟩)
 have v:∀z∈Z,(Nd.mk true z.1).ok:=λz c=>by
  obtain⟨J,w⟩:=u z.1 (q z c);have L:z.1.length<=446:=by have:=Zaz true z.1 0;unfold Nd.sum at w;dsimp only at w;omega
  exact⟨J,by show z.1.length<65536;omega,λe d=>⟨(hf e (j z c e d)).key,by simp only[if_true];exact⟨(hf e (j z c e d)).val,hk e (j z c e d)⟩⟩,n z c,w⟩
 have k:∀z∈Z,(R.layL ⟨true,l⟩).2.load z.2=(some ⟨true,z.1⟩,0):=λz c=>by refine load_of_read (F z c) ?_;rw[read_bytes (v z c)];unfold Nd.norm;rw[normFrom_leaf]
 refine⟨Z.map λz=>⟨⟨(Nd.mk true z.1).key0,[],z.2⟩,z.1.map Qu,[z.2]⟩,?_,?_,?_,⟨?_,?_,?_,?_⟩,?_,?_,?_⟩
 .show (R.layN (l.length+1) ⟨true,l⟩).1=_
  rw[D,List.map_map];rfl
 .rw[List.flatMap_map,<-i,List.map_flatten,List.map_map,List.flatten_eq_flatMap,List.flatMap_map];rfl
 .rw[List.flatMap_map]
  have:Z.flatMap (λz=>[z.2])=Z.map (·.2):=by rw[<-List.flatMap_singleton' (Z.map (·.2)),List.flatMap_map]
  rw[this];exact E
 .intro t g;obtain⟨z,c,rfl⟩:=List.mem_map.1 g;exact⟨⟨true,z.1⟩,k z c,rfl,rfl,rfl⟩
 .intro t g;obtain⟨z,c,rfl⟩:=List.mem_map.1 g;simpa using (u z.1 (q z c)).1
 .intro t g x A
  obtain⟨z,c,rfl⟩:=List.mem_map.1 g;obtain⟨e,d,rfl⟩:=List.mem_map.1 A;have hp:=n z c
  show ¬e.key<(Nd.mk true z.1).key0
  cases o:z.1 with
  | nil=>rw[o] at d;cases d
  | cons y r =>
   rw[o] at d hp;show ¬e.key<y.key
   rw[List.map_cons,Uk] at hp;rcases List.mem_cons.1 d with rfl | d
   .exact Vw _
   .exact λh=>Vw _ (Vy h (hp.1 e.key (List.mem_map.2 ⟨e,d,rfl⟩)))
 .rw[List.pairwise_map]
  rw[List.map_map,List.pairwise_map] at C;refine C.imp_of_mem λ{a b} O M B x A=>?_;obtain⟨e,d,rfl⟩:=List.mem_map.1 A;show e.key<(Nd.mk true b.1).key0
  cases o:b.1 with
  | nil=>exact absurd o (u b.1 (q b M)).1
  | cons y r=>exact B e.key (List.mem_map.2 ⟨e,d,rfl⟩) y.key (List.mem_map.2 ⟨y,by show y∈b.1;rw[o];simp,rfl⟩)
 .rw[List.length_map,<-s,List.length_map]
 .intro p t g m f;obtain⟨z,c,rfl⟩:=List.mem_map.1 g;rw[k z c] at f;cases f;exact H p z.1 (q z c)
 .intro t g m f;obtain⟨z,c,rfl⟩:=List.mem_map.1 g;rw[k z c] at f;cases f;rfl
end
section
variable {G:List Kid}{S:Int→List KV→List Int→Prop}
theorem parted {α β:Type} (f:α->β):∀(Q:List (List β)) (T:List α),Q.flatten=T.map f->∃G:List (List α),G.flatten=T/\G.map (List.map f)=Q
 | [],T,h=>by
  have:T=[]:=by
   cases T with
   | nil=>rfl
   | cons a r=>simp at h
  exact⟨[],by rw[this];rfl,rfl⟩
 | q::r,T,h=>by
  rw[List.flatten_cons] at h;have b:(T.take q.length).map f=q:=by rw[List.map_take,<-h,List.take_left'];rfl
  have c:r.flatten=(T.drop q.length).map f:=by rw[List.map_drop,<-h,List.drop_left'];rfl
  obtain⟨G,d,e⟩:=parted f r (T.drop q.length) c;exact⟨T.take q.length::G,by rw[List.flatten_cons,d,List.take_append_drop],by rw[List.map_cons,b,e]⟩
def Zfw:List Kid->List Kid
 | []=>[]
 | t::r=>⟨{ t.e with key:=[] },t.l,t.P⟩::r
theorem dropKey_e (G:List Kid):(Zfw G).map (·.e)=Zbd false 0 (G.map (·.e)):=by
 cases G with
 | nil=>rfl
 | cons t r =>
  rw[List.map_cons,Zbd,Zhq _ _ (by omega)];rfl
theorem dropKey_l (G:List Kid):(Zfw G).flatMap (·.l)=G.flatMap (·.l):=by cases G<;>rfl
theorem dropKey_P (G:List Kid):(Zfw G).flatMap (·.P)=G.flatMap (·.P):=by cases G<;>rfl
theorem dropKey_kid {Q:Int->Prop} (h:∀t∈G,Q t.e.kid):∀t∈Zfw G,Q t.e.kid:=by
 cases G with
 | nil=>simp[Zfw]
 | cons t r =>
  intro u a;rcases List.mem_cons.1 a with rfl | a
  .exact h t (Vi ..)
  .exact h u (Vj _ a)
theorem dropKey_row (h:Xh S G):Xh S (Zfw G):=by
 cases G with
 | nil=>exact h
 | cons t r =>
  have c:Xh S ([t]++r):=h;refine⟨λu a=>?_,λu a=>?_,λu a x b=>?_,?_⟩
  .rcases List.mem_cons.1 a with rfl | a
   .exact h.kid t (Vi ..)
   .exact h.kid u (Vj _ a)
  .rcases List.mem_cons.1 a with rfl | a
   .exact h.some t (Vi ..)
   .exact h.some u (Vj _ a)
  .rcases List.mem_cons.1 a with rfl | a
   .exact List.not_lt_nil _
   .exact h.low u (Vj _ a) x b
  .have:=h.ord;rw[Uk] at this;exact List.pairwise_cons.2 this
theorem perm_heads {α:Type} (f:α->Int) (g:α->List Int):∀L:List α,(L.map f++L.flatMap g).Perm (L.flatMap λa=>f a::g a)
 | []=>List.Perm.refl _
 | a::r=>by
  rw[List.map_cons,List.flatMap_cons,List.flatMap_cons,List.cons_append,List.cons_append];refine List.Perm.cons _ ?_;have h1:=perm_heads f g r
  have b:(r.map f++(g a++r.flatMap g)).Perm (g a++(r.map f++r.flatMap g)):=by rw[<-List.append_assoc,<-List.append_assoc];exact List.Perm.append_right _ List.perm_append_comm
  exact b.trans (List.Perm.append_left _ h1)
theorem zipped {α β γ:Type} (g:α->β):∀(G:List α) (Z:List (β × γ)),Z.map (·.1)=G.map g->∃W:List (α × γ),W.map (·.1)=G/\Z=W.map λw=>(g w.1,w.2)
 | [],Z,h=>by
  cases Z with
  | nil=>exact⟨[],rfl,rfl⟩
  | cons z r=>simp at h
 | a::r,Z,h=>by
  cases Z with
  | nil=>simp at h
  | cons z s =>
   rw[List.map_cons,List.map_cons] at h;obtain⟨b,c⟩:=List.cons.inj h;obtain⟨W,d,e⟩:=zipped g r s c;exact⟨(a,z.2)::W,by rw[List.map_cons,d],by rw[List.map_cons,<-e,<-b]⟩
theorem Xh.keys {T:List Kid} (h:Xh S T):(T.map λt=>t.e.key).Pairwise (· < ·):=by rw[List.pairwise_map];refine h.ord.imp_of_mem λ{a b} d g c=>?_;obtain⟨x,f⟩:=List.exists_mem_of_ne_nil _ (h.some a d);exact List.lt_of_le_of_lt (List.not_lt.1 (h.low a d x f)) (c x f)
theorem lay_inner {R:Rp} {h:Nat} {d:List Kid} (hg:R.good) (hf:∀t∈d,t.e.few) (hv:∀t∈d,t.e.val=[]) (hrow:Xh (Sub R h) d) (C:∀t∈d,Big R t.e.kid) (hnd:(d.flatMap (·.P)).Nodup) (hm:d.length<=60000)
 (hr:(Qx ((d.map (·.e)).length+1) ⟨false,d.map (·.e)⟩).length<=Xw R.pages):
  ∃T:List Kid,(R.layL ⟨false,d.map (·.e)⟩).1=(T.map (·.e),0)/\T.flatMap (·.l)=d.flatMap (·.l)/\Fr R (R.layL ⟨false,d.map (·.e)⟩).2 (d.flatMap (·.P)) (T.flatMap (·.P))/\Xh (Sub (R.layL ⟨false,d.map (·.e)⟩).2 (h+1)) T/\T.length=(Qx ((d.map (·.e)).length+1) ⟨false,d.map (·.e)⟩).length /\
   (297<=(Nd.mk false (d.map (·.e))).sum->∀t∈T,Big (R.layL ⟨false,d.map (·.e)⟩).2 t.e.kid)/\(∀t∈T,∀m,((R.layL ⟨false,d.map (·.e)⟩).2.load t.e.kid).1=some m->m.leaf=false):=by
 have D:∀e∈d.map (·.e),e.few:=λe I=>by obtain⟨t,f,rfl⟩:=List.mem_map.1 I;exact hf t f
 obtain⟨Z,a1,a2,a3,a4⟩:=Zgu ((d.map (·.e)).length+1) R ⟨false,d.map (·.e)⟩ (Uf _) D hg hr;obtain⟨b1,b2,b3,b4⟩:=Zaw ((d.map (·.e)).length+1) ⟨false,d.map (·.e)⟩ (Uf _) D;obtain⟨G,g1,J⟩:=parted (·.e) (Qx ((d.map (·.e)).length+1) ⟨false,d.map (·.e)⟩) d b1;obtain⟨W,L,w2⟩:=zipped (List.map (·.e)) G Z (by rw[a2,J]);subst w2;have M:∀w∈W,w.1.map (·.e)∈Qx ((d.map (·.e)).length+1) ⟨false,d.map (·.e)⟩:=λw c=>by rw[<-J,<-L];exact List.mem_map.2 ⟨w.1,List.mem_map.2 ⟨w,c,rfl⟩,rfl⟩
 have o:(W.map (·.1)).flatten=d:=by rw[L];exact g1
 have i:∀w∈W,∀t∈w.1,t∈d:=λw c t f=>by rw[<-o];exact List.mem_flatten.2 ⟨w.1,List.mem_map.2 ⟨w,c,rfl⟩,f⟩
 have v:=hrow.ord;rw[<-o,List.pairwise_flatten] at v;obtain⟨s1,s2⟩:=v;rw[List.pairwise_map] at s2;have g:∀w∈W,Xh (Sub R h) w.1:=λw c=>⟨λt f=>hrow.kid t (i w c t f),λt f=>hrow.some t (i w c t f),λt f=>hrow.low t (i w c t f),s1 _ (List.mem_map.2 ⟨w,c,rfl⟩)⟩;have q:∀w∈W,w.1≠[]:=λw c e=>(b2 _ (M w c)).1 (by rw[e];rfl)
 have N:∀w∈W,(Nd.mk false (w.1.map (·.e))).ok:=λw c=>by
  obtain⟨c1,O⟩:=b2 _ (M w c);have a5:(w.1.map (·.e)).length<=446:=by have:=Zaz false (w.1.map (·.e)) 0;unfold Nd.sum at O;dsimp only at O;omega
  refine⟨c1,by show (w.1.map (·.e)).length<65536;omega,λe I=>?_,?_,O⟩
  .obtain⟨t,f,rfl⟩:=List.mem_map.1 I;have:=hf t (i w c t f);exact⟨this.key,by simp only[Bool.false_eq_true,if_false];exact⟨hv t (i w c t f),this.k0,this.k1⟩⟩
  .have:=(g w c).keys
   unfold Srt;simp only[Bool.false_eq_true,if_false];rw[<-List.map_tail,List.map_map]
   cases j:w.1 with
   | nil=>simp
   | cons t r =>
    rw[j] at this;rw[List.map_cons,Uk] at this;exact this.2
 have z:∀w∈W,(R.layL ⟨false,d.map (·.e)⟩).2.load w.2=(some ⟨false,(Zfw w.1).map (·.e)⟩,0):=λw c=>by refine load_of_read (a4 _ (List.mem_map.2 ⟨w,c,rfl⟩)) ?_;rw[read_bytes (N w c),dropKey_e];rfl
 have hY:∀p∈d.flatMap (·.P),R.taken p=true:=λp s=>by obtain⟨t,f,s⟩:=List.mem_flatMap.1 s;exact Sub.taken h (hrow.kid t f) p s
 have k:∀p∈d.flatMap (·.P),(R.layL ⟨false,d.map (·.e)⟩).2.read p=R.read p:=λp s=>(a3.keep p (hY p s) (by simp)).2.2;have y:∀w∈W,∀t∈w.1,∀p∈t.P,p∈d.flatMap (·.P):=λw c t f p s=>List.mem_flatMap.2 ⟨t,i w c t f,s⟩;have E:∀w∈W,Xh (Sub (R.layL ⟨false,d.map (·.e)⟩).2 h) w.1:=λw c=>⟨λt f=>Sub.same h ((g w c).kid t f) λp s=>k p (y w c t f p s),(g w c).some,(g w c).low,(g w c).ord⟩;have Q:∀w∈W,∀t∈w.1,Big (R.layL ⟨false,d.map (·.e)⟩).2 t.e.kid:=λw c t f m F=>by rw[Rp.load_read (k _ (y w c t f _ (Sub.page h ((g w c).kid t f))))] at F;exact C t (i w c t f) m F
 have U:W.flatMap (λw=>w.1.flatMap (·.l))=d.flatMap (·.l):=by rw[<-o,List.flatten_eq_flatMap,List.flatMap_map,List.flatMap_assoc];rfl
 have V:W.flatMap (λw=>w.1.flatMap (·.P))=d.flatMap (·.P):=by rw[<-o,List.flatten_eq_flatMap,List.flatMap_map,List.flatMap_assoc];rfl
 refine⟨W.map λw=>⟨⟨(Nd.mk false (w.1.map (·.e))).key0,[],w.2⟩,w.1.flatMap (·.l),w.2::w.1.flatMap (·.P)⟩,?_,?_,?_,⟨?_,?_,?_,?_⟩,?_,?_,?_⟩
 .show (R.layN ((d.map (·.e)).length+1) ⟨false,d.map (·.e)⟩).1=_
  rw[a1,List.map_map,List.map_map];rfl
 .rw[List.flatMap_map];exact U
 .rw[List.flatMap_map];have hb:=a3.beside (Y:=d.flatMap (·.P)) hY (by simp) hnd;refine hb.perm (by simp) ?_;rw[List.map_map];have:=perm_heads (λw:List Kid × Int=>w.2) (λw=>w.1.flatMap (·.P)) W;rw[V] at this;exact this
 .intro t f;obtain⟨w,c,rfl⟩:=List.mem_map.1 f;refine⟨_,Zfw w.1,z w c,rfl,rfl,(dropKey_l _).symm,by rw[dropKey_P],dropKey_row (E w c),dropKey_kid (Q w c)⟩
 .intro t f
  obtain⟨w,c,rfl⟩:=List.mem_map.1 f;intro e
  cases j:w.1 with
  | nil=>exact q w c j
  | cons t r =>
   have e':w.1.flatMap (·.l)=[]:=e;rw[j,List.flatMap_cons] at e';exact(g w c).some t (by rw[j];simp) (List.append_eq_nil_iff.1 e').1
 .intro t f x A
  obtain⟨w,c,rfl⟩:=List.mem_map.1 f;obtain⟨u,B,A⟩:=List.mem_flatMap.1 A;show ¬x.1<(Nd.mk false (w.1.map (·.e))).key0
  cases j:w.1 with
  | nil=>exact absurd j (q w c)
  | cons t r =>
   show ¬x.1<t.e.key
   have X:=(g w c).keys;rw[j] at B X;rw[List.map_cons,Uk] at X;have hlow:=(g w c).low u (by rw[j];exact B) x A;rcases List.mem_cons.1 B with rfl | B
   .exact hlow
   .exact λh=>hlow (Vy h (X.1 _ (List.mem_map.2 ⟨u,B,rfl⟩)))
 .rw[List.pairwise_map]
  refine s2.imp_of_mem λ{a b} ha hb a0 x A=>?_;obtain⟨u,B,A⟩:=List.mem_flatMap.1 A;show x.1<(Nd.mk false (b.1.map (·.e))).key0
  cases j:b.1 with
  | nil=>exact absurd j (q b hb)
  | cons t r=>exact a0 u B t (by rw[j];simp) x A
 .rw[List.length_map,<-J,List.length_map,<-L,List.length_map]
 .intro H t f m n
  obtain⟨w,c,rfl⟩:=List.mem_map.1 f;rw[z w c] at n;cases n;have:=b3 H _ (M w c)
  rw[dropKey_e];unfold Nd.sum at this ⊢;dsimp only at this ⊢
  cases j:w.1 with
  | nil=>exact absurd j (q w c)
  | cons t r =>
   rw[j] at this;rw[List.map_cons,Zbd,Zhq _ _ (by omega)];exact this
 .intro t f m n;obtain⟨w,c,rfl⟩:=List.mem_map.1 f;rw[z w c] at n;cases n;rfl
end
section
variable {key:List UInt8}{A L C:List KV}{n:Nd}
def Zcz (l:List KV) (key:List UInt8):List KV:=match l.dropWhile (λx=>decide (x.1<key)) with
 | []=>[]
 | x::r=>if x.1=key then r else x::r
def Zel (l:List KV) (key:List UInt8):List KV:=l.takeWhile λx=>decide (x.1<key)
def Zcd (l:List KV) (key val:List UInt8):List KV:=Zel l key++(key,val)::Zcz l key
def Zbi (l:List KV) (key:List UInt8):List KV:=Zel l key++Zcz l key
theorem headL_mid (hA:∀x∈A,x.1<key) (hC:∀x∈C,key<x.1):Zel (A++(L++C)) key=A++Zel L key:=by
 unfold Zel
 have e:∀(A B:List KV),(∀x∈A,x.1<key)->(A++B).takeWhile (λx=>decide (x.1<key))=A++B.takeWhile λx=>decide (x.1<key):=by
  intro A
  induction A with
  | nil=>intro B _;rfl
  | cons a r d =>
   intro B h;rw[List.cons_append,List.takeWhile_cons,if_pos (by simpa using h a (Vi ..)),d B λx b=>h x (Vj _ b)];rfl
 rw[e A _ hA];congr 1
 induction L with
 | nil =>
  cases C with
  | nil=>rfl
  | cons c r =>
   have f:=hC c (Vi ..);rw[List.nil_append,List.takeWhile_cons,if_neg (by simpa using λh=>Vw _ (Vy f h))];rfl
 | cons x r d =>
  rw[List.cons_append,List.takeWhile_cons,List.takeWhile_cons];by_cases b:x.1<key
  .rw[if_pos (by simpa using b),if_pos (by simpa using b),d]
  .rw[if_neg (by simpa using b),if_neg (by simpa using b)]
theorem restL_mid (hA:∀x∈A,x.1<key) (hC:∀x∈C,key<x.1):Zcz (A++(L++C)) key=Zcz L key++C:=by
 unfold Zcz;rw[Zgh _ λa e=>by simpa using hA a e]
 induction L with
 | nil =>
  cases C with
  | nil=>rfl
  | cons c r =>
   have d:=hC c (Vi ..);have f:¬c.1=key:=λh=>by rw[h] at d;exact Vw _ d
   rw[List.nil_append,List.dropWhile_cons,if_neg (by simpa using λh=>Vw _ (Vy d h))];simp[f]
 | cons x r g =>
  rw[List.cons_append,List.dropWhile_cons,List.dropWhile_cons];by_cases b:x.1<key
  .rw[if_pos (by simpa using b),if_pos (by simpa using b)];exact g
  .rw[if_neg (by simpa using b),if_neg (by simpa using b)]
   dsimp only
   split<;>rfl
theorem putL_mid {val:List UInt8} (hA:∀x∈A,x.1<key) (hC:∀x∈C,key<x.1):Zcd (A++(L++C)) key val=A++(Zcd L key val++C):=by unfold Zcd;rw[headL_mid hA hC,restL_mid hA hC];simp
theorem delL_mid (hA:∀x∈A,x.1<key) (hC:∀x∈C,key<x.1):Zbi (A++(L++C)) key=A++(Zbi L key++C):=by unfold Zbi;rw[headL_mid hA hC,restL_mid hA hC];simp
theorem map_drop_kv (key:List UInt8):∀l:List En,(l.map Qu).dropWhile (λx=>decide (x.1<key))=(l.dropWhile λe=>decide (e.key<key)).map Qu
 | []=>rfl
 | e::r=>by
  rw[List.map_cons,List.dropWhile_cons,List.dropWhile_cons];have:decide ((Qu e).1<key)=decide (e.key<key):=rfl
  rw[this];split
  .exact map_drop_kv key r
  .rfl
theorem map_head_kv (key:List UInt8):∀l:List En,Zel (l.map Qu) key=(l.takeWhile λe=>decide (e.key<key)).map Qu
 | []=>rfl
 | e::r=>by
  unfold Zel;rw[List.map_cons,List.takeWhile_cons,List.takeWhile_cons];have:decide ((Qu e).1<key)=decide (e.key<key):=rfl
  rw[this];split
  .rw[List.map_cons];exact Vs _ (map_head_kv key r)
  .rfl
theorem leaf_parts (hl:n.leaf=true) (key:List UInt8):∃U V,n.l=U++V/\U.length=(n.behind key).1/\Zel (n.l.map Qu) key=U.map Qu/\(((n.behind key).2=false/\Zcz (n.l.map Qu) key=V.map Qu)\/((n.behind key).2=true/\∃e r,V=e::r/\e.key=key/\Zcz (n.l.map Qu) key=r.map Qu)):=by
 refine⟨n.l.takeWhile λe=>decide (e.key<key),n.l.dropWhile λe=>decide (e.key<key),List.takeWhile_append_dropWhile.symm,?_,map_head_kv key n.l,?_⟩
 .unfold Nd.behind;rw[hl];rfl
 .have b:(n.behind key).2=decide (((n.l.dropWhile λe=>decide (e.key<key)).head?).map (·.key)=some key):=by unfold Nd.behind;rw[hl];rfl
  rw[b];unfold Zcz;rw[map_drop_kv]
  cases c:n.l.dropWhile (λe=>decide (e.key<key)) with
  | nil=>exact .inl ⟨by simp,rfl⟩
  | cons e r =>
   by_cases a:e.key=key
   .exact .inr ⟨by simp[a],e,r,rfl,a,by simp[Qu,a]⟩
   .exact .inl ⟨by simp[a],by simp[Qu,a]⟩
theorem leaf_put (hl:n.leaf=true) (key val:List UInt8):(putC key val n.l (n.behind key).1 (n.behind key).2).map Qu=Zcd (n.l.map Qu) key val:=by
 obtain⟨U,V,c,d,f,a⟩:=leaf_parts hl key;unfold Zcd;rw[f,<-d];rcases a with ⟨a,b⟩ | ⟨a,e,r,g,h,b⟩
 .rw[a,b]
  unfold putC;simp only[Bool.false_eq_true,if_false];rw[c,List.take_left',List.drop_left']
  .simp[Qu]
  .rfl
  .rfl
 .rw[a,b]
  unfold putC;simp only[if_true]
  have i:(U++e::r).modify U.length (λe=>{ e with val:=val })=U++{ e with val:=val }::r:=by
   clear c d f b
   induction U with
   | nil=>rfl
   | cons x s j=>rw[List.cons_append,List.length_cons,List.modify_succ_cons,j];rfl
  rw[c,g,i];simp[Qu,h]
theorem leaf_del (hl:n.leaf=true) (key:List UInt8):(delC n.l (n.behind key).1 (n.behind key).2).map Qu=Zbi (n.l.map Qu) key:=by
 obtain⟨U,V,c,d,f,a⟩:=leaf_parts hl key;unfold Zbi;rw[f,<-d];rcases a with ⟨a,b⟩ | ⟨a,e,r,g,h,b⟩
 .rw[a,b];unfold delC;simp only[Bool.false_eq_true,if_false];rw[c,List.map_append]
 .rw[a,b]
  unfold delC;simp only[if_true];rw[c,g,List.take_left' rfl,show U.length+1=U.length+1 from rfl,<-List.drop_drop,List.drop_left' rfl]
  simp
end
section
variable {R R':Rp}{leaf:Bool}{n:Nd}{p:Int}{k bs:List UInt8}{T M:List Kid}{S:Int→List KV→List Int→Prop}{h:Nat}
def En.kind (leaf:Bool) (i:Nat) (e:En):Prop:=(leaf=true->e.kid=0)/\(leaf=false->e.val=[])/\(leaf=false->i=0->e.key=[])
theorem readE_kind {i a:Nat} {x:En × Nat} (h:Zbm leaf bs i a=some x):x.1.kind leaf i:=by
 unfold Zbm at h
 cases b:readK leaf bs i a with
 | none=>rw[b] at h;cases h
 | some k =>
  rw[b] at h;change readV leaf bs k.1 k.2=some x at h;unfold readV at h
  cases leaf with
  | true =>
   simp only[if_true] at h
   cases c:Zbu bs k.2 200 with
   | none=>rw[c] at h;cases h
   | some v =>
    rw[c] at h;cases h;exact⟨λ_=>rfl,by simp,by simp⟩
  | false =>
   simp only[Bool.false_eq_true,if_false] at h;split at h
   .cases h
   .cases h;refine⟨by simp,λ_=>rfl,λ_ d=>?_⟩;subst d;unfold readK at b;simp at b;rw[<-b]
theorem readGo_kind:∀(k a:Nat) (l r:List En),Yz leaf bs k a l=some r->(∀i (h:i<l.length),(l[i]).kind leaf i)->∀i (h:i<r.length),(r[i]).kind leaf i
 | 0,a,l,r,h,c=>by rw[Yz] at h;cases h;exact c
 | k+1,a,l,r,h,c=>by
  rw[Yz] at h
  cases d:Zbm leaf bs l.length a with
  | none=>rw[d] at h;cases h
  | some x =>
   rw[d] at h;dsimp only at h;split at h
   .refine readGo_kind k x.2 (l++[x.1]) r h λi e=>?_
    rcases Ua i l.length with b | f
    .rw[List.getElem_append_left b];exact c i b
    .have:i=l.length:=by simp at e;omega
     subst this;have:=readE_kind d
     simpa using this
   .cases h
theorem load_kind (h:(R.load p).1=some n):∀i (h:i<n.l.length),(n.l[i]).kind n.leaf i:=by
 unfold Rp.load at h;split at h
 .cases h
 .cases a:Zah (R.read p).1 with
  | none=>rw[a] at h;cases h
  | some m =>
   rw[a] at h;cases h;unfold Zah at a;split at a
   .cases a
   .cases b:Yz ((R.read p).1.getD 0 0==1) (R.read p).1 (readM (R.read p).1) 3 [] with
    | none=>rw[b] at a;cases a
    | some r =>
     rw[b] at a;cases a;exact readGo_kind _ _ _ _ b (by simp)
theorem load_kid0 (h:(R.load p).1=some n) (hl:n.leaf=true):∀e∈n.l,e.kid=0:=λe a=>by obtain⟨i,b,rfl⟩:=List.mem_iff_getElem.1 a;exact(load_kind h i b).1 hl
theorem load_val0 (h:(R.load p).1=some n) (hl:n.leaf=false):∀e∈n.l,e.val=[]:=λe a=>by obtain⟨i,b,rfl⟩:=List.mem_iff_getElem.1 a;exact(load_kind h i b).2.1 hl
theorem load_key0 (h:(R.load p).1=some n) (hl:n.leaf=false) {e:En} {r:List En} (a:n.l=e::r):e.key=[]:=by have:=(load_kind h 0 (by rw[a];simp)).2.2 hl rfl;simpa [a] using this
theorem layN_val:∀(f:Nat) (R:Rp) (n:Nd),∀e∈(R.layN f n).1.1,e.val=[]
 | 0,R,n=>by simp[Rp.layN]
 | f+1,R,n=>by
  have a:=layN_val f R ⟨n.leaf,n.l.take n.cut⟩;have h2:=layN_val f (R.layN f ⟨n.leaf,n.l.take n.cut⟩).2 ⟨n.leaf,n.l.drop n.cut⟩;rw[Rp.layN];split
  .simp
  .split
   .split
    .simp
    .exact λe b=>(List.mem_append.1 b).elim (a e) (h2 e)
   .split<;>simp
theorem layL_count (hf:∀e∈n.l,e.few) (hg:R.good) (hr:(Qx (n.l.length+1) n).length<=Xw R.pages):Xw (R.layL n).2.pages+(Qx (n.l.length+1) n).length=Xw R.pages:=by
 obtain⟨Z,c,a,b,d⟩:=Zgu (n.l.length+1) R n (Uf _) hf hg hr;have:=b.count
 rw[List.length_map] at this;have f:Z.length=(Qx (n.l.length+1) n).length:=by rw[<-a,List.length_map]
 simp only[List.length_nil] at this;unfold Rp.layL;omega
def keyKid (k:List UInt8):List Kid->List Kid
 | []=>[]
 | t::r=>⟨{ t.e with key:=k },t.l,t.P⟩::r
theorem keyKid_e (k:List UInt8) (T:List Kid):(keyKid k T).map (·.e)=Zr k (T.map (·.e)):=by cases T<;>rfl
theorem keyKid_l (k:List UInt8) (T:List Kid):(keyKid k T).flatMap (·.l)=T.flatMap (·.l):=by cases T<;>rfl
theorem keyKid_P (k:List UInt8) (T:List Kid):(keyKid k T).flatMap (·.P)=T.flatMap (·.P):=by cases T<;>rfl
theorem Zhp (k:List UInt8) (T:List Kid):(keyKid k T).length=T.length:=by cases T<;>rfl
theorem Zbq {t:Kid} (h:t∈keyKid k T):∃u∈T,t.l=u.l/\t.P=u.P/\t.e.kid=u.e.kid/\t.e.val=u.e.val/\(t.e.key=u.e.key\/t.e.key=k):=by
 cases T with
 | nil=>cases h
 | cons u r =>
  rcases List.mem_cons.1 h with rfl | h
  .exact⟨u,Vi ..,rfl,rfl,rfl,rfl,.inr rfl⟩
  .exact⟨t,Vj _ h,rfl,rfl,rfl,rfl,.inl rfl⟩
theorem keyKid_few (hk:k.length<=80) (h:∀t∈T,t.e.few):∀t∈keyKid k T,t.e.few:=λt b=>by
 obtain⟨u,c,_,_,a,d,f⟩:=Zbq b;have:=h u c
 refine⟨?_,by rw[d];exact this.val,by rw[a];exact this.k0,by rw[a];exact this.k1⟩
 rcases f with e | e<;>rw[e]
 .exact this.key
 .exact hk
theorem Xh.keyKid (h:Xh S T) (hk:∀t∈T,∀x∈t.l,¬x.1<k):Xh S (keyKid k T):=by
 cases T with
 | nil=>exact h
 | cons t r =>
  have d:Xh S ([t]++r):=h;refine Xh.append (A:=[⟨{ t.e with key:=k },t.l,t.P⟩]) (C:=r) ⟨λu b=>?_,λu b=>?_,λu b=>?_,List.pairwise_singleton ..⟩ d.right λa f c g=>?_
  .rw[List.mem_singleton.1 b];exact h.kid t (Vi ..)
  .rw[List.mem_singleton.1 b];exact h.some t (Vi ..)
  .rw[List.mem_singleton.1 b];exact hk t (Vi ..)
  .rw[List.mem_singleton.1 f];exact d.mid t (List.mem_singleton_self t) c g
theorem Xh.swap {A C:List Kid} (hA:Xh S A) (hM:Xh S M) (hC:Xh S C) (i:∀a∈A,∀c∈C,∀x∈a.l,x.1<c.e.key)
 (d:∀a∈A,∀x∈a.l,x.1<k) (hlo:∀m∈M,∀x∈m.l,¬x.1<k) (hhi:∀m∈M,∀x∈m.l,∀c∈C,x.1<c.e.key):Xh S (A++(Go.Proofs.YtfaobkmojlhbnaaGreatDoor.keyKid k M++C)):=by
 refine hA.append ((hM.keyKid hlo).append hC λa f c b x g=>?_) λa f c b x g=>?_
 .obtain⟨u,o,e,_⟩:=Zbq f;exact hhi u o x (e▸g) c b
 .rcases List.mem_append.1 b with b | b
  .cases M with
   | nil=>cases b
   | cons u r =>
    rcases List.mem_cons.1 b with rfl | b
    .exact d a f x g
    .have q:Xh S ([u]++r):=hM
     obtain⟨y,j⟩:=List.exists_mem_of_ne_nil _ (hM.some u (Vi ..));have h1:=hlo u (Vi ..) y j
     have s:=q.mid u (List.mem_singleton_self u) c b y j;exact Vy (d a f x g) (List.lt_of_le_of_lt (List.not_lt.1 h1) s)
  .exact i a f c b x g
theorem Xh.same {T:List Kid} (hr:Xh (Sub R h) T) (hp:∀t∈T,∀p∈t.P,R'.read p=R.read p):Xh (Sub R' h) T :=
 ⟨λt a=>Sub.same h (hr.kid t a) (hp t a),hr.some,hr.low,hr.ord⟩
theorem Big.same (h:Big R p) (hp:R'.read p=R.read p):Big R' p:=λn a=>h n (by rw[<-Rp.load_read hp];exact a)
structure Laid (R R':Rp) (h:Nat) (X:List Int) (l:List KV) (M:List Kid):Prop where
 fl:M.flatMap (·.l)=l
 fr:Fr R R' X (M.flatMap (·.P))
 row:Xh (Sub R' h) M
 few:∀t∈M,t.e.few
 val:∀t∈M,t.e.val=[]
 two:M.length<=2
 big:2<=M.length->∀t∈M,Big R' t.e.kid
theorem sum_len {l:List En} (h:(Nd.mk leaf l).sum<=1504):l.length<=60000:=by have:=Zaz leaf l 0;unfold Nd.sum at h;dsimp only at h;omega
theorem few_of_lay {e:Int} (hg:R.good) (hf:∀e∈n.l,e.few) (h:(R.layL n).1=(M.map (·.e),e)):(∀t∈M,t.e.few)/\∀t∈M,t.e.val=[]:=by have b:=(Zgt (n.l.length+1) R n hg.few hf).1;have h2:=layN_val (n.l.length+1) R n;have c:(R.layN (n.l.length+1) n).1=(M.map (·.e),e):=h;rw[c] at b h2;exact⟨λt a=>b _ (List.mem_map.2 ⟨t,a,rfl⟩),λt a=>h2 _ (List.mem_map.2 ⟨t,a,rfl⟩)⟩
theorem laid_leaf {l:List En} (hg:R.good) (hf:∀e∈l,e.few) (hk:∀e∈l,e.kid=0) (hs:(l.map (·.key)).Pairwise (· < ·)) (hsum:(Nd.mk true l).sum<=1504) (hr:2<=Xw R.pages):
  ∃M,(R.layL ⟨true,l⟩).1=(M.map (·.e),0)/\Laid R (R.layL ⟨true,l⟩).2 0 [] (l.map Qu) M/\(297<=(Nd.mk true l).sum->∀t∈M,Big (R.layL ⟨true,l⟩).2 t.e.kid)/\(M.flatMap (·.P)).length=M.length/\(l≠[]->M≠[]):=by
 have b:=partsN_two (Uf (Nd.mk true l).l.length) hf hsum;obtain⟨T,d,c,f,i,a,g,_⟩:=lay_leaf hg hf hk hs (sum_len hsum) (Vk b hr);obtain⟨j,m⟩:=few_of_lay hg hf d;have hc:=layL_count (n:=⟨true,l⟩) hf hg (Vk b hr);have hc2:=f.count;have o:T.length<=2:=by rw[a];exact b
 simp only[List.length_nil] at hc2;refine⟨T,d,⟨c,f,i,j,m,o,λq=>?_⟩,g,?_,λs e=>?_⟩
 .refine g (Nat.le_of_not_lt λu=>?_)
  have:=(Zaw (l.length+1) ⟨true,l⟩ (Uf _) hf).2.2.2 (by omega);rw[this] at a
  split at a<;>simp only[List.length_nil,List.length_cons] at a<;>omega
 .dsimp only at hc;rw[a];omega
 .rw[e] at c
  cases l with
  | nil=>exact s rfl
  | cons x r=>simp at c
theorem laid_inner {a:List Kid} (hg:R.good) (hf:∀t∈a,t.e.few) (hv:∀t∈a,t.e.val=[]) (hrow:Xh (Sub R h) a) (c:∀t∈a,Big R t.e.kid) (hnd:(a.flatMap (·.P)).Nodup) (hsum:(Nd.mk false (a.map (·.e))).sum<=1504) (hr:2<=Xw R.pages):
  ∃M,(R.layL ⟨false,a.map (·.e)⟩).1=(M.map (·.e),0)/\Laid R (R.layL ⟨false,a.map (·.e)⟩).2 (h+1) (a.flatMap (·.P)) (a.flatMap (·.l)) M/\(297<=(Nd.mk false (a.map (·.e))).sum->∀t∈M,Big (R.layL ⟨false,a.map (·.e)⟩).2 t.e.kid)/\(M.flatMap (·.P)).length=M.length+(a.flatMap (·.P)).length/\(a≠[]->M≠[]):=by
 have b:∀e∈a.map (·.e),e.few:=λe o=>by obtain⟨t,q,rfl⟩:=List.mem_map.1 o;exact hf t q
 have g:=partsN_two (Uf (Nd.mk false (a.map (·.e))).l.length) b hsum;have hlen:=sum_len hsum;rw[List.length_map] at hlen;obtain⟨T,i,f,j,s,d,m,_⟩:=lay_inner hg hf hv hrow c hnd hlen (Vk g hr);obtain⟨u,v⟩:=few_of_lay hg b i;have hc:=layL_count (n:=⟨false,a.map (·.e)⟩) b hg (Vk g hr);have hc2:=j.count;have w:T.length<=2:=by rw[d];exact g
 refine⟨T,i,⟨f,j,s,u,v,w,λy=>?_⟩,m,?_,λz e=>?_⟩
 .refine m (Nat.le_of_not_lt λA=>?_)
  have:=(Zaw ((a.map (·.e)).length+1) ⟨false,a.map (·.e)⟩ (Uf _) b).2.2.2 (by omega);rw[this] at d
  split at d<;>simp only[List.length_nil,List.length_cons] at d<;>omega
 .dsimp only at hc;rw[d];omega
 .rw[e] at f
  cases a with
  | nil=>exact z rfl
  | cons x r =>
   rw[List.flatMap_cons] at f;exact hrow.some x (Vi ..) (List.append_eq_nil_iff.1 f.symm).1
end
section
variable {R:Rp}{n:Nd}{h:Nat}
theorem Zih (k:List UInt8) (l:List En):Zg false 0 (Zr k l)=Zg false 0 l:=by
 cases l with
 | nil=>rfl
 | cons x r=>rw[Zr,Zg,Zg];rfl
theorem joint_sums {a b:Nd} (hb:∀e∈b.l,e.few) (c:a.leaf=b.leaf) {key:List UInt8} (hk:key.length<=80):
  (Nd.mk a.leaf (a.l++(if b.leaf then b.l else Zr key b.l))).sum<=a.sum+b.sum+161/\a.sum<=(Nd.mk a.leaf (a.l++(if b.leaf then b.l else Zr key b.l))).sum/\b.sum<=(Nd.mk a.leaf (a.l++(if b.leaf then b.l else Zr key b.l))).sum:=by
 unfold Nd.sum;dsimp only;rw[Ym]
 cases d:b.leaf with
 | true =>
  rw[c,d];simp only[if_true];have h1:=Zad true b.l (0+a.l.length) λe c=>(hb e c).key
  have f:=Zbf true b.l (0+a.l.length);simp only[if_true] at h1;omega
 | false =>
  rw[c,d];simp only[Bool.false_eq_true,if_false];have h3:=Zad false b.l (0+a.l.length) λe c=>(hb e c).key
  have g:=Zhx (l:=b.l) hk false (0+a.l.length) rfl;have h5:=Zbf false (Zr key b.l) (0+a.l.length);rw[Zih] at h5;simp only[Bool.false_eq_true,if_false] at h3;omega
theorem free_two {x y:Int} (hx:R.taken x=true) (hy:R.taken y=true) (hne:x≠y) (b:R.root≠x) (c:R.root≠y):(R.free x).1=0/\((R.free x).2.free y).1=0/\Fr R ((R.free x).2.free y).2 [x,y] []:=by obtain⟨d,a⟩:=fr_free hx b;obtain⟨f,j,k⟩:=a.keep y hy (by simpa using λe:y=x=>hne e.symm);obtain⟨g,i⟩:=fr_free f (by rw[a.root];exact c);exact⟨d,g,(a.beside (Y:=[y]) (by simpa using hy) (by simpa using λe:y=x=>hne e.symm) (by simp)).trans i⟩
theorem Sub.srt {page:Int} (hg:R.good) (h:R.load page=(some n,0)):n.fit:=hg.load (by rw[h])
theorem fit_rise (h:n.fit) (hl:n.leaf=true):(n.l.map (·.key)).Pairwise (· < ·):=by have:=h.srt;unfold Srt at this;rw[if_pos hl] at this;exact this
theorem pair_laid {a b:Kid} (hg:R.good) (O:Sub R h a.e.kid a.l a.P) (hb:Sub R h b.e.kid b.l b.P) (Q:∀x∈a.l,x.1<b.e.key) (hbl:∀x∈b.l,¬x.1<b.e.key) (S:b.e.key.length<=80) (hnd:(a.P++b.P).Nodup) (s:R.root∉a.P++b.P)
 {r nb:Nd} (g:R.load a.e.kid=(some r,0)) (i:R.load b.e.kid=(some nb,0)) (hs:r.sum<297\/nb.sum<297) (hs2:297<=r.sum\/297<=nb.sum):
  r.leaf=nb.leaf/\(R.free a.e.kid).1=0/\((R.free a.e.kid).2.free b.e.kid).1=0/\∀T,T=((R.free a.e.kid).2.free b.e.kid).2->∃M,(T.layL ⟨r.leaf,r.l++(if nb.leaf then nb.l else Zr b.e.key nb.l)⟩).1=(M.map (·.e),0) /\
   Laid R (T.layL ⟨r.leaf,r.l++(if nb.leaf then nb.l else Zr b.e.key nb.l)⟩).2 h (a.P++b.P) (a.l++b.l) M/\(∀t∈M,Big (T.layL ⟨r.leaf,r.l++(if nb.leaf then nb.l else Zr b.e.key nb.l)⟩).2 t.e.kid)/\(M.flatMap (·.P)).length<=(a.P++b.P).length/\M≠[]:=by
 have J:=Sub.srt hg g;have fb:=Sub.srt hg i;have pa:=Sub.page h O;have pb:=Sub.page h hb;have aa:a.e.kid≠b.e.kid:=λe=>(List.nodup_append.1 hnd).2.2 _ pa _ pb e;obtain⟨f1,f2,L⟩:=free_two (Yj g) (Yj i) aa (λe=>s (by rw[e];exact Vq _ pa)) (λe=>s (by rw[e];exact Vp _ pb))
 have v:r.leaf=nb.leaf:=by
  cases h with
  | zero =>
   obtain⟨U,w,D,_⟩:=O;obtain⟨n2,z,E,_⟩:=hb;rw[g] at w;rw[i] at z;cases w;cases z;rw[D,E]
  | succ h =>
   obtain⟨U,_,w,D,_⟩:=O;obtain⟨n2,_,z,E,_⟩:=hb;rw[g] at w;rw[i] at z;cases w;cases z;rw[D,E]
 obtain⟨s1,s2,s3⟩:=joint_sums (a:=r) fb.few v S;have sa:=J.sum
 have sb:=fb.sum;refine⟨v,f1,f2,λT e2=>?_⟩;subst e2;have hc:=L.count;simp only[List.length_nil,List.length_cons] at hc;have B:2<=Xw ((R.free a.e.kid).2.free b.e.kid).2.pages:=by omega
 cases h with
 | zero =>
  obtain⟨U,w,D,F,a4⟩:=O;obtain⟨n2,z,E,N,b4⟩:=hb;rw[g] at w;rw[i] at z;cases w;cases z;simp only[D,E,if_true] at s1 s2 s3 ⊢;have V:∀e∈r.l++nb.l,e.few:=λe W=>(List.mem_append.1 W).elim (J.few e) (fb.few e)
  obtain⟨M,m1,d,m3,m4,m5⟩:=laid_leaf (L.good hg) V (λe W=>(List.mem_append.1 W).elim (load_kid0 (by rw[g]) D e) (load_kid0 (by rw[i]) E e)) (by
   rw[List.map_append];refine List.pairwise_append.2 ⟨fit_rise J D,fit_rise fb E,λx X y hy=>?_⟩;obtain⟨e,W,rfl⟩:=List.mem_map.1 X;obtain⟨u,H,rfl⟩:=List.mem_map.1 hy
   exact Xx (Q (Qu e) (by rw[F];exact List.mem_map.2 ⟨e,W,rfl⟩)) (hbl (Qu u) (by rw[N];exact List.mem_map.2 ⟨u,H,rfl⟩))) (by omega) B
  have hP:a.P++b.P=[a.e.kid,b.e.kid]:=by rw[a4,b4];rfl
  rw[hP];refine⟨M,m1,⟨?_,L.trans d.fr,d.row,d.few,d.val,d.two,d.big⟩,m3 (by omega),?_,m5 ?_⟩
  .rw[d.fl,F,N,List.map_append]
  .rw[m4];exact d.two
  .intro e;exact J.some (List.append_eq_nil_iff.1 e).1
 | succ h =>
  obtain⟨U,j,w,D,F,a4,a5,a6,a7⟩:=O;obtain⟨n2,m,z,E,N,b4,b5,b6,b7⟩:=hb;rw[g] at w;rw[i] at z;cases w;cases z;simp only[D,E,Bool.false_eq_true,if_false] at s1 s2 s3 ⊢;have Z:r.l++Zr b.e.key nb.l=(j++keyKid b.e.key m).map (·.e):=by rw[List.map_append,keyKid_e,F,N]
  rw[Z] at s1 s2 s3 ⊢
  have hY:∀t∈j++m,∀p∈t.P,R.taken p=true/\p∉[a.e.kid,b.e.kid]:=λt c p o=>by
   rw[a5,b5] at hnd;have hnd':=List.nodup_append.1 hnd
   have U:=List.nodup_cons.1 hnd'.1;have n2:=List.nodup_cons.1 hnd'.2.1;rcases List.mem_append.1 c with c | c
   .have I:p∈j.flatMap (·.P):=List.mem_flatMap.2 ⟨t,c,o⟩
    refine⟨Sub.taken h (a6.kid t c) p o,λe=>?_⟩;rcases List.mem_cons.1 e with rfl | e
    .exact U.1 I
    .rw[List.mem_singleton.1 e] at I;exact hnd'.2.2 _ (Vj _ I) _ (Vi ..) rfl
   .have I:p∈m.flatMap (·.P):=List.mem_flatMap.2 ⟨t,c,o⟩
    refine⟨Sub.taken h (b6.kid t c) p o,λe=>?_⟩;rcases List.mem_cons.1 e with rfl | e
    .exact hnd'.2.2 _ (Vi ..) _ (Vj _ I) rfl
    .rw[List.mem_singleton.1 e] at I;exact n2.1 I
  have f:∀t∈j++m,∀p∈t.P,((R.free a.e.kid).2.free b.e.kid).2.read p=R.read p:=λt c p o=>(L.keep p (hY t c p o).1 (hY t c p o).2).2.2;have ab:∀t∈j,∀x∈t.l,x.1<b.e.key:=λt c x X=>Q x (by rw[a4];exact List.mem_flatMap.2 ⟨t,c,X⟩);have a0:∀t∈m,∀x∈t.l,¬x.1<b.e.key:=λt c x X=>hbl x (by rw[b4];exact List.mem_flatMap.2 ⟨t,c,X⟩);have a8:Xh (Sub ((R.free a.e.kid).2.free b.e.kid).2 h) (j++keyKid b.e.key m):=by have:=Xh.swap (A:=j) (M:=m) (C:=[]) (k:=b.e.key) (a6.same λt c=>f t (Vq _ c)) (b6.same λt c=>f t (Vp _ c)) (by exact⟨by simp,by simp,by simp,by simp⟩) (by simp) ab a0 (by simp);simpa using this
  have ad:∀t∈j,t.e.few:=λt c=>J.few t.e (by rw[F];exact List.mem_map.2 ⟨t,c,rfl⟩);have ae:∀t∈m,t.e.few:=λt c=>fb.few t.e (by rw[N];exact List.mem_map.2 ⟨t,c,rfl⟩);have af:∀t∈j,t.e.val=[]:=λt c=>load_val0 (by rw[g]) D t.e (by rw[F];exact List.mem_map.2 ⟨t,c,rfl⟩);have ag:∀t∈m,t.e.val=[]:=λt c=>load_val0 (by rw[i]) E t.e (by rw[N];exact List.mem_map.2 ⟨t,c,rfl⟩);have a9:(j++keyKid b.e.key m).flatMap (·.P)=j.flatMap (·.P)++m.flatMap (·.P):=by rw[List.flatMap_append,keyKid_P]
  have ah:(j++keyKid b.e.key m).flatMap (·.l)=a.l++b.l:=by rw[List.flatMap_append,keyKid_l,a4,b4]
  have q:([a.e.kid,b.e.kid]++(j.flatMap (·.P)++m.flatMap (·.P))).Perm (a.P++b.P):=by
   rw[a5,b5];show (a.e.kid::b.e.kid::(j.flatMap (·.P)++m.flatMap (·.P))).Perm (a.e.kid::(j.flatMap (·.P)++b.e.kid::m.flatMap (·.P)))
   exact List.Perm.cons _ List.perm_middle.symm
  have G:(j.flatMap (·.P)++m.flatMap (·.P)).Nodup:=(List.nodup_append.1 (q.nodup_iff.2 hnd)).2.1
  obtain⟨M,m1,d,m3,m4,m5⟩:=laid_inner (L.good hg) (λt c=>(List.mem_append.1 c).elim (ad t) (keyKid_few S ae t)) (λt c=>(List.mem_append.1 c).elim (af t) λhk=>by
   obtain⟨u,H,_,_,_,e,_⟩:=Zbq hk;rw[e];exact ag u H) a8 (λt c=>by
   rcases List.mem_append.1 c with c | c
   .exact(a7 t c).same (f t (Vq _ c) _ (Sub.page h (a6.kid t c)))
   .obtain⟨u,H,_,_,e,_⟩:=Zbq c
    rw[e]
    exact(b7 u H).same (f u (Vp _ H) _ (Sub.page h (b6.kid u H)))) (by rw[a9];exact G) (by omega) B
  rw[a9] at m4 d;rw[ah] at d
  have ai:=L.beside (Y:=j.flatMap (·.P)++m.flatMap (·.P)) (λp o=>by
   rw[<-List.flatMap_append] at o;obtain⟨t,c,o⟩:=List.mem_flatMap.1 o;exact(hY t c p o).1) (λp o=>by
   rw[<-List.flatMap_append] at o;obtain⟨t,c,o⟩:=List.mem_flatMap.1 o
   exact(hY t c p o).2) G
  have hF:=(ai.trans d.fr).perm q (List.Perm.refl _);refine⟨M,m1,⟨d.fl,hF,d.row,d.few,d.val,d.two,d.big⟩,m3 (by omega),?_,m5 ?_⟩
  .have:=q.length_eq;have h2:=d.two;simp only[List.length_append,List.length_cons,List.length_nil] at this m4 ⊢;omega
  .intro e;have h1:=(List.append_eq_nil_iff.1 e).1;rw[h1] at F;exact J.some F
theorem join_row {T:List Kid} (hg:R.good) (hrow:Xh (Sub R h) T) (hf:∀t∈T,t.e.few) (hv:∀t∈T,t.e.val=[]) (hnd:(T.flatMap (·.P)).Nodup) (I:R.root∉T.flatMap (·.P)) {k i:Nat} (hk:k+1<T.length) (hi:i=k\/i=k+1) (o:∀j t,T[j]?=some t->j≠i->Big R t.e.kid):
  ∃F,(R.joinN (T.map (·.e)) k i).1=(0,F.map (·.e))/\F.flatMap (·.l)=T.flatMap (·.l)/\Fr R (R.joinN (T.map (·.e)) k i).2 (T.flatMap (·.P)) (F.flatMap (·.P))/\Xh (Sub (R.joinN (T.map (·.e)) k i).2 h) F/\(∀t∈F,t.e.few)/\(∀t∈F,t.e.val=[])/\(∀t∈F,Big (R.joinN (T.map (·.e)) k i).2 t.e.kid)/\(F.flatMap (·.P)).length<=(T.flatMap (·.P)).length/\F≠[]:=by
 obtain⟨A,a,b,C,hT,hA⟩:∃A a b C,T=A++(a::b::C)/\A.length=k:=⟨T.take k,T[k],T[k+1],T.drop (k+2),by
  rw[<-List.drop_eq_getElem_cons,<-List.drop_eq_getElem_cons,List.take_append_drop],by rw[List.length_take];omega⟩
 subst hT;subst hA;have ka:Zn ((A++(a::b::C)).map (·.e)) A.length=a.e.kid:=by simp[Zn]
 have kb:Zn ((A++(a::b::C)).map (·.e)) (A.length+1)=b.e.kid:=by simp[Zn]
 have xa:atK ((A++(a::b::C)).map (·.e)) A.length=a.e.key:=by simp[atK]
 have xb:atK ((A++(a::b::C)).map (·.e)) (A.length+1)=b.e.key:=by simp[atK]
 have tk:((A++(a::b::C)).map (·.e)).take A.length=A.map (·.e):=by rw[List.map_append,List.take_left'];simp
 have dr:((A++(a::b::C)).map (·.e)).drop (A.length+2)=C.map (·.e):=by rw[List.map_append,<-List.drop_drop,List.drop_left' (by simp)];rfl
 have ga:(A++(a::b::C))[A.length]?=some a:=by simp
 have gb:(A++(a::b::C))[A.length+1]?=some b:=by simp
 have J:Xh (Sub R h) A:=hrow.left;have s:Xh (Sub R h) ([a]++([b]++C)):=hrow.right;have L:Xh (Sub R h) C:=s.right.right;have sa:=hrow.kid a (by simp);have sb:=hrow.kid b (by simp)
 have X:∀t:Kid,Sub R h t.e.kid t.l t.P->∃n,R.load t.e.kid=(some n,0):=λt hs=>by
  cases h with
  | zero=>obtain⟨n,h1,_⟩:=hs;exact⟨n,h1⟩
  | succ h=>obtain⟨n,T,h1,_⟩:=hs;exact⟨n,h1⟩
 obtain⟨Z,v⟩:=X a sa;obtain⟨V,w⟩:=X b sb
 obtain⟨x,a3,hx⟩:∃x,R.load (Zn ((A++(a::b::C)).map (·.e)) i)=(some x,0)/\((i=A.length/\x=Z)\/(i=A.length+1/\x=V)):=by
  rcases hi with rfl | rfl
  .exact⟨Z,by rw[ka,v],.inl ⟨rfl,rfl⟩⟩
  .exact⟨V,by rw[kb,w],.inr ⟨rfl,rfl⟩⟩
 unfold Rp.joinN;rw[a3];dsimp only;by_cases z:297<=x.sum
 .rw[if_pos z]
  refine⟨A++(a::b::C),rfl,rfl,Fr.refl (λp f=>?_) hnd,hrow,hf,hv,λt d=>?_,Va _,by simp⟩
  .obtain⟨t,d,f⟩:=List.mem_flatMap.1 f;exact Sub.taken h (hrow.kid t d) p f
  .obtain⟨j,r⟩:=List.mem_iff_getElem?.1 d
   by_cases a0:j=i
   .subst a0
    intro m D;rcases hx with ⟨e1,W⟩ | ⟨e1,W⟩
    .rw[e1,ga] at r;cases r;rw[v] at D;cases D;rw[<-W];exact z
    .rw[e1,gb] at r;cases r;rw[w] at D;cases D;rw[<-W];exact z
   .exact o j t r a0
 .rw[if_neg z,ka,kb,xa,xb,tk,dr,v]
  dsimp only;rw[w];dsimp only;have N:(A.flatMap (·.P)++((a.P++b.P)++C.flatMap (·.P))).Nodup:=by have:=hnd;rw[List.flatMap_append,List.flatMap_cons,List.flatMap_cons] at this;simpa using this
  have B:(A++(a::b::C)).flatMap (·.P)=A.flatMap (·.P)++((a.P++b.P)++C.flatMap (·.P)):=by rw[List.flatMap_append,List.flatMap_cons,List.flatMap_cons];simp
  have O:=(List.nodup_append.1 (List.nodup_append.1 N).2.1).1
  obtain⟨p1,p2,p3,p4⟩:=pair_laid hg sa sb (λy E=>s.mid a (by simp) b (by simp) y E) (hrow.low b (by simp)) (hf b (by simp)).key O (λe=>I (by
    rw[B];exact Vp _ (Vq _ e))) v w (by
    rcases hx with ⟨_,W⟩ | ⟨_,W⟩<;>rw[W] at z<;>omega) (by
    rcases hx with ⟨e1,_⟩ | ⟨e1,_⟩
    .exact .inr (o (A.length+1) b gb (by omega) V (by rw[w]))
    .exact .inl (o A.length a ga (by omega) Z (by rw[v])))
  obtain⟨M,m1,G,m3,m4,m5⟩:=p4 _ rfl;rw[if_neg (by rw[p1];simp),if_neg (by rw[p2];simp),if_neg (by rw[p3];simp),if_neg (by rw[m1];simp),m1];obtain⟨R',a4⟩:∃R',R'=(((R.free a.e.kid).2.free b.e.kid).2.layL ⟨Z.leaf,Z.l++(if V.leaf then V.l else Zr b.e.key V.l)⟩).2:=⟨_,rfl⟩
  rw[<-a4] at G m3 ⊢
  have hY:∀t∈A++C,∀p∈t.P,R.taken p=true/\p∉a.P++b.P:=λt d p f=>by
   obtain⟨n1,n2,n3⟩:=List.nodup_append.1 N;obtain⟨n4,n5,n6⟩:=List.nodup_append.1 n2;rcases List.mem_append.1 d with d | d
   .refine⟨Sub.taken h (J.kid t d) p f,λe=>?_⟩;exact n3 p (List.mem_flatMap.2 ⟨t,d,f⟩) p (Vq _ e) rfl
   .refine⟨Sub.taken h (L.kid t d) p f,λe=>?_⟩;exact n6 p e p (List.mem_flatMap.2 ⟨t,d,f⟩) rfl
  have g:∀t∈A++C,∀p∈t.P,R'.read p=R.read p:=λt d p f=>(G.fr.keep p (hY t d p f).1 (hY t d p f).2).2.2;have a1:∀m∈M,∀x∈m.l,x∈a.l\/x∈b.l:=λm D x hx=>by have:x∈M.flatMap (·.l):=List.mem_flatMap.2 ⟨m,D,hx⟩;rw[G.fl] at this;exact List.mem_append.1 this
  have a5:∀x∈a.l,x.1<b.e.key:=λy E=>s.mid a (by simp) b (by simp) y E;have a6:¬b.e.key<a.e.key:=λQ=>by obtain⟨y,E⟩:=List.exists_mem_of_ne_nil _ (hrow.some a (by simp));exact hrow.low a (by simp) y E (Vy (a5 y E) Q)
  have S:Xh (Sub R' h) (A++(keyKid a.e.key M++C)):=by
   refine Xh.swap (J.same λt d=>g t (Vq _ d)) G.row (L.same λt d=>g t (Vp _ d)) (λu U c hc=>hrow.mid u U c (by simp[hc])) (λu U=>hrow.mid u U a (by simp)) (λm D y E=>?_) λm D y E c hc=>?_
   .rcases a1 m D y E with h1 | h1
    .exact hrow.low a (by simp) y h1
    .exact λQ=>hrow.low b (by simp) y h1 (Xx Q a6)
   .rcases a1 m D y E with h1 | h1
    .exact s.mid a (by simp) c (by simp[hc]) y h1
    .exact s.right.mid b (by simp) c hc y h1
  have a2:(A++(keyKid a.e.key M++C)).flatMap (·.P)=A.flatMap (·.P)++(M.flatMap (·.P)++C.flatMap (·.P)):=by rw[List.flatMap_append,List.flatMap_append,keyKid_P]
  refine⟨A++(keyKid a.e.key M++C),?_,?_,?_,S,λt d=>?_,λt d=>?_,λt d=>?_,?_,?_⟩
  .rw[List.map_append,List.map_append,keyKid_e]
  .rw[List.flatMap_append,List.flatMap_append,keyKid_l,G.fl,List.flatMap_append,List.flatMap_cons,List.flatMap_cons];simp
  .have a7:(A.flatMap (·.P)++C.flatMap (·.P)).Nodup:=by
    obtain⟨n1,n2,n3⟩:=List.nodup_append.1 N;obtain⟨n4,n5,n6⟩:=List.nodup_append.1 n2;exact List.nodup_append.2 ⟨n1,n5,λp f q hq=>n3 p f q (Vp _ hq)⟩
   have a8:=G.fr.beside (Y:=A.flatMap (·.P)++C.flatMap (·.P)) (λp f=>by
    rw[<-List.flatMap_append] at f;obtain⟨t,d,f⟩:=List.mem_flatMap.1 f;exact(hY t d p f).1) (λp f=>by
    rw[<-List.flatMap_append] at f;obtain⟨t,d,f⟩:=List.mem_flatMap.1 f
    exact(hY t d p f).2) a7
   rw[B,a2];refine a8.perm ?_ ?_
   .exact(List.perm_append_comm_assoc _ _ _)
   .exact(List.perm_append_comm_assoc _ _ _)
  .rcases List.mem_append.1 d with d | d
   .exact hf t (Vq _ d)
   .rcases List.mem_append.1 d with d | d
    .exact keyKid_few (hf a (by simp)).key G.few t d
    .exact hf t (by simp[d])
  .rcases List.mem_append.1 d with d | d
   .exact hv t (Vq _ d)
   .rcases List.mem_append.1 d with d | d
    .obtain⟨u,U,_,_,_,e,_⟩:=Zbq d;rw[e];exact G.val u U
    .exact hv t (by simp[d])
  .have H:∀j,(A++(a::b::C))[j]?=some t->(j<A.length\/A.length+1<j)->Big R t.e.kid:=λj r a9=>o j t r (by omega)
   rcases List.mem_append.1 d with d | d
   .obtain⟨j,r,e⟩:=List.mem_iff_getElem.1 d;exact(H j (by rw[List.getElem?_append_left r,List.getElem?_eq_getElem r,e]) (.inl r)).same (g t (Vq _ d) _ (Sub.page h (J.kid t d)))
   .rcases List.mem_append.1 d with d | d
    .obtain⟨u,U,_,_,e,_⟩:=Zbq d;rw[e];exact m3 u U
    .obtain⟨j,r,e⟩:=List.mem_iff_getElem.1 d;refine(H (A.length+(j+2)) (by rw[List.getElem?_append_right (by omega),Nat.add_sub_cancel_left];simp[r,e]) (.inr (by omega))).same (g t (Vp _ d) _ (Sub.page h (L.kid t d)))
  .rw[B,a2];simp only[List.length_append] at m4 ⊢;omega
  .intro e;have h1:=(List.append_eq_nil_iff.1 (List.append_eq_nil_iff.1 e).2).1;have:=Vs List.length h1;rw[Zhp] at this;exact m5 (Vh (by simpa using this))
end
section
variable {h:Nat}{l:List En}
theorem Yp {R R':Rp} (h:R'.pages=R.pages) (p:Int):R'.taken p=R.taken p:=by unfold Rp.taken;rw[h]
theorem Zdy {R R':Rp} (h:R'.pages=R.pages) (p:Int):R'.read p=R.read p:=by unfold Rp.read;rw[Yp h,h]
theorem Rp.good.of_pages {R R':Rp} (h:R.good) (e:R'.pages=R.pages):R'.good:=⟨by rw[e];exact h.few,by rw[e];exact h.len⟩
theorem Qr (R:Rp):R.setRoot (-1)=(0,{ R with root:=-1,change:=true }):=by unfold Rp.setRoot;rw[if_neg (by simp)]
def Rp.unroot (R:Rp) (page:Int):Rp:=if page=R.root then (R.setRoot (-1)).2 else R
section
variable {R R' : Rp} {page : Int} {X X' : List Int}
theorem Xs (R:Rp) (page:Int):(R.unroot page).pages=R.pages:=by
 unfold Rp.unroot;split
 .rw[Qr]
 .rfl
theorem unroot_ne (h:page≠R.root):R.unroot page=R:=by unfold Rp.unroot;rw[if_neg h]
theorem unroot_root (h:R.taken page=true):(R.unroot page).root≠page:=by
 unfold Rp.unroot;split
 .rw[Qr];obtain⟨a,_⟩:=Zca h;dsimp only;omega
 .rename_i h;exact λe=>h e.symm
theorem freeT_unroot (R:Rp) (page:Int):R.freeT page=(R.unroot page).free page:=by
 unfold Rp.freeT Rp.unroot
 split<;>rfl
theorem Fr.unroot (h:Fr R R' X X') (page:Int):Fr (R.unroot page) (R'.unroot page) X X':=by
 have c:=Xs R page;have e2:=Xs R' page;refine⟨by rw[c,e2];exact h.len,?_,?_,?_,λp d=>by rw[Yp c];exact h.own p d,λp d=>by rw[Yp e2];exact h.own' p d,h.nd,h.nd',λp a b=>?_,λp a b=>?_,by rw[c,e2];exact h.count,λe=>(h.good (e.of_pages c.symm)).of_pages e2⟩
 .unfold Rp.unroot
  rw[h.root];split
  .rw[Qr,Qr]
  .exact h.root
 .unfold Rp.unroot
  rw[h.root];split
  .rw[Qr,Qr];exact h.was
  .exact h.was
 .unfold Rp.unroot
  rw[h.root];split
  .rw[Qr,Qr];exact h.wroot
  .exact h.wroot
 .rw[Yp c] at a;rw[Yp e2,Zdy c,Zdy e2];exact h.keep p a b
 .rw[Yp e2] at a;rw[Yp c];exact h.back p a b
theorem relay_free (ht:R.taken page=true) (n:Nd):R.relay page n=((R.unroot page).free page).2.layL n/\Fr (R.unroot page) ((R.unroot page).free page).2 [page] []:=by
 have a:(R.unroot page).taken page=true:=by rw[Yp (Xs R page)];exact ht
 obtain⟨b,c⟩:=fr_free a (unroot_root ht);refine⟨?_,c⟩;unfold Rp.relay;rw[freeT_unroot,if_neg (by rw[b];simp)]
theorem relay_leaf (hg:R.good) (ht:R.taken page=true) (hf:∀e∈l,e.few) (hk:∀e∈l,e.kid=0) (hs:(l.map (·.key)).Pairwise (· < ·)) (hsum:(Nd.mk true l).sum<=1504) (hr:1<=Xw R.pages):
  ∃M,(R.relay page ⟨true,l⟩).1=(M.map (·.e),0)/\Laid (R.unroot page) (R.relay page ⟨true,l⟩).2 0 [page] (l.map Qu) M/\(M.flatMap (·.P)).length=M.length/\(l≠[]->M≠[]):=by
 obtain⟨e,f⟩:=relay_free ht ⟨true,l⟩;have hc:=f.count
 rw[Xs] at hc;simp only[List.length_nil,List.length_cons] at hc;obtain⟨M,b,a,g,c,d⟩:=laid_leaf (f.good (hg.of_pages (Xs R page))) hf hk hs hsum (by omega);rw[e];exact⟨M,b,⟨a.fl,f.trans a.fr,a.row,a.few,a.val,a.two,a.big⟩,c,d⟩
theorem relay_inner (hg:R.good) (ht:R.taken page=true) {a:List Kid} (hf:∀t∈a,t.e.few) (hv:∀t∈a,t.e.val=[]) (hrow:Xh (Sub R h) a) (g:∀t∈a,Big R t.e.kid) (hnd:(page::a.flatMap (·.P)).Nodup) (hsum:(Nd.mk false (a.map (·.e))).sum<=1504) (hr:1<=Xw R.pages):
  ∃M,(R.relay page ⟨false,a.map (·.e)⟩).1=(M.map (·.e),0)/\Laid (R.unroot page) (R.relay page ⟨false,a.map (·.e)⟩).2 (h+1) (page::a.flatMap (·.P)) (a.flatMap (·.l)) M/\(M.flatMap (·.P)).length=M.length+(a.flatMap (·.P)).length/\(a≠[]->M≠[]):=by
 obtain⟨e,f⟩:=relay_free ht ⟨false,a.map (·.e)⟩;have hc:=f.count
 rw[Xs] at hc;simp only[List.length_nil,List.length_cons] at hc;obtain⟨m,j⟩:=List.nodup_cons.1 hnd
 have i:∀t∈a,∀p∈t.P,(R.unroot page).taken p=true/\p∉[page]:=λt k p b=>⟨by rw[Yp (Xs R page)];exact Sub.taken h (hrow.kid t k) p b,by
  rw[List.mem_singleton]
  exact λe=>m (List.mem_flatMap.2 ⟨t,k,e▸b⟩)⟩
 have c:∀t∈a,∀p∈t.P,((R.unroot page).free page).2.read p=R.read p:=λt ht p b=>by rw[(f.keep p (i t ht p b).1 (i t ht p b).2).2.2,Zdy (Xs R page)]
 obtain⟨M,n,d,s,o,q⟩:=laid_inner (f.good (hg.of_pages (Xs R page))) hf hv (hrow.same c) (λt ht=>(g t ht).same (c t ht _ (Sub.page h (hrow.kid t ht)))) j hsum (by omega);rw[e]
 have r:=f.beside (Y:=a.flatMap (·.P)) (λp b=>by
  obtain⟨t,ht,b⟩:=List.mem_flatMap.1 b;exact(i t ht p b).1) (λp b=>by
  obtain⟨t,ht,b⟩:=List.mem_flatMap.1 b
  exact(i t ht p b).2) j
 exact⟨M,n,⟨d.fl,r.trans d.fr,d.row,d.few,d.val,d.two,d.big⟩,o,q⟩
end
theorem anew_fin {R R2:Rp} {page:Int} {X:List Int} {a:List Kid} {l:List KV} (hg:R.good) (ht:R.taken page=true) (hn:h+2<=Xw R.pages) (hrow:Xh (Sub R2 h) a) (hf:∀t∈a,t.e.few) (hv:∀t∈a,t.e.val=[]) (c:∀t∈a,Big R2 t.e.kid) (hl:a.flatMap (·.l)=l) (d:Fr R R2 (page::X) (page::a.flatMap (·.P))) (hsum:(Nd.mk false (a.map (·.e))).sum<=1504) (hc:(a.flatMap (·.P)).length<=X.length+h+1):
  ∃M,(R2.relay page ⟨false,a.map (·.e)⟩).1=(M.map (·.e),0)/\Laid (R.unroot page) (R2.relay page ⟨false,a.map (·.e)⟩).2 (h+1) (page::X) l M/\(M.flatMap (·.P)).length<=(page::X).length+(h+1)+1:=by
 have f:=d.count;simp only[List.length_cons] at f;obtain⟨M,g,b,i,j⟩:=relay_inner (d.good hg) (d.own' page (Vi ..)) hf hv hrow c d.nd' hsum (by omega);have h2:=b.two;refine⟨M,g,⟨by rw[b.fl];exact hl,(d.unroot page).trans b.fr,b.row,b.few,b.val,b.two,b.big⟩,?_⟩;simp only[List.length_cons];omega
structure ChgL (c:Chg) (key:List UInt8) (cl:List KV->List KV):Prop where
 ok:ChgOk c
 leaf:∀n:Nd,n.leaf=true->(c n.l (n.behind key).1 (n.behind key).2).map Qu=cl (n.l.map Qu)
 kid:∀(l:List En) i is,(∀e∈l,e.kid=0)->∀e∈c l i is,e.kid=0
 mid:∀A L C:List KV,(∀x∈A,x.1<key)->(∀x∈C,key<x.1)->cl (A++(L++C))=A++(cl L++C)
 mem:∀L:List KV,∀x∈cl L,x.1=key\/x∈L
 rise:∀L:List KV,Xb L->Xb (cl L)
theorem rise_keys:Xb (l.map Qu)↔(l.map (·.key)).Pairwise (· < ·):=by unfold Xb;rw[List.pairwise_map,List.pairwise_map];exact Iff.rfl
def Two (R:Rp) (page:Int):Prop:=∀n,(R.load page).1=some n->2<=n.l.length
theorem Big.two {R:Rp} (hg:R.good) {page:Int} {l:List KV} {P:List Int} (hs:Sub R (h+1) page l P) (hb:Big R page):Two R page:=λn b=>by
 obtain⟨m,T,a,c,_⟩:=hs;rw[a] at b;cases b;have h3:=hb n (by rw[a])
 have d:=Zeb n.l 0 (Sub.srt hg a).few;unfold Nd.sum at h3;rw[c] at h3;omega
theorem anew_sub {c:Chg} {key:List UInt8} {cl:List KV->List KV} (hc:ChgL c key cl):∀(h f:Nat) {R:Rp} {page:Int} {l:List KV} {P:List Int},R.good->Sub R h page l P->P.Nodup->(page=R.root\/R.root∉P)->R.taken R.root=true->h<f->h+1<=Xw R.pages->(1<=h->Two R page) ->
  ∃M,(R.anewN c key f page).1=(M.map (·.e),0)/\Laid (R.unroot page) (R.anewN c key f page).2 h P (cl l) M/\(M.flatMap (·.P)).length<=P.length+h+1
 | h,0,R,page,l,P,_,_,_,_,_,hf,_,_=>by omega
 | 0,f+1,R,page,l,P,I,hs,Q,o,S,hf,U,_=>by
  obtain⟨n,E,F,J,h4⟩:=hs;have fn:=Sub.srt I E
  rw[Rp.anewN,E];dsimp only;rw[if_pos F];obtain⟨b1,b2⟩:=Zbo F key;have hsum:=fn.sum
  unfold Nd.sum at hsum;rw[F] at hsum;obtain⟨c1,c2⟩:=hc.ok n.l _ _ fn.few hsum b1 b2;have c3:=hc.leaf n F
  have c4:=hc.kid n.l (n.behind key).1 (n.behind key).2 (load_kid0 (by rw[E]) F);have c5:((c n.l (n.behind key).1 (n.behind key).2).map (·.key)).Pairwise (· < ·):=by rw[<-rise_keys,c3];exact hc.rise _ (rise_keys.2 (fit_rise fn F))
  obtain⟨M,m1,g,m3,m4⟩:=relay_leaf (page:=page) I (Yj E) c1 c4 c5 (by unfold Nd.sum;dsimp only;omega) (by omega);rw[c3,<-J,<-h4] at g;refine⟨M,m1,g,?_⟩;have:=g.two
  rw[m3,h4];simp only[List.length_cons,List.length_nil];omega
 | h+1,f+1,R,page,l,P,I,hs,Q,o,S,hf,U,a4=>by
  obtain⟨n,T,E,F,J,h4,h5,L,h7⟩:=hs;have fn:=Sub.srt I E
  have a5:=a4 (by omega) n (by rw[E]);obtain⟨A,t,C,e1,e2,e3,e4,e5,e6⟩:=Zia L F J fn.some key;subst e1;have hk:Zn n.l (n.behind key).1=t.e.kid:=by rw[Zn,J,<-e2];simp
  have a6:atK n.l (n.behind key).1=t.e.key:=by rw[atK,J,<-e2];simp
  have a7:¬key<t.e.key:=by
   cases A with
   | nil =>
    have:=load_key0 (by rw[E]) F (e:=t.e) (r:=C.map (·.e)) (by rw[J];rfl);rw[this];exact List.not_lt_nil _
   | cons a r=>exact e6 (by simp)
  rw[Rp.anewN,E];dsimp only;rw[if_neg (by rw[F];simp),hk];rw[h5] at Q o;have st:=L.kid t (by simp)
  have hT:(A++t::C).flatMap (·.P)=A.flatMap (·.P)++(t.P++C.flatMap (·.P)):=by rw[List.flatMap_append,List.flatMap_cons]
  obtain⟨V,a8⟩:=List.nodup_cons.1 Q;have hndT':=a8
  rw[hT] at hndT'
  have am:R.root∉(A++t::C).flatMap (·.P):=λy=>by
   rcases o with e | e
   .rw[<-e] at y;exact V y
   .exact e (Vj _ y)
  have a9:R.root∉t.P:=λy=>am (by rw[hT];exact Vp _ (Vq _ y));obtain⟨n1,n2,n3⟩:=List.nodup_append.1 hndT';obtain⟨n4,n5,n6⟩:=List.nodup_append.1 n2
  obtain⟨M,m1,g,m3⟩:=anew_sub hc h f I st n4 (.inr a9) S (by omega) (by omega) (λhh=>by
   cases h with
   | zero=>omega
   | succ h=>exact(h7 t (by simp)).two I st)
  rw[unroot_ne (λe=>a9 (by rw[<-e];exact Sub.page h st))] at g;obtain⟨r1,an⟩:∃r,r=R.anewN c key f t.e.kid:=⟨_,rfl⟩;rw[<-an] at m1 g ⊢;obtain⟨q1,N⟩:=r1;dsimp only at m1 g ⊢;subst m1;dsimp only;have D:Yr n.l (M.map (·.e)) (n.behind key).1=(A++(keyKid t.e.key M++C)).map (·.e):=by rw[Yr,a6,<-e2,J,List.map_append,List.map_cons,List.take_left' (by simp),<-List.drop_drop,List.drop_left' (by simp),List.map_append,List.map_append,keyKid_e];rfl
  rw[if_neg (by simp),D,List.length_map,List.length_map];have W:∀u∈A++t::C,u.e.few:=λu b=>fn.few u.e (by rw[J];exact List.mem_map.2 ⟨u,b,rfl⟩)
  have aa:∀u∈A++t::C,u.e.val=[]:=λu b=>load_val0 (by rw[E]) F u.e (by rw[J];exact List.mem_map.2 ⟨u,b,rfl⟩)
  have hY:∀u∈A++C,∀p∈u.P,R.taken p=true/\p∉t.P:=λu b p d=>by
   rcases List.mem_append.1 b with b | b
   .exact⟨Sub.taken h (L.kid u (by simp[b])) p d,λe=>n3 p (List.mem_flatMap.2 ⟨u,b,d⟩) p (Vq _ e) rfl⟩
   .exact⟨Sub.taken h (L.kid u (by simp[b])) p d,λe=>n6 p e p (List.mem_flatMap.2 ⟨u,b,d⟩) rfl⟩
  have z:∀u∈A++C,∀p∈u.P,N.read p=R.read p:=λu b p d=>(g.fr.keep p (hY u b p d).1 (hY u b p d).2).2.2;have ao:Xh (Sub R h) A:=L.left;have ab:Xh (Sub R h) ([t]++C):=L.right;have ad:∀m∈M,∀x∈m.l,x.1=key\/x∈t.l:=λm y x G=>hc.mem t.l x (by rw[<-g.fl];exact List.mem_flatMap.2 ⟨m,y,G⟩)
  have H:Xh (Sub N h) (A++(keyKid t.e.key M++C)):=by
   refine Xh.swap (ao.same λu b=>z u (Vq _ b)) g.row (ab.right.same λu b=>z u (Vp _ b)) (λa ha c hc=>L.mid a ha c (by simp[hc])) (λa ha=>L.mid a ha t (by simp)) (λm y x G=>?_) λm y x G c O=>?_
   .rcases ad m y x G with e | e
    .rw[e];exact a7
    .exact L.low t (by simp) x e
   .rcases ad m y x G with e | e
    .rw[e];exact e4 c O
    .exact ab.mid t (by simp) c O x e
  have ae:t.e.key.length<=80:=(W t (by simp)).key
  have Z:∀u∈A++(keyKid t.e.key M++C),u.e.few:=λu b=>by
   rcases List.mem_append.1 b with b | b
   .exact W u (by simp[b])
   .rcases List.mem_append.1 b with b | b
    .exact keyKid_few ae g.few u b
    .exact W u (by simp[b])
  have af:∀u∈A++(keyKid t.e.key M++C),u.e.val=[]:=λu b=>by
   rcases List.mem_append.1 b with b | b
   .exact aa u (by simp[b])
   .rcases List.mem_append.1 b with b | b
    .obtain⟨v,hv,_,_,_,e,_⟩:=Zbq b;rw[e];exact g.val v hv
    .exact aa u (by simp[b])
  have a0:∀u∈A++C,Big N u.e.kid:=λu b=>by
   have ag:u∈A++t::C:=by
    rcases List.mem_append.1 b with b | b<;>simp[b]
   exact(h7 u ag).same (z u b _ (Sub.page h (L.kid u ag)))
  have ah:(A++(keyKid t.e.key M++C)).flatMap (·.l)=cl l:=by
   rw[h4,List.flatMap_append,List.flatMap_append,keyKid_l,g.fl,List.flatMap_append,List.flatMap_cons]
   exact(hc.mid _ _ _ (λx G=>by
    obtain⟨a,ha,G⟩:=List.mem_flatMap.1 G
    exact e3 a ha x G) λx G=>by
    obtain⟨c,O,G⟩:=List.mem_flatMap.1 G
    exact e5 c O x G).symm
  have ai:(A++(keyKid t.e.key M++C)).flatMap (·.P)=A.flatMap (·.P)++(M.flatMap (·.P)++C.flatMap (·.P)):=by rw[List.flatMap_append,List.flatMap_append,keyKid_P]
  have B:Fr R N (page::(A++t::C).flatMap (·.P)) (page::(A++(keyKid t.e.key M++C)).flatMap (·.P)):=by
   have hb:=g.fr.beside (Y:=page::(A.flatMap (·.P)++C.flatMap (·.P))) (λp d=>by
    rcases List.mem_cons.1 d with rfl | d
    .exact Yj E
    .rw[<-List.flatMap_append] at d;obtain⟨u,b,d⟩:=List.mem_flatMap.1 d;exact(hY u b p d).1) (λp d=>by
    rcases List.mem_cons.1 d with rfl | d
    .exact λe=>V (by rw[hT];exact Vp _ (Vq _ e))
    .rw[<-List.flatMap_append] at d;obtain⟨u,b,d⟩:=List.mem_flatMap.1 d;exact(hY u b p d).2) (by
    refine List.nodup_cons.2 ⟨λe=>V ?_,List.nodup_append.2 ⟨n1,n5,λp d q hq=>n3 p d q (Vp _ hq)⟩⟩;rw[hT];rcases List.mem_append.1 e with e | e
    .exact Vq _ e
    .exact Vp _ (Vp _ e))
   rw[hT,ai];refine hb.perm ?_ ?_
   .exact List.perm_middle.trans (List.Perm.cons _ (List.perm_append_comm_assoc _ _ _))
   .exact List.perm_middle.trans (List.Perm.cons _ (List.perm_append_comm_assoc _ _ _))
  have ap:((A++(keyKid t.e.key M++C)).flatMap (·.P)).length<=((A++t::C).flatMap (·.P)).length+h+1:=by rw[ai,hT];simp only[List.length_append];omega
  have hi:=Zff fn.some F key
  have ay:Zg false 0 ((A++(keyKid t.e.key M++C)).map (·.e))<=893+83*M.length:=by
   have h0:=Zgw (l:=n.l) (M:=M.map (·.e)) (n.behind key).1 ((n.behind key).1+1) (by omega) (by omega) (λe he=>by
    obtain⟨m,y,rfl⟩:=List.mem_map.1 he
    exact g.few m y) (key:=t.e.key) ae
   have aq:n.l.take (n.behind key).1++(Zr t.e.key (M.map (·.e))++n.l.drop ((n.behind key).1+1))=(A++(keyKid t.e.key M++C)).map (·.e):=by rw[<-D,Yr,a6]
   rw[aq,List.length_map] at h0;have h8:=fn.sum
   unfold Nd.sum at h8;rw[F] at h8;omega
  have az:=g.two;rw[h5];by_cases hj:M.length=1/\1<(A++(keyKid t.e.key M++C)).length
  .rw[if_pos hj]
   obtain⟨ar,au⟩:=hj;have w:(A++(keyKid t.e.key M++C)).length=A.length+(1+C.length):=by simp only[List.length_append,Zhp,ar]
   rw[w] at au;rw[w,<-e2]
   have a1:∀(j:Nat) (u:Kid),(A++(keyKid t.e.key M++C))[j]?=some u->j≠A.length->Big N u.e.kid:=λj u b aA=>by
    refine a0 u ?_;rcases Ua j A.length with aj | a2
    .rw[List.getElem?_append_left aj] at b;exact Vq _ (List.mem_of_getElem? b)
    .rw[List.getElem?_append_right a2,List.getElem?_append_right (by rw[Zhp];omega)] at b;exact Vp _ (List.mem_of_getElem? b)
   obtain⟨T2,j1,j2,j3,j4,j5,j6,j7,j8,j9⟩:=join_row (R:=N) (k:=min A.length (A.length+(1+C.length) - 2)) (i:=A.length) (g.fr.good I) H Z af (List.nodup_cons.1 B.nd').2 (by
    rw[g.fr.root];intro y;rcases o with e | e
    .rw[<-e] at y;exact(List.nodup_cons.1 B.nd').1 y
    .exact(B.keep _ S e).2.1 (Vj _ y)) (by rw[w];omega) (by omega) a1
   obtain⟨R2,av⟩:∃r,r=N.joinN ((A++(keyKid t.e.key M++C)).map (·.e)) (min A.length (A.length+(1+C.length) - 2)) A.length:=⟨_,rfl⟩
   obtain⟨ak,a3⟩:=Zhn (R:=N) (g.fr.good I) (l:=(A++(keyKid t.e.key M++C)).map (·.e)) (s:=976) ⟨λe he=>by
    obtain⟨u,b,rfl⟩:=List.mem_map.1 he
    exact Z u b,by omega⟩ (k:=min A.length (A.length+(1+C.length) - 2)) (i:=A.length) (by rw[List.length_map,w];omega)
   rw[<-av] at j1 j3 j4 j7 ak a3 ⊢;obtain⟨⟨q2,q3⟩,R2⟩:=R2;dsimp only at j1 j3 j4 j7 ak a3 ⊢;obtain⟨rfl,rfl⟩:q2=0/\q3=T2.map (·.e):=by cases j1;exact⟨rfl,rfl⟩
   rw[if_neg (by simp)]
   have al:=j3.beside (Y:=[page]) (by
    intro p d;rw[List.mem_singleton.1 d];exact B.own' page (Vi ..)) (by
    intro p d;rw[List.mem_singleton.1 d]
    exact(List.nodup_cons.1 B.nd').1) (by simp)
   have aw:=B.trans (al.perm (X1:=page::(A++(keyKid t.e.key M++C)).flatMap (·.P)) (X2:=page::T2.flatMap (·.P)) List.perm_append_comm List.perm_append_comm);refine anew_fin I (Yj E) (by omega) j4 j5 j6 j7 (j2.trans ah) aw (by have:=a3.sum;unfold Nd.sum;dsimp only;omega) (by omega)
  .rw[if_neg hj]
   refine anew_fin I (Yj E) (by omega) H Z af (λu b=>?_) ah B (by unfold Nd.sum;dsimp only;omega) ap
   have h0:∀m∈M,Big N m.e.kid:=by
    have ax:2<=(A++t::C).length:=by rw[J,List.length_map] at a5;exact a5
    rcases Ua M.length 2 with aj | a2
    .rcases Nat.eq_zero_or_pos M.length with h0 | h0
     .rw[Vh h0];simp
     .exfalso;refine hj ⟨by omega,?_⟩;simp only[List.length_append,Zhp,List.length_cons] at ax ⊢;omega
    .exact g.big a2
   rcases List.mem_append.1 b with b | b
   .exact a0 u (Vq _ b)
   .rcases List.mem_append.1 b with b | b
    .obtain⟨v,hv,_,_,e,_⟩:=Zbq b;rw[e];exact h0 v hv
    .exact a0 u (Vp _ b)
end
section
open Go.RowKit
variable {l:List En}
abbrev Zar (k:List UInt8):Obj:=.cells #[.string ⟨k.toArray⟩] 9 (0,0)
theorem find2_any (w:World) (nb d:Nat) (leaf:Bool) (a:Option Addr) (n cap:Nat) (h:IsE w (.slice a n cap) l) (hnl:n=l.length) (hn:w.heap[nb]?=some (ndO leaf (.slice a n cap))) (key:List UInt8) (hk:w.heap[d]?=some (Zar key)) (i:Nat) (g:i<l.length) (hm:l.length<=1000000):
  Calls Tryz.prog 120 #[.int .i64 (i:Int),.pointer (some ⟨nb,0,none⟩),.pointer (some ⟨d,0,none⟩)] w λe j=>e=.returned (.bool (!decide (l[i].key<key)))/\j=w.drew:=by
 obtain⟨b,o,rfl,f,k,m⟩:=h.at i g;have r:w.drew.cell? ⟨b,o+i*3,none⟩=some (.string ⟨l[i].key.toArray⟩):=f
 obtain⟨s,t⟩:=Zd (w:=w.drew) hn
 have u:w.drew.cell? ⟨d,0,none⟩=some (.string ⟨key.toArray⟩):=by
  show w.cell? _=_
  rw[Vc _ _ _ _ _ _ hk];rfl
 obtain⟨p,q⟩:(0:Int)<=(i:Int)/\(i:Int)<(n:Int):=by omega
 have c:=Zcf l[i].key key;clear h f k m hn hk hnl hm;generalize l[i].key=v at *;rw[<-c];clear c;go_enter Tryz.func120,Tryz.ntmps120;go_upto_region 1 with fail;go_region;go_wp2_with fail;go_ret;exact⟨rfl,rfl⟩
theorem find1_any (w:World) (nb f:Nat) (leaf:Bool) (a:Option Addr) (n cap:Nat) (h:IsE w (.slice a n cap) l) (hnl:n=l.length) (hn:w.heap[nb]?=some (ndO leaf (.slice a n cap))) (key:List UInt8) (hk:w.heap[f]?=some (Zar key)) (i:Nat) (p:i+1<l.length) (hm:l.length<=1000000):
  Calls Tryz.prog 119 #[.int .i64 (i:Int),.pointer (some ⟨nb,0,none⟩),.pointer (some ⟨f,0,none⟩)] w λe q=>e=.returned (.bool (decide (key<l[i+1].key)))/\q=w.drew:=by
 obtain⟨b,o,rfl,k,r,s⟩:=h.at (i+1) p;have t:w.drew.cell? ⟨b,o+(i+1)*3,none⟩=some (.string ⟨l[i+1].key.toArray⟩):=k
 obtain⟨x,y⟩:=Zd (w:=w.drew) hn
 have z:w.drew.cell? ⟨f,0,none⟩=some (.string ⟨key.toArray⟩):=by
  show w.cell? _=_
  rw[Vc _ _ _ _ _ _ hk];rfl
 obtain⟨j,m⟩:∃j,j=i+1:=⟨_,rfl⟩;have A:IntKind.i64.wrap ((i:Int)+1)=(j:Int):=by rw[Vf _ (by omega)];omega
 obtain⟨u,v⟩:(0:Int)<=(j:Int)/\(j:Int)<(n:Int):=by omega
 have d:=leq_fits l[i+1].key key;clear h k r s hn hk hnl hm;generalize l[i+1].key=g at *;rw[<-m] at t;clear m;have c:decide (key<g)=!(Op.bytesLess g key||g==key):=by rw[d,Bool.not_not]
 rw[c];clear d c;go_enter Tryz.func119,Tryz.ntmps119;go_upto_region 1 with fail;go_region;go_wp2_with fail;go_ret;exact⟨by simp,rfl⟩
end
end Go.Proofs.YtfaobkmojlhbnaaGreatDoor
