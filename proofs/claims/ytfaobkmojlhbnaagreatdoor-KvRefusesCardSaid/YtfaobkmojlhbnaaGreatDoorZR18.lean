/- Contracts of the functions that the statements of this seat reach, part 18: each says what the call answers and what it leaves of the memory. -/
import Derived.Test.YtfaobkmojlhbnaaGreatDoorZR1
import Derived.Test.YtfaobkmojlhbnaaGreatDoorZR17
import Derived.Test.YtfaobkmojlhbnaaGreatDoorZR3
import Derived.Test.YtfaobkmojlhbnaaGreatDoorZR2
import Derived.Test.YtfaobkmojlhbnaaGreatDoorZR4
import Derived.Laws.Cover1
import Derived.LoopTactic
import Derived.Deep.Cut
import Derived.Deep.CutBlock
import Derived.Deep.RegionWith
import Derived.IntWalk
import Derived.Test.YtfaobkmojlhbnaaGreatDoorZR15
set_option linter.unusedVariables false
set_option linter.unusedSimpArgs false
set_option maxRecDepth 100000
set_option maxHeartbeats 64000000
namespace Go.Proofs.YtfaobkmojlhbnaaGreatDoor
section
def Qk (v:List UInt8) (j:Nat):List UInt8:=(if j=0 then Zaq (v.length:Int) else [])++(v.drop (j*190)).take 190
def encK (c:UInt8->List UInt8->Option (List UInt8)) (sums:Option (List UInt8)):List UInt8->List UInt8 × Bool
 | []=>match sums with | none=>([],false) | some t=>(t,true)
 | [_]=>([],false)
 | s::j::k=>match c s k with | none=>([],false) | some v=>if j.toNat<=v.length / 190 then (Qk v j.toNat,true) else ([],false)
theorem takeI_zero (n:Int) (h1:-9223372036854775808<=n) (h2:n<=9223372036854775807) (r:List UInt8):takeI (Zaq n++r) 0=(n,((Zaq n).length:Int),true):=by
 have h:=takeI_in (l:=Zaq n++r) (m:=0) (Vl _);rw[show ((0:Nat):Int)=0 from rfl] at h
 rw[h,List.drop_zero,Zaq,dec_uv _ (zig_lt n h1 h2) r,pack,zag_zig];simp
theorem piece_zero (v:List UInt8):Qk v 0=Zaq (v.length:Int)++v.take 190:=by unfold Qk;simp
theorem piece_succ (v:List UInt8) (j:Nat) (hj:0<j):Qk v j=(v.drop (j*190)).take 190:=by unfold Qk;rw[if_neg (by omega),List.nil_append]
end
section
variable {s:UInt8}{k v:List UInt8}
structure Enc (l:List KV) (c:UInt8->List UInt8->Option (List UInt8)) (sums:Option (List UInt8)):Prop where
 rise:Xb l
 get:∀k,Zv l k=encK c sums k
 few:∀s k v,c s k=some v->v.length<=4096
section
variable {l : List KV} {c : UInt8 → List UInt8 → Option (List UInt8)} {sums : Option (List UInt8)}
theorem Enc.at (h:Enc l c sums) (s:UInt8) {j:Nat} (hj:j<256) (k:List UInt8):Zv l (Ye s j k)=match c s k with | none=>([],false) | some v=>if j<=v.length / 190 then (Qk v j,true) else ([],false):=by
 have e:(UInt8.ofNat j).toNat=j:=by rw[UInt8.toNat_ofNat'];omega
 rw[h.get];show (match c s k with | none=>([],false) | some v=>if (UInt8.ofNat j).toNat<=v.length / 190 then (Qk v (UInt8.ofNat j).toNat,true) else ([],false))=_
 rw[e]
def moreV (l:List KV) (s:UInt8) (k:List UInt8) (n:Int):Nat->Nat->List UInt8->(List UInt8 × Bool) × Int
 | 0,_,val=>((val,true),0)
 | g+1,j,val =>
  if ¬((val.length:Int)<n) then (if (val.length:Int)≠n then (([],false),122) else ((val,true),0))
  else if (Zv l (Ye s j k)).2=false\/(Zv l (Ye s j k)).1=[] then (([],false),122)
  else moreV l s k n g (j+1) (val++(Zv l (Ye s j k)).1)
theorem more_enc (h:Enc l c sums) (hc:c s k=some v):∀(g j:Nat),1<=j->(v.length<j*190+g*190)->j+g<=40->moreV l s k (v.length:Int) (g+1) j (v.take (j*190))=((v,true),0)
 | 0,j,n,d,o=>by rw[moreV,List.take_of_length_le (by omega),if_pos (by omega),if_neg (by omega)]
 | g+1,j,n,d,o=>by
  rw[moreV];by_cases f:v.length<=j*190
  .rw[List.take_of_length_le f,if_pos (by omega),if_neg (by omega)]
  .have i:j<=v.length / 190:=by omega
   have a:=h.at s (j:=j) (by omega) k;rw[hc] at a;dsimp only at a;rw[if_pos i,piece_succ v j (by omega)] at a;have m:(v.drop (j*190)).take 190≠[]:=λe=>by have:=Vs List.length e;rw[List.length_take,List.length_drop,List.length_nil] at this;omega
   have b:v.take (j*190)++(v.drop (j*190)).take 190=v.take ((j+1)*190):=by rw[<-List.take_add];congr 1;omega
   rw[a,if_neg (by rw[List.length_take];omega),if_neg (by simp[m]),b];exact more_enc h hc g (j+1) (by omega) (by omega) (by omega)
def getV (l:List KV) (s:UInt8) (k:List UInt8):(List UInt8 × Bool) × Int :=
 if (Zv l (Ye s 0 k)).2=false then (([],false),0)
 else if (takeI (Zv l (Ye s 0 k)).1 0).2.2=false\/(takeI (Zv l (Ye s 0 k)).1 0).1<0\/4096<(takeI (Zv l (Ye s 0 k)).1 0).1 then (([],false),122)
 else moreV l s k (takeI (Zv l (Ye s 0 k)).1 0).1 30 1 ((Zv l (Ye s 0 k)).1.drop (takeI (Zv l (Ye s 0 k)).1 0).2.1.toNat)
theorem Enc.getV (h:Enc l c sums) (s:UInt8) (k:List UInt8):getV l s k=match c s k with | none=>(([],false),0) | some v=>((v,true),0):=by
 have a:=h.at s (j:=0) (by omega) k;unfold Go.Proofs.YtfaobkmojlhbnaaGreatDoor.getV
 cases b:c s k with
 | none =>
  rw[b] at a;dsimp only at a ⊢;rw[a,if_pos rfl]
 | some v =>
  rw[b] at a;dsimp only at a ⊢;have hf:=h.few s k v b
  rw[if_pos (Vl _),piece_zero] at a;have ht:=takeI_zero (v.length:Int) (by omega) (by omega) (v.take 190)
  rw[a];dsimp only;rw[ht,if_neg (by simp),if_neg (by simp;omega)];dsimp only;rw[Int.toNat_natCast,List.drop_left];exact more_enc h b 29 1 (Va _) (by omega) (by omega)
def Zdp (l:List KV) (s:UInt8) (k:List UInt8):Nat->List KV
 | 0=>l
 | n+1=>Zbi (Zdp l s k n) (Ye s n k)
theorem place_inj {s2:UInt8} {i j:Nat} (a:i<256) (hj:j<256) {k2:List UInt8}:Ye s i k=Ye s2 j k2↔s=s2/\i=j/\k=k2:=by
 constructor
 .intro h
  injection h with h1 h2;injection h2 with h2 h3;have h4:=Vs UInt8.toNat h2
  rw[UInt8.toNat_ofNat',UInt8.toNat_ofNat'] at h4;exact⟨h1,by omega,h3⟩
 .rintro⟨rfl,rfl,rfl⟩;rfl
theorem drop_get (hr:Xb l) (s:UInt8) (k:List UInt8):∀(n:Nat),Xb (Zdp l s k n)/\∀a,Zv (Zdp l s k n) a=if ∃j,j<n/\a=Ye s j k then ([],false) else Zv l a
 | 0=>⟨hr,λa=>by rw[if_neg (by rintro⟨j,d,_⟩;omega)];rfl⟩
 | n+1=>by
  obtain⟨g,i⟩:=drop_get hr s k n;refine⟨Zac g,λa=>?_⟩;rw[Zdp,Zfx g,i];by_cases e:a=Ye s n k
  .rw[if_pos e,if_pos ⟨n,by omega,e⟩]
  .rw[if_neg e]
   by_cases f:∃j,j<n/\a=Ye s j k
   .obtain⟨j,d,b⟩:=f;rw[if_pos ⟨j,d,b⟩,if_pos ⟨j,by omega,b⟩]
   .rw[if_neg f,if_neg]
    rintro⟨j,d,b⟩;rcases Ua j n with h | h
    .exact f ⟨j,h,b⟩
    .obtain rfl:j=n:=by omega
     exact e b
def lessP (c:UInt8->List UInt8->Option (List UInt8)) (s:UInt8) (k:List UInt8):UInt8->List UInt8->Option (List UInt8):=λs2 k2=>if s2=s/\k2=k then none else c s2 k2
def withP (c:UInt8->List UInt8->Option (List UInt8)) (s:UInt8) (k v:List UInt8):UInt8->List UInt8->Option (List UInt8):=λs2 k2=>if s2=s/\k2=k then some v else c s2 k2
theorem Enc.drop (h:Enc l c sums) (hc:c s k=some v):Enc (Zdp l s k (1+v.length / 190)) (lessP c s k) sums:=by
 obtain⟨g,m⟩:=drop_get h.rise s k (1+v.length / 190);have hf:=h.few s k v hc
 refine⟨g,λd=>?_,λf d p e=>?_⟩
 .rw[m,h.get]
  rcases d with _ | ⟨f,_ | ⟨j,d⟩⟩
  .rw[if_neg (by rintro⟨j,_,e⟩;cases e)];rfl
  .rw[if_neg (by rintro⟨j,_,e⟩;cases e)];rfl
  .show _=(match lessP c s k f d with | none=>([],false) | some v=>if j.toNat<=v.length / 190 then (Qk v j.toNat,true) else ([],false))
   unfold lessP;by_cases e:f=s/\d=k
   .rw[if_pos e]
    obtain⟨rfl,rfl⟩:=e;by_cases n:j.toNat<=v.length / 190
    .rw[if_pos ⟨j.toNat,by omega,by show _=f::UInt8.ofNat j.toNat::d;rw[UInt8.ofNat_toNat]⟩]
    .split
     .rfl
     .show (match c f d with | none=>([],false) | some v=>if j.toNat<=v.length / 190 then (Qk v j.toNat,true) else ([],false))=_
      rw[hc];dsimp only;rw[if_neg n]
   .rw[if_neg e,if_neg]
    .rfl
    .rintro⟨i,_,o⟩;injection o with a b;injection b with b b2;exact e ⟨a,b2⟩
 .unfold lessP at e
  split at e
  .cases e
  .exact h.few _ _ _ e
def layK (l:List KV) (s:UInt8) (k v:List UInt8):Nat->List KV
 | 0=>l
 | n+1=>Zcd (layK l s k v n) (Ye s n k) (Qk v n)
theorem lay_get (hr:Xb l) (s:UInt8) (k v:List UInt8):∀(n:Nat),n<=256->Xb (layK l s k v n)/\(∀j,j<n->Zv (layK l s k v n) (Ye s j k)=(Qk v j,true))/\∀a,(∀j,j<n->a≠Ye s j k)->Zv (layK l s k v n) a=Zv l a
 | 0,_=>⟨hr,λj d=>by omega,λa _=>rfl⟩
 | n+1,m=>by
  obtain⟨b,g,i⟩:=lay_get hr s k v n (by omega);refine⟨Zat b,λj d=>?_,λa f=>?_⟩
  .rw[layK,Zef b]
   by_cases e:j=n
   .rw[if_pos (by rw[e]),e]
   .rw[if_neg (λh=>e ((place_inj (by omega) (by omega)).1 h).2.1)];exact g j (by omega)
  .rw[layK,Zef b,if_neg (f n (by omega))];exact i a λj d=>f j (by omega)
theorem Enc.lay (h:Enc l c sums) (hc:c s k=none) (hv:v.length<=4096):Enc (layK l s k v (1+v.length / 190)) (withP c s k v) sums:=by
 obtain⟨n,o,g⟩:=lay_get h.rise s k v (1+v.length / 190) (by omega);refine⟨n,λk2=>?_,λd k2 r e=>?_⟩
 .rcases k2 with _ | ⟨d,_ | ⟨j,k2⟩⟩
  .rw[g _ (λj _ e=>by cases e),h.get];rfl
  .rw[g _ (λj _ e=>by cases e),h.get];rfl
  .show _=(match withP c s k v d k2 with | none=>([],false) | some v=>if j.toNat<=v.length / 190 then (Qk v j.toNat,true) else ([],false))
   have m:d::j::k2=Ye d j.toNat k2:=by show _=d::UInt8.ofNat j.toNat::k2;rw[UInt8.ofNat_toNat]
   have t:=j.toNat_lt;unfold withP;by_cases e:d=s/\k2=k
   .rw[if_pos e]
    obtain⟨rfl,rfl⟩:=e;dsimp only;by_cases f:j.toNat<=v.length / 190
    .rw[if_pos f,m,o j.toNat (by omega)]
    .rw[if_neg f,g _ (λi p e=>by rw[m,place_inj (by omega) (by omega)] at e;omega),h.get]
     show (match c d k2 with | none=>([],false) | some v=>if j.toNat<=v.length / 190 then (Qk v j.toNat,true) else ([],false))=_
     rw[hc]
   .rw[if_neg e,g _ (λi p q=>by
     injection q with a b;injection b with b b2
     exact e ⟨a,b2⟩),h.get]
    rfl
 .unfold withP at e
  split at e
  .injection e with e;rw[<-e];exact hv
  .exact h.few _ _ _ e
theorem Enc.sum (h:Enc l c sums) (t:List UInt8):Enc (Zcd l [] t) c (some t):=by
 refine⟨Zat h.rise,λa=>?_,h.few⟩;rw[Zef h.rise];rcases a with _ | ⟨b,_ | ⟨j,a⟩⟩
 .rw[if_pos rfl];rfl
 .rw[if_neg (by simp),h.get];rfl
 .rw[if_neg (by simp),h.get];rfl
theorem Enc.nil:Enc [] (λ_ _=>none) none:=⟨List.Pairwise.nil,λk=>by
 rcases k with _ | ⟨a,_ | ⟨j,b⟩⟩<;>rfl,λs k v e=>by cases e⟩
def tPs (k v:List UInt8):Nat->Nat
 | 0=>0
 | n+1=>tPs k v n+(4+k.length+(Qk v n).length)
theorem drop_wgt (h:Enc l c sums) (hc:c s k=some v):∀(n:Nat),n<=1+v.length / 190->Zab (Zdp l s k n)+tPs k v n=Zab l
 | 0,_=>rfl
 | n+1,d=>by have f:=drop_wgt h hc n (by omega);obtain⟨a,b⟩:=drop_get h.rise s k n;have hf:=h.few s k v hc;have hg:=b (Ye s n k);rw[if_neg (by rintro⟨j,g,e⟩;have:=((place_inj (by omega) (by omega)).1 e).2.1;omega),h.at s (by omega) k,hc] at hg;dsimp only at hg;rw[if_pos (by omega)] at hg;have h3:=wgtB_del a hg;rw[Zdp,tPs];simp only[List.length_cons] at h3;omega
theorem lay_wgt (h:Enc l c sums) {k:List UInt8} (hc:c s k=none) (hv:v.length<=4096):∀(n:Nat),n<=1+v.length / 190->Zab (layK l s k v n)=Zab l+tPs k v n
 | 0,_=>rfl
 | n+1,d=>by
  have a:=lay_wgt h hc hv n (by omega);obtain⟨f,g,b⟩:=lay_get h.rise s k v n (by omega);have hg:=b (Ye s n k) λj i e=>by have:=((place_inj (by omega) (by omega)).1 e).2.1;omega
  rw[h.at s (by omega) k,hc] at hg;have h4:=wgtB_put (l:=layK l s k v n) (k:=Ye s n k) (by rw[hg]) (Qk v n)
  rw[layK,tPs,h4,a];simp only[List.length_cons];omega
def wP (k v:List UInt8):Nat:=(12+k.length)*(1+v.length / 190)+v.length
theorem tPs_le (k v:List UInt8):∀n,tPs k v (n+1)<=(4+k.length)*(n+1)+(Zaq (v.length:Int)).length+min v.length ((n+1)*190)
 | 0=>by rw[tPs,tPs,piece_zero,List.length_append,List.length_take];omega
 | n+1=>by
  have a:=tPs_le k v n;rw[tPs,piece_succ v (n+1) (by omega),List.length_take,List.length_drop];have e:(4+k.length)*(n+1+1)=(4+k.length)*(n+1)+(4+k.length):=by rw[Nat.mul_succ]
  omega
end
end
section
variable {k v:List UInt8}{s:UInt8}
def Yi (f:KV->Nat):List KV->Nat
 | []=>0
 | x::r=>Yi f r+f x
theorem Zeq (f:KV->Nat):∀(a b:List KV),Yi f (a++b)=Yi f a+Yi f b
 | [],b=>by simp[Yi]
 | x::r,b=>by rw[List.cons_append,Yi,Yi,Zeq f r b];omega
theorem sumF_le {f g:KV->Nat}:∀{l:List KV},(∀x∈l,f x<=g x)->Yi f l<=Yi g l
 | [],_=>Va _
 | x::r,h=>by have b:=sumF_le (l:=r) λy a=>h y (Vj _ a);have h2:=h x (Vi ..);rw[Yi,Yi];omega
theorem sumF_del (f:KV->Nat) {l:List KV} (h:Zv l k=(v,true)):Yi f (Zbi l k)+f (k,v)=Yi f l:=by
 have b:Yi f l=Yi f (Zel l k)+Yi f (l.dropWhile λx=>decide (x.1<k)):=by rw[<-Zeq];unfold Zel;rw[List.takeWhile_append_dropWhile]
 unfold Zbi Zcz;unfold Zv at h;rw[Zeq,b]
 cases a:l.dropWhile (λx=>decide (x.1<k)) with
 | nil=>rw[a] at h;cases h
 | cons x r =>
  rw[a] at h;dsimp only at h ⊢;by_cases e:x.1=k
  .rw[if_pos e] at h ⊢
   have c:x.2=v:=Vs Prod.fst h;have d:x=(k,v):=by rw[<-e,<-c]
   rw[Yi,d];omega
  .rw[if_neg e] at h;cases h
theorem sumF_put (f:KV->Nat) {l:List KV} (h:(Zv l k).2=false) (v:List UInt8):Yi f (Zcd l k v)=Yi f l+f (k,v):=by have a:=(Zcr h).1;have b:Yi f (Zbi l k)=Yi f (Zel l k)+Yi f (Zcz l k):=Zeq _ _ _;rw[a] at b;unfold Zcd;rw[Zeq,Yi];omega
def ctM (M:List KV):UInt8->List UInt8->Option (List UInt8):=λs k=>if (Zv M (s::k)).2 then some (Zv M (s::k)).1 else none
theorem ctM_some {M:List KV} (h:Zv M (s::k)=(v,true)):ctM M s k=some v:=by unfold ctM;rw[h];rfl
theorem ctM_none {M:List KV} (h:(Zv M (s::k)).2=false):ctM M s k=none:=by unfold ctM;rw[h];rfl
theorem ctM_del {M:List KV} (hr:Xb M) (s:UInt8) (k:List UInt8):ctM (Zbi M (s::k))=lessP (ctM M) s k:=by
 funext c d;unfold ctM lessP;rw[Zfx hr];by_cases e:c=s/\d=k
 .obtain⟨rfl,rfl⟩:=e;simp
 .have f:¬(c::d=s::k):=λh=>by injection h with a b;exact e ⟨a,b⟩
  rw[if_neg f,if_neg e]
theorem ctM_put {M:List KV} (hr:Xb M) (s:UInt8) (k v:List UInt8):ctM (Zcd M (s::k) v)=withP (ctM M) s k v:=by
 funext c d;unfold ctM withP;rw[Zef hr];by_cases e:c=s/\d=k
 .obtain⟨rfl,rfl⟩:=e;simp
 .have f:¬(c::d=s::k):=λh=>by injection h with a b;exact e ⟨a,b⟩
  rw[if_neg f,if_neg e]
def tF (x:KV):Nat:=tPs x.1.tail x.2 (1+x.2.length / 190)
def wF (x:KV):Nat:=wP x.1.tail x.2
theorem intB_short (n:Nat) (h:n<=4096):(Zaq (n:Int)).length<=2:=by
 unfold Zaq;have a:zig (n:Int)<128 ^ (1+1):=by unfold zig;rw[if_pos (by omega)];omega
 exact(uv_len 1 _ a).2
theorem tF_le {x:KV} (hv:x.2.length<=4096):tF x<=wF x:=by
 have a:=tPs_le x.1.tail x.2 (x.2.length / 190);have h2:=intB_short x.2.length hv;unfold tF wF wP;rw[Nat.add_comm 1];have e:(12+x.1.tail.length)*(x.2.length / 190+1)=(4+x.1.tail.length)*(x.2.length / 190+1)+8*(x.2.length / 190+1):=by rw[<-Nat.add_mul];congr 1;omega
 omega
def sumsW:Option (List UInt8)->Nat
 | none=>0
 | some t=>2+t.length
structure Qe (l M:List KV) (sums:Option (List UInt8)):Prop where
 enc:Enc l (ctM M) sums
 rise:Xb M
 key:∀x∈M,∃s k,x.1=s::k/\k.length<=64
 val:∀x∈M,x.2.length<=4096
 wgt:Zab l=Yi tF M+sumsW sums
section
variable {l M : List KV} {sums : Option (List UInt8)}
theorem Qe.nil:Qe [] [] none:=⟨by
 have h:=Enc.nil;have e:ctM []=λ_ _=>none:=by funext s k;rfl
 rw[e];exact h,List.Pairwise.nil,by simp,by simp,rfl⟩
theorem Qe.light (h:Qe l M sums):Zab l<=Yi wF M+sumsW sums:=by have:=sumF_le (f:=tF) (g:=wF) λx a=>tF_le (h.val x a);rw[h.wgt];omega
theorem Qe.getV (h:Qe l M sums) (s:UInt8) (k:List UInt8):getV l s k=((Zv M (s::k)),0):=by
 rw[h.enc.getV]
 cases a:(Zv M (s::k)).2 with
 | false=>rw[ctM_none a,get_none a]
 | true =>
  rw[ctM_some (v:=(Zv M (s::k)).1) (by rw[<-a])];dsimp only;rw[<-a]
theorem Qe.drop (h:Qe l M sums) (hg:Zv M (s::k)=(v,true)):Qe (Zdp l s k (1+v.length / 190)) (Zbi M (s::k)) sums:=by have b:=ctM_some hg;refine⟨by rw[ctM_del h.rise];exact h.enc.drop b,Zac h.rise,λx a=>h.key x ((del_mem h.rise).1 a).1,λx a=>h.val x ((del_mem h.rise).1 a).1,?_⟩;have h1:=drop_wgt h.enc b (1+v.length / 190) (Va _);have h2:=sumF_del tF hg;have h3:=h.wgt;have c:tF (s::k,v)=tPs k v (1+v.length / 190):=rfl;omega
theorem Qe.lay (h:Qe l M sums) (hg:(Zv M (s::k)).2=false) (hk:k.length<=64) (hv:v.length<=4096):Qe (layK l s k v (1+v.length / 190)) (Zcd M (s::k) v) sums:=by
 have b:=ctM_none hg;refine⟨by rw[ctM_put h.rise];exact h.enc.lay b hv,Zat h.rise,λx a=>?_,λx a=>?_,?_⟩
 .rcases(put_mem h.rise).1 a with rfl | ⟨a,_⟩
  .exact⟨s,k,rfl,hk⟩
  .exact h.key x a
 .rcases(put_mem h.rise).1 a with rfl | ⟨a,_⟩
  .exact hv
  .exact h.val x a
 .have h1:=lay_wgt h.enc b hv (1+v.length / 190) (Va _);have h2:=sumF_put tF hg v;have h3:=h.wgt;have c:tF (s::k,v)=tPs k v (1+v.length / 190):=rfl;omega
theorem Qe.sum (h:Qe l M sums) (t:List UInt8):Qe (Zcd l [] t) M (some t):=by
 refine⟨h.enc.sum t,h.rise,h.key,h.val,?_⟩;have h1:=h.enc.get []
 have a:=h.wgt
 cases sums with
 | none =>
  have b:=wgtB_put (l:=l) (k:=[]) (by rw[h1];rfl) t;rw[b,a];simp only[sumsW,List.length_nil];omega
 | some c =>
  have d:Zv l []=(c,true):=h1;have h5:=wgtB_del h.enc.rise d
  have e:Zcd l [] t=Zcd (Zbi l []) [] t:=get_ext (Zat h.enc.rise) (Zat (Zac h.enc.rise)) λk=>by
   rw[Zef h.enc.rise,Zef (Zac h.enc.rise),Zfx h.enc.rise]
   split<;>rfl
  have f:=wgtB_put (l:=Zbi l []) (k:=[]) (by rw[Zfx h.enc.rise,if_pos rfl]) t;rw[e,f];simp only[sumsW,List.length_nil] at a h5 ⊢;omega
theorem roomyK {n m:Nat} (hn:256<=n) (hn2:n<=1100) (hm:(n - 2) / 2 - 2<8*m+8) {l:List KV} (hw:Zab l<=6*n+30):Roomy m l:=λR b c h P a=>by have d:=a.small b;have h2:=a.count;omega
end
end
section
open Go.RowKit
variable {B:Nat}
structure RK (α:Type) where
 T:TypeId
 S:TypeId
 n:Nat
 C:α->List Value
 z:Value
 by_:Nat
 npos:0<n
 zc:z.cells.size=n
 n4:n<=8
 b64:by_<=128
 len:∀x,(C x).length=n
 one:∀x,∀v∈C x,v.oneCell'=true
 hS:Tryz.prog.underlying S=some (.slice T)
 hI:(Tryz.prog.info? T).map (λi=>(i.zero,i.size,i.bytes))=some (some z,n,by_)
section
variable {α : Type} (r : RK α)
def RK.V (l:List α):List Value:=l.flatMap r.C
theorem RK.V_length (l:List α):(r.V l).length=l.length*r.n:=by
 induction l with
 | nil=>simp[RK.V]
 | cons e t a =>
  rw[RK.V,List.flatMap_cons,List.length_append,List.length_cons,r.len];rw[RK.V] at a;rw[a,Nat.succ_mul];omega
theorem RK.V_append (a b:List α):r.V (a++b)=r.V a++r.V b:=by simp[RK.V]
theorem RK.V_get:∀(l:List α) (i:Nat) (b:i<l.length) (j:Nat),j<r.n->(r.V l)[i*r.n+j]?=(r.C l[i])[j]?
 | e::t,0,_,j,a=>by rw[RK.V,List.flatMap_cons,Nat.zero_mul,Nat.zero_add,List.getElem?_append_left (by rw[r.len];exact a)];rfl
 | e::t,i+1,b,j,a=>by
  have c:=RK.V_get t i (by simpa using b) j a;rw[RK.V,List.flatMap_cons,show (i+1)*r.n+j=(r.C e).length+(i*r.n+j) by rw[r.len,Nat.succ_mul];omega,List.getElem?_append_right (by omega),Nat.add_sub_cancel_left]
  exact c
theorem RK.V_oneCell (l:List α):∀v∈r.V l,v.oneCell'=true:=by intro v a;obtain⟨e,_,a⟩:=List.mem_flatMap.1 a;exact r.one e v a
def RK.Is (w:World) (v:Value) (l:List α):Prop :=
 ∃a cap,v=.slice a l.length cap/\l.length<=cap/\cap<=maxLen/\(a=none->cap=0) /\
  ∀x,a=some x->(0<l.length->x.spot=none)/\∀i,(h:i<l.length)->∀j,j<r.n->w.cell? ⟨x.block,x.off+i*r.n+j,none⟩=(r.C l[i])[j]?
end
section
variable {α : Type} {r : RK α} {w w' : World} {v u : Value} {l m : List α}
theorem RK.Is.nil (w:World):r.Is w (.slice none 0 0) []:=⟨none,0,rfl,Va _,by simp[maxLen],λ_=>rfl,λx h=>by cases h⟩
theorem RK.Is.of_cells (h:r.Is w v l) (hw:∀a u,w.cell? a=some u->w'.cell? a=some u):r.Is w' v l:=by
 obtain⟨a,b,k,o,p,q,d⟩:=h;refine⟨a,b,k,o,p,q,λx f=>⟨(d x f).1,λi s j g=>?_⟩⟩;have c:j<(r.C l[i]).length:=by rw[r.len];exact g
 have e:=(d x f).2 i s j g;rw[List.getElem?_eq_getElem c] at e ⊢;exact hw _ _ e
theorem RK.Is.below (h:r.Is w v l) (hb:Below w.heap.size w w'):r.Is w' v l:=h.of_cells (Zi hb)
theorem RK.Is.form (h:r.Is w v l):∃a b,v=.slice a l.length b/\l.length<=b/\b<=maxLen:=by obtain⟨a,b,c,d,e,_⟩:=h;exact⟨a,b,c,d,e⟩
theorem RK.Is.turned {T:Nat->Prop} (h:r.Is w v l) (ht:Zb T w w') (o:∀k,v.ownBlock=some k->¬T k):r.Is w' v l:=by
 obtain⟨a,b,rfl,p,q,s,d⟩:=h;refine⟨a,b,rfl,p,q,s,λx f=>⟨(d x f).1,λi t j g=>?_⟩⟩;subst f;have c:j<(r.C l[i]).length:=by rw[r.len];exact g
 have e:=(d x rfl).2 i t j g;rw[<-e];rw[List.getElem?_eq_getElem c] at e;have y:x.block<w.heap.size:=World.block_lt_of_cell? w ⟨x.block,x.off+i*r.n+j,none⟩ e;exact World.cell?_of_block (a:=⟨x.block,x.off+i*r.n+j,none⟩) (ht.block x.block y (o _ rfl))
theorem RK.Is.at {a:Option Addr} {n cap:Nat} (h:r.Is w (.slice a n cap) l) (i:Nat) (f:i<l.length):∃b o,a=some ⟨b,o,none⟩/\∀j,j<r.n->w.cell? ⟨b,o+i*r.n+j,none⟩=(r.C l[i])[j]?:=by
 obtain⟨p,d,e,q,t,g,c⟩:=h;simp only[Value.slice.injEq] at e;obtain⟨rfl,_,rfl⟩:=e
 cases a with
 | none=>have:=g rfl;omega
 | some x =>
  obtain⟨b,o,s⟩:=x;obtain⟨k,c⟩:=c _ rfl;obtain rfl:s=none:=k (by omega);exact⟨b,o,rfl,c i f⟩
def RK.Mine (r:RK α) (B:Nat) (w:World) (v:Value) (l:List α):Prop:=w.ownsRow B r.T r.n v l.length (r.V l)
theorem RK.Mine.nil (B:Nat) (w:World):r.Mine B w (.slice none 0 0) []:=Uj w B r.T r.n
theorem RK.Mine.keep (h:r.Mine B w v l) (hw:∀k,B<=k->k<w.heap.size->w'.heap[k]?=w.heap[k]?):r.Mine B w' v l:=Zgx h hw
theorem RK.Mine.keep1 (h:r.Mine B w v l) (hw:∀k,v.ownBlock=some k->w'.heap[k]?=w.heap[k]?):r.Mine B w' v l:=by
 obtain⟨e,a⟩:=h;refine⟨e,?_⟩;rcases a with a | ⟨g,b,c,d,f,i,r⟩
 .exact .inl a
 .exact .inr ⟨g,b,c,d,f,(hw g (by rw[d];rfl)).trans i,r⟩
theorem RK.Mine.below (h:r.Mine B w v l) (hb:Below w.heap.size w w'):r.Mine B w' v l:=h.keep λk _ a=>hb.block k a
theorem RK.Mine.alloc (h:r.Mine B w v l) (o:Obj):r.Mine B (w.alloc o) v l:=h.below ((Ve _ _).alloc (Va _) _)
theorem RK.Mine.base_le {B':Nat} (h:r.Mine B w v l) (hb:B'<=B):r.Mine B' w v l:=by
 obtain⟨d,a⟩:=h;refine⟨d,?_⟩;rcases a with a | ⟨g,b,c,e,f,i⟩
 .exact .inl a
 .exact .inr ⟨g,b,c,e,Vk hb f,i⟩
theorem RK.Mine.lt (h:r.Mine B w v l) {k:Nat} (hk:v.ownBlock=some k):B<=k/\k<w.heap.size:=by obtain⟨a,c,b⟩:=Zcv h hk.symm;exact⟨a,Za b⟩
theorem RK.Mine.is (h:r.Mine B w v l):r.Is w v l:=by
 rcases h.2 with ⟨rfl,o⟩ | ⟨g,b,p,rfl,A,q,c,d,s,a⟩
 .obtain rfl:=Vh o;exact RK.Is.nil w
 .refine⟨_,b,rfl,c,d,λe=>(by cases e),λx k=>?_⟩
  simp only[Option.some.injEq] at k;subst k;refine⟨λ_=>rfl,λi t j y=>?_⟩;dsimp only;rw[Nat.zero_add,Vc _ _ _ _ _ _ q];have e:=r.V_get l i t j y
  have f:i*r.n+j<l.length*r.n:=by
   have:=Ug r.n (show i+1<=l.length by omega)
   rw[Nat.succ_mul] at this;omega
  rw[<-a,List.getElem?_take,if_pos f] at e;simpa using e
theorem RK.Is.firsts (h:r.Is w v l):∀w',w'.heap=w.heap->(Builtin.firstCells r.n l.length v).run Tryz.prog w'=.ok (r.V l).toArray w':=by
 intro w' q;obtain⟨a,t,rfl,E,F,y,g⟩:=h;by_cases A:l.length=0
 .obtain rfl:=Vh A
  cases a with
  | none=>simp[Builtin.firstCells,RK.V]
  | some x=>simp[Builtin.firstCells,loadCells,loadCellsFrom,RK.V]
 .cases a with
  | none=>have:=y rfl;omega
  | some x =>
   obtain⟨b,o,s⟩:=x;obtain⟨D,g⟩:=g _ rfl;obtain rfl:s=none:=D (by omega);refine Uc (P:=Tryz.prog) w' r.n l.length _ _ _ (r.V l) (by rw[r.V_length]) ?_;intro j u k;have i:j<l.length*r.n:=by have:=(List.getElem?_eq_some_iff.1 k).1;rwa[r.V_length] at this
   have d:=Nat.div_add_mod j r.n;have hr:=Nat.mod_lt j r.npos;rw[Nat.mul_comm] at d;have p:j / r.n<l.length:=(Nat.div_lt_iff_lt_mul r.npos).2 i;have e:=r.V_get l (j / r.n) p (j % r.n) hr;rw[d,k] at e;rw[Addr.add_mid];have f:∀c,w'.cell? ⟨b,c,none⟩=w.cell? ⟨b,c,none⟩:=λc=>by unfold World.cell?;rw[q]
   rw[f,<-d];have h2:=g _ p _ hr
   rw[<-e] at h2;rw[<-h2];dsimp only;rw[Nat.add_assoc]
theorem RK.Mine.app (h:r.Mine B w v l) (hu:r.Is w u m) (hB:B<=w.heap.size) (hL:l.length+m.length<=1000000):
  ∃b w',(Builtin.append_ #[r.S,r.S] r.S #[v,u]).run Tryz.prog w=.ok b w'/\r.Mine B w' b (l++m)/\w.grownBy w' v.ownBlock/\(b.ownBlock=v.ownBlock\/b.ownBlock=some w.heap.size):=by
 obtain⟨i,g,j,k,o⟩:=Ue (P:=Tryz.prog) (e:=r.T) r.hI;have hf:=hu.firsts
 have c:=r.b64;have hn2:=r.n4;obtain⟨a,d,rfl,p,q⟩:=hu.form
 obtain⟨b,w',s,t,f,_,x⟩:=Zfc (P:=Tryz.prog) w B r.S r.S r.S r.T i _ r.n r.by_ _ r.hS r.hS (.inl rfl) g j k o r.zc r.npos v l.length (r.V l) h
  (.slice a m.length d) m.length (r.V m) (λw'=>rfl) (by rw[r.V_length]) hf (r.V_oneCell m) (by unfold maxLen;omega) (by
   have y:(l.length+m.length)*r.by_<=(l.length+m.length)*128:=Nat.mul_le_mul_left _ c
   omega) hB
 refine⟨b,w',s,?_,f,x⟩;unfold RK.Mine;rw[r.V_append,List.length_append];exact t
theorem RK.Mine.app2 (h:r.Mine B w v l) (hu:r.Is w u m) (hB:B<=w.heap.size) (hL:l.length+m.length<=1000000):
  ∃a n k w',(Builtin.append_ #[r.S,r.S] r.S #[v,u]).run Tryz.prog w=.ok (.slice a n k) w'/\r.Mine B w' (.slice a n k) (l++m)/\Below B w w':=by
 obtain⟨f,w',c,b,d,_⟩:=h.app hu hB hL;obtain⟨a,k,rfl,_⟩:=b.is;exact⟨a,_,k,w',c,b,(Ve B w).grown d hB λk e=>(h.lt e).1⟩
theorem RK.lit (w:World) (x:α) (c:Array Value) (hc:c=(r.C x).toArray):r.Is (w.alloc (.cells c r.T)) (.slice (some ⟨w.heap.size,0,none⟩) 1 1) [x]:=by
 subst hc;refine⟨_,1,rfl,by simp,by unfold maxLen;omega,λe=>(by cases e),?_⟩;rintro y ⟨⟩;refine⟨λ_=>rfl,λi a j d=>?_⟩;obtain rfl:i=0:=by simpa using a
 have b:(w.alloc (.cells (r.C x).toArray r.T)).heap[w.heap.size]?=some (.cells (r.C x).toArray r.T (0,0)):=Vg w _;rw[Vc _ _ _ _ _ _ b];simp
theorem RK.lits (w:World) (l:List α) (c:Array Value) (hc:c=(r.V l).toArray) (hl:l.length<=1000000):r.Is (w.alloc (.cells c r.T)) (.slice (some ⟨w.heap.size,0,none⟩) l.length l.length) l:=by
 subst hc;refine⟨_,l.length,rfl,Va _,by unfold maxLen;omega,λe=>(by cases e),?_⟩;rintro y ⟨⟩;refine⟨λ_=>rfl,λi a j b=>?_⟩;have d:(w.alloc (.cells (r.V l).toArray r.T)).heap[w.heap.size]?=some (.cells (r.V l).toArray r.T (0,0)):=Vg w _
 rw[Vc _ _ _ _ _ _ d,<-r.V_get l i a j b];simp
end
end
section
open Go.RowKit
structure Ya where
 sp:Int
 key:List UInt8
 val:List UInt8
 gone:Bool
instance : Inhabited Ya := ⟨⟨0, [], [], false⟩⟩
def Ya.C (p:Ya):List Value:=[.int .i64 p.sp,.string ⟨p.key.toArray⟩,.string ⟨p.val.toArray⟩,.bool p.gone]
def Zbe:RK Ya where
 T:=66
 S:=40
 n:=4
 C:=Ya.C
 z:=.agg #[.int .i64 0,.string ⟨#[]⟩,.string ⟨#[]⟩,.bool false]
 by_:=48
 npos:=by decide
 zc:=by kernel_rfl
 n4:=by decide
 b64:=by decide
 len:=λ_=>rfl
 one:=λx v hv=>by
  simp only[Ya.C,List.mem_cons,List.not_mem_nil,or_false] at hv
  rcases hv with rfl | rfl | rfl | rfl<;>rfl
 hS:=Tryz.underlying40
 hI:=by kernel_rfl
def prC (x:List UInt8 × List UInt8):List Value:=[.int .i64 ((x.1.headD 0).toNat:Int),.string ⟨x.1.tail.toArray⟩,.string ⟨x.2.toArray⟩]
def rkPr:RK (List UInt8 × List UInt8) where
 T:=61
 S:=59
 n:=3
 C:=prC
 z:=.agg #[.int .i64 0,.string ⟨#[]⟩,.string ⟨#[]⟩]
 by_:=40
 npos:=by decide
 zc:=by kernel_rfl
 n4:=by decide
 b64:=by decide
 len:=λ_=>rfl
 one:=λx v hv=>by
  simp only[prC,List.mem_cons,List.not_mem_nil,or_false] at hv
  rcases hv with rfl | rfl | rfl<;>rfl
 hS:=Tryz.underlying59
 hI:=by kernel_rfl
section
variable {w : World} {a : Option Addr} {n cap : Nat}
theorem put_at {l:List Ya} (h:Zbe.Is w (.slice a n cap) l) (i:Nat) (d:i<l.length):∃b o,a=some ⟨b,o,none⟩/\w.cell? ⟨b,o+i*4,none⟩=some (.int .i64 l[i].sp)/\w.cell? ⟨b,o+i*4+1,none⟩=some (.string ⟨l[i].key.toArray⟩) /\
  w.cell? ⟨b,o+i*4+2,none⟩=some (.string ⟨l[i].val.toArray⟩)/\w.cell? ⟨b,o+i*4+3,none⟩=some (.bool l[i].gone):=by
 obtain⟨b,o,e,c⟩:=h.at i d;exact⟨b,o,e,c 0 (by decide),c 1 (by decide),c 2 (by decide),c 3 (by decide)⟩
theorem pr_at {l:List (List UInt8 × List UInt8)} (h:rkPr.Is w (.slice a n cap) l) (i:Nat) (d:i<l.length):∃b o,a=some ⟨b,o,none⟩/\w.cell? ⟨b,o+i*3,none⟩=some (.int .i64 ((l[i].1.headD 0).toNat:Int))/\w.cell? ⟨b,o+i*3+1,none⟩=some (.string ⟨l[i].1.tail.toArray⟩) /\
  w.cell? ⟨b,o+i*3+2,none⟩=some (.string ⟨l[i].2.toArray⟩):=by
 obtain⟨b,o,e,c⟩:=h.at i d;exact⟨b,o,e,c 0 (by decide),c 1 (by decide),c 2 (by decide)⟩
end
end
section
variable {M:List KV}{n:List UInt8}
def Ya.s (p:Ya):UInt8:=UInt8.ofNat p.sp.toNat
def Ya.name (p:Ya):List UInt8:=p.s::p.key
def Ya.right (p:Ya):Bool:=decide (0<=p.sp)&&(decide (p.sp<=255)&&(decide (p.key.length<=64)&&(decide (p.val.length<=4096)&&!(p.gone&&!p.val.isEmpty))))
def Ya.new (p:Ya):List UInt8 × Bool:=if p.gone then ([],false) else (p.val,true)
def appP (M:List KV) (p:Ya):List KV:=if p.gone then Zbi M p.name else Zcd M p.name p.val
def Zbw (M:List KV) (ps:List Ya):List KV:=ps.foldl appP M
def dropA (M:List KV) (ps:List Ya):List KV:=ps.foldl (λM p=>Zbi M p.name) M
theorem appP_rise (hr:Xb M) (p:Ya):Xb (appP M p):=by
 unfold appP;split
 .exact Zac hr
 .exact Zat hr
theorem get_appP (hr:Xb M) (p:Ya) (n:List UInt8):Zv (appP M p) n=if n=p.name then p.new else Zv M n:=by
 unfold appP Ya.new
 cases p.gone with
 | true=>exact Zfx hr _ _
 | false=>exact Zef hr _ _ _
theorem Zgn:∀(a:List Ya) {M:List KV},Xb M->Xb (Zbw M a)
 | [],_,h=>h
 | p::r,M,h=>Zgn r (M:=appP M p) (appP_rise h p)
theorem dropA_rise:∀(a:List Ya) {M:List KV},Xb M->Xb (dropA M a)
 | [],_,h=>h
 | p::r,M,h=>dropA_rise r (M:=Zbi M p.name) (Zac h)
def finV (n:List UInt8) (d:List UInt8 × Bool) (ps:List Ya):List UInt8 × Bool:=ps.foldl (λd p=>if n=p.name then p.new else d) d
theorem get_appA (n:List UInt8):∀(a:List Ya) {M:List KV},Xb M->Zv (Zbw M a) n=finV n (Zv M n) a
 | [],_,_=>rfl
 | p::r,M,h=>by
  show Zv (Zbw (appP M p) r) n=finV n (if n=p.name then p.new else Zv M n) r
  rw[get_appA n r (appP_rise h p),get_appP h]
theorem get_dropA (n:List UInt8):∀(d:List Ya) {M:List KV},Xb M->Zv (dropA M d) n=if ∃p∈d,n=p.name then ([],false) else Zv M n
 | [],M,_=>by rw[if_neg (by simp)];rfl
 | p::r,M,h=>by
  show Zv (dropA (Zbi M p.name) r) n=_
  rw[get_dropA n r (Zac h),Zfx h];by_cases e:n=p.name
  .rw[if_pos (⟨p,Vi ..,e⟩:∃q∈p::r,n=q.name)]
   split<;>simp[e]
  .rw[if_neg e]
   by_cases c:∃q∈r,n=q.name
   .obtain⟨q,a,b⟩:=c;rw[if_pos ⟨q,a,b⟩,if_pos ⟨q,Vj _ a,b⟩]
   .rw[if_neg c,if_neg]
    rintro⟨q,a,b⟩;rcases List.mem_cons.1 a with rfl | a
    .exact e b
    .exact c ⟨q,a,b⟩
theorem finV_append (n:List UInt8) (d:List UInt8 × Bool) (a b:List Ya):finV n d (a++b)=finV n (finV n d a) b:=List.foldl_append ..
theorem finV_not:∀{a:List Ya} (d:List UInt8 × Bool),(∀p∈a,n≠p.name)->finV n d a=d
 | [],_,_=>rfl
 | p::r,d,h=>by
  show finV n (if n=p.name then p.new else d) r=d
  rw[if_neg (h p (Vi ..))];exact finV_not d λq b=>h q (Vj _ b)
def Zej (ps:List Ya) (i:Nat):Prop:=∀j (h:j<ps.length),i<j->ps[j].name≠(ps.getD i default).name
theorem finV_last {ps:List Ya} {i:Nat} (a:i<ps.length) (hl:Zej ps i) (d:List UInt8 × Bool):finV ps[i].name d ps=ps[i].new:=by
 have e:ps=ps.take i++(ps[i]::ps.drop (i+1)):=by rw[<-List.drop_eq_getElem_cons a,List.take_append_drop]
 have c:∀p∈ps.drop (i+1),ps[i].name≠p.name:=λp f=>by
  obtain⟨j,g,rfl⟩:=List.getElem_of_mem f;rw[List.length_drop] at g;rw[List.getElem_drop];have:=hl (i+1+j) (by omega) (by omega)
  rw[List.getD_eq_getElem?_getD,List.getElem?_eq_getElem a] at this;exact λe=>this e.symm
 have b:finV ps[i].name d (ps.take i++(ps[i]::ps.drop (i+1)))=ps[i].new:=by
  rw[finV_append];show finV ps[i].name (if ps[i].name=ps[i].name then ps[i].new else _) (ps.drop (i+1))=_
  rw[if_pos rfl];exact finV_not _ c
 rw[<-e] at b;exact b
theorem exists_last:∀{a:List Ya},(∃p∈a,n=p.name)->∃i,∃h:i<a.length,Zej a i/\n=a[i].name:=by
 intro a;obtain⟨f,c⟩:∃f,f=a.reverse:=⟨_,rfl⟩;obtain rfl:a=f.reverse:=by rw[c,List.reverse_reverse]
 clear c
 induction f with
 | nil=>rintro⟨p,s,_⟩;simp at s
 | cons p r t =>
  rw[List.reverse_cons];rintro⟨q,u,e⟩;by_cases g:n=p.name
  .refine⟨r.reverse.length,by simp,λj k b=>?_,by simp[g]⟩;simp at k b;omega
  .have l:q∈r.reverse:=by
    rcases List.mem_append.1 u with h | h
    .exact h
    .obtain rfl:q=p:=by simpa using h
     exact absurd e g
   obtain⟨i,m,v,o⟩:=t ⟨q,l,e⟩;refine⟨i,by rw[List.length_append];omega,λj k b=>?_,by rw[List.getElem_append_left m];exact o⟩;have w:(r.reverse++[p]).getD i default=r.reverse.getD i default:=by rw[List.getD_eq_getElem?_getD,List.getD_eq_getElem?_getD,List.getElem?_append_left m]
   rw[w];by_cases d:j<r.reverse.length
   .rw[List.getElem_append_left d];exact v j d b
   .rw[List.getElem_append_right (by omega)]
    have:j - r.reverse.length=0:=by rw[List.length_append,List.length_singleton] at k;omega
    simp only[this,List.getElem_cons_zero];rw[List.getD_eq_getElem?_getD,List.getElem?_eq_getElem m];show p.name≠r.reverse[i].name
    rw[<-o];exact λe=>g e.symm
open Classical in
noncomputable def layA (M:List KV) (ps:List Ya):Nat->List KV
 | 0=>M
 | i+1=>if (ps.getD i default).gone=true\/¬Zej ps i then layA M ps i else Zcd (layA M ps i) (ps.getD i default).name (ps.getD i default).val
theorem layA_rise (hr:Xb M) (ps:List Ya):∀i,Xb (layA M ps i)
 | 0=>hr
 | i+1=>by
  rw[layA];split
  .exact layA_rise hr ps i
  .exact Zat (layA_rise hr ps i)
theorem get_layA (hr:Xb M) (ps:List Ya) (n:List UInt8):∀i,i<=ps.length->(∀j,j<i->∀h:j<ps.length,Zej ps j->n=ps[j].name->ps[j].gone=false->Zv (layA M ps i) n=(ps[j].val,true))/\((∀j,j<i->∀h:j<ps.length,Zej ps j->ps[j].gone=false->n≠ps[j].name)->Zv (layA M ps i) n=Zv M n)
 | 0,_=>⟨λj k=>by omega,λ_=>rfl⟩
 | i+1,t=>by
  obtain⟨q,r⟩:=get_layA hr ps n i (by omega);have d:i<ps.length:=by omega
  have e:ps.getD i default=ps[i]:=by rw[List.getD_eq_getElem?_getD,List.getElem?_eq_getElem d];rfl
  rw[layA,e];by_cases a:ps[i].gone=true\/¬Zej ps i
  .rw[if_pos a]
   refine⟨λj k h l f m=>?_,λb=>r λj k=>b j (by omega)⟩;rcases Ua j i with c | c
   .exact q j c h l f m
   .obtain rfl:j=i:=by omega
    rcases a with a | a
    .rw[m] at a;cases a
    .exact absurd l a
  .have l:Zej ps i:=Vu λh=>a (.inr h)
   have m:ps[i].gone=false:=by
    cases s:ps[i].gone with
    | false=>rfl
    | true=>exact absurd (.inl s) a
   rw[if_neg a,Zef (layA_rise hr ps i)];refine⟨λj k h g f p=>?_,λb=>?_⟩
   .by_cases o:n=ps[i].name
    .rw[if_pos o]
     obtain rfl:j=i:=by
      rcases Ua j i with c | c
      .have:=g i d c;rw[List.getD_eq_getElem?_getD,List.getElem?_eq_getElem h] at this;exact absurd (o.symm.trans f) this
      .omega
     rfl
    .rw[if_neg o]
     rcases Ua j i with c | c
     .exact q j c h g f p
     .obtain rfl:j=i:=by omega
      exact absurd f o
   .rw[if_neg (b i (by omega) d l m)];exact r λj k=>b j (by omega)
theorem layA_all (hr:Xb M) (ps:List Ya):layA (dropA M ps) ps ps.length=Zbw M ps:=by
 have l:=dropA_rise ps hr;refine get_ext (layA_rise l ps _) (Zgn ps hr) λn=>?_;rw[get_appA n ps hr];obtain⟨r,m⟩:=get_layA l ps n ps.length (Va _);by_cases f:∃p∈ps,n=p.name
 .obtain⟨i,a,g,e⟩:=exists_last f
  rw[e,finV_last a g,<-e];unfold Ya.new
  cases o:ps[i].gone with
  | false =>
   rw[if_neg (by simp)];exact r i a a g e o
  | true =>
   rw[if_pos rfl,m λj s h k b q=>?_,get_dropA n ps hr,if_pos f];rcases Nat.lt_trichotomy i j with c | c | c
   .have:=g j h c;rw[List.getD_eq_getElem?_getD,List.getElem?_eq_getElem a] at this;exact this (q.symm.trans e)
   .subst c;rw[o] at b;cases b
   .have:=k i a c;rw[List.getD_eq_getElem?_getD,List.getElem?_eq_getElem h] at this;exact this (e.symm.trans q)
 .have d:∀p∈ps,n≠p.name:=λp t e=>f ⟨p,t,e⟩;rw[finV_not _ d,m (λj s h _ _=>d _ (Vo h)),get_dropA n ps hr,if_neg f]
def wOf (M:List KV) (n:List UInt8):Nat:=if (Zv M n).2 then wF (n,(Zv M n).1) else 0
def Ya.w (p:Ya):Nat:=if p.gone then 0 else wF (p.name,p.val)
theorem wM_app (hr:Xb M) (p:Ya):Yi wF (appP M p)+wOf M p.name=Yi wF M+p.w:=by
 have a:Yi wF (Zbi M p.name)+wOf M p.name=Yi wF M:=by
  unfold wOf
  cases b:(Zv M p.name).2 with
  | false =>
   rw[(Zcr b).1];simp
  | true =>
   have h:=sumF_del wF (l:=M) (k:=p.name) (v:=(Zv M p.name).1) (by rw[<-b]);simpa using h
 unfold appP Ya.w
 cases e:p.gone with
 | true=>simpa using a
 | false =>
  have c:Zcd M p.name p.val=Zcd (Zbi M p.name) p.name p.val:=get_ext (Zat hr) (Zat (Zac hr)) λk=>by
   rw[Zef hr,Zef (Zac hr),Zfx hr]
   split<;>rfl
  have d:=sumF_put wF (l:=Zbi M p.name) (k:=p.name) (by rw[Zfx hr,if_pos rfl]) p.val;simp only[Bool.false_eq_true,if_false];rw[c,d];omega
end
section
variable {ps:List Ya}{i:Nat}
def dropV (l:List KV) (s:UInt8) (k:List UInt8):List KV:=if (getV l s k).1.2 then Zdp l s k (1+(getV l s k).1.1.length / 190) else l
def dropT (l:List KV) (ps:List Ya):List KV:=ps.foldl (λl p=>dropV l p.s p.key) l
section
variable {l M : List KV} {sums : Option (List UInt8)}
theorem Qe.dropV (h:Qe l M sums) (s:UInt8) (k:List UInt8):Qe (dropV l s k) (Zbi M (s::k)) sums:=by
 unfold Go.Proofs.YtfaobkmojlhbnaaGreatDoor.dropV;rw[h.getV];dsimp only
 cases a:(Zv M (s::k)).2 with
 | false =>
  rw[if_neg (by simp),(Zcr a).1];exact h
 | true =>
  rw[if_pos rfl];exact h.drop (by rw[<-a])
theorem Qe.dropT:∀(ps:List Ya) {l M:List KV},Qe l M sums->Qe (dropT l ps) (dropA M ps) sums
 | [],_,_,h=>h
 | p::r,l,M,h=>Qe.dropT r (l:=Go.Proofs.YtfaobkmojlhbnaaGreatDoor.dropV l p.s p.key) (M:=Zbi M p.name) (h.dropV p.s p.key)
open Classical in
noncomputable def layT (l:List KV) (ps:List Ya):Nat->List KV
 | 0=>l
 | i+1=>if (ps.getD i default).gone=true\/¬Zej ps i then layT l ps i else layK (layT l ps i) (ps.getD i default).s (ps.getD i default).key (ps.getD i default).val (1+(ps.getD i default).val.length / 190)
theorem layA_free (hM:Xb M) (hno:∀p∈ps,(Zv M p.name).2=false) (a:i<ps.length) (hl:Zej ps i):(Zv (layA M ps i) (ps.getD i default).name).2=false:=by
 have e:ps.getD i default=ps[i]:=by rw[List.getD_eq_getElem?_getD,List.getElem?_eq_getElem a];rfl
 rw[e,(get_layA hM ps ps[i].name i (by omega)).2 λj c h b d f=>?_]
 .exact hno _ (Vo a)
 .have:=b i a c;rw[List.getD_eq_getElem?_getD,List.getElem?_eq_getElem h] at this;exact this f
theorem Zay {p:Ya} (h:p.right=true):0<=p.sp/\p.sp<=255/\p.key.length<=64/\p.val.length<=4096/\(p.gone=true->p.val=[]):=by
 unfold Ya.right at h;simp only[Bool.and_eq_true,decide_eq_true_eq,Bool.not_eq_true',Bool.and_eq_false_iff] at h;obtain⟨a,b,c,d,e⟩:=h;refine⟨a,b,c,d,λf=>?_⟩;rcases e with e | e
 .rw[f] at e;cases e
 .simpa using e
theorem Qe.layT (h:Qe l M sums) (hno:∀p∈ps,(Zv M p.name).2=false) (hr:∀p∈ps,p.right=true):∀i,i<=ps.length->Qe (layT l ps i) (layA M ps i) sums
 | 0,_=>h
 | i+1,g=>by
  have d:=Qe.layT h hno hr i (by omega);have a:i<ps.length:=by omega
  have e:ps.getD i default=ps[i]:=by rw[List.getD_eq_getElem?_getD,List.getElem?_eq_getElem a];rfl
  have b:=Zay (hr _ (Vo a));rw[Go.Proofs.YtfaobkmojlhbnaaGreatDoor.layT,layA];by_cases c:(ps.getD i default).gone=true\/¬Zej ps i
  .rw[if_pos c,if_pos c];exact d
  .rw[if_neg c,if_neg c];have f:Zej ps i:=Vu λh=>c (.inr h);have hf:=layA_free h.rise hno a f;rw[e] at hf ⊢;exact d.lay hf b.2.2.1 b.2.2.2.1
theorem layA_mono (hM:Xb M) (hno:∀p∈ps,(Zv M p.name).2=false):∀i j,i<=j->j<=ps.length->Yi wF (layA M ps i)<=Yi wF (layA M ps j)
 | i,0,h,_=>by
  have e:i=0:=by omega
  rw[e];exact Va _
 | i,j+1,h,d=>by
  rcases Ua i (j+1) with a | a
  .refine Vk (layA_mono hM hno i j (by omega) (by omega)) ?_
   rw[layA];split
   .exact Va _
   .rename_i b;have c:Zej ps j:=Vu λh=>b (.inr h);rw[sumF_put wF (layA_free hM hno (by omega) c)];omega
  .obtain rfl:i=j+1:=by omega
   exact Va _
theorem dropA_no (hM:Xb M) (ps:List Ya):∀p∈ps,(Zv (dropA M ps) p.name).2=false:=λp a=>by rw[get_dropA p.name ps hM,if_pos ⟨p,a,rfl⟩]
theorem Qe.commit (h:Qe l M sums) (hr:∀p∈ps,p.right=true) (t:List UInt8):Qe (Zcd (Go.Proofs.YtfaobkmojlhbnaaGreatDoor.layT (Go.Proofs.YtfaobkmojlhbnaaGreatDoor.dropT l ps) ps ps.length) [] t) (Zbw M ps) (some t):=by have a:=Qe.dropT ps h;have h2:=a.layT (dropA_no h.rise ps) hr ps.length (Va _);rw[layA_all h.rise ps] at h2;exact h2.sum t
theorem dropA_light:∀(ps:List Ya) {M:List KV},Xb M->Yi wF (dropA M ps)<=Yi wF M
 | [],_,_=>Va _
 | p::r,M,h=>by
  refine Vk (dropA_light r (M:=Zbi M p.name) (Zac h)) ?_
  cases a:(Zv M p.name).2 with
  | false=>rw[(Zcr a).1];exact Va _
  | true =>
   have:=sumF_del wF (l:=M) (k:=p.name) (v:=(Zv M p.name).1) (by rw[<-a]);omega
theorem Qe.lay_light (h:Qe l M sums) (hr:∀p∈ps,p.right=true) {W:Nat} (j:Yi wF (Zbw M ps)<=W) (c:i<ps.length) (hg:(ps.getD i default).gone=false) (hl:Zej ps i) {n:Nat} (hn:n<=1+(ps.getD i default).val.length / 190):
  Zab (layK (Go.Proofs.YtfaobkmojlhbnaaGreatDoor.layT (Go.Proofs.YtfaobkmojlhbnaaGreatDoor.dropT l ps) ps i) (ps.getD i default).s (ps.getD i default).key (ps.getD i default).val n)<=W+sumsW sums:=by
 have d:=Qe.dropT ps h;have hno:=dropA_no h.rise ps;have h2:=d.layT hno hr i (by omega);have hf:=layA_free d.rise hno c hl;have hrr:=Zay (hr _ (Vo c));have e:ps.getD i default=ps[i]:=by rw[List.getD_eq_getElem?_getD,List.getElem?_eq_getElem c];rfl
 rw[e] at hf hn hg ⊢;have h3:=lay_wgt h2.enc (ctM_none hf) hrr.2.2.2.1 n hn
 have g:∀a b,a<=b->tPs ps[i].key ps[i].val a<=tPs ps[i].key ps[i].val b:=λa b f=>by
  induction f with
  | refl=>exact Va _
  | step _ k=>rw[tPs];omega
 have m:=g n _ hn;have o:tPs ps[i].key ps[i].val (1+ps[i].val.length / 190)<=wF (ps[i].name,ps[i].val):=tF_le (x:=(ps[i].name,ps[i].val)) hrr.2.2.2.1;have h7:=layA_mono d.rise hno (i+1) ps.length (by omega) (Va _);rw[layA_all h.rise ps,layA,e,if_neg (by rintro(h | h);(rw[hg] at h;cases h);exact h hl)] at h7;have h8:=sumF_put wF hf ps[i].val;have h9:=h2.light;omega
end
end
section
theorem Zee {a b:UInt8} {r t:List UInt8}:a::r<b::t↔a<b\/(a=b/\r<t):=List.cons_lt_cons_iff
theorem head_rng {s:UInt8} {k:List UInt8}:(¬k < [s,0]/\k < [s,1])↔∃r,k=s::0::r:=by
 constructor
 .rintro⟨d,c⟩
  rcases k with _ | ⟨a,_ | ⟨b,r⟩⟩
  .exact absurd (by simp) d
  .rw[Zee] at d c
   rcases c with c | ⟨rfl,_⟩
   .exact absurd (.inl c) d
   .exact absurd (.inr ⟨rfl,by simp⟩) d
  .rw[Zee] at d c
   rcases c with c | ⟨rfl,c⟩
   .exact absurd (.inl c) d
   .rw[Zee] at c
    have e:b=0:=by
     rcases c with c | ⟨_,c⟩
     .have f:b.toNat<1:=c;exact UInt8.toNat_inj.1 (by show b.toNat=0;omega)
     .exact absurd c (List.not_lt_nil _)
    exact⟨r,by rw[e]⟩
 .rintro⟨r,rfl⟩
  refine⟨λh=>?_,?_⟩
  .rw[Zee,Zee] at h
   rcases h with h | ⟨_,h | ⟨_,h⟩⟩
   .exact absurd h (by simp)
   .exact absurd h (by simp)
   .exact List.not_lt_nil _ h
  .rw[Zee,Zee];exact .inr ⟨rfl,.inl (by decide)⟩
def inS (s:UInt8) (M:List KV):List KV:=M.filter λx=>decide (x.1.head?=some s)
def headF (x:KV):KV:=(x.1.headD 0::0::x.1.tail,Qk x.2 0)
section
variable {l M : List KV} {sums : Option (List UInt8)}
theorem rngL_rise {from_ to_:List UInt8} (hr:Xb l):Xb (rngL from_ to_ l):=hr.sublist (List.filter_sublist ..)
theorem Qe.heads (h:Qe l M sums) (s:UInt8):rngL [s,0] [s,1] l=(inS s M).map headF:=by
 have m:Xb (inS s M):=h.rise.sublist (List.filter_sublist ..)
 have d:∀{x:KV},x∈inS s M↔x∈M/\∃k,x.1=s::k:=λ{x}=>by
  unfold inS;rw[List.mem_filter,decide_eq_true_eq];refine and_congr_right λ_=>⟨λe=>?_,?_⟩
  .cases f:x.1 with
   | nil=>rw[f] at e;cases e
   | cons a r=>rw[f] at e;injection e with e;exact⟨r,by rw[e]⟩
  .rintro⟨k,e⟩;rw[e];rfl
 have o:Xb ((inS s M).map headF):=by
  unfold Xb;rw[List.pairwise_map];refine m.imp_of_mem λ{a b} u i c=>?_;obtain⟨_,k,w⟩:=d.1 u;obtain⟨_,D,z⟩:=d.1 i;unfold headF;rw[w,z] at c ⊢;rw[Zee] at c;rcases c with c | ⟨_,c⟩
  .exact absurd c (by simp)
  .exact Zee.2 (.inr ⟨rfl,Zee.2 (.inr ⟨rfl,c⟩)⟩)
 have p:=rngL_rise (from_:=[s,0]) (to_:=[s,1]) h.enc.rise
 have g:∀x,x∈rngL [s,0] [s,1] l↔x∈(inS s M).map headF:=λx=>by
  unfold rngL;rw[List.mem_filter,List.mem_map];have A:((!decide (x.1 < [s,0])&&(decide (([s,1]:List UInt8)=[])||decide (x.1 < [s,1])))=true)↔∃r,x.1=s::0::r:=by rw[<-head_rng];simp
  rw[A];constructor
  .rintro⟨f,r,e⟩
   have hg:=Zcs h.enc.rise (k:=x.1) (v:=x.2) f;have h0:Zv l (Ye s 0 r)=(x.2,true):=by rw[<-hg,e];rfl
   rw[h.enc.at s (by omega) r] at h0
   cases i:(Zv M (s::r)).2 with
   | false=>rw[ctM_none i] at h0;exact absurd (Vs Prod.snd h0) (by simp)
   | true =>
    rw[ctM_some (v:=(Zv M (s::r)).1) (by rw[<-i])] at h0;dsimp only at h0;rw[if_pos (Vl _)] at h0;have hm:=Zcu i
    refine⟨(s::r,(Zv M (s::r)).1),d.2 ⟨hm,r,rfl⟩,?_⟩;unfold headF;have B:Qk (Zv M (s::r)).1 0=x.2:=Vs Prod.fst h0
    show (s::0::r,Qk (Zv M (s::r)).1 0)=x
    rw[B,<-e]
  .rintro⟨y,C,rfl⟩
   obtain⟨n,k,e⟩:=d.1 C;have hg:=Zcs h.rise (k:=y.1) (v:=y.2) n
   rw[e] at hg;have h0:=h.enc.at s (j:=0) (by omega) k
   rw[ctM_some hg] at h0;dsimp only at h0;rw[if_pos (Vl _)] at h0;have q:headF y=(Ye s 0 k,Qk y.2 0):=by unfold headF;rw[e];rfl
   refine⟨?_,k,by rw[q];rfl⟩;have h2:=Zcu (l:=l) (k:=Ye s 0 k) (by rw[h0])
   rw[h0] at h2;rw[q];exact h2
 have t:=Zgz p o λx f=>(g x).1 f;have s2:=Zgz o p λx f=>(g x).2 f;exact t.eq_of_length (Nat.le_antisymm t.length_le s2.length_le)
end
end
section
open Go.RowKit
theorem bits_any (v:Value) (l:List UInt8) (w:World) (hv:IsB w v l) :
  Calls Tryz.prog 112 #[v] w λe D=>e=.returned (.tuple #[.int .u64 ((rdF 0 0 l).1:Nat),.int .i64 ((rdF 0 0 l).2:Nat)])/\w=D:=by
 obtain⟨a,E,rfl,N,F,m,C⟩:=hv;unfold maxLen at F;have Hc:=Hd C
 clear C;go_enter Tryz.func112,Tryz.ntmps112;go_wp2;go_loop [4,9] (λu i=>∃k U:Nat,k<=9/\k<=l.length/\i=.int .i64 k/\u=.int .u64 (U:Nat)/\rdF 0 0 l=rdF k U (l.drop k)/\U<2 ^ (7*k)) (λ_ i=>l.length - (intOf i).toNat)
 case atStart=>exact⟨0,0,by omega,Vl _,rfl,rfl,rfl,by simp⟩
 case round =>
  obtain⟨k,U,t,O,rfl,rfl,n,G⟩:=hrel;have Heq:=Hd n
  clear n;by_cases o:k<l.length
  .obtain⟨x,rfl⟩:∃x,a=some x:=by
    cases a with
    | none=>have:=m rfl;omega
    | some x=>exact⟨x,rfl⟩
   obtain⟨P,Q,H⟩:=x;obtain⟨h,p⟩:=Hc.out _ rfl;obtain rfl:H=none:=h (by omega);clear h;have hcell:=p k o
   simp only at hcell;clear p Hc;have R:(k:Int)<(l.length:Int):=by omega
   obtain⟨b,y⟩:∃b,Hid ((l[k]).toNat=b):=⟨(l[k]).toNat,Hd rfl⟩;rw[y.out] at hcell;have z:b<256:=by rw[<-y.out];exact(l[k]).toNat_lt
   have c:l.drop k=l[k]::l.drop (k+1):=List.drop_eq_getElem_cons o;have hstep:=Heq.out;rw[c,rdF,y.out] at hstep;have Hs:=Hd hstep;clear hstep c;by_cases q:k=9/\1<b
   .obtain⟨rfl,r⟩:=q
    obtain⟨I,A⟩:(1:Int)<(b:Int)/\(9:Int)<(l.length:Int):=by omega
    go_wp2;go_ret2;refine⟨?_,rfl⟩;have Hs2:=Hs.out
    simp only[true_and,r,true_or,if_true] at Hs2;rw[Hs2];rfl
   .have J:decide ((9:Int)<(k:Int))=false:=by simp;omega
    have g:=or7 U b k G z t
    have d:U+b % 128*2 ^ (7*k)<2 ^ (7*(k+1)):=by
     rw[pow7];have L:b % 128*2 ^ (7*k)<=127*2 ^ (7*k):=Ug _ (by omega)
     omega
    have f:U+b % 128*2 ^ (7*k)<18446744073709551616:=by
     by_cases j:k=9
     .subst j
      have:b % 128<=1:=by omega
      have L:b % 128*2 ^ (7*9)<=1*2 ^ (7*9):=Ug _ this;omega
     .have S:2 ^ (7*(k+1))<=2 ^ 63:=Nat.pow_le_pow_right (by decide) (by omega);omega
    rw[Nat.mod_eq_of_lt f] at g;obtain⟨V,s⟩:∃V,Hid (U+b % 128*2 ^ (7*k)=V):=⟨_,Hd rfl⟩;rw[s.out] at g;rw[s.out] at d;clear f
    have j:(k=9/\b<=1/\decide ((1:Int)<(b:Int))=false)\/((k:Int)==9)=false:=by
     by_cases j:k=9
     .left;simp;omega
     .right;simp;omega
    by_cases h:b<128
    .have B:(b:Int)<128:=by omega
     rcases j with ⟨rfl,r,I⟩ | j
     .have A:(9:Int)<(l.length:Int):=by omega
      rw[show ((2:Int) ^ (7*9))=9223372036854775808 from rfl] at g
      go_wp2;go_ret2;refine⟨?_,rfl⟩;rw[Hs.out,if_neg (by omega),if_pos h,s.out];rfl
     .go_wp2;go_ret2;refine⟨?_,rfl⟩;rw[Hs.out,if_neg (by omega),if_pos h,s.out];rfl
    .have B:¬(b:Int)<128:=by omega
     have M:k<9:=by omega
     have j:((k:Int)==9)=false:=by simp;omega
     go_wp2;go_round
     case rel =>
      refine⟨k+1,V,by omega,by omega,by go_num,rfl,?_,d⟩;rw[Hs.out,if_neg (by omega),if_neg h,s.out]
     case measure=>simp[intOf];omega
  .obtain rfl:k=l.length:=by omega
   go_wp2;go_ret2;refine⟨?_,rfl⟩;rw[Heq.out,List.drop_length];rfl
end
section
open Go.RowKit
def three (r:Int × Int × Bool):Value:=.tuple #[.int .i64 r.1,.int .i64 r.2.1,.bool r.2.2]
theorem Zii (v:Value) (l:List UInt8) (n:Int) (w:World) (hv:IsB w v l) (hl:l.length<=140737488355328) (h1:-9223372036854775808<=n) (h2:n<=9223372036854775807) :
  Calls Tryz.prog 74 #[v,.int .i64 n] w λe o=>e=.returned (three (takeI l n))/\w=o:=by
 have B:=hv;obtain⟨a,C,rfl,Q,R,p,H⟩:=B;unfold maxLen at R;have Hc:=Hd H;clear H;by_cases D:n<0
 .go_enter Tryz.func74,Tryz.ntmps74;go_wp2;go_ret3;refine⟨?_,rfl⟩;rw[takeI_out (.inl D)];rfl
 .by_cases E:(l.length:Int)<n
  .go_enter Tryz.func74,Tryz.ntmps74;go_wp2;go_ret3;refine⟨?_,rfl⟩;rw[takeI_out (.inr E)];rfl
  .obtain⟨m,rfl⟩:=Ub (show 0<=n by omega)
   have g:m<=l.length:=by omega
   have S:=λw=>run_cut_l (P:=Tryz.prog) w Tryz.underlying77 Zbg a l.length C m (m:Int) rfl g;have hcut:=hv.cut m l.length g (Va _);rw[List.take_length] at hcut;have Htk:=Hd (takeI_in g);have hin:=rdF_inv (l.drop m) 0 0;obtain⟨u,k,c⟩:∃u k,Hid (rdF 0 0 (l.drop m)=(u,k)):=⟨_,_,Hd rfl⟩;have hin:=hin u k (by omega) c.out;by_cases i:k=0
   .subst i;clear hin;go_enter Tryz.func74,Tryz.ntmps74;go_wp2_with fail;refine(bits_any _ (l.drop m) _ hcut).mono ?_;rintro e o ⟨rfl,rfl⟩;rw[c.out];go_wp2_with fail;go_ret3;refine⟨?_,rfl⟩;rw[Htk.out,dec,c.out,if_pos (.inl rfl)];rfl
   .obtain⟨F,G,d,I,j,_⟩:=hin i
    clear hin;simp only[Nat.mul_zero,Nat.pow_zero,Nat.mul_one,Nat.zero_add,Nat.sub_zero,List.length_drop] at I j F G;subst I;have q:u<18446744073709551616:=by simpa using j
    clear j;have T:¬(k:Int)<=0:=by omega
    by_cases r:k=1
    .subst r;go_enter Tryz.func74,Tryz.ntmps74;go_wp2_with fail;refine(bits_any _ (l.drop m) _ hcut).mono ?_;rintro e o ⟨rfl,rfl⟩;rw[c.out];go_wp2_with fail;go_ret3;refine⟨?_,rfl⟩;rw[Htk.out,dec,c.out,if_neg (by simp),pack,<-zag_walk u q];rfl
    .obtain⟨x,rfl⟩:∃x,a=some x:=by
      cases a with
      | none=>have:=p rfl;omega
      | some x=>exact⟨x,rfl⟩
     obtain⟨X,Y,U⟩:=x;obtain⟨J,s⟩:=Hc.out _ rfl;obtain rfl:U=none:=J (by omega);clear J;have t:m+k - 1<l.length:=by omega
     have f:=s (m+k - 1) t;simp only at f;clear s Hc;obtain⟨b,L⟩:∃b,Hid ((l[m+k - 1]).toNat=b):=⟨(l[m+k - 1]).toNat,Hd rfl⟩;rw[L.out] at f;obtain⟨V,M,N,O⟩:(1:Int)<(k:Int)/\0<=(m:Int)+(k:Int) - 1/\(m:Int)+(k:Int) - 1<(l.length:Int)/\((m:Int)+(k:Int) - 1).toNat=m+k - 1:=by omega
     have y:(l.drop m).getD (k - 1) 0=0↔b=0:=by
      rw[<-L.out,List.getD_eq_getElem?_getD,List.getElem?_drop,show m+(k - 1)=m+k - 1 by omega,List.getElem?_eq_getElem t,Option.getD_some]
      constructor
      .intro h;rw[h];rfl
      .intro h;exact UInt8.toNat_inj.1 h
     have z:=Hd y;clear y;by_cases A:b=0
     .subst A;go_enter Tryz.func74,Tryz.ntmps74;go_wp2_with fail;refine(bits_any _ (l.drop m) _ hcut).mono ?_;rintro e o ⟨rfl,rfl⟩;rw[c.out];go_wp2_with fail;go_ret3;refine⟨?_,rfl⟩;rw[Htk.out,dec,c.out,if_pos (.inr ⟨by simp only;omega,z.out.2 (by trivial)⟩)];rfl
     .have W:((b:Int)==0)=false:=by simp;omega
      go_enter Tryz.func74,Tryz.ntmps74;go_wp2_with fail;refine(bits_any _ (l.drop m) _ hcut).mono ?_;rintro e o ⟨rfl,rfl⟩;rw[c.out];go_wp2_with fail;go_ret3;refine⟨?_,rfl⟩;rw[Htk.out,dec,c.out,if_neg (by simp only;rintro(h | ⟨_,h⟩);exact i h;exact A (z.out.1 h)),pack,<-zag_walk u q];rfl
end
section
open Go.RowKit
abbrev strB (l:List UInt8):ByteArray:=⟨l.toArray⟩
theorem strB_size (l:List UInt8):(strB l).size=l.length:=by simp[strB,ByteArray.size]
theorem str_append (a b:List UInt8):(⟨a.toArray⟩:ByteArray)++⟨b.toArray⟩=⟨(a++b).toArray⟩:=by apply ByteArray.ext;simp
theorem Zdh (l:List UInt8) (n h:Nat):(strB l).extract n h=strB ((l.take h).drop n):=by apply ByteArray.ext;rw[ByteArray.data_extract];simp[strB,List.extract_toArray,List.extract_eq_take_drop];rw[List.drop_take]
section
variable {P : Program} {t : TypeId} (ht : P.underlying t = some .string)
include ht
theorem run_str_l (w:World) (l:List UInt8) (n:Nat) (hn:n<=l.length):(Instr.slice t (.string ⟨l.toArray⟩) (some (.int .i64 (n:Int))) none none).run P w=.ok (.string ⟨(l.drop n).toArray⟩) w:=by have h:=run_slice_string_l (P:=P) w t (strB l) ht .i64 (n:Int) (by omega) (by rw[strB_size];omega);rw[strB_size,Int.toNat_natCast,Zdh,List.take_length] at h;exact h
theorem run_str_h (w:World) (l:List UInt8) (k:Nat) (hk:k<=l.length):(Instr.slice t (.string ⟨l.toArray⟩) none (some (.int .i64 (k:Int))) none).run P w=.ok (.string ⟨(l.take k).toArray⟩) w:=by have h:=run_slice_string_h (P:=P) w t (strB l) ht .i64 (k:Int) (by omega) (by rw[strB_size];omega);rw[Int.toNat_natCast,Zdh,List.drop_zero] at h;exact h
theorem run_str_lh (w:World) (l:List UInt8) (n k:Nat) (hn:n<=k) (hk:k<=l.length):(Instr.slice t (.string ⟨l.toArray⟩) (some (.int .i64 (n:Int))) (some (.int .i64 (k:Int))) none).run P w=.ok (.string ⟨((l.take k).drop n).toArray⟩) w:=by have h:=run_slice_string (P:=P) w t (strB l) .i64 .i64 (n:Int) (k:Int) ht (by omega) (by omega) (by rw[strB_size];omega);rw[Int.toNat_natCast,Int.toNat_natCast,Zdh] at h;exact h
end
end
section
open Go.RowKit
abbrev stp (b:Nat):Value:=.pointer (some ⟨b,0,none⟩)
abbrev txtR (v:List UInt8) (b:Bool) (y:Int):Value:=.tuple #[.string ⟨v.toArray⟩,.bool b,.int .i64 y]
def GotK (r:List UInt8 × Bool) (Bad:Int->Prop) (v:List UInt8) (b:Bool) (y:Int):Prop:=(y=0/\v=r.1/\b=r.2)\/(Bad y/\v=[]/\b=false)
structure Ans (T:World->Prop) (X:Nat->Prop) (tb sb:Nat) (c:UInt8->List UInt8->Option (List UInt8)) (sums:Option (List UInt8)) (Bad:Int->Prop):Prop where
 get:∀(w:World) (key:List UInt8),T w->key.length<=80->Calls Tryz.prog 52 #[stp tb,.string ⟨key.toArray⟩] w λe w'=>T w'/\Zb X w w'/\∃v b y,e=.returned (txtR v b y)/\GotK (encK c sums key) Bad v b y
 step:∀w w',T w->Below w.heap.size w w'->T w'
 cell:∀w,T w->w.cell? ⟨sb,2,none⟩=some (stp tb)
 few:∀s k v,c s k=some v->v.length<=4096
 bad:∀y,Bad y->y≠0/\¬(40<=y/\y<=44)
def optV (o:Option (List UInt8)):List UInt8 × Bool:=match o with | none=>([],false) | some v=>(v,true)
def GetEnd4 (T:World->Prop) (X:Nat->Prop) (w:World) (r:List UInt8 × Bool) (Bad:Int->Prop) (e:Ending) (w':World):Prop :=
 T w'/\Zb X w w'/\∃v b y,e=.returned (txtR v b y)/\GotK r Bad v b y
section
variable {T : World → Prop} {X : Nat → Prop} {tb sb : Nat} {c : UInt8 → List UInt8 → Option (List UInt8)} {sums : Option (List UInt8)} {Bad : Int → Prop}
theorem encK_at (s:UInt8) {j:Nat} (hj:j<256) (k:List UInt8):encK c sums (Ye s j k)=match c s k with | none=>([],false) | some v=>if j<=v.length / 190 then (Qk v j,true) else ([],false):=by
 have e:(UInt8.ofNat j).toNat=j:=by rw[UInt8.toNat_ofNat'];omega
 show (match c s k with | none=>([],false) | some v=>if (UInt8.ofNat j).toNat<=v.length / 190 then (Qk v (UInt8.ofNat j).toNat,true) else ([],false))=_
 rw[e]
theorem Ans.drew (A:Ans T X tb sb c sums Bad) {w:World} (h:T w):T w.drew:=A.step _ _ h ((Ve _ _).drew)
theorem kget_any (A:Ans T X tb sb c sums Bad) (w:World) (hT:T w) (sp:Nat) (key:List UInt8) (hsp:sp<=255) (hk:key.length<=64) :
  Calls Tryz.prog 45 #[stp sb,.int .i64 (sp:Int),.string ⟨key.toArray⟩] w (GetEnd4 T X w (optV (c (UInt8.ofNat sp) key)) Bad):=by
 obtain⟨s,hs⟩:∃s,s=UInt8.ofNat sp:=⟨_,rfl⟩;have HPL:=Hd (λ(w:World) (j:Nat) (hj:j<=255)=>Zct w sp j key hsp hj hk)
 have H:=Hd (λ(j:Nat) (hj:j<256)=>encK_at (c:=c) (sums:=sums) s hj key);have J:Hid (∀j,(Ye s j key).length<=80):=Hd λj=>by simp only[Ye,List.length_cons];omega
 rw[<-hs] at HPL ⊢;have L:Hid (∀w:World,Calls Tryz.prog 58 #[.int .i64 (sp:Int),.int .i64 0,.string ⟨key.toArray⟩] w λr w'=>r=.returned (.string ⟨(Ye s 0 key).toArray⟩)/\Below w.heap.size w w'):=Hd λw=>HPL.out w 0 (by omega)
 have g:=Hd A;have HT:=Hd hT;have c0:=A.cell w hT;have c0d:=A.cell w.drew (A.drew hT);clear A hs hT;go_enter Tryz.func45,Tryz.ntmps45;go_wp2_with fail;refine rgA (S:=(λW=>W.cell? ⟨sb,2,none⟩=some (stp tb))) c0 (λhH=>?_);refine tdI [0,1,2,3,4,5] ?_
 iterate 6
  refine tdS (v:=?_) ?_ hH ?_;rotate_left
  .intro w d;have hS1:=d;go_simp;try with_reducible rfl
  try simp only[Act.put,zA,zB,zC]
 refine tdE ?_;refine rdA 6 rfl (λK i=>?_);go_simp;refine(L.out _).mono ?_;rintro e w1 ⟨rfl,hb1⟩;have hb1:=(Ve w.heap.size w).drew.trans hb1
 have M:=Hd (g.out.step _ _ HT.out hb1);have N:Hid (Zb X w w1):=Hd (Zb.of_below hb1);clear hb1;go_wp2_with fail;refine i.out _ _ (g.out.cell _ M.out) (λhH=>?_);clear i K;try simp only[Act.put,zA,zB,zC]
 refine rdA 7 rfl (λK i=>?_);go_simp;refine(g.out.get w1 _ M.out (J.out 0)).mono ?_;rintro e w2 ⟨O,Q,v2,b2,y2,rfl,l⟩;have HT2:=Hd O
 have h:=Hd (N.out.trans Q);have HGOT2:=Hd l;clear O Q l;go_wp2_with fail;refine i.out _ _ (g.out.cell _ HT2.out) (λhH=>?_);clear i K;try simp only[Act.put,zA,zB,zC]
 refine tdI [8,9,10,11,12,13,14] ?_
 iterate 7
  refine tdS (v:=?_) ?_ hH ?_;rotate_left
  .intro w d;have hS1:=d;go_simp;try with_reducible rfl
  try simp only[Act.put,zA,zB,zC]
 refine tdE ?_;refine dnA ?_;rcases HGOT2.out with ⟨rfl,rfl,rfl⟩ | ⟨a,rfl,rfl⟩;rotate_left
 .have ab:y2≠0:=(g.out.bad _ a).1;have HB:=Hd a;clear a hH;go_wp2_with fail;exact Vn (v:=txtR [] false y2) (by simp[results,Tryz.results45,go_sem]) rfl ⟨HT2.out,h.out,_,_,_,rfl,.inr ⟨HB.out,rfl,rfl⟩⟩
 clear HGOT2 hH;rw[H.out 0 (by omega)]
 cases R:c s key with
 | none =>
  dsimp only;go_wp2_with fail;exact Vn (v:=txtR [] false 0) (by simp[results,Tryz.results45,go_sem]) rfl ⟨HT2.out,h.out,_,_,_,rfl,.inl ⟨rfl,by rw[R];rfl,by rw[R];rfl⟩⟩
 | some v =>
  have U:=g.out.few s key v R;dsimp only;rw[if_pos (Vl _),piece_zero];have htk:=takeI_zero (v.length:Int) (by omega) (by omega) (v.take 190);obtain⟨I,hI⟩:∃I,I=Zaq (v.length:Int):=⟨_,rfl⟩;have V:I.length<=10:=by rw[hI];exact(Zdi _ (by omega) (by omega)).2
  rw[<-hI] at htk ⊢;have ad:(I++v.take 190).length<=200:=by rw[List.length_append,List.length_take];omega
  have f:(I++v.take 190).drop I.length=v.take 190:=List.drop_left ..;have Y:I.length<=(I++v.take 190).length:=by rw[List.length_append];omega
  obtain⟨A,hA⟩:∃A,A=I++v.take 190:=⟨_,rfl⟩;rw[<-hA] at htk ad f Y ⊢;clear hA;have C:(⟨A.toArray⟩:ByteArray).size=A.length:=by simp[ByteArray.size]
  have n:=λw:World=>run_str_l (P:=Tryz.prog) Tryz.underlying9 w A I.length Y;rw[f] at n;clear f hI;obtain⟨V0,D⟩:∃V0,V0=v.take 190:=⟨_,rfl⟩;rw[<-D] at n;have HV0:=Hd D;have d1:decide ((v.length:Int)<0)=false:=Vb (by omega);have d2:decide ((v.length:Int) > 4096)=false:=Vb (by omega);have d3:decide ((4096:Int)<(v.length:Int))=false:=Vb (by omega);have d4:decide (v.length > 4096)=false:=Vb (by omega);have HV:=Hd U;have HC:=Hd R;have HIL:=Hd V;have HTK:=Hd htk;clear U R V htk D;go_wp2_with ((with_reducible refine Zij (.tmp 40) 9 77 5 Tryz.underlying9 Tryz.underlying77 Tryz.underlying5 ⟨A.toArray⟩ ?_ (by rw[C];omega) ?_);(exact rfl);intro ae w3 af ag b E Z a0);rw[C] at b;have b:IsB w3 (.slice (some ⟨w2.heap.size,0,none⟩) A.length ae) A:=b;have HT3:=Hd (g.out.step _ _ HT2.out E);have o:Hid (Zb X w w3):=Hd (h.out.trans (Zb.of_below E));have HTI:=Hd (Zii _ A 0 w3 b (by omega) (by omega) (by omega));rw[HTK.out] at HTI;clear b E Z a0 af ag C HT2 h;refine HTI.out.mono ?_;rintro e w4 ⟨rfl,e4⟩;obtain rfl:w3=w4:=e4;clear HTI;unfold three;dsimp only;have c3:=g.out.cell _ HT3.out;go_wp2_with fail
  go_loopw [15,16] (λx k wr=>∃(j:Nat) (p:List UInt8),1<=j/\(j - 1)*190<=v.length/\k=.int .i64 (j:Int)/\x=.string ⟨p.toArray⟩/\Hid (p=v.take (j*190))/\T wr/\Zb X w wr) (λ_ k _=>30 - (intOf k).toNat)
  case atStart=>exact⟨1,V0,Va _,by omega,rfl,rfl,Hd HV0.out,HT3.out,o.out⟩
  case round =>
   obtain⟨j,p,a1,a2,rfl,rfl,HP,F,t⟩:=hrel;have HTR:=Hd F
   have u:=Hd t;have cR:=g.out.cell _ F;have y:p.length=min (j*190) v.length:=by rw[HP.out,List.length_take]
   have U:=HV.out;clear F t HT3 o c3 HTK HIL HV0;by_cases a3:j*190<v.length
   .have e1:decide ((p.length:Int)<(v.length:Int))=true:=Vd (by omega)
    have e2:decide (p.length<v.length)=true:=Vd (by omega);have z:j<=22:=by omega
    have a4:Hid (encK c sums (Ye s j key)=((v.drop (j*190)).take 190,true)):=Hd (by rw[H.out j (by omega),HC.out];dsimp only;rw[if_pos (by omega),piece_succ v j (by omega)]);obtain⟨q,hq⟩:∃q,q=(v.drop (j*190)).take 190:=⟨_,rfl⟩;have a5:q.length=min 190 (v.length - j*190):=by rw[hq,List.length_take,List.length_drop]
    have ah:q≠[]:=λe=>by rw[e,List.length_nil] at a5;omega
    have ak:q.isEmpty=false:=by rw[List.isEmpty_eq_false_iff];exact ah
    rw[<-hq] at a4
    have G:Hid (p++q=v.take ((j+1)*190)):=Hd (by
     rw[HP.out,hq,<-List.take_add];congr 1
     omega)
    have al:IntKind.i64.wrap ((j:Int)+1)=(j:Int)+1:=Vf _ (by omega);have aj:¬(9223372036854775807<p.length+q.length):=by omega
    have hM:Hid (j<=22/\j*190<=v.length):=Hd ⟨z,by omega⟩;have a6:Hid (∀w:World,Calls Tryz.prog 58 #[.int .i64 (sp:Int),.int .i64 (j:Int),.string ⟨key.toArray⟩] w λr w'=>r=.returned (.string ⟨(Ye s j key).toArray⟩)/\Below w.heap.size w w'):=Hd λw=>HPL.out w j (by omega);clear hq a5 y U a1 a2 z a3;go_wp2_with fail;refine rgA (S:=(λW=>W.cell? ⟨sb,2,none⟩=some (stp tb))) cR (λhH=>?_);refine tdI [0,1,2,3,4,5,6] ?_
    iterate 7
     refine tdS (v:=?_) ?_ hH ?_;rotate_left
     .intro w d;have hS1:=d;go_simp;try with_reducible rfl
     try simp only[Act.put,zA,zB,zC]
    refine tdE ?_;refine rdA 7 rfl (λK i=>?_);go_simp;refine(a6.out _).mono ?_;rintro e w5 ⟨rfl,hb5⟩;have hb5:=(Ve wr.heap.size wr).drew.trans hb5
    have a7:=Hd (g.out.step _ _ HTR.out hb5);have a8:Hid (Zb X w w5):=Hd (u.out.trans (Zb.of_below hb5));clear hb5;go_wp2_with fail;refine i.out _ _ (g.out.cell _ a7.out) (λhH=>?_);clear i K;try simp only[Act.put,zA,zB,zC]
    refine rdA 8 rfl (λK i=>?_);go_simp;refine(g.out.get w5 _ a7.out (J.out j)).mono ?_;rintro e w6 ⟨a9,aa,v6,b6,y6,rfl,m⟩;have HT6:=Hd a9
    have B:=Hd (a8.out.trans aa);have HGOT6:=Hd m;clear a9 aa m;go_wp2_with fail;refine i.out _ _ (g.out.cell _ HT6.out) (λhH=>?_);clear i K;try simp only[Act.put,zA,zB,zC]
    refine tdI [9,10,11,12,13,14,15] ?_
    iterate 7
     refine tdS (v:=?_) ?_ hH ?_;rotate_left
     .intro w d;have hS1:=d;go_simp;try with_reducible rfl
     try simp only[Act.put,zA,zB,zC]
    refine tdE ?_;refine dnA ?_;rcases HGOT6.out with ⟨rfl,rfl,rfl⟩ | ⟨a,rfl,rfl⟩;rotate_left
    .have ab:y6≠0:=(g.out.bad _ a).1;have HB:=Hd a;clear a hH;go_wp2_with fail;exact Vn (v:=txtR [] false y6) (by simp[results,Tryz.results45,go_sem]) rfl ⟨HT6.out,B.out,_,_,_,rfl,.inr ⟨HB.out,rfl,rfl⟩⟩
    clear HGOT6 hH;rw[a4.out];dsimp only;go_wp2_with fail;refine⟨⟨j+1,p++q,by omega,by have:=hM.out.2;omega,rfl,by rw[str_append],Hd G.out,HT6.out,B.out⟩,?_⟩
    have:=hM.out.1;simp only[intOf];omega
   .have e1:decide ((p.length:Int)<(v.length:Int))=false:=Vb (by omega)
    have e2:decide (p.length<v.length)=false:=Vb (by omega);have ai:p=v:=by rw[HP.out,List.take_of_length_le (by omega)]
    subst ai;clear y U a1 a2 a3;go_wp2_with fail;exact Vn (v:=txtR p true 0) (by simp[results,Tryz.results45,go_sem]) rfl ⟨HTR.out,u.out,_,_,_,rfl,.inl ⟨rfl,by rw[HC.out];rfl,by rw[HC.out];rfl⟩⟩
end
end
section
open Go.RowKit Go.Shelf Go.Lib
variable {key:List UInt8}{T:Nat→Prop}
abbrev stO (F:Ft) (q tb:Nat) (sq wt off:Int):Obj:=.cells #[F.ptr,Qs q,trp tb,.int .i64 sq,.int .i64 wt,.int .i64 off] 99 (0,0)
def KJ (F:Ft) (p:Nat) (f:Pf) (sb:Nat) (i:Nat):Prop:=PJ F p f i\/i=sb
structure KS (n m k:Nat) (c:Int) (o:Nat) (F:Ft) (p tb sb:Nat) (sq wt off:Int) (a b:List KV) (w:World) (f:Pf):Prop where
 pk:PK n m k c o F p a b w f tb
 head:w.heap[sb]?=some (stO F f.q tb sq wt off)
 ap:¬PJ F p f sb
 ne:sb≠tb/\sb≠0
def Xe (n m k:Nat) (c:Int) (o:Nat) (F:Ft) (p tb sb:Nat) (sq wt off:Int) (a b:List KV) (w:World) (f:Pf) (w':World):Prop :=
 ∃f',KS n m k c o F p tb sb sq wt off a b w' f'/\f'.q=f.q/\(∀i,PT f' i->PT f i\/w.heap.size<=i)/\Zb (KJ F p f sb) w w'
section
variable {n m k k1 : Nat} {c : Int} {o o1 : Nat} {F : Ft} {p tb sb : Nat} {sq wt off sq1 wt1 off1 : Int} {a b a1 b1 : List KV} {w w' w1 w2 : World} {f f1 : Pf}
theorem PK.tr (h:PK n m k c o F p a b w f tb):∃J d B R,Tr n J d B w F p f R tb:=by obtain⟨J,d,B,R,t,x⟩:=h.ex;exact⟨J,d,B,R,t⟩
theorem PK.turned (h:PK n m k c o F p a b w f tb) (ht:Zb T w w') (e:∀i,PJ F p f i\/i=0->¬T i) (hb:¬T tb):PK n m k c o F p a b w' f tb:=by obtain⟨J,d,B,R,t,x⟩:=h.ex;exact⟨⟨J,d,B,R,t.turned ht e hb,x⟩,h.n6,h.m4,h.m255⟩
theorem PK.tlt (h:PK n m k c o F p a b w f tb):tb<w.heap.size/\¬PJ F p f tb/\0<w.heap.size/\¬PJ F p f 0:=by
 obtain⟨J,g,B,R,t⟩:=h.tr;refine⟨Za t.head,t.apart,t.lp.nib_lt,λe=>?_⟩;obtain⟨P,i,d,j⟩:=t.lp;rcases e with e | e
 .exact d.nib.apart d.jat e
 .exact(d.apart _ e).2.1 rfl
theorem KS.step (h:KS n m k c o F p tb sb sq wt off a b w f) (hb:Below w.heap.size w w'):KS n m k c o F p tb sb sq wt off a b w' f:=⟨h.pk.step hb,(hb.block _ (Za h.head)).trans h.head,h.ap,h.ne⟩
theorem KS.lt (h:KS n m k c o F p tb sb sq wt off a b w f) {i:Nat} (d:KJ F p f sb i):i<w.heap.size:=d.elim (λe=>h.pk.lt e) λe=>by rw[e];exact Za h.head
theorem KS.cells (h:KS n m k c o F p tb sb sq wt off a b w f):w.cell? ⟨sb,0,none⟩=some F.ptr/\w.cell? ⟨sb,1,none⟩=some (Qs f.q)/\w.cell? ⟨sb,2,none⟩=some (trp tb)/\w.cell? ⟨sb,3,none⟩=some (.int .i64 sq)/\w.cell? ⟨sb,4,none⟩=some (.int .i64 wt)/\w.cell? ⟨sb,5,none⟩=some (.int .i64 off):=by
 refine⟨?_,?_,?_,?_,?_,?_⟩<;>· rw[Vc _ _ _ _ _ _ h.head];rfl
theorem KS.turned (h:KS n m k c o F p tb sb sq wt off a b w f) (ht:Zb T w w') (d:∀i,KJ F p f sb i\/i=0->¬T i) (hb:¬T tb):KS n m k c o F p tb sb sq wt off a b w' f :=
 ⟨h.pk.turned ht (λi e=>d i (e.imp .inl id)) hb,(ht.block _ (Za h.head) (d _ (.inl (.inr rfl)))).trans h.head,h.ap,h.ne⟩
theorem KS.own (h:KS n m k c o F p tb sb sq wt off a b w f) (ht:Zb (·=sb) w w') (hh:w'.heap[sb]?=some (stO F f.q tb sq1 wt1 off1)):KS n m k c o F p tb sb sq1 wt1 off1 a b w' f :=
 ⟨h.pk.turned ht (λi d e=>by
  subst e;rcases d with d | d
  .exact h.ap d
  .exact h.ne.2 d) (λe=>h.ne.1 e.symm),hh,h.ap,h.ne⟩
theorem KS.put_now (h:KS n m k c o F p tb sb sq wt off a b w f) (d s2:Int):KS n m k c o F p tb sb d s2 off a b ((w.setCell ⟨sb,3,none⟩ (.int .i64 d)).setCell ⟨sb,4,none⟩ (.int .i64 s2)) f :=
 h.own ((Zc w sb 3 _).trans (Zc _ sb 4 _)) (Ze (Ze h.head _) _)
theorem Xe.same (h:KS n m k c o F p tb sb sq wt off a b w f):Xe n m k c o F p tb sb sq wt off a b w f w:=⟨f,h,rfl,λ_ d=>.inl d,Zb.refl _ _⟩
theorem Xe.comp (q:f1.q=f.q) (t:∀i,PT f1 i->PT f i\/w.heap.size<=i) (u:Zb (KJ F p f sb) w w1) (h2:Xe n m k1 c o1 F p tb sb sq1 wt1 off1 a1 b1 w1 f1 w2):Xe n m k1 c o1 F p tb sb sq1 wt1 off1 a1 b1 w f w2:=by
 obtain⟨g,h,j,l,r⟩:=h2;refine⟨g,h,j.trans q,λi d=>?_,u.then r λi d e=>?_⟩
 .rcases l i d with e | e
  .exact t i e
  .exact .inr (Vk u.size e)
 .rcases e with (e | e) | e
  .exact .inl (.inl e)
  .rcases t i e with e | e
   .exact .inl (.inr e)
   .omega
  .exact .inr e
theorem Xe.ahead (hb:Below w.heap.size w w1) (h2:Xe n m k1 c o1 F p tb sb sq1 wt1 off1 a1 b1 w1 f w2):Xe n m k1 c o1 F p tb sb sq1 wt1 off1 a1 b1 w f w2:=Xe.comp rfl (λ_ h=>.inl h) (Zb.of_below hb) h2
theorem Xe.step (h:Xe n m k c o F p tb sb sq wt off a b w f w1) (hb:Below w1.heap.size w1 w2):Xe n m k c o F p tb sb sq wt off a b w f w2:=by obtain⟨f1,a1,d,e,g⟩:=h;exact⟨f1,a1.step hb,d,e,g.trans (Zb.of_below hb)⟩
theorem KS.to (h:KS n m k c o F p tb sb sq wt off a b w f) (h2:PKto n m k1 c o1 F p a1 b1 w f tb w'):Xe n m k1 c o1 F p tb sb sq wt off a1 b1 w f w':=by
 obtain⟨j,l,d,g,i⟩:=h2;have hlt:=Za h.head
 refine⟨j,⟨l,by rw[d];exact(i.block _ hlt h.ap).trans h.head,λe=>?_,h.ne⟩,d,g,i.mono λ_ _ e=>.inl e⟩;rcases e with e | e
 .exact h.ap (.inl e)
 .rcases g _ e with e | e
  .exact h.ap (.inr e)
  .omega
theorem KS.read (h:KS n m k c o F p tb sb sq wt off a b w f) (h2:PK n m k c o F p a b w' f tb) (ht:Zb (PJ F p f) w w'):KS n m k c o F p tb sb sq wt off a b w' f:=⟨h2,(ht.block _ (Za h.head) h.ap).trans h.head,h.ap,h.ne⟩
theorem KS.del (h:KS n m k c o F p tb sb sq wt off a b w f) (hr:Roomy m a) (hk:key.length<=80):Calls Tryz.prog 100 #[stp tb,.string ⟨key.toArray⟩] w λe w'=>(∃x,e=.returned (.tuple #[.bool x,.int .i64 0]))/\Xe n m k c o F p tb sb sq wt off (Zbi a key) b w f w' :=
 (del_pk h.pk hr hk).mono λe w' d=>⟨⟨_,d.1⟩,h.to d.2⟩
theorem KS.put (h:KS n m k c o F p tb sb sq wt off a b w f) (hr:Roomy m a) {val:List UInt8} (hk:key.length<=80) (hv:val.length<=200):Calls Tryz.prog 65 #[stp tb,.string ⟨key.toArray⟩,.string ⟨val.toArray⟩] w λe w'=>e=.returned (.int .i64 0)/\Xe n m k c o F p tb sb sq wt off (Zcd a key val) b w f w' :=
 (put_pk h.pk hr hk hv).mono λe w' d=>⟨d.1,h.to d.2⟩
theorem KS.commit (h:KS n m k c o F p tb sb sq wt off a b w f) (hc:c<0) (i:o+(8+16*m)<=1048576) (g:k<=1000000):Calls Tryz.prog 44 #[Qs f.q] w λe w'=>e=.returned (.int .i64 0)/\∃d,d<=o+(8+16*m)/\Xe n m (k+1) c d F p tb sb sq wt off a a w f w' :=
 (commit_pk h.pk hc i g).mono λe w' j=>by obtain⟨l,d,r,s⟩:=j;exact⟨l,d,r,h.to s⟩
variable {M : List KV} {sums : Option (List UInt8)}
theorem KS.ans (hE:Qe a M sums):Ans (λW=>KS n m k c o F p tb sb sq wt off a b W f) (PJ F p f) tb sb (ctM M) sums (λ_=>False):=by
 refine⟨λw key h g=>(get_pk h.pk g).mono λe w' i=>?_,λw w' h j=>h.step j,λw h=>h.cells.2.2.1,hE.enc.few,λy h=>h.elim⟩;obtain⟨rfl,l,d⟩:=i
 refine⟨h.read l d,d,_,_,_,rfl,.inl ⟨rfl,?_,?_⟩⟩<;>rw[hE.enc.get]
theorem optV_get (M:List KV) (s:UInt8) (key:List UInt8):optV (ctM M s key)=Zv M (s::key):=by
 unfold ctM
 cases d:(Zv M (s::key)).2 with
 | false=>rw[if_neg (by simp),get_none d];rfl
 | true=>rw[if_pos rfl];exact Prod.ext rfl d.symm
theorem kget_ks (h:KS n m k c o F p tb sb sq wt off a b w f) (hE:Qe a M sums) (sp:Nat) (key:List UInt8) (hsp:sp<=255) (hk:key.length<=64):
  Calls Tryz.prog 45 #[stp sb,.int .i64 (sp:Int),.string ⟨key.toArray⟩] w λe w'=>e=.returned (txtR (Zv M (UInt8.ofNat sp::key)).1 (Zv M (UInt8.ofNat sp::key)).2 0)/\KS n m k c o F p tb sb sq wt off a b w' f/\Zb (PJ F p f) w w' :=
 (kget_any (KS.ans (n:=n) (m:=m) (k:=k) (c:=c) (o:=o) (F:=F) (p:=p) (tb:=tb) (sb:=sb) (sq:=sq) (wt:=wt) (off:=off) (b:=b) (f:=f) hE) w h sp key hsp hk).mono λe w' d=>by
  obtain⟨g,i,v,x,y,rfl,j⟩:=d;rcases j with ⟨rfl,rfl,rfl⟩ | ⟨l,_⟩
  .rw[optV_get];exact⟨rfl,g,i⟩
  .exact l.elim
end
end
section
open Go.RowKit
theorem zig_pos (n:Int) (h0:0<=n) (h2:n<=9223372036854775807):bits .xor .u64 (n*2) (n / 9223372036854775808)=((zig n:Nat):Int):=by
 rw[show n / 9223372036854775808=0 by omega,xor_u64_zero _ (by omega) (by omega)]
 unfold zig;rw[if_pos h0];omega
theorem zig_neg (n:Int) (h0:¬0<=n) (h1:-9223372036854775808<=n) :
  bits .xor .u64 (IntKind.u64.wrap (IntKind.u64.wrap n*2)) (IntKind.u64.wrap (n / 9223372036854775808))=((zig n:Nat):Int):=by
 rw[show n / 9223372036854775808=-1 by omega,IntKind.wrap_u64 (-1),show (-1:Int) % 18446744073709551616=18446744073709551615 from rfl]
 rw[xor_u64_ones _ (by rw[IntKind.wrap_u64];omega) (by rw[IntKind.wrap_u64];omega),IntKind.wrap_u64,IntKind.wrap_u64];unfold zig;rw[if_neg h0];omega
def PutEnd (e:TypeId) (B:Nat) (w0:World) (l:List UInt8) (r:Ending) (w':World):Prop:=∃u,r=.returned u/\Mine e B w' u l/\Below B w0 w'
theorem putInt_any (v:Value) (l:List UInt8) (n:Int) (w:World) (hv:IsB w v l) (hl:l.length<=140737488355300) (h1:-9223372036854775808<=n) (h2:n<=9223372036854775807) :
  Calls Tryz.prog 66 #[v,.int .i64 n] w (PutEnd 5 w.heap.size w (l++Zaq n)):=by
 have m:=zig_lt n h1 h2;have hzl:=uv_len10 _ m;have A:∃Z,Z<18446744073709551616/\Hid (zig n=Z)/\(uv Z).length<=10:=⟨_,m,rfl,hzl.2⟩;by_cases s:0<=n
 all_goals
  first | have t:=zig_pos n s h2 | have t:=zig_neg n s h1
  clear m hzl
  obtain⟨Z,m,y,hzl⟩:=A
  rw[y.out] at t
  go_enter Tryz.func66,Tryz.ntmps66
  go_wp2_with (go_at_call 106;refine(clone_any _ l _ hv (by omega)).mono ?_;rintro e z ⟨u,rfl,B,C⟩)
  go_loopw [0,5] (λb i wr=>∃U a,i=.int .u64 (U:Nat)/\U<18446744073709551616/\Mine 5 w.heap.size wr b a/\a++uv U=l++uv Z/\Below w.heap.size w wr) (λ_ i _=>(intOf i).toNat)
  case atStart=>exact⟨Z,l,rfl,m,B,rfl,C⟩
  case round =>
   obtain⟨U,a,rfl,E,c,g,h⟩:=hrel;have hsz:=h.size
   have d:=Vs List.length g;simp only[List.length_append] at d;have hu1:=(uv_len10 U E).1;have F:a.length<=140737488355320:=by omega
   have o:=Hd g;clear g d;by_cases f:U<128
   .have G:¬(128:Int)<=(U:Int):=by omega
    obtain⟨x,Hx⟩:∃x,Hid (UInt8.ofNat U=x):=⟨_,rfl⟩
    have r:IsB (wr.alloc (.cells #[.int .u8 (U:Int)] 5)) (.slice (some ⟨wr.heap.size,0,none⟩) 1 1) [x]:=by
     have e:(U:Int)=((x.toNat:Nat):Int):=by rw[<-Hx.out,UInt8.toNat_ofNat'];omega
     rw[e];exact(Mine.lit [x] (Va _) (by simp[maxLen])).isB
    go_wp2_with (at_builtin;refine Zdo rfl (.tmp 25) (.tmp 28) 77 rfl w.heap.size 5 Zbg Tryz.underlying77 _ a rfl (c.alloc _) _ [x] rfl r (by simp;omega) (by simp;omega) ?_);intro H z j _ k _ _;go_wp2;go_ret;refine⟨_,rfl,?_,h.trans (((Ve _ _).alloc (by omega) _).trans k)⟩;have e:l++Zaq n=a++[x]:=by rw[Zaq,y.out,<-o.out,Zcn U f,Hx.out]
    rw[e];exact j
   .have G:(128:Int)<=(U:Int):=by omega
    have p:=or128_u8 U;obtain⟨x,Hx⟩:∃x,Hid (UInt8.ofNat (U % 128+128)=x):=⟨_,rfl⟩;obtain⟨D,q⟩:∃D,Hid (U / 128=D):=⟨_,rfl⟩;have I:(U:Int) / 128=(D:Int):=by have:=q.out;omega
    rw[Hx.out] at p;go_wp2_with (at_builtin;refine Zdo rfl (.tmp 19) (.tmp 23) 77 rfl w.heap.size 5 Zbg Tryz.underlying77 _ a rfl (c.alloc _) _ [x] rfl (Mine.lit [x] (Va _) (by simp[maxLen])).isB (by simp;omega) (by simp;omega) ?_);intro H z j _ k _ _;clear c;go_wp2;go_roundw
    case rel =>
     refine⟨D,a++[x],rfl,by have:=q.out;omega,j,?_,h.trans (((Ve _ _).alloc (by omega) _).trans k)⟩
     rw[<-o.out,uv_big U f,Hx.out,q.out];simp
    case measure=>simp[intOf];have:=q.out;omega
end
end Go.Proofs.YtfaobkmojlhbnaaGreatDoor
