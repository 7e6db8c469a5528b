/- Contracts of the functions that the statements of this seat reach, part 9: each says what the call answers and what it leaves of the memory. -/
import Derived.Test.YtfaobkmojlhbnaaGreatDoorZR8
import Derived.Test.YtfaobkmojlhbnaaGreatDoorZR7
import Derived.Shelf.SlSorted.Search
set_option linter.unusedVariables false
set_option linter.unusedSimpArgs false
set_option maxRecDepth 100000
set_option maxHeartbeats 64000000
namespace Go.Proofs.YtfaobkmojlhbnaaGreatDoor
section
open Go.RowKit Go.Shelf Go.Lib Go.Sort
def srchR:Go.Shelf.Ren:=⟨λ| 16=>118 | n=>n,λ| 3=>3 | 4=>4 | 35=>70 | 38=>197 | n=>n,λn=>n⟩
theorem srchL:Go.Proofs.SlLaysO.n16 Tryz.prog srchR:={
 mixed:=by kernel_rfl
 f16:=Tryz.func118.trans (Vs some (by kernel_rfl))
 t3:=Tryz.underlying3
 a3:=Tryz.isAgg3
 z3:=Tryz.sizeOf3
 v3:=Tryz.zeroValue3
 t4:=Tryz.underlying4
 a4:=Tryz.isAgg4
 z4:=Tryz.sizeOf4
 v4:=Tryz.zeroValue4
 t35:=Tryz.underlying70
 a35:=Tryz.isAgg70
 z35:=Tryz.sizeOf70
 v35:=Tryz.zeroValue70
 t38:=Tryz.underlying197
 a38:=Tryz.isAgg197
 z38:=Tryz.sizeOf197
 v38:=Tryz.zeroValue197
}
theorem drop_head {α:Type} (f:α->Bool):∀(l:List α),(l.dropWhile f).head?=l[(l.takeWhile f).length]?
 | []=>rfl
 | a::r=>by
  rw[List.dropWhile_cons,List.takeWhile_cons]
  cases b:f a with
  | true=>rw[if_pos rfl,if_pos rfl,drop_head f r];simp
  | false=>simp
theorem take_len {α:Type} (f:α->Bool):∀(l:List α),(l.takeWhile f).length<=l.length
 | []=>Va _
 | a::r=>by
  rw[List.takeWhile_cons];split
  .have:=take_len f r;simp;omega
  .simp
theorem behind_any (w:World) (leaf:Bool) (a:Option Addr) (n cap:Nat) {l:List En} (h:IsE w (.slice a n cap) l) (hnl:n=l.length) (Q:0<n) (hm:l.length<=1000000) (hs:Srt ⟨leaf,l⟩) (key:List UInt8) :
  Calls Tryz.prog 89 #[ndV leaf (.slice a n cap),.string ⟨key.toArray⟩] w λe w'=>e=.returned (.tuple #[.int .i64 (((Nd.mk leaf l).behind key).1:Int),.bool ((Nd.mk leaf l).behind key).2])/\Below w.heap.size w w':=by
 obtain⟨W1,f⟩:∃x,x=w.alloc (.cells #[.bool leaf,.slice a n cap] 174):=⟨_,rfl⟩;have s:Below w.heap.size w W1:=by rw[f];exact Zl w _
 have t:W1.heap[w.heap.size]?=some (ndO leaf (.slice a n cap)):=by rw[f];exact Vg w _
 have u:W1.heap.size=w.heap.size+1:=by rw[f];simp
 obtain⟨W2,j⟩:∃x,x=W1.alloc (.cells #[.string ⟨key.toArray⟩] 9):=⟨_,rfl⟩;have v:Below W1.heap.size W1 W2:=by rw[j];exact Zl W1 _
 have d:=(v.block _ (Za t)).trans t;have k:W2.heap[w.heap.size+1]?=some (Zar key):=by rw[j,<-u];exact Vg W1 _
 have H:Below w.heap.size w W2:=s.trans (v.mono s.size);have hE:=h.below H;have c:∀(m:Nat) (g:Array Obj),Below W2.heap.size W2 (grow (W2.drewN m) g):=λm g=>below_grown_sl _ _ m g (Va _);have HB:=Hd H;have HW1:=Hd f;have HW2:=Hd j
 cases leaf with
 | false =>
  have p:=Any.sort_Search srchL 119 #[.pointer (some ⟨w.heap.size,0,none⟩),.pointer (some ⟨w.heap.size+1,0,none⟩)] l.tail.length (λi=>decide (key<atK l (i+1))) W2 (enters_of Tryz.func119 (by kernel_rfl) rfl) (by simp;omega)
   (λm g i I=>by
    have z:i+1<l.length:=by simp at I;omega
    rw[Zfv z];refine(find1_any _ w.heap.size (w.heap.size+1) false a n cap (hE.below (c m g)) hnl (((c m g).block _ (Za d)).trans d) key (((c m g).block _ (Za k)).trans k) i z hm).mono ?_;rintro e w' ⟨rfl,rfl⟩
    exact⟨rfl,1,#[],by rw[grow_empty];rfl⟩) (mono_inner hs key)
  rw[behind_inner hs key] at p;change Calls Tryz.prog 118 _ _ _ at p;have A:(l.tail.length:Int)=(n:Int) - 1:=by simp;omega
  rw[A] at p;have hw:IntKind.i64.wrap ((n:Int) - 1)=(n:Int) - 1:=Vf _ (by omega)
  have y:(Nd.mk false l).behind key=((l.tail.takeWhile λe=>!decide (key<e.key)).length,true):=rfl;rw[y];have n0:=(Zd d).1;have n1:=(Zd d).2;have M:W1.heap.size=w.heap.size+1:=u;have HS:=Hd p;have HG:=Hd c;clear p hE h s v t k H c u y hs hm A;rw[j,f] at n0 n1;clear f j d M hnl;generalize (l.tail.takeWhile λe=>!decide (key<e.key)).length=r at *;go_enter Tryz.func89,Tryz.ntmps89;go_wp2_with fail;rw[<-HW1.out,<-HW2.out];refine HS.out.mono ?_;rintro e R ⟨rfl,q,g,rfl⟩;have HB3:=Hd (HB.out.trans ((HG.out q g).mono HB.out.size));clear n0 n1;go_wp2_with fail;go_ret2;exact⟨rfl,HB3.out⟩
 | true =>
  have p:=Any.sort_Search srchL 120 #[.pointer (some ⟨w.heap.size,0,none⟩),.pointer (some ⟨w.heap.size+1,0,none⟩)] l.length (λi=>!decide (atK l i<key)) W2 (enters_of Tryz.func120 (by kernel_rfl) rfl) (by omega)
   (λm g i I=>by
    rw[Zfv I];refine(find2_any _ w.heap.size (w.heap.size+1) true a n cap (hE.below (c m g)) hnl (((c m g).block _ (Za d)).trans d) key (((c m g).block _ (Za k)).trans k) i I hm).mono ?_;rintro e w' ⟨rfl,rfl⟩
    exact⟨rfl,1,#[],by rw[grow_empty];rfl⟩) (mono_leaf hs key)
  rw[behind_leaf hs key] at p;change Calls Tryz.prog 118 _ _ _ at p;have B:(l.length:Int)=(n:Int):=by omega
  rw[B] at p;obtain⟨r,J⟩:∃r,r=(l.takeWhile λe=>decide (e.key<key)).length:=⟨_,rfl⟩;have S:r<=n:=by rw[J,hnl];exact take_len _ l
  have y:(Nd.mk true l).behind key=(r,decide (l[r]?.map (·.key)=some key)):=by
   show ((l.takeWhile _).length,decide (((l.dropWhile _).head?).map (·.key)=some key))=_
   rw[drop_head,<-J]
  obtain⟨D,N⟩:∃D,D=decide (l[r]?.map (·.key)=some key):=⟨_,rfl⟩;rw[<-N] at y;rw[y];rw[<-J] at p;have HD:=Hd N
  have n0:=(Zd d).1;have n1:=(Zd d).2;have HS:=Hd p;have HG:=Hd c;have HE:=Hd hE;have HN2:=Hd d;have HK2:=Hd k;have HNL:=Hd hnl;clear p hE h s v t k H c u y hs hm B J N;rw[j,f] at n0 n1;clear f j d hnl;go_enter Tryz.func89,Tryz.ntmps89;go_wp2_with fail;rw[<-HW1.out,<-HW2.out];refine HS.out.mono ?_;rintro e R ⟨rfl,q,g,rfl⟩;have hb3:=HG.out q g;have HB3:=Hd (HB.out.trans (hb3.mono HB.out.size));have hE3:=HE.out.below hb3;have hn3:=(hb3.block _ (Za HN2.out)).trans HN2.out;have hk3:=(hb3.block _ (Za HK2.out)).trans HK2.out;clear n0 n1 hb3;generalize grow (W2.drewN q) g=L at *;obtain⟨n0,n1⟩:=Zd (w:=L.drew) hn3
  have k0:L.drew.cell? ⟨w.heap.size+1,0,none⟩=some (.string ⟨key.toArray⟩):=by
   show L.cell? _=_
   rw[Vc _ _ _ _ _ _ hk3];rfl
  have C:=Hd HB3.out.drew;clear hn3 hk3;by_cases E:r<n
  .have F:r<l.length:=by have:=HNL.out;omega
   obtain⟨b,o,rfl,P,T,U⟩:=hE3.at r F;have V:L.drew.cell? ⟨b,o+r*3,none⟩=some (.string ⟨l[r].key.toArray⟩):=P
   have W:decide ((r:Int)<(n:Int))=true:=Vd (by omega);have O:decide (r<n)=true:=Vd E;obtain⟨X,Y⟩:(0:Int)<=(r:Int)/\(r:Int)<(n:Int):=by omega
   have G:D=decide (l[r].key=key):=by rw[HD.out,List.getElem?_eq_getElem F];simp
   clear P T U hE3;generalize l[r].key=Z at *;have HD2:=Hd G
   clear G;go_upto_region 4 with fail;go_region;go_wp2_with fail;go_ret2
   exact⟨by rw[HD2.out];by_cases e:Z=key<;>simp[e],C.out⟩
  .have W:decide ((r:Int)<(n:Int))=false:=Vb (by omega);have O:decide (r<n)=false:=Vb E;have HD2:Hid (D=false):=Hd (by rw[HD.out,List.getElem?_eq_none (by have:=HNL.out;omega)];rfl);go_upto_region 4 with fail;go_region;go_wp2_with fail;go_ret2;exact⟨by simp[HD2.out],C.out⟩
end
end Go.Proofs.YtfaobkmojlhbnaaGreatDoor
