/- Contracts of the functions that the statements of this seat reach, part 9: each says what the call answers and what it leaves of the memory. -/
import Derived.Test.YtofibccplbnaiaaGreatDoorP8
import Derived.Test.YtofibccplbnaiaaGreatDoorP7
import Derived.Shelf.SlSorted.Search
set_option linter.unusedVariables false
set_option linter.unusedSimpArgs false
set_option maxRecDepth 100000
set_option maxHeartbeats 64000000
namespace Go.Proofs.YtofibccplbnaiaaGreatDoor
section
open Go.RowKit Go.Shelf Go.Lib Go.Sort
def srchR:Go.Shelf.Ren:=⟨fun | 16=>88 | n=>n,fun | 3=>3 | 4=>4 | 35=>152 | 38=>157 | n=>n,fun n=>n⟩
theorem srchL:Go.Proofs.SlLaysO.n16 Tryz.prog srchR:={
 mixed:=by kernel_rfl
 f16:=Tryz.func88.trans (congrArg some (by kernel_rfl))
 t3:=Tryz.underlying3
 a3:=Tryz.isAgg3
 z3:=Tryz.sizeOf3
 v3:=Tryz.zeroValue3
 t4:=Tryz.underlying4
 a4:=Tryz.isAgg4
 z4:=Tryz.sizeOf4
 v4:=Tryz.zeroValue4
 t35:=Tryz.underlying152
 a35:=Tryz.isAgg152
 z35:=Tryz.sizeOf152
 v35:=Tryz.zeroValue152
 t38:=Tryz.underlying157
 a38:=Tryz.isAgg157
 z38:=Tryz.sizeOf157
 v38:=Tryz.zeroValue157
}
theorem drop_head {α:Type} (f:α→Bool):∀(l:List α),(l.dropWhile f).head?=l[(l.takeWhile f).length]?
 | []=>rfl
 | a::r=>by
  rw[List.dropWhile_cons,List.takeWhile_cons]
  cases hf:f a with
  | true=>rw[if_pos rfl,if_pos rfl,drop_head f r];simp
  | false=>simp
theorem take_len {α:Type} (f:α→Bool):∀(l:List α),(l.takeWhile f).length≤l.length
 | []=>Nat.le_refl _
 | a::r=>by
  rw[List.takeWhile_cons];split
  ·have:=take_len f r;simp;omega
  ·simp
theorem behind_any (w:World) (leaf:Bool) (a:Option Addr) (n cap:Nat) {l:List En} (h:IsE w (.slice a n cap) l) (hnl:n=l.length) (hn0:0<n) (hm:l.length≤1000000) (hs:Srt ⟨leaf,l⟩) (key:List UInt8) :
  Calls Tryz.prog 52 #[ndV leaf (.slice a n cap),.string ⟨key.toArray⟩] w fun e w'=>e=.returned (.tuple #[.int .i64 (((Nd.mk leaf l).behind key).1:Int),.bool ((Nd.mk leaf l).behind key).2])∧Below w.heap.size w w':=by
 obtain⟨W1,hW1⟩:∃x,x=w.alloc (.cells #[.bool leaf,.slice a n cap] 84):=⟨_,rfl⟩;have hb1:Below w.heap.size w W1:=by rw[hW1];exact Zj w _
 have hn1:W1.heap[w.heap.size]?=some (ndO leaf (.slice a n cap)):=by rw[hW1];exact heap_alloc_new w _
 have hs1:W1.heap.size=w.heap.size+1:=by rw[hW1];simp
 obtain⟨W2,hW2⟩:∃x,x=W1.alloc (.cells #[.string ⟨key.toArray⟩] 9):=⟨_,rfl⟩;have hb2:Below W1.heap.size W1 W2:=by rw[hW2];exact Zj W1 _
 have hn2:=(hb2.block _ (Za hn1)).trans hn1;have hk2:W2.heap[w.heap.size+1]?=some (Ql key):=by rw[hW2,←hs1];exact heap_alloc_new W1 _
 have hB:Below w.heap.size w W2:=hb1.trans (hb2.mono hb1.size);have hE:=h.below hB;have grown:∀(m:Nat) (os:Array Obj),Below W2.heap.size W2 (grow (W2.drewN m) os):=fun m os=>below_grown_sl _ _ m os (Nat.le_refl _);have HB:=Hd hB;have HW1:=Hd hW1;have HW2:=Hd hW2
 cases leaf with
 | false =>
  have hS:=Any.sort_Search srchL 89 #[.pointer (some ⟨w.heap.size,0,none⟩),.pointer (some ⟨w.heap.size+1,0,none⟩)] l.tail.length (fun i=>decide (key<atK l (i+1))) W2 (enters_of Tryz.func89 (by kernel_rfl) rfl) (by simp;omega)
   (fun m os i hi=>by
    have hi':i+1<l.length:=by simp at hi;omega
    rw[Zer hi'];refine(find1_any _ w.heap.size (w.heap.size+1) false a n cap (hE.below (grown m os)) hnl (((grown m os).block _ (Za hn2)).trans hn2) key (((grown m os).block _ (Za hk2)).trans hk2) i hi' hm).mono ?_;rintro e w' ⟨rfl,rfl⟩
    exact⟨rfl,1,#[],by rw[grow_empty];rfl⟩) (mono_inner hs key)
  rw[behind_inner hs key] at hS;change Calls Tryz.prog 88 _ _ _ at hS;have htl:(l.tail.length:Int)=(n:Int) - 1:=by simp;omega
  rw[htl] at hS;have hw:IntKind.i64.wrap ((n:Int) - 1)=(n:Int) - 1:=IntWalk.i64_in _ (by omega)
  have hb:(Nd.mk false l).behind key=((l.tail.takeWhile fun e=>!decide (key<e.key)).length,true):=rfl;rw[hb];have n0:=(Zc hn2).1;have n1:=(Zc hn2).2;have hs2:W1.heap.size=w.heap.size+1:=hs1;have HS:=Hd hS;have HG:=Hd grown;clear hS hE h hb1 hb2 hn1 hk2 hB grown hs1 hb hs hm htl;rw[hW2,hW1] at n0 n1;clear hW1 hW2 hn2 hs2 hnl;generalize (l.tail.takeWhile fun e=>!decide (key<e.key)).length=r at *;go_enter Tryz.func52,Tryz.ntmps52;go_wp2_with fail;rw[←HW1.out,←HW2.out];refine HS.out.mono ?_;rintro e w3 ⟨rfl,q,os,rfl⟩;have HB3:=Hd (HB.out.trans ((HG.out q os).mono HB.out.size));clear n0 n1;go_wp2_with fail;go_ret2;exact⟨rfl,HB3.out⟩
 | true =>
  have hS:=Any.sort_Search srchL 90 #[.pointer (some ⟨w.heap.size,0,none⟩),.pointer (some ⟨w.heap.size+1,0,none⟩)] l.length (fun i=>!decide (atK l i<key)) W2 (enters_of Tryz.func90 (by kernel_rfl) rfl) (by omega)
   (fun m os i hi=>by
    rw[Zer hi];refine(find2_any _ w.heap.size (w.heap.size+1) true a n cap (hE.below (grown m os)) hnl (((grown m os).block _ (Za hn2)).trans hn2) key (((grown m os).block _ (Za hk2)).trans hk2) i hi hm).mono ?_;rintro e w' ⟨rfl,rfl⟩
    exact⟨rfl,1,#[],by rw[grow_empty];rfl⟩) (mono_leaf hs key)
  rw[behind_leaf hs key] at hS;change Calls Tryz.prog 88 _ _ _ at hS;have hln:(l.length:Int)=(n:Int):=by omega
  rw[hln] at hS;obtain⟨r,hr⟩:∃r,r=(l.takeWhile fun e=>decide (e.key<key)).length:=⟨_,rfl⟩;have hrn:r≤n:=by rw[hr,hnl];exact take_len _ l
  have hb:(Nd.mk true l).behind key=(r,decide (l[r]?.map (·.key)=some key)):=by
   show ((l.takeWhile _).length,decide (((l.dropWhile _).head?).map (·.key)=some key))=_
   rw[drop_head,←hr]
  obtain⟨D,hD⟩:∃D,D=decide (l[r]?.map (·.key)=some key):=⟨_,rfl⟩;rw[←hD] at hb;rw[hb];rw[←hr] at hS;have HD:=Hd hD
  have n0:=(Zc hn2).1;have n1:=(Zc hn2).2;have HS:=Hd hS;have HG:=Hd grown;have HE:=Hd hE;have HN2:=Hd hn2;have HK2:=Hd hk2;have HNL:=Hd hnl;clear hS hE h hb1 hb2 hn1 hk2 hB grown hs1 hb hs hm hln hr hD;rw[hW2,hW1] at n0 n1;clear hW1 hW2 hn2 hnl;go_enter Tryz.func52,Tryz.ntmps52;go_wp2_with fail;rw[←HW1.out,←HW2.out];refine HS.out.mono ?_;rintro e w3 ⟨rfl,q,os,rfl⟩;have hb3:=HG.out q os;have HB3:=Hd (HB.out.trans (hb3.mono HB.out.size));have hE3:=HE.out.below hb3;have hn3:=(hb3.block _ (Za HN2.out)).trans HN2.out;have hk3:=(hb3.block _ (Za HK2.out)).trans HK2.out;clear n0 n1 hb3;generalize grow (W2.drewN q) os=W3 at *;obtain⟨n0,n1⟩:=Zc (w:=W3.drew) hn3
  have k0:W3.drew.cell? ⟨w.heap.size+1,0,none⟩=some (.string ⟨key.toArray⟩):=by
   show W3.cell? _=_
   rw[cell_of_row _ _ _ _ _ _ hk3];rfl
  have HB4:=Hd HB3.out.drew;clear hn3 hk3;by_cases hlt:r<n
  ·have hrl:r<l.length:=by have:=HNL.out;omega
   obtain⟨b,o,rfl,c0,c1,c2⟩:=hE3.at r hrl;have c0':W3.drew.cell? ⟨b,o+r*3,none⟩=some (.string ⟨l[r].key.toArray⟩):=c0
   have hd:decide ((r:Int)<(n:Int))=true:=decide_eq_true (by omega);have hd2:decide (r<n)=true:=decide_eq_true hlt;have hi0:(0:Int)≤(r:Int):=by omega
   have hi1:(r:Int)<(n:Int):=by omega
   have hD2:D=decide (l[r].key=key):=by rw[HD.out,List.getElem?_eq_getElem hrl];simp
   clear c0 c1 c2 hE3;generalize l[r].key=lk at *;have HD2:=Hd hD2
   clear hD2;go_upto_region 4 with fail;go_region;go_wp2_with fail;go_ret2
   exact⟨by rw[HD2.out];by_cases e:lk=key<;>simp[e],HB4.out⟩
  ·have hd:decide ((r:Int)<(n:Int))=false:=decide_eq_false (by omega);have hd2:decide (r<n)=false:=decide_eq_false hlt;have HD2:Hid (D=false):=Hd (by rw[HD.out,List.getElem?_eq_none (by have:=HNL.out;omega)];rfl);go_upto_region 4 with fail;go_region;go_wp2_with fail;go_ret2;exact⟨by simp[HD2.out],HB4.out⟩
end
end Go.Proofs.YtofibccplbnaiaaGreatDoor
