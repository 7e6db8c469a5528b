/- Contracts of the functions that the statements of this seat reach, part 5: each says what the call answers and what it leaves of the memory. -/
import Derived.Test.YtfaobkmojlhbnaaGreatDoorZR4
import Derived.Test.YtfaobkmojlhbnaaGreatDoorZR3
import Derived.LoopTactic
import Derived.Test.YtfaobkmojlhbnaaGreatDoorZR2
import Derived.StillTailTactics
import Derived.IntWalk
import Derived.Deep.OwnRows
set_option linter.unusedVariables false
set_option linter.unusedSimpArgs false
set_option maxRecDepth 100000
set_option maxHeartbeats 64000000
namespace Go.Proofs.YtfaobkmojlhbnaaGreatDoor
section
open Go.RowKit
variable {a:Int}{k:Nat}
theorem Jn.read_D (J:Jn) (a:Int):(J.read a).2.2.D=J.D:=by unfold Jn.read;(repeat' split)<;>rfl
theorem Jn.read_ok {J:Jn} (h:(J.read a).2.1=0):(J.read a).2.2=J:=by
 unfold Jn.read at h ⊢;split
 .rename_i b;rfl
 .rename_i b
  rw[if_neg b] at h;split
  .rfl
  .rename_i c
   rw[if_neg c] at h;split
   .rename_i d;rw[if_pos d] at h;cases h
   .split<;>rfl
theorem Jn.read_len (J:Jn) (a:Int):(J.read a).1.length<=112:=by
 have:∀(l:List UInt8) (k:Nat),(Xv (sec l k)).length<=112:=λl k=>by simp[Xv,sec];omega
 unfold Jn.read
 (repeat' split)<;>first | exact this _ _ | simp
theorem Jn.reads_D (J:Jn) (a:Int):∀k,(J.reads a k).2.2.D=J.D
 | 0=>rfl
 | k+1=>by
  have b:=Jn.reads_D J a k;rw[Jn.reads];simp only;split
  .exact b
  .split<;>· simp only[Jn.read_D];exact b
theorem Jn.reads_len (J:Jn) (a:Int):∀k,(J.reads a k).1.length<=112*k
 | 0=>by simp[Jn.reads]
 | k+1=>by
  have b:=Jn.reads_len J a k;have h2:=Jn.read_len (J.reads a k).2.2 (a+k);rw[Jn.reads];simp only;split
  .omega
  .split
   .simp
   .simp only[List.length_append];omega
theorem Jn.reads_ok {J:Jn}:∀{k:Nat},(J.reads a k).2.1=0->(J.reads a k).2.2=J
 | 0,_=>rfl
 | k+1,h=>by
  rw[Jn.reads] at h ⊢;simp only at h ⊢;split at h
  .rename_i b;exact absurd h b
  .rename_i b
   rw[if_neg b];have ih:=Jn.reads_ok (Decidable.not_not.1 b)
   split at h
   .rename_i c;exact absurd h c
   .rename_i c
    rw[if_neg c];show ((J.reads a k).2.2.read (a+k)).2.2=J
    rw[Jn.read_ok (Decidable.not_not.1 c),ih]
theorem Jn.reads_err {J:Jn} (h:(J.reads a k).2.1≠0):∀m,k<=m->J.reads a m=J.reads a k:=by
 intro m c
 induction m with
 | zero =>
  obtain rfl:k=0:=by omega
  rfl
 | succ m b =>
  by_cases e:k=m+1
  .rw[e]
  .have:=b (by omega);rw[Jn.reads];simp only;rw[this,if_pos h]
theorem Jn.reads_next {J:Jn} (h:(J.reads a k).2.1=0) (h2:(J.read (a+k)).2.1=0):J.reads a (k+1)=((J.reads a k).1++(J.read (a+k)).1,0,J):=by rw[Jn.reads];simp only;rw[if_neg (by simp[h]),Jn.reads_ok h,if_neg (by simp[h2]),Jn.read_ok h2]
theorem Jn.reads_stop {J:Jn} (h:(J.reads a k).2.1=0) (h2:(J.read (a+k)).2.1≠0):J.reads a (k+1)=([],(J.read (a+k)).2.1,(J.read (a+k)).2.2):=by rw[Jn.reads];simp only;rw[if_neg (by simp[h]),Jn.reads_ok h,if_pos h2]
theorem run_make0_896 (w:World):(Instr.makeSlice 77 (.int .i64 0) (.int .i64 896)).run Tryz.prog w=.ok (.slice (some ⟨w.heap.size,0,none⟩) 0 896) (w.alloc (.cells (bv Zdc).toArray 5)):=by
 obtain⟨i,b,c,d,g⟩:=Ue (P:=Tryz.prog) (e:=5) Zbg;have hr:=run_make (P:=Tryz.prog) w 77 5 i (.int .u8 0) Tryz.underlying77 b c .i64 .i64 0 896 (by omega) (by omega) (by rw[g];omega) (by omega)
 rw[hr,d]
 have e:madeCells (Value.int .u8 0).cells ((896:Int).toNat*1)=(bv Zdc).toArray:=by
  simp only[madeCells,bv,Zdc,List.map_replicate,List.size_toArray,List.toArray_replicate,Value.cells];apply Array.ext
  .simp
  .intro i h j;simp[Nat.mod_one]
 rw[e];rfl
theorem mine_make0 (w:World):Mine 5 w.heap.size (w.alloc (.cells (bv Zdc).toArray 5)) (.slice (some ⟨w.heap.size,0,none⟩) 0 896) [] :=
 ⟨rfl,.inr ⟨w.heap.size,896,_,rfl,Va _,Vg w _,Vl _,by simp[maxLen],by simp[bv,Zdc],rfl⟩⟩
theorem Mine.keep {B:Nat} {e:TypeId} {w w':World} {v:Value} {l:List UInt8} (h:Mine e B w v l) (hw:∀k,B<=k->k<w.heap.size->w'.heap[k]?=w.heap[k]?):Mine e B w' v l:=Zgx h hw
theorem Ys.on {w w1 w2:World} {F:Ft} {p:Nat} {f:Pf} {P P':Pg} (h0:Ys w F p f P) (h:Ys w1 F p f P') (hb:Below w.heap.size w1 w2):Ys w2 F p f P':=h.keep (λk b=>hb.block k (h0.lt3 b)) hb.size
theorem Zb.on {T:Nat->Prop} {w w1 w2:World} (h:Zb T w w1) (hb:Below w.heap.size w1 w2):Zb T w w2 :=
 ⟨hb.os.trans h.os,hb.tape.trans h.tape,hb.output.trans h.output,Vk h.size hb.size,λk b c=>(hb.block k b).trans (h.block k b c)⟩
section
variable {w : World} {F : Ft} {p : Nat} {f : Pf} {P : Pg}
def ReadEnd (w:World) (F:Ft) (p:Nat) (f:Pf) (r:List UInt8 × Int × Pg) (e:Ending) (w':World):Prop :=
 ∃v,e=.returned (.tuple #[v,.int .i64 r.2.1])/\Mine 5 w.heap.size w' v r.1/\Ys w' F p f r.2.2/\Zb (PJ F p f) w w'
theorem pread_any (h:Ys w F p f P) (page:Int) (W:-9223372036854775808<=page) (b2:page<=9223372036854775807):
  Calls Tryz.prog 116 #[Qs f.q,.int .i64 page] w (ReadEnd w F p f (P.read page)):=by
 have G:=Hd (must_any h page W b2);by_cases l:P.must page=0
 case neg =>
  have e:P.read page=([],P.must page,P):=by rw[Pg.read,if_pos l]
  have d1:(P.must page != 0)=true:=by simpa using l
  have X:=Hd h;rw[e];clear h l e;generalize P.must page=x at *;go_enter Tryz.func116,Tryz.ntmps116;go_wp2_with (go_at_call 141;refine G.out.mono ?_;rintro e t ⟨rfl,d⟩;rw[d];clear d t);go_ret2;exact⟨_,rfl,Mine.nil _ _ _,X.out,Zb.refl _ _⟩
 rw[l] at G;obtain⟨k0,k1,_,_⟩:=Pg.must_bounds l;obtain⟨Y,Z,c2,c3,c4,c5,S,c7⟩:=h.cells;have hlo:=h.tab.kmap.run_look_ok (P:=Tryz.prog) (T:=143) Tryz.underlying143 Tryz.underlying3 (.slice none 0 0) (λw=>by kernel_rfl) page
 rcases h.pgs.look page with ⟨y,z⟩ | ⟨v,b,y,z,l3,l4,l5⟩
 case inr =>
  have e:P.read page=(b,0,P):=by rw[Pg.read,if_neg (by simp[l]),z]
  rw[e];rw[y] at hlo;have HC:=Hd (clone_any v b w l4.isB (by omega))
  have HH:=Hd h;dsimp only[Option.getD,Option.isSome] at hlo;clear e h y z l;go_enter Tryz.func116,Tryz.ntmps116;go_wp2_with (first | (go_at_call 141;refine G.out.mono ?_;rintro e t ⟨rfl,d⟩;rw[d];clear d t) | (go_at_call 106;refine HC.out.mono ?_;rintro e w2 ⟨u,rfl,hu,A⟩));go_ret2;exact⟨_,rfl,hu,HH.out.below A,Zb.of_below A⟩
 have hn:=h.ok.n1;have w1:IntKind.i64.wrap (page*8)=page*8:=Vf _ (by omega);have w2:IntKind.i64.wrap (2+page*8)=2+page*8:=Vf _ (by omega);have hmk:=run_make0_896;have e:P.read page=if (P.J.reads (2+page*8) 8).2.1≠0 then ([],(P.J.reads (2+page*8) 8).2.1,{ P with J:=(P.J.reads (2+page*8) 8).2.2,off:=Zae P.off (P.J.reads (2+page*8) 8).2.1 }) else ((P.J.reads (2+page*8) 8).1,0,{ P with J:=(P.J.reads (2+page*8) 8).2.2 }):=by rw[Pg.read,if_neg (by simp[l]),z]
 have U:=Hd e;rw[y] at hlo;dsimp only[Option.getD,Option.isSome] at hlo;have HH:=Hd h;clear e h y z l;go_enter Tryz.func116,Tryz.ntmps116;go_wp2_with (go_at_call 141;refine G.out.mono ?_;rintro e t ⟨rfl,d⟩;rw[d];clear d t);go_loopw [9,32] (λo x wr=>∃k:Nat,k<=8/\x=.int .i64 (k:Int)/\(P.J.reads (2+page*8) k).2.1=0/\Mine 5 w.heap.size wr o (P.J.reads (2+page*8) k).1/\Ys wr F p f P/\Zb (PJ F p f) w wr) (λ_ x _=>8 - (intOf x).toNat)
 case atStart =>
  have V:Below w.heap.size w (w.alloc (.cells (bv Zdc).toArray 5)):=(Ve _ _).alloc (Va _) _;exact⟨0,Vl _,rfl,rfl,mine_make0 w,HH.out.below V,Zb.of_below V⟩
 case round =>
  obtain⟨k,hk,rfl,g,B,n,C⟩:=hrel;obtain⟨a,c,rfl,_,_⟩:=B.isB.form;by_cases a0:k<8
  .have hd:decide ((k:Int)<8)=true:=Vd (by omega)
   have w3:IntKind.i64.wrap (2+page*8+(k:Int))=2+page*8+(k:Int):=Vf _ (by omega);obtain⟨g0,_⟩:=n.cells;have HJ:=Hd (jread_any wr F p P.J n.jat n.nib (by have:=n.n22;omega) (2+page*8+(k:Int)) (by omega) (by omega));have HP:=Hd n;have HT:=Hd C;have HM:=Hd B;have hsz:=C.size;have HOK:=Hd g;have hlen:=Jn.reads_len P.J (2+page*8) k;clear n C B g Y Z c2 c3 c4 c5 S c7;go_wp2_with fail;refine HJ.out.mono ?_;rintro e w4 ⟨v,rfl,H,r,i⟩;have hp4:=HP.out.put_j r i (by rw[Jn.read_D]);have m:Zb (PJ F p f) wr w4:=i.mono λ_ _ e=>.inl e;have hm4:=HM.out.keep (w':=w4) λk h1 h2=>i.block k h2 λe=>by have:=HH.out.jat.lt e;omega
   obtain⟨va,vc,rfl,_,_⟩:=H.now.form;have hlen2:=Jn.read_len P.J (2+page*8+(k:Int))
   by_cases j:(P.J.read (2+page*8+(k:Int))).2.1=0
   .have I:((P.J.read (2+page*8+(k:Int))).2.1 != 0)=false:=by simpa using j
    have D:=Hd (Jn.reads_next HOK.out j);have M:Hid (Ys w4 F p f P):=Hd (by rw[Jn.read_ok j] at hp4;exact hp4);have HT4:=Hd (HT.out.trans m);have HB:=Hd H.now;have HZ:=Hd j;have HM4:=Hd hm4;clear hp4 r i m H hm4 j;generalize (P.J.read (2+page*8+(k:Int)))=R at *;generalize (P.J.reads (2+page*8) k)=L at *;have hsz4:=HT4.out.size;go_wp2_with (at_builtin;refine Zdo rfl (.tmp 53) (.tmp 54) 77 rfl w.heap.size 5 Zbg Tryz.underlying77 _ L.1 rfl HM4.out _ R.1 rfl HB.out (by omega) hsz4 ?_);intro v' w6 s _ E _ _;obtain⟨a6,S,rfl,_,_⟩:=s.isB.form;have HM6:=Hd s;clear s;go_wp2_with fail;go_roundw
    case rel=>exact⟨k+1,by omega,by go_num,by rw[D.out],by rw[D.out];exact HM6.out,HH.out.on M.out E,HT4.out.on E⟩
    case measure=>simp[intOf];omega
   .have I:((P.J.read (2+page*8+(k:Int))).2.1 != 0)=true:=by simpa using j
    have D:=Hd (Jn.reads_stop HOK.out j);have HR:=Hd (heard_any hp4 (P.J.read (2+page*8+(k:Int))).2.1);have HT4:=Hd (HT.out.trans m)
    have N:Hid (P.read page=([],(P.J.read (2+page*8+(k:Int))).2.1,{ P with J:=(P.J.read (2+page*8+(k:Int))).2.2,off:=Zae P.off (P.J.read (2+page*8+(k:Int))).2.1 })):=Hd (by
     have h8:=Jn.reads_err (J:=P.J) (a:=2+page*8) (k:=k+1) (by rw[D.out];exact j) 8 (by omega)
     rw[U.out,h8,D.out,if_pos j])
    clear hp4 r i m H hm4 j;generalize (P.J.read (2+page*8+(k:Int)))=R at *;go_wp2_with fail;refine HR.out.mono ?_;rintro e w5 ⟨rfl,O,Q⟩;go_wp2_with fail;go_ret2;rw[N.out];exact⟨_,rfl,Mine.nil _ _ _,O,HT4.out.trans Q⟩
  .obtain rfl:k=8:=by omega
   have N:Hid (P.read page=((P.J.reads (2+page*8) 8).1,0,P)):=Hd (by
    rw[U.out,if_neg (by simp[g]),Jn.reads_ok g])
   have HM:=Hd B;have HP:=Hd n;have HT:=Hd C;clear g B n C;generalize (P.J.reads (2+page*8) 8).1=L at *;go_wp2_with fail;go_ret2;rw[N.out];exact⟨_,rfl,HM.out,HP.out,HT.out⟩
end
end
section
open Go.RowKit
variable {f':Pf}{P':Pg}
section
variable {w : World} {F : Ft} {p : Nat} {f : Pf} {P : Pg}
theorem Ys.made {W:World} (h:Ys w F p f P) (d:P'.J=P.J) (ht:Zb (PT f) w W) (hq:f'.q=f.q) (head:W.heap[f'.q]?=some (pgRow p f' P')) (now:BoR W f'.gn f'.cn P'.now) (was:BoR W f'.gw f'.cw P'.was)
 (tab:OTab W f'.M f'.kv) (pgs:Pgs W f'.kv P'.own) (ok:Pok P') (c:∀k,PT f' k->PT f k\/w.heap.size<=k) (hlt:∀k,PT f' k->k<W.heap.size) (sep:f'.gn≠f'.gw):Zco w F p f W P':=by
 have b:=λk a=>(h.apart k a).1;refine⟨f',⟨?_,h.nib.of_turned ht λe=>(h.apart _ e).2.1 rfl,head,now,was,tab,pgs,ok,λk a=>?_,sep⟩,hq,c,ht.mono λk _ e=>.inr e⟩
 .rw[d];exact h.jat.turned ht λk a e=>b k e a
 .rcases c k a with e | e
  .exact⟨(h.apart k e).1,(h.apart k e).2.1,hlt k a⟩
  .refine⟨λg=>?_,λi=>?_,hlt k a⟩
   .have:=h.jat.lt g;omega
   .have:=nib_lt h.nib;omega
theorem turned_q2 (w:World) (q i j:Nat) (a b:Value):Zb (·=q) w ((w.setCell ⟨q,i,none⟩ a).setCell ⟨q,j,none⟩ b):=(Zc w q i a).trans (Zc _ q j b)
theorem Ys.anew {w1 w3:World} {d:Array Value} (h:Ys w F p f P) (hb:Below w.heap.size w w1) (ht:Zb (·=f.q) w1 w3) (r:w3.heap[f.q]?=some (.cells d 145 (0,0))) (hs:d.size=8)
 (C:P'.J=P.J) (hq:f'.q=f.q) (hM:f'.M=w3.heap.size) (a:f'.kv=[]) (j:P'.own=[]) (hrow:(d.setIfInBounds 5 (.map (some w3.heap.size))).setIfInBounds 6 (.bool false)=#[jptr p,.slice (some ⟨f'.gn,0,none⟩) P'.now.length f'.cn,.int .i64 P'.root,.slice (some ⟨f'.gw,0,none⟩) P'.was.length f'.cw,.int .i64 P'.wroot,.map (some f'.M),.bool P'.change,.int .i64 P'.off])
 (now:BoR w1 f'.gn f'.cn P'.now) (was:BoR w1 f'.gw f'.cw P'.was) (s:f'.gn=f.gn\/w.heap.size<=f'.gn) (v:f'.gw=f.gw\/w.heap.size<=f'.gw) (hne:f'.gn≠f'.gw) (ok:Pok P'):
  (∃u,(w3.alloc (.map #[] 0)).cell? ⟨f.q,5,none⟩=some u)/\(w3.alloc (.map #[] 0)).frozen? ⟨f.q,5,none⟩=false/\(∃u,(w3.alloc (.map #[] 0)).cell? ⟨f.q,6,none⟩=some u)/\(w3.alloc (.map #[] 0)).frozen? ⟨f.q,6,none⟩=false /\
  Zco w F p f (((w3.alloc (.map #[] 0)).setCell ⟨f.q,5,none⟩ (.map (some w3.heap.size))).setCell ⟨f.q,6,none⟩ (.bool false)) P':=by
 have b:Below w3.heap.size w3 (w3.alloc (.map #[] 0)):=(Ve _ _).alloc (Va _) _;have hd4:=(b.block _ (Za r)).trans r;have hd5:=Ze hd4 (i:=5) (.map (some w3.heap.size));have hd6:=Ze hd5 (i:=6) (.bool false);have ht5:=turned_q2 (w3.alloc (.map #[] 0)) f.q 5 6 (.map (some w3.heap.size)) (.bool false);have hlq:=Za r;have hsz:=ht.size;have D:(w3.alloc (.map #[] 0)).heap.size=w3.heap.size+1:=by simp
 refine⟨⟨d[5]'(by omega),by rw[Vc _ _ _ _ _ _ hd4];exact Array.getElem?_eq_getElem _⟩,Zf hd4 5,⟨d[6]'(by omega),by rw[Vc _ _ _ _ _ _ hd4];exact Array.getElem?_eq_getElem _⟩,Zf hd4 6,?_⟩
 .have hq1:=h.qn
  have l:∀{g c:Nat} {t:List Bool},BoR w1 g c t->BoR (((w3.alloc (.map #[] 0)).setCell ⟨f.q,5,none⟩ (.map (some w3.heap.size))).setCell ⟨f.q,6,none⟩ (.bool false)) g c t/\g<w3.heap.size:=λ{g c t} y=>by
   have m:g≠f.q:=by
    obtain⟨E,A,_⟩:=y;intro e;have h2:=(hb.block _ (Za h.head)).trans h.head
    rw[e,h2] at A;simp at A
   have G:=y.lt;exact⟨((y.keep (ht.block _ G m)).keep (b.block _ (by omega))).keep (ht5.block _ (by omega) m),by omega⟩
  obtain⟨H,N⟩:=l now;obtain⟨I,O⟩:=l was
  have n:∀k,PT f' k->k=f.q\/k=f'.gn\/k=f'.gw\/k=w3.heap.size:=by
   rintro k (e | e | e | e | ⟨x,B,_⟩)
   .exact .inl (e.trans hq)
   .exact .inr (.inl e)
   .exact .inr (.inr (.inl e))
   .exact .inr (.inr (.inr (e.trans hM)))
   .rw[a] at B;cases B
  have L:=hb.size;refine h.made C ?_ hq ?_ H I ?_ (by rw[a,j];trivial) ok (λk z=>?_) (λk z=>?_) hne
  .refine(Zb.of_below hb).trans ((ht.mono λ_ _ e=>.inl e).trans ((Zb.of_below b).trans (ht5.mono λ_ _ e=>.inl e)))
  .rw[hq,hd6,hrow]
  .rw[hM,a];exact(OTab.made w3).keep (ht5.block _ (by omega) (by omega))
  .rcases n k z with e | e | e | e
   .exact .inl (.inl e)
   .rcases s with o | o
    .exact .inl (.inr (.inl (by rw[e,o])))
    .exact .inr (by omega)
   .rcases v with o | o
    .exact .inl (.inr (.inr (.inl (by rw[e,o]))))
    .exact .inr (by omega)
   .exact .inr (by omega)
  .have:=ht5.size
   rcases n k z with e | e | e | e<;>omega
end
end
section
open Go.RowKit
variable {w:World}{kv:List (Int × Value)}{b:List UInt8}{B g N c:Nat}{v:Value}{us:List Value}{o:List (Int × List UInt8)}{k:Int}{P:Pg}
def ElB (w:World):List Value->List (List UInt8)->Prop
 | [],[]=>True
 | u::us,l::ls=>IsB w u l/\ElB w us ls
 | _,_=>False
theorem ElB.len:∀{us:List Value} {a:List (List UInt8)},ElB w us a->us.length=a.length
 | [],[],_=>rfl
 | [],_::_,h=>h.elim
 | _::_,[],h=>h.elim
 | _::_,_::_,h=>by simp[ElB.len h.2]
theorem ElB.get:∀{us:List Value} {a:List (List UInt8)},ElB w us a->∀i (d:i<us.length) (e:i<a.length),IsB w us[i] a[i]
 | [],[],_,i,d,_=>by simp at d
 | [],_::_,h,_,_,_=>h.elim
 | _::_,[],h,_,_,_=>h.elim
 | u::us,l::a,h,0,_,_=>h.1
 | u::us,l::a,h,i+1,d,e=>ElB.get h.2 i (by simpa using d) (by simpa using e)
theorem ElB.append {a:List Value} {d:List (List UInt8)} (e:ElB w a d):∀{us:List Value} {f:List (List UInt8)},ElB w us f->ElB w (us++a) (f++d)
 | [],[],_=>e
 | [],_::_,h=>h.elim
 | _::_,[],h=>h.elim
 | _::_,_::_,h=>⟨h.1,ElB.append e h.2⟩
theorem Zbh.elB (h:Zbh B w v us) {ls:List (List UInt8)} (a:ElB w us ls):IsBs w v ls:=h.isBs a.len a.get
theorem IsB.part (h:IsB w (.slice (some ⟨g,0,none⟩) N c) b) (i n:Nat) (hn:i+n<=b.length):IsB w (.slice (some ⟨g,i,none⟩) n n) ((b.drop i).take n):=by
 obtain⟨a,l,f,s,t,u,m⟩:=h;simp only[Value.slice.injEq] at f;obtain⟨rfl,y,rfl⟩:=f;obtain⟨_,p⟩:=m _ rfl;have d:((b.drop i).take n).length=n:=by simp;omega
 refine⟨some ⟨g,i,none⟩,n,by rw[d],by rw[d];exact Va _,by omega,λe=>(by cases e),λx q=>?_⟩;obtain rfl:=Ud q;refine⟨λ_=>rfl,λj r=>?_⟩;rw[d] at r;have:=p (i+j) (by omega)
 simp only[Nat.zero_add] at this;rw[this];simp
theorem chunks_eq:∀(m:Nat) (b:List UInt8),Xo m b=(List.range m).map λi=>(b.drop (112*i)).take 112
 | 0,b=>rfl
 | m+1,b=>by rw[Xo,chunks_eq m,List.range_succ_eq_map,List.map_cons,List.map_map];congr 1;apply List.map_congr_left;intro i _;simp only[Function.comp,List.drop_drop];congr 2;omega
theorem Zcg (m:Nat) (b:List UInt8):(Xo m b).length=m:=by simp[chunks_eq]
theorem chunk_elB (h:IsB w (.slice (some ⟨g,0,none⟩) N c) b) (l:List Nat) (hl:∀i∈l,112*i+112<=b.length):ElB w (Zx g l) (l.map λi=>(b.drop (112*i)).take 112):=by
 induction l with
 | nil=>trivial
 | cons x r a=>exact⟨h.part (112*x) 112 (hl x (by simp)),a λi d=>hl i (by simp[d])⟩
theorem chunks_elB (h:IsB w (.slice (some ⟨g,0,none⟩) N c) b) (m:Nat) (hm:112*m<=b.length):ElB w (Zx g (List.range m)) (Xo m b):=by rw[chunks_eq];exact chunk_elB h _ λi a=>by have:=List.mem_range.1 a;omega
def pageG (kv:List (Int × Value)) (k:Int):Nat:=match Zal kv k with | some v=>v.ownBlock.getD 0 | none=>0
theorem Mine.slice {e:TypeId} (h:Mine e B w v b) (h0:0<b.length):∃g c,v=.slice (some ⟨g,0,none⟩) b.length c/\B<=g/\b.length<=c/\g<w.heap.size:=by
 rcases h.2 with ⟨rfl,p⟩ | ⟨g,a,i,rfl,j,l,d,m,n,f⟩
 .omega
 .exact⟨g,a,rfl,j,d,Za l⟩
def Zax (gu:Nat) (kv:List (Int × Value)) (ks:List Int):List Value:=Zx gu (List.range 2)++ks.flatMap λk=>Zx (pageG kv k) (List.range 8)
def Zt (ks:List Int):List Int:=Zo 0 2++ks.flatMap λk=>Zo (2+k*8) 8
def Yh (P:Pg) (ks:List Int):List (List UInt8):=Xo 2 (Xz P.now P.root)++ks.flatMap λk=>Xo 8 ((Yl P.own k).getD [])
theorem oLook_mem (h:k∈o.map (·.1)):Yl o k≠none:=by obtain⟨y,a,rfl⟩:=List.mem_map.1 h;intro e;simp only[Yl,Option.map_eq_none_iff,List.find?_eq_none] at e;simpa using e y a
theorem Pgs.at (h:Pgs w kv o) (hk:k∈o.map (·.1)):∃c b,Zal kv k=some (.slice (some ⟨pageG kv k,0,none⟩) 896 c)/\Yl o k=some b/\b.length=896/\896<=c/\Mine 5 0 w (.slice (some ⟨pageG kv k,0,none⟩) 896 c) b:=by
 rcases h.look k with ⟨_,a⟩ | ⟨v,b,d,a,i,f,l⟩
 .exact absurd a (oLook_mem hk)
 .obtain⟨g,c,rfl,_,j,_⟩:=f.slice (by omega)
  have e:pageG kv k=g:=by rw[pageG,d];rfl
  rw[i] at d f j;exact⟨c,b,by rw[e,d],a,i,j,by rw[e];exact f⟩
theorem pages_elB (h:Pgs w kv o):∀(a:List Int),(∀k∈a,k∈o.map (·.1))->ElB w (a.flatMap λk=>Zx (pageG kv k) (List.range 8)) (a.flatMap λk=>Xo 8 ((Yl o k).getD []))
 | [],_=>trivial
 | k::a,d=>by rw[List.flatMap_cons,List.flatMap_cons];obtain⟨c,b,j,e,l,m,f⟩:=h.at (d k (by simp));refine ElB.append (pages_elB h a λx i=>d x (by simp[i])) ?_;rw[e];exact chunks_elB f.isB 8 (by omega)
theorem commit_elB {d e:Nat} (hu:IsB w (.slice (some ⟨d,0,none⟩) 224 e) (Xz P.now P.root)) (h:Pgs w kv P.own) (a:List Int) (hk:∀k∈a,k∈P.own.map (·.1)):ElB w (Zax d kv a) (Yh P a) :=
 ElB.append (pages_elB h a hk) (chunks_elB hu 2 (by rw[Yd];omega))
theorem Zbh.cat (h:Zbh B w v us) (hB:B<=w.heap.size) {B':Nat} {u:Value} {xs:List Value} (hu:Zbh B' w u xs) (hx:∀x∈xs,x.oneCell'=true) (hL:us.length+xs.length<=1000000):
  ∃d a,(Builtin.append_ #[147,147] 147 #[v,u]).run Tryz.prog w=.ok d a/\Zbh B a d (us++xs)/\w.grownBy a v.ownBlock:=by
 obtain⟨i,l,m,n,p⟩:=Ue (P:=Tryz.prog) (e:=77) info_bytes2
 obtain⟨d,a,q,r,f,_,j⟩:=Zfc (P:=Tryz.prog) w B 147 147 147 77 i _ 1 24 _ Tryz.underlying147 Tryz.underlying147 (.inl rfl) l m n p rfl (by decide) v us.length us h
  u xs.length xs (own_lenOf hu) (by simp) (Zfr hu) hx (by simp[maxLen];omega) (by omega) hB
 refine⟨d,a,q,?_,f⟩;unfold Zbh;rw[List.length_append];exact r
theorem chunkVals_one (g:Nat) (l:List Nat):∀x∈Zx g l,x.oneCell'=true:=by intro x a;obtain⟨i,_,rfl⟩:=List.mem_map.1 a;rfl
theorem nodup_range:∀(n:Nat) (l:List Int),l.Nodup->(∀x∈l,0<=x/\x<(n:Int))->l.length<=n
 | 0,[],_,_=>Va _
 | 0,x::l,_,h=>by have:=h x (by simp);omega
 | n+1,l,a,h=>by
  have d:=nodup_range n (l.erase (n:Int)) (a.erase _) λx e=>by
   obtain⟨i,f⟩:=(a.mem_erase_iff).1 e;have:=h x f
   omega
  rw[List.length_erase] at d
  split at d<;>omega
theorem Ys.own_len {F:Ft} {p:Nat} {f:Pf} (h:Ys w F p f P):P.own.length<=P.now.length/\f.kv.length=P.own.length:=by
 have e:=h.pgs.keys;have hnd:=h.tab.nodup;rw[e] at hnd;have hl:=nodup_range P.now.length _ hnd λx a=>by obtain⟨y,d,rfl⟩:=List.mem_map.1 a;exact h.ok.keys y d
 have:=Vs List.length e;simp at hl this;exact⟨hl,this⟩
theorem mem_upI {zs:List Int}:k∈upI zs↔k∈zs:=(List.mergeSort_perm zs _).mem_iff
theorem commitPlaces_succ (a:List Int) (i:Nat) (h:i<a.length):Zt (a.take (i+1))=Zt (a.take i)++Zo (2+a[i]*8) 8:=by rw[Zt,Zt,List.take_add_one,List.getElem?_eq_getElem h,Option.toList_some,List.flatMap_append,List.flatMap_cons,List.flatMap_nil,List.append_nil,List.append_assoc]
theorem commitVals_succ (d:Nat) (kv:List (Int × Value)) (a:List Int) (i:Nat) (h:i<a.length):Zax d kv (a.take (i+1))=Zax d kv (a.take i)++Zx (pageG kv a[i]) (List.range 8):=by rw[Zax,Zax,List.take_add_one,List.getElem?_eq_getElem h,Option.toList_some,List.flatMap_append,List.flatMap_cons,List.flatMap_nil,List.append_nil,List.append_assoc]
theorem Zdr (a:List Int):(Zt a).length=2+8*a.length:=by
 rw[Zt,List.length_append,Yn];congr 1
 induction a with
 | nil=>rfl
 | cons k r d=>rw[List.flatMap_cons,List.length_append,Yn,d,List.length_cons];omega
theorem commitVals_len (d:Nat) (kv:List (Int × Value)) (a:List Int):(Zax d kv a).length=2+8*a.length:=by
 rw[Zax,List.length_append,Zbx,List.length_range];congr 1
 induction a with
 | nil=>rfl
 | cons k r e=>rw[List.flatMap_cons,List.length_append,Zbx,List.length_range,e,List.length_cons];omega
theorem Zik {e:List Int} (h:∀k∈e,0<=k/\k<1024):∀n∈Zt e,-9223372036854775808<=n/\n<=9223372036854775807:=by
 intro n a;rcases List.mem_append.1 a with a | a
 .obtain⟨i,d,rfl⟩:=List.mem_map.1 a;have:=List.mem_range.1 d;omega
 .obtain⟨k,f,a⟩:=List.mem_flatMap.1 a
  obtain⟨i,d,rfl⟩:=List.mem_map.1 a;have:=List.mem_range.1 d
  have:=h k f;omega
end
section
open Go.RowKit
variable {seq:Int}{ok:Nat→Prop}{ls B:List (List UInt8)}{n:Nat}{J:Jn}{zs:List Int}
theorem Live.blocks (h:Live n J seq B ok):J.D.blocks=(n - 2) / 2:=by rw[Dk.blocks,h.hn]
theorem updB_nil (B:List (List UInt8)) (ls:List (List UInt8)):Qj B [] ls=B:=by rw[Qj]
theorem write_nil (h:Live n J seq B ok) (hr:Zaa ((n - 2) / 2) [] ls=true):J.write [] ls=(0,J):=by rw[Jn.write,if_neg (by simp[h.off]),h.blocks,if_neg (by simp[hr]),if_pos List.length_nil]
theorem write_yes (h:Live n J seq B ok) (hr:Zaa ((n - 2) / 2) zs ls=true) (h0:zs.length≠0):J.write zs ls=((J.writes zs ls).off,J.writes zs ls):=by rw[Jn.write,if_neg (by simp[h.off]),h.blocks,if_neg (by simp[hr]),if_neg h0]
structure WroteOk (n:Nat) (J:Jn) (seq:Int) (B:List (List UInt8)) (zs:List Int) (ls:List (List UInt8)):Prop where
 err:(J.write zs ls).1=0
 live:Live n (J.write zs ls).2 (if zs.length=0 then seq else seq+1) (Qj B zs ls) Zeh
 last:(J.write zs ls).2.last<=J.last+1
 cut:(J.write zs ls).2.D.cut=J.D.cut
 ops:(J.write zs ls).2.D.ops<=J.D.ops+(2*zs.length+4)
 same:zs.length=0->(J.write zs ls).2=J
theorem write_ok (h:Live n J seq B Zeh) (hcut:J.D.cut<0) (hr:Zaa ((n - 2) / 2) zs ls=true) (ht:J.last+1<4611686018427387904) (hb:J.D.ops+(2*zs.length+4)<=1048576):WroteOk n J seq B zs ls:=by
 by_cases a:zs.length=0
 .obtain rfl:zs=[]:=Vh a
  have e:=write_nil h hr;refine⟨by rw[e],?_,by rw[e];show J.last<=_;omega,by rw[e],by rw[e];show J.D.ops<=_;omega,λ_=>by rw[e]⟩
  rw[e,if_pos List.length_nil,updB_nil];exact h
 .have e:=write_yes h hr a
  have w:=writes_live h hr ht hb;rcases w.ends with ⟨c,b⟩ | ⟨_,b,_⟩
  .refine⟨by rw[e];exact c,?_,by rw[e];exact Nat.le_of_eq w.last,by rw[e];exact w.cut,by rw[e];exact w.ops,λh=>absurd h a⟩;rw[e,if_neg a];exact b
  .omega
end
section
open Go.RowKit
variable {B:List (List UInt8)}{m f:Nat}{b:List UInt8}
def Xq (B:List (List UInt8)) (from_ m:Nat):List UInt8:=(List.range m).flatMap λi=>B.getD (from_+i) []
theorem placesFrom_cons (f m:Nat):Zo (f:Int) (m+1)=(f:Int)::Zo ((f+1:Nat):Int) m:=by
 rw[Zo,List.range_succ_eq_map,List.map_cons,List.map_map,Zo];have e:((λ(i:Nat)=>(f:Int)+(i:Int)) ∘ Nat.succ)=λ(i:Nat)=>((f+1:Nat):Int)+(i:Int):=by funext i;simp only[Function.comp];omega
 rw[e];simp
theorem updB_run:∀(m f:Nat) (b:List UInt8) (B:List (List UInt8)) (i:Nat),f+m<=B.length->(Qj B (Zo (f:Int) m) (Xo m b))[i]?=if f<=i/\i<f+m then some ((b.drop (112*(i - f))).take 112) else B[i]?
 | 0,f,b,B,i,_=>by rw[if_neg (by omega)];simp[Zo,Xo,Qj]
 | m+1,f,b,B,i,h=>by
  rw[placesFrom_cons,Xo,Qj,updB_run m (f+1) (b.drop 112) _ i (by simp;omega),Int.toNat_natCast,List.drop_drop,List.getElem?_set];by_cases a:f+1<=i/\i<f+1+m
  .rw[if_pos a,if_pos (by omega)];congr 3;omega
  .rw[if_neg a]
   by_cases c:f=i
   .subst c;rw[if_pos rfl,if_pos (by omega),if_pos (by omega),Nat.sub_self];rfl
   .rw[if_neg c,if_neg (by omega)]
theorem updB_app:∀(d a:List Int) (e c B:List (List UInt8)),d.length=e.length->Qj B (d++a) (e++c)=Qj (Qj B d e) a c
 | [],_,[],_,_,_=>by simp[Qj]
 | [],_,_::_,_,_,h=>by simp at h
 | _::_,_,[],_,_,h=>by simp at h
 | z::d,a,l::e,c,B,h=>by simp only[List.cons_append,Qj];exact updB_app d a e c _ (by simpa using h)
theorem chunks_flat:∀(m:Nat) (b:List UInt8),b.length=112*m->((List.range m).flatMap λi=>(b.drop (112*i)).take 112)=b
 | 0,b,h=>by have:b=[]:=Vh (by omega);simp[this]
 | m+1,b,h=>by
  have a:=chunks_flat m (b.drop 112) (by rw[List.length_drop];omega);rw[List.range_succ_eq_map,List.flatMap_cons,List.flatMap_map];simp only[Nat.mul_zero,List.drop_zero];have e:((List.range m).flatMap λi=>(b.drop (112*(i+1))).take 112)=b.drop 112:=by rw[<-a];simp only[List.drop_drop];congr 1;funext i;congr 2;omega
  show b.take 112++((List.range m).flatMap λi=>(b.drop (112*(i+1))).take 112)=b
  rw[e,List.take_append_drop]
theorem flatMap_congr' {α β:Type} {l:List α} {f g:α->List β} (h:∀x∈l,f x=g x):l.flatMap f=l.flatMap g:=by
 induction l with
 | nil=>rfl
 | cons x r a=>rw[List.flatMap_cons,List.flatMap_cons,h x (by simp),a λy c=>h y (by simp[c])]
theorem Zhi (h:f+m<=B.length) (hb:b.length=112*m):Xq (Qj B (Zo (f:Int) m) (Xo m b)) f m=b:=by
 rw[Xq]
 conv=>rhs;rw[<-chunks_flat m b hb]
 refine flatMap_congr' λi a=>?_;have:=List.mem_range.1 a
 rw[List.getD_eq_getElem?_getD,updB_run m f b B (f+i) h,if_pos (by omega),Option.getD_some,Nat.add_sub_cancel_left]
theorem Zfi {m' f':Nat} (h:f+m<=B.length) (c:f'+m'<=f\/f+m<=f'):Xq (Qj B (Zo (f:Int) m) (Xo m b)) f' m'=Xq B f' m':=by
 rw[Xq,Xq];refine flatMap_congr' λi a=>?_;have:=List.mem_range.1 a
 rw[List.getD_eq_getElem?_getD,updB_run m f b B (f'+i) h,if_neg (by omega),<-List.getD_eq_getElem?_getD]
abbrev pageAt (B:List (List UInt8)) (k:Nat):List UInt8:=Xq B (2+8*k) 8
theorem page_place (k:Nat):(2+(k:Int)*8)=((2+8*k:Nat):Int):=by omega
theorem pages_upd (o:List (Int × List UInt8)) (g:∀k b,Yl o k=some b->b.length=896):∀(a:List Int) (B:List (List UInt8)),a.Nodup->(∀k∈a,0<=k/\2+8*k.toNat+8<=B.length)->(∀k∈a,∃b,Yl o k=some b) ->
  (Qj B (a.flatMap λk=>Zo (2+k*8) 8) (a.flatMap λk=>Xo 8 ((Yl o k).getD []))).length=B.length /\
  Xq (Qj B (a.flatMap λk=>Zo (2+k*8) 8) (a.flatMap λk=>Xo 8 ((Yl o k).getD []))) 0 2=Xq B 0 2 /\
  ∀k:Nat,pageAt (Qj B (a.flatMap λk=>Zo (2+k*8) 8) (a.flatMap λk=>Xo 8 ((Yl o k).getD []))) k=if (k:Int)∈a then (Yl o k).getD [] else pageAt B k
 | [],B,_,_,_=>by simp[Qj]
 | x::a,B,h,i,j=>by
  obtain⟨v,p⟩:=i x (by simp);obtain⟨l,d⟩:=j x (by simp);have hxl:=g x l d
  have n:x=((x.toNat:Nat):Int):=by omega
  obtain⟨y,q⟩:∃y,y=x.toNat:=⟨_,rfl⟩;rw[<-q] at n p;rw[Up] at h;rw[List.flatMap_cons,List.flatMap_cons,updB_app _ _ _ _ _ (by rw[Yn,Zcg]),d,Option.getD_some];have r:Zo (2+x*8) 8=Zo ((2+8*y:Nat):Int) 8:=by rw[n,page_place]
  rw[r];obtain⟨s,t,u⟩:=pages_upd o g a (Qj B (Zo ((2+8*y:Nat):Int) 8) (Xo 8 l)) h.2 (λk c=>by rw[Zer];exact i k (by simp[c])) (λk c=>j k (by simp[c]));refine⟨s.trans (Zer _ _ _),by rw[t,Zfi (by omega) (by omega)],λk=>?_⟩;rw[u k];by_cases c:(k:Int)∈a
  .rw[if_pos c,if_pos (by simp[c])]
  .rw[if_neg c]
   by_cases e:(k:Int)=x
   .have:k=y:=by omega
    subst this;rw[if_pos (by simp[e]),e,d,Option.getD_some];exact Zhi (by omega) (by omega)
   .rw[if_neg (by simp[c,e])];exact Zfi (by omega) (by omega)
theorem commit_upd {P:Pg} (e:∀k b,Yl P.own k=some b->b.length=896) (a:List Int) (h2:2<=B.length) (hn:a.Nodup) (hb:∀k∈a,0<=k/\2+8*k.toNat+8<=B.length) (hl:∀k∈a,∃b,Yl P.own k=some b):
  (Qj B (Zt a) (Yh P a)).length=B.length/\Xq (Qj B (Zt a) (Yh P a)) 0 2=Xz P.now P.root /\
  ∀k:Nat,pageAt (Qj B (Zt a) (Yh P a)) k=if (k:Int)∈a then (Yl P.own k).getD [] else pageAt B k:=by
 rw[Zt,Yh,updB_app _ _ _ _ _ (by rw[Yn,Zcg])];have c:(Qj B (Zo 0 2) (Xo 2 (Xz P.now P.root))).length=B.length:=Zer _ _ _
 obtain⟨g,h,i⟩:=pages_upd P.own e a (Qj B (Zo 0 2) (Xo 2 (Xz P.now P.root))) hn (λk j=>by rw[c];exact hb k j) hl;have d:(0:Int)=((0:Nat):Int):=rfl
 refine⟨g.trans c,?_,λk=>?_⟩
 .rw[h,d];exact Zhi (by omega) (by rw[Yd])
 .rw[i k]
  split
  .rfl
  .rw[d];exact Zfi (by omega) (by omega)
end
section
open Go.RowKit
structure Rp where
 pages:List (Option (List UInt8))
 root:Int
 was:List (Option (List UInt8))
 wroot:Int
 change:Bool
def Rp.taken (R:Rp) (page:Int):Bool:=decide (0<=page)&&(decide (page<(R.pages.length:Int))&&(R.pages.getD page.toNat none).isSome)
def Rp.lay (R:Rp) (k:Nat) (b:List UInt8):Rp:={ R with pages:=R.pages.set k (some b),change:=true }
def freeR (l:List (Option (List UInt8))):Option Nat:=l.findIdx? λx=>x.isNone
def Rp.alloc (R:Rp):(Int × Int) × Rp:=match freeR R.pages with | some k=>(((k:Int),0),R.lay k Zdc) | none=>((0,80),R)
def Rp.free (R:Rp) (page:Int):Int × Rp:=if R.taken page=false then (81,R) else if R.root=page then (2,R) else (0,{ R with pages:=R.pages.set page.toNat none,change:=true })
def Rp.read (R:Rp) (page:Int):List UInt8 × Int:=if R.taken page=false then ([],81) else ((R.pages.getD page.toNat none).getD [],0)
def Rp.write (R:Rp) (page:Int) (b:List UInt8):Int × Rp:=if R.taken page=false then (81,R) else if b.length≠896 then (2,R) else (0,R.lay page.toNat b)
def Rp.setRoot (R:Rp) (page:Int):Int × Rp:=if R.taken page=false/\page≠-1 then (81,R) else (0,{ R with root:=page,change:=true })
def Rp.commit (R:Rp):Rp:={ R with was:=R.pages,wroot:=R.root,change:=false }
def Rp.abort (R:Rp):Rp:={ R with pages:=R.was,root:=R.wroot,change:=false }
def Rp.begun (blocks:Nat):Rp:=⟨List.replicate ((blocks - 2) / 8) none,-1,List.replicate ((blocks - 2) / 8) none,-1,false⟩
end
section
open Go.RowKit
variable {page:Int}{o:List (Int × List UInt8)}
theorem Qv (x:Int × List UInt8) (r:List (Int × List UInt8)) (n:Int):Yl (x::r) n=if x.1=n then some x.2 else Yl r n:=by
 by_cases h:x.1=n
 .simp[Yl,List.find?_cons,h]
 .simp[Yl,List.find?_cons,h]
theorem oLook_app (a b:List (Int × List UInt8)) (n:Int):Yl (a++b) n=(Yl a n).or (Yl b n):=by
 induction a with
 | nil=>rfl
 | cons x a c=>rw[List.cons_append,Qv,Qv,c];split<;>simp
theorem oLook_over (k:Int) (b:List UInt8) (j:Int):∀(o:List (Int × List UInt8)),(Yl o k).isSome->Yl (o.map λx=>if x.1=k then (k,b) else x) j=if j=k then some b else Yl o j
 | [],h=>by simp[Yl] at h
 | x::r,h=>by
  rw[Qv] at h;rw[List.map_cons,Qv,Qv];by_cases c:x.1=k
  .rw[if_pos c]
   by_cases a:j=k
   .simp[a]
   .have d:¬k=j:=λe=>a e.symm
    rw[if_neg d,if_neg a,if_neg (by rw[c];exact d)]
    have g:∀r:List (Int × List UInt8),Yl (r.map λx=>if x.1=k then (k,b) else x) j=Yl r j:=by
     intro r
     induction r with
     | nil=>rfl
     | cons y r i =>
      rw[List.map_cons,Qv,Qv,i];by_cases f:y.1=k
      .rw[if_pos f,if_neg d,if_neg (by rw[f];exact d)]
      .rw[if_neg f]
    exact g r
  .rw[if_neg c] at h ⊢
   rw[oLook_over k b j r h];by_cases a:j=k
   .have:¬x.1=j:=λe=>c (e.trans a);rw[if_neg this,if_pos a,if_pos a]
   .rw[if_neg a,if_neg a]
theorem oLook_put (o:List (Int × List UInt8)) (k:Int) (b:List UInt8) (j:Int):Yl (oPut o k b) j=if j=k then some b else Yl o j:=by
 unfold oPut;split
 .rename_i h;exact oLook_over k b j o h
 .rename_i h
  have c:Yl o k=none:=by simpa using h
  rw[oLook_app,Qv];by_cases a:j=k
  .subst a;simp[c]
  .have:¬k=j:=λe=>a e.symm;simp[a,this,Yl]
theorem oLook_del (o:List (Int × List UInt8)) (k j:Int):Yl (oDel o k) j=if j=k then none else Yl o j:=by
 induction o with
 | nil=>simp[oDel,Yl]
 | cons x r c =>
  unfold oDel at c ⊢;rw[List.filter_cons];by_cases b:x.1=k
  .rw[if_neg (by simpa using b),c,Qv]
   by_cases a:j=k
   .rw[if_pos a,if_pos a]
   .rw[if_neg a,if_neg a,if_neg (by rw[b];exact λe=>a e.symm)]
  .rw[if_pos (by simpa using b),Qv,Qv,c]
   by_cases a:j=k
   .rw[if_neg (by rw[a];exact b),if_pos a,if_pos a]
   .rw[if_neg a,if_neg a]
theorem oPut_nodup (h:(o.map (·.1)).Nodup) (k:Int) (b:List UInt8):((oPut o k b).map (·.1)).Nodup:=by
 unfold oPut;split
 .have e:(o.map λx=>if x.1=k then (k,b) else x).map (·.1)=o.map (·.1):=by
   rw[List.map_map];apply List.map_congr_left;intro x _;simp only[Function.comp];split
   .rename_i d;exact d.symm
   .rfl
  rw[e];exact h
 .rename_i f
  rw[List.map_append,List.map_cons,List.map_nil];refine List.nodup_append.2 ⟨h,by simp,λa g c i e=>?_⟩;rw[List.mem_singleton.1 i] at e;subst e;have:=oLook_mem g
  exact f (Option.isSome_iff_ne_none.2 this)
theorem oDel_nodup (h:(o.map (·.1)).Nodup) (k:Int):((oDel o k).map (·.1)).Nodup:=h.sublist (List.filter_sublist.map _)
theorem oLook_some {k:Int} {b:List UInt8} (h:Yl o k=some b):k∈o.map (·.1):=by
 simp only[Yl,Option.map_eq_some_iff] at h;obtain⟨x,a,_⟩:=h;have h1:=List.mem_of_find?_eq_some a
 have c:=List.find?_some a;simp only[beq_iff_eq] at c;exact List.mem_map.2 ⟨x,h1,c⟩
structure Sim (n:Nat) (P:Pg) (R:Rp) (seq:Int) (B:List (List UInt8)):Prop where
 live:Live n P.J seq B Zeh
 off:P.off=0
 now:P.now=R.pages.map (·.isSome)
 was:P.was=R.was.map (·.isSome)
 root:P.root=R.root
 wroot:P.wroot=R.wroot
 len:R.pages.length=((n - 2) / 2 - 2) / 8
 lenw:R.was.length=R.pages.length
 plan:Xq B 0 2=Xz P.was P.wroot
 rok:RootOk P.now P.root
 wok:RootOk P.was P.wroot
 pagew:∀(k:Nat) b,R.was[k]?=some (some b)->b.length=896/\pageAt B k=b
 pagen:∀(k:Nat) b,R.pages[k]?=some (some b)->b.length=896/\(Yl P.own k=some b\/(Yl P.own k=none/\R.was[k]?=some (some b)))
 free:∀(k:Int) b,Yl P.own k=some b->0<=k/\R.pages[k.toNat]?=some (some b)
 nodup:(P.own.map (·.1)).Nodup
 clean:P.change=false->P.own=[]/\R.pages=R.was/\R.root=R.wroot
section
variable {n : Nat} {P : Pg} {R : Rp} {seq : Int} {B : List (List UInt8)}
theorem Sim.nlen (h:Sim n P R seq B):P.now.length=R.pages.length:=by rw[h.now,List.length_map]
theorem Sim.at (h:Sim n P R seq B) (k:Nat):P.now.getD k false=(R.pages.getD k none).isSome:=by
 rw[h.now,List.getD_eq_getElem?_getD,List.getElem?_map,List.getD_eq_getElem?_getD]
 cases R.pages[k]?<;>rfl
theorem taken_iff {R:Rp}:R.taken page=true↔0<=page/\page<(R.pages.length:Int)/\(R.pages.getD page.toNat none).isSome=true:=by simp only[Rp.taken,Bool.and_eq_true,decide_eq_true_eq]
theorem Sim.fails (h:Sim n P R seq B) (page:Int):P.fails page=if R.taken page=false/\page≠-1 then 81 else 0:=by
 rw[Pg.fails,if_neg (by simp[h.off]),h.nlen,h.at]
 cases f:R.taken page with
 | true =>
  obtain⟨a,b,c⟩:=taken_iff.1 f
  rw[if_neg (by
   rintro(e | e | ⟨_,e⟩)
   .omega
   .omega
   .rw[c] at e;cases e),if_neg (by simp)]
 | false =>
  by_cases g:page=-1
  .rw[if_neg (by rintro(e | e | ⟨e,_⟩)<;>omega),if_neg (λe=>e.2 g)]
  .have j:(R.pages.length:Int)<=page\/page < -1\/0<=page/\(R.pages.getD page.toNat none).isSome=false:=by
    refine Decidable.byContradiction λd=>?_;have l:¬(R.pages.length:Int)<=page:=λe=>d (.inl e)
    have m:¬page < -1:=λe=>d (.inr (.inl e))
    have i:R.taken page=true:=taken_iff.2 ⟨by omega,by omega,by
     cases k:(R.pages.getD page.toNat none).isSome with
     | true=>rfl
     | false=>exact absurd (.inr (.inr ⟨by omega,k⟩)) d⟩
    rw[f] at i;cases i
   rw[if_pos j,if_pos ⟨rfl,g⟩]
theorem Sim.must (h:Sim n P R seq B) (page:Int):P.must page=if R.taken page=false then 81 else 0:=by
 rw[Pg.must,h.fails];by_cases a:page=-1
 .subst a
  have:R.taken (-1)=false:=by simp[Rp.taken]
  simp[this]
 .cases b:R.taken page<;>simp[a]
theorem Sim.fails1 (h:Sim n P R seq B):P.fails (-1)=0:=by rw[h.fails,if_neg (by simp)]
theorem Sim.freeAt (h:Sim n P R seq B):freeAt P.now=freeR R.pages:=by
 rw[Go.Proofs.YtfaobkmojlhbnaaGreatDoor.freeAt,h.now,List.findIdx?_map,freeR];congr 1;funext x
 cases x<;>rfl
theorem set_map_some (l:List (Option (List UInt8))) (k:Nat) (x:Option (List UInt8)):(l.set k x).map (·.isSome)=(l.map (·.isSome)).set k x.isSome:=by rw[List.map_set]
theorem Sim.lay (h:Sim n P R seq B) (k:Nat) (b:List UInt8) (hk:k<R.pages.length) (hb:b.length=896) (f:List Bool) (hnow:f=P.now.set k true):Sim n { P with now:=f,own:=oPut P.own k b,change:=true } (R.lay k b) seq B:=by
 have l:(R.pages.set k (some b)).length=R.pages.length:=by simp
 refine⟨h.live,h.off,by rw[hnow,Rp.lay,set_map_some,<-h.now];rfl,h.was,h.root,h.wroot,l.trans h.len,h.lenw.trans l.symm,h.plan,?_,h.wok,h.pagew,λj c d=>?_,λj c d=>?_,oPut_nodup h.nodup _ _,λe=>by cases e⟩
 .obtain⟨g,i,p⟩:=h.rok
  refine⟨g,by rw[hnow];simpa using i,p.imp id λa=>?_⟩;show f.getD P.root.toNat false=true
  rw[hnow,List.getD_eq_getElem?_getD,List.getElem?_set];split
  .split<;>rename_i r m
   .rfl
   .rw[h.nlen] at m;exact absurd hk m
  .rw[<-List.getD_eq_getElem?_getD];exact a
 .simp only[Rp.lay] at d
  rw[List.getElem?_set] at d;show c.length=896/\(Yl (oPut P.own k b) j=some c\/_)
  rw[oLook_put];by_cases e:k=j
  .subst e;rw[if_pos rfl,if_pos hk] at d;cases d;exact⟨hb,.inl (by rw[if_pos rfl])⟩
  .rw[if_neg e] at d
   have q:¬(j:Int)=(k:Int):=by omega
   rw[if_neg q];exact h.pagen j c d
 .simp only[Rp.lay]
  replace d:Yl (oPut P.own k b) j=some c:=d;rw[oLook_put] at d;by_cases e:j=(k:Int)
  .subst e;rw[if_pos rfl] at d;cases d;exact⟨by omega,by rw[Int.toNat_natCast,List.getElem?_set,if_pos rfl,if_pos hk]⟩
  .rw[if_neg e] at d;obtain⟨g,i⟩:=h.free j c d;exact⟨g,by rw[List.getElem?_set,if_neg (by omega)];exact i⟩
theorem Sim.alloc (h:Sim n P R seq B):P.alloc.1=R.alloc.1/\Sim n P.alloc.2 R.alloc.2 seq B:=by
 have b:=h.freeAt
 cases a:freeR R.pages with
 | none =>
  rw[Pg.alloc,if_neg (by simp[h.fails1]),b,a,Rp.alloc,a];exact⟨rfl,h⟩
 | some k =>
  rw[Pg.alloc,if_neg (by simp[h.fails1]),b,a,Rp.alloc,a];have c:k<R.pages.length:=(List.findIdx?_eq_some_iff_getElem.1 a).1
  exact⟨rfl,h.lay k Zdc c Zdb _ rfl⟩
theorem Zca {R:Rp} (h:R.taken page=true):0<=page/\page.toNat<R.pages.length/\∃b,R.pages[page.toNat]?=some (some b):=by
 simp only[Rp.taken,Bool.and_eq_true,decide_eq_true_eq] at h;obtain⟨d,e,a⟩:=h;have c:page.toNat<R.pages.length:=by omega
 refine⟨d,c,?_⟩;rw[List.getD_eq_getElem?_getD,List.getElem?_eq_getElem c] at a;rw[List.getElem?_eq_getElem c];simp only[Option.getD_some] at a;exact⟨_,Vs some (Option.some_get a).symm⟩
theorem Sim.write (h:Sim n P R seq B) (page:Int) (b:List UInt8):(P.write page b).1=(R.write page b).1/\Sim n (P.write page b).2 (R.write page b).2 seq B:=by
 cases d:R.taken page with
 | false=>rw[Pg.write,Rp.write,h.must,d];exact⟨rfl,h⟩
 | true =>
  rw[Pg.write,Rp.write,h.must,d];simp only[Bool.true_eq_false,if_false,ne_eq,not_true_eq_false];by_cases a:b.length=896
  .rw[if_neg (by simp[a]),if_neg (by simp[a])]
   obtain⟨l,f,c,i⟩:=Zca d;have e:page=((page.toNat:Nat):Int):=by omega
   refine⟨rfl,?_⟩
   have j:P.now=P.now.set page.toNat true:=by
    have g:P.now[page.toNat]?=some true:=by rw[h.now,List.getElem?_map,i];rfl
    have k:page.toNat<P.now.length:=by rw[h.nlen];exact f
    rw[List.getElem?_eq_getElem k] at g;rw[<-Ud g,List.set_getElem_self]
   have:=h.lay page.toNat b f a P.now j;rw[<-e] at this;exact this
  .rw[if_pos (by simp[a]),if_pos (by simp[a])];exact⟨rfl,h⟩
theorem Sim.freed (h:Sim n P R seq B) (page:Int):(P.free page).1=(R.free page).1/\Sim n (P.free page).2 (R.free page).2 seq B:=by
 cases i:R.taken page with
 | false=>rw[Pg.free,Rp.free,h.must,i];exact⟨rfl,h⟩
 | true =>
  rw[Pg.free,Rp.free,h.must,i];simp only[Bool.true_eq_false,if_false,ne_eq,not_true_eq_false];by_cases g:R.root=page
  .rw[if_pos (h.root.trans g).symm,if_pos g];exact⟨rfl,h⟩
  .rw[if_neg (λe=>g (h.root.symm.trans e.symm)),if_neg g]
   obtain⟨s,t,c,u⟩:=Zca i;have k:(R.pages.set page.toNat none).length=R.pages.length:=by simp
   refine⟨rfl,h.live,h.off,by simp only;rw[set_map_some,<-h.now];rfl,h.was,h.root,h.wroot,k.trans h.len,h.lenw.trans k.symm,h.plan,?_,h.wok,h.pagew,λj d b=>?_,λj d b=>?_,oDel_nodup h.nodup _,λe=>by cases e⟩
   .obtain⟨l,m,p⟩:=h.rok
    refine⟨l,by simpa using m,?_⟩;by_cases f:P.root<0
    .exact .inl f
    .refine .inr ?_
     have a:=p.resolve_left f;show (P.now.set page.toNat false).getD P.root.toNat false=true
     rw[List.getD_eq_getElem?_getD,List.getElem?_set,if_neg (by have:=h.root;omega),<-List.getD_eq_getElem?_getD];exact a
   .simp only at b
    rw[List.getElem?_set] at b;by_cases e:page.toNat=j
    .rw[if_pos e] at b
     split at b<;>cases b
    .rw[if_neg e] at b
     show d.length=896/\(Yl (oDel P.own page) j=some d\/(Yl (oDel P.own page) j=none/\_))
     rw[oLook_del,if_neg (by omega)];exact h.pagen j d b
   .simp only
    replace b:Yl (oDel P.own page) j=some d:=b;rw[oLook_del] at b;by_cases e:j=page
    .rw[if_pos e] at b;cases b
    .rw[if_neg e] at b;obtain⟨q,r⟩:=h.free j d b;exact⟨q,by rw[List.getElem?_set,if_neg (by omega)];exact r⟩
end
end
section
open Go.RowKit
variable {ks:List Int}{J:Jn}
section
variable {n : Nat} {P : Pg} {R : Rp} {seq : Int} {B : List (List UInt8)}
theorem live_rows {ok:Nat->Prop} (h:Live n J seq B ok):B.length=(n - 2) / 2/\∀b∈B,b.length=112:=by obtain⟨w,c,a⟩:=h.im;exact⟨a.rows,a.each⟩
theorem blocksAt_succ (B:List (List UInt8)) (f m:Nat):Xq B f (m+1)=Xq B f m++B.getD (f+m) []:=by rw[Xq,List.range_succ,List.flatMap_append,Xq];simp
theorem reads_live (h:Live n J seq B Zeh) (f:Nat):∀(m:Nat),f+m<=(n - 2) / 2->J.reads (f:Int) m=(Xq B f m,0,J)
 | 0,_=>by simp[Jn.reads,Xq]
 | m+1,j=>by
  have a:=reads_live h f m (by omega);have hl:=(live_rows h).1;have b:f+m<B.length:=by omega
  have c:=read_live h (i:=f+m) (by omega) trivial (List.getElem?_eq_getElem b);have e:((f:Int)+(m:Int))=((f+m:Nat):Int):=by omega
  rw[blocksAt_succ,List.getD_eq_getElem?_getD,List.getElem?_eq_getElem b,Option.getD_some];have d:(J.reads (f:Int) m).2.1=0:=by rw[a]
  have g:(J.read ((f:Int)+(m:Int))).2.1=0:=by rw[e,c]
  rw[Jn.reads_next d g,a,e,c]
theorem Sim.pagesn (h:Sim n P R seq B) {k:Nat} (hk:k<R.pages.length):2+8*k+8<=(n - 2) / 2:=by have:=h.len;omega
theorem Sim.read (h:Sim n P R seq B) (page:Int):P.read page=((R.read page).1,(R.read page).2,P):=by
 cases a:R.taken page with
 | false=>rw[Pg.read,Rp.read,h.must,a];rfl
 | true =>
  obtain⟨m,f,b,c⟩:=Zca a;have e:page=((page.toNat:Nat):Int):=by omega
  obtain⟨k,g⟩:∃k,k=page.toNat:=⟨_,rfl⟩;rw[<-g] at f c e;have i:R.read page=(b,0):=by rw[Rp.read,if_neg (by simp[a]),<-g,List.getD_eq_getElem?_getD,c];rfl
  rw[i,Pg.read,h.must,a];simp only[Bool.true_eq_false,if_false,ne_eq,not_true_eq_false];obtain⟨o,d | ⟨d,j⟩⟩:=h.pagen k b c
  .rw[e,d]
  .rw[e,d]
   obtain⟨p,l⟩:=h.pagew k b j;have hp:=h.pagesn f
   simp only;rw[page_place,reads_live h.live (2+8*k) 8 (by omega)];simp only[not_true_eq_false,if_false];have:Xq B (2+8*k) 8=b:=l
   rw[this]
theorem Sim.setRoot (h:Sim n P R seq B) (page:Int):(P.setRoot page).1=(R.setRoot page).1/\Sim n (P.setRoot page).2 (R.setRoot page).2 seq B:=by
 rw[Pg.setRoot,Rp.setRoot,h.fails];by_cases d:R.taken page=false/\page≠-1
 .rw[if_pos d,if_pos (by decide),if_pos d];exact⟨rfl,h⟩
 .rw[if_neg d,if_neg (by decide),if_neg d]
  refine⟨rfl,h.live,h.off,h.now,h.was,rfl,h.wroot,h.len,h.lenw,h.plan,?_,h.wok,h.pagew,h.pagen,h.free,h.nodup,λe=>by cases e⟩;by_cases f:page=-1
  .subst f;exact⟨Int.le_refl (-1),by show (-1:Int)<_;omega,.inl (by show (-1:Int)<0;omega)⟩
  .have g:R.taken page=true:=by
    cases i:R.taken page with
    | true=>rfl
    | false=>exact absurd ⟨i,f⟩ d
   obtain⟨a,b,c⟩:=taken_iff.1 g;refine⟨by show -1<=page;omega,?_,.inr ?_⟩
   .show page<(P.now.length:Int)
    rw[h.nlen];exact b
   .show P.now.getD page.toNat false=true
    rw[h.at];exact c
theorem Sim.opened (h:Sim n P R seq B) {P':Pg} (e:P'={ P with now:=P.was,root:=P.wroot,own:=[],change:=false }):Sim n P' R.abort seq B:=by subst e;refine⟨h.live,h.off,h.was,h.was,h.wroot,h.wroot,h.lenw.trans h.len,rfl,h.plan,h.wok,h.wok,h.pagew,λk b a=>⟨(h.pagew k b a).1,.inr ⟨rfl,a⟩⟩,λk b a=>(by cases a),List.nodup_nil,λ_=>⟨rfl,rfl,rfl⟩⟩
theorem Sim.popen (h:Sim n P R seq B) (h1:R.pages.length<=1023) (hn:6<=n):∃a,P.J.popen=(0,P.J,some a)/\a.J=P.J/\Sim n a R.abort seq B:=by
 have e:=reads_live h.live 0 2 (by omega);rw[h.plan] at e;have b:P.J.pages=P.was.length:=by rw[Jn.pages,Dk.blocks,h.live.hn,h.was,List.length_map,h.lenw,h.len]
 have f:P.was.length<=1728:=by rw[h.was,List.length_map,h.lenw];omega
 have c:Xt (Xz P.was P.wroot)=P.wroot:=rootOf_planB _ _ h.wok.1 (by have:=h.wok.2.1;omega);refine⟨⟨P.J,P.was,P.wroot,P.was,P.wroot,[],false,0⟩,?_,rfl,h.opened (by rw[<-h.off])⟩;have d:P.J.reads 0 2=(Xz P.was P.wroot,0,P.J):=e;unfold Jn.popen;simp only[d,b,planOk_planB f h.wok,takenOf_planB _ _ f,c];simp
theorem commitPlaces_mem {z:Int}:z∈Zt ks->(0<=z/\z<2)\/∃k∈ks,2+k*8<=z/\z<2+k*8+8:=by
 intro a;rcases List.mem_append.1 a with a | a
 .obtain⟨i,b,rfl⟩:=List.mem_map.1 a;have:=List.mem_range.1 b;exact .inl (by omega)
 .obtain⟨k,c,a⟩:=List.mem_flatMap.1 a
  obtain⟨i,b,rfl⟩:=List.mem_map.1 a;have:=List.mem_range.1 b
  exact .inr ⟨k,c,by omega,by omega⟩
theorem Zdx (f:Int) (m:Nat):(Zo f m).Nodup:=by rw[Zo,List.Nodup,List.pairwise_map];exact(List.nodup_range (n:=m)).imp λa e=>a (by omega)
theorem flat_nodup:∀(ks:List Int),ks.Nodup->(ks.flatMap λk=>Zo (2+k*8) 8).Nodup
 | [],_=>List.nodup_nil
 | x::ks,h=>by
  rw[Up] at h;rw[List.flatMap_cons];refine List.nodup_append.2 ⟨Zdx _ _,flat_nodup ks h.2,λa b c d e=>?_⟩;subst e;obtain⟨i,f,rfl⟩:=List.mem_map.1 b;obtain⟨k,g,l⟩:=List.mem_flatMap.1 d;obtain⟨j,m,e⟩:=List.mem_map.1 l;have h1:=List.mem_range.1 f
  have o:=List.mem_range.1 m;have:k=x:=by omega
  subst this;exact h.1 g
theorem commitPlaces_nodup (h:ks.Nodup) (h0:∀k∈ks,0<=k):(Zt ks).Nodup:=by
 refine List.nodup_append.2 ⟨Zdx _ _,flat_nodup ks h,λa b c d e=>?_⟩;subst e;obtain⟨i,f,rfl⟩:=List.mem_map.1 b;obtain⟨k,g,l⟩:=List.mem_flatMap.1 d;obtain⟨j,m,e⟩:=List.mem_map.1 l;have h1:=List.mem_range.1 f
 have o:=List.mem_range.1 m;have:=h0 k g;omega
theorem Zif {nb:Nat}:∀(d:List Int) (f:List (List UInt8)) (b:List Int),(∀z∈d,0<=z/\z<(nb:Int))->d.Nodup->(∀z∈d,z∉b)->(∀l∈f,l.length=112)->Ql nb b d f=true
 | [],_,_,_,_,_,_=>by simp[Ql]
 | _::_,[],_,_,_,_,_=>by simp[Ql]
 | z::d,l::f,b,h,g,i,j=>by
  rw[Up] at g;have a:=h z (Vi ..)
  have k:=Zif d f (b++[z]) (λy c=>h y (Vj _ c)) g.2 (λy c e=>by
   rcases List.mem_append.1 e with e | e
   .exact i y (Vj _ c) e
   .rw[List.mem_singleton.1 e] at c
    exact g.1 c) (λy c=>j y (Vj _ c))
  simp only[Ql,k,Bool.and_true,Bool.and_eq_true,decide_eq_true_eq,Bool.not_eq_true',decide_eq_false_iff_not];exact⟨⟨⟨a.1,a.2⟩,i z (Vi ..)⟩,j l (Vi ..)⟩
theorem Zhj {m:Nat} {b:List UInt8} (h:b.length=112*m):∀l∈Xo m b,l.length=112:=by
 intro l a;rw[chunks_eq] at a;obtain⟨i,c,rfl⟩:=List.mem_map.1 a;have:=List.mem_range.1 c
 simp;omega
theorem commitBlocks_len (P:Pg) (ks:List Int):(Yh P ks).length=2+8*ks.length:=by
 rw[Yh,List.length_append,Zcg];congr 1
 induction ks with
 | nil=>rfl
 | cons k r a=>rw[List.flatMap_cons,List.length_append,Zcg,a,List.length_cons];omega
theorem Sim.keys (h:Sim n P R seq B):(Zbr P.own).Nodup/\(∀k∈Zbr P.own,0<=k/\k.toNat<R.pages.length)/\(Zbr P.own).length<=R.pages.length/\(∀k,k∈Zbr P.own↔Yl P.own k≠none):=by
 have f:=List.mergeSort_perm (P.own.map (·.1)) (λx y=>decide (x<=y));have i:∀k,k∈Zbr P.own↔k∈P.own.map (·.1):=λk=>f.mem_iff;have g:∀k,k∈Zbr P.own↔Yl P.own k≠none:=λk=>by rw[i];refine⟨oLook_mem,λe=>?_⟩;obtain⟨b,a⟩:=Option.ne_none_iff_exists'.1 e;exact oLook_some a
 have a:∀k∈Zbr P.own,0<=k/\k.toNat<R.pages.length:=λk d=>by obtain⟨b,a⟩:=Option.ne_none_iff_exists'.1 ((g k).1 d);obtain⟨j,l⟩:=h.free k b a;exact⟨j,(List.getElem?_eq_some_iff.1 l).1⟩
 have c:(Zbr P.own).Nodup:=f.nodup_iff.2 h.nodup;exact⟨c,a,nodup_range _ _ c λk d=>by have:=a k d;omega,g⟩
theorem Sim.right (h:Sim n P R seq B) (hn:6<=n):Zaa ((n - 2) / 2) P.places P.blocks=true:=by
 obtain⟨g,d,p,i⟩:=h.keys;have j:P.places=Zt (Zbr P.own):=rfl
 have m:P.blocks=Yh P (Zbr P.own):=rfl;rw[j,m,Zaa,Zif _ _ [] (λz e=>?_) (commitPlaces_nodup g λk c=>(d k c).1) (λ_ _ h=>by cases h) (λl a=>?_),Zdr,commitBlocks_len]
 .simp
 .rcases commitPlaces_mem e with e | ⟨k,c,q,r⟩
  .omega
  .have:=d k c;have:=h.pagesn (k:=k.toNat) (d k c).2;omega
 .rcases List.mem_append.1 a with a | a
  .exact Zhj (by rw[Yd]) l a
  .obtain⟨k,c,a⟩:=List.mem_flatMap.1 a;obtain⟨b,f⟩:=Option.ne_none_iff_exists'.1 ((i k).1 c);rw[f] at a;obtain⟨s,o⟩:=h.free k b f;exact Zhj (by have:=(h.pagen k.toNat b o).1;rw[Option.getD_some];omega) l a
structure Commits (n:Nat) (P:Pg) (R:Rp) (seq:Int) (B:List (List UInt8)) (seq':Int) (B':List (List UInt8)):Prop where
 err:P.commit.1=0
 sim:Sim n P.commit.2 R.commit seq' B'
 last:P.commit.2.J.last<=P.J.last+1
 cut:P.commit.2.J.D.cut=P.J.D.cut
 ops:P.commit.2.J.D.ops<=P.J.D.ops+(8+16*R.pages.length)
 seq:seq<=seq'/\seq'<=seq+1
theorem Sim.written (h:Sim n P R seq B) (hn:6<=n) {j:Jn} {c:Int} (hl:Live n j c (Qj B P.places P.blocks) Zeh):Sim n { P with J:=j,was:=P.now,wroot:=P.root,own:=[],change:=false } R.commit c (Qj B P.places P.blocks):=by
 obtain⟨m,l,t,i⟩:=h.keys;have hrow:=(live_rows h.live).1
 have f:∀k b,Yl P.own k=some b->b.length=896:=λk b o=>(h.pagen k.toNat b (h.free k b o).2).1;obtain⟨u,p,q⟩:=commit_upd (P:=P) (B:=B) f (Zbr P.own) (by omega) m (λk a=>⟨(l k a).1,by have:=h.pagesn (l k a).2;omega⟩) (λk a=>Option.ne_none_iff_exists'.1 ((i k).1 a))
 have g:∀(k:Nat) b,R.pages[k]?=some (some b)->b.length=896/\pageAt (Qj B P.places P.blocks) k=b:=λk b a=>by
  obtain⟨r,d⟩:=h.pagen k b a;refine⟨r,?_⟩;have:=q k
  rw[show pageAt (Qj B P.places P.blocks) k=_ from this]
  rcases d with d | ⟨d,s⟩
  .rw[if_pos ((i _).2 (by rw[d];simp)),d];rfl
  .rw[if_neg (λe=>(i _).1 e d)];exact(h.pagew k b s).2
 exact⟨hl,h.off,h.now,h.now,h.root,h.root,h.len,rfl,p,h.rok,h.rok,g,λk b a=>⟨(g k b a).1,.inr ⟨rfl,a⟩⟩,λk b a=>(by cases a),List.nodup_nil,λ_=>⟨rfl,rfl,rfl⟩⟩
theorem Sim.commit (h:Sim n P R seq B) (hn:6<=n) (hcut:P.J.D.cut<0) (ht:P.J.last+1<4611686018427387904) (hb:P.J.D.ops+(8+16*R.pages.length)<=1048576):∃c B',Commits n P R seq B c B':=by
 cases a:P.change with
 | false =>
  obtain⟨l,i,m⟩:=h.clean a;have e:P.commit=(0,P):=by rw[Pg.commit,if_neg (by simp[h.fails1]),if_pos a]
  refine⟨seq,B,by rw[e],?_,by rw[e];show P.J.last<=_;omega,by rw[e],by rw[e];show P.J.D.ops<=_;omega,by omega⟩
  rw[e]
  exact⟨h.live,h.off,h.now,by rw[h.was];show _=R.pages.map _;rw[i],h.root,by rw[h.wroot];exact m.symm,h.len,rfl,h.plan,h.rok,h.wok,λk b g=>h.pagew k b (by rw[<-i];exact g),λk b g=>by
   obtain⟨o,p⟩:=h.pagen k b g
   exact⟨o,p.imp id λd=>⟨d.1,g⟩⟩,h.free,h.nodup,λ_=>⟨l,rfl,rfl⟩⟩
 | true =>
  obtain⟨r,s,t,u⟩:=h.keys;have q:P.places.length=2+8*(Zbr P.own).length:=Zdr _
  have f:=write_ok h.live hcut (h.right hn) ht (by omega);have e:P.commit=(0,{ P with J:=(P.J.write P.places P.blocks).2,was:=P.now,wroot:=P.root,own:=[],change:=false }):=by rw[Pg.commit,if_neg (by simp[h.fails1]),if_neg (by simp[a])];simp only;rw[if_neg (by simp[f.err])]
  have j:=f.live;rw[if_neg (by omega)] at j;refine⟨seq+1,Qj B P.places P.blocks,by rw[e],by rw[e];exact h.written hn j,by rw[e];exact f.last,by rw[e];exact f.cut,?_,by omega⟩;rw[e];have:=f.ops;show (P.J.write P.places P.blocks).2.D.ops<=_
  omega
end
end
section
open Go.RowKit
theorem planHead_split (n r:Nat):Xm n r=((((Zai (List.replicate 224 0) 0 [85,80,71,49]).set 4 (UInt8.ofNat n)).set 5 (UInt8.ofNat (n / 256))).set 6 (UInt8.ofNat r)).set 7 (UInt8.ofNat (r / 256)):=by simp[Xm,Zai,List.replicate]
def Zet (n r:Nat):Nat->List UInt8
 | 0=>Zai (List.replicate 224 0) 0 [85,80,71,49]
 | 1=>((Zai (List.replicate 224 0) 0 [85,80,71,49]).set 4 (UInt8.ofNat n)).set 5 (UInt8.ofNat (n / 256))
 | _=>Xm n r
theorem headTo_length (n r k:Nat):(Zet n r k).length=224:=by
 match k with
 | 0=>simp[Zet,Zai]
 | 1=>simp[Zet,Zai]
 | _+2=>simp[Zet,Xm]
theorem byte_of (n:Nat):(n:Int) % 256=(((UInt8.ofNat n).toNat:Nat):Int):=by rw[UInt8.toNat_ofNat'];omega
theorem run_shl1 (j:Nat) (hj:j<8) (W:World):Sem.run Tryz.prog (Op.shift .shl .u8 1 .i64 ((j:Nat):Int)) W=.ok (.int .u8 ((2 ^ j:Nat):Int)) W:=by
 rcases(show j=0\/j=1\/j=2\/j=3\/j=4\/j=5\/j=6\/j=7 by omega) with rfl | rfl | rfl | rfl | rfl | rfl | rfl | rfl<;>kernel_rfl
theorem tmod8 (k:Nat):(k:Int).tmod 8=((k % 8:Nat):Int):=by rw[Int.tmod_eq_emod_of_nonneg (by omega)];omega
theorem or_bit (x:UInt8) (j:Nat) (hj:j<8):bits .or .u8 ((x.toNat:Nat):Int) ((2 ^ j:Nat):Int)=(((x ||| UInt8.ofNat (2 ^ j)).toNat:Nat):Int):=by
 have b:(2:Nat) ^ j<256:=by have:=Nat.pow_lt_pow_right (a:=2) (by omega) hj;omega
 rw[u8_or_nat _ _ x.toNat_lt b,UInt8.toNat_or,UInt8.toNat_ofNat',Nat.mod_eq_of_lt (by omega)]
theorem byte_of8' (n:Nat) (h:n<65536):(n:Int) / 256=(((UInt8.ofNat (n / 256)).toNat:Nat):Int):=by rw[UInt8.toNat_ofNat'];omega
theorem headTo_one (n r:Nat):((Zet n r 0).set 4 (UInt8.ofNat n)).set 5 (UInt8.ofNat (n / 256))=Zet n r 1:=rfl
theorem headTo_two (n r:Nat):((Zet n r 1).set 6 (UInt8.ofNat r)).set 7 (UInt8.ofNat (r / 256))=Zet n r 2:=(planHead_split n r).symm
theorem planB_any (w:World) (B:Nat) (v:Value) (t:List Bool) (r:Int) (hv:Qb B w v t) (ht:t.length<=1023) (h1:-1<=r) (h2:r<65535) :
  Calls Tryz.prog 70 #[.agg #[v,.int .i64 r]] w λe w'=>∃u,e=.returned u/\Mine 5 w.heap.size w' u (Xz t r)/\Below w.heap.size w w':=by
 obtain⟨a,c,rfl,a1,ag⟩:=hv.form;have HV:=Hd hv
 obtain⟨rn,D⟩:∃rn:Nat,r+1=(rn:Int):=⟨(r+1).toNat,by omega⟩;have aa:rn<65536:=by omega
 obtain⟨b,h⟩:∃b,b=t.length:=⟨_,rfl⟩;obtain⟨N1,a2⟩:∃N1,N1=Zet b rn 1:=⟨_,rfl⟩;obtain⟨N2,a3⟩:∃N2,N2=Xm b rn:=⟨_,rfl⟩;have HP:Hid (Xz t r=Zas t (Xm b rn) b):=Hd (by rw[Xz,h,D,Int.toNat_natCast])
 obtain⟨R,J⟩:∃R,R=List.replicate 224 (0:UInt8):=⟨_,rfl⟩;have hmk:=run_make224
 rw[<-J] at hmk;obtain⟨W1,i⟩:∃W1,W1=w.alloc (.cells #[.slice a t.length c,.int .i64 r] 141):=⟨_,rfl⟩;have O:W1.heap[w.heap.size]?=some (.cells #[.slice a t.length c,.int .i64 r] 141 (0,0)):=by rw[i];exact Vg w _
 have P:Below w.heap.size w W1:=by rw[i];exact(Ve _ _).alloc (Va _) _
 have a4:W1.heap.size=w.heap.size+1:=by rw[i];simp
 obtain⟨W2,o⟩:∃W2,W2=W1.alloc (.cells (bv R).toArray 5):=⟨_,rfl⟩;have p:Zh W2 W1.heap.size 5 R:=by rw[o];exact Zh.alloc W1 _ _
 have j:Below W1.heap.size W1 W2:=by rw[o];exact(Ve _ _).alloc (Va _) _
 have a5:=run_copy_word p (by rw[J];simp) 3;have hr3:=p.lay 0 [85,80,71,49] (by rw[J];simp);have ht3:=Zu W2 W1.heap.size 0 (bv [85,80,71,49]);have z:Zh (W2.setCells W1.heap.size 0 (bv [85,80,71,49])) W1.heap.size 5 (Zet b rn 0):=by rw[Zet,<-J];exact hr3
 have g:(W2.setCells W1.heap.size 0 (bv [85,80,71,49])).heap[w.heap.size]?=some (.cells #[.slice a t.length c,.int .i64 r] 141 (0,0)) :=
  (ht3.block w.heap.size (by have:=j.size;omega) (by omega)).trans ((j.block w.heap.size (by omega)).trans O)
 have E:Below w.heap.size w (W2.setCells W1.heap.size 0 (bv [85,80,71,49])):=(P.trans (j.mono (by omega))).trans (ht3.below (by have:=j.size;omega) (λk Q=>by omega));have a6:W1.heap.size<(W2.setCells W1.heap.size 0 (bv [85,80,71,49])).heap.size:=Vm p.lt ht3.size;have ah:w.heap.size<W1.heap.size:=by omega
 have F:=Hd i;have HW2:=Hd o;have HR:=Hd J;have Htn:=Hd h;have Hrn:=Hd D;clear hv p hr3 ht3 P j O a4 J i o a2 a3 N1 N2 D;rw[<-h] at a1 g ht ⊢;rw[<-h] at HV F;clear h;go_enter Tryz.func70,Tryz.ntmps70;go_upto_region 1 with fail;rw[<-F.out];go_upto_region 2 with fail;rw[<-HW2.out];generalize W1.heap.size=G at *;go_upto_region 3 with fail;generalize W2.setCells G 0 (bv [85,80,71,49])=n at *;clear a5 F HW2 HR;have S:n.cell? ⟨w.heap.size,0,none⟩=some (.slice a b c):=by rw[Vc _ _ _ _ _ _ g];rfl
 have c1:n.cell? ⟨w.heap.size,1,none⟩=some (.int .i64 r):=by rw[Vc _ _ _ _ _ _ g];rfl
 have q:Below n.heap.size n (n.alloc (.cells #[.int .i64 (b:Int),.int .i64 (r+1)] 3)):=(Ve _ _).alloc (Va _) _;have H:(n.alloc (.cells #[.int .i64 (b:Int),.int .i64 (r+1)] 3)).heap[n.heap.size]?=some (.cells #[.int .i64 (b:Int),.int .i64 (r+1)] 3 (0,0)):=Vg n _;have hr4:=z.below q;have hp4:=(q.block w.heap.size (Za g)).trans g;have hb4:=E.trans (q.mono E.size);have a7:-1<=r/\r<=65535:=by omega
 obtain⟨ab,ad⟩:=a7;go_wp2_with fail;generalize a8:n.heap.size=M at *;have ae:M≠G:=by omega
 clear a8;generalize n.alloc (.cells #[.int .i64 (b:Int),.int .i64 (r+1)] 3)=W4 at *;clear S c1 q z g E a6;rw[Hrn.out] at H ⊢;go_loopw [19] (λx wr=>∃k:Nat,k<=2/\x=.int .i64 (k:Int)/\Zh wr G 5 (Zet b rn k)/\wr.heap[M]?=some (.cells #[.int .i64 (b:Int),.int .i64 (rn:Int)] 3 (0,0))/\wr.heap[w.heap.size]?=some (.cells #[.slice a b c,.int .i64 r] 141 (0,0))/\Below w.heap.size w wr) (λx _=>2 - (intOf x).toNat)
 case atStart=>exact⟨0,by omega,rfl,hr4,H,hp4,hb4⟩
 case round =>
  clear hr4 H hp4 hb4;obtain⟨k,Q,rfl,d,s,A,f⟩:=hrel;by_cases T:k=0
  .subst T
   have S:wr.cell? ⟨M,0,none⟩=some (.int .i64 (b:Int)):=by rw[Vc _ _ _ _ _ _ s];rfl
   have N:=headTo_length b rn 0;have b4:=d.cell 4 (by omega);have b5:=d.cell 5 (by omega);have f4:=d.frozen 4;have f5:=d.frozen 5;have af:b<=1023:=ht;have hr':=(d.set 4 (UInt8.ofNat b)).set 5 (UInt8.ofNat (b / 256));have ht1:=(Zc wr G 4 (.int .u8 ((UInt8.ofNat b).toNat:Int))).trans (Zc _ G 5 (.int .u8 ((UInt8.ofNat (b / 256)).toNat:Int)));rw[headTo_one] at hr';rw[<-byte_of b,<-byte_of8' b (by omega)] at hr' ht1;have HF:=Hd (And.intro hr' (And.intro ((ht1.block M (Za s) (by omega)).trans s) (And.intro ((ht1.block w.heap.size (Za A) (by omega)).trans A) (f.trans (ht1.below f.size (λk Q=>by omega))))));clear hr' ht1 d s A f;go_wp2_with fail;go_roundw
   case rel=>exact⟨1,by omega,by go_num,HF.out⟩
   case measure=>simp[intOf]
  by_cases U:k=1
  .subst U
   have S:wr.cell? ⟨M,1,none⟩=some (.int .i64 (rn:Int)):=by rw[Vc _ _ _ _ _ _ s];rfl
   have N:=headTo_length b rn 1;have b4:=d.cell 6 (by omega);have b5:=d.cell 7 (by omega);have f4:=d.frozen 6;have f5:=d.frozen 7;have hr':=(d.set 6 (UInt8.ofNat rn)).set 7 (UInt8.ofNat (rn / 256));have ht1:=(Zc wr G 6 (.int .u8 ((UInt8.ofNat rn).toNat:Int))).trans (Zc _ G 7 (.int .u8 ((UInt8.ofNat (rn / 256)).toNat:Int)));rw[headTo_two] at hr';rw[<-byte_of rn,<-byte_of8' rn (by omega)] at hr' ht1;have HF:=Hd (And.intro hr' (And.intro ((ht1.block M (Za s) (by omega)).trans s) (And.intro ((ht1.block w.heap.size (Za A) (by omega)).trans A) (f.trans (ht1.below f.size (λk Q=>by omega))))));clear hr' ht1 d s A f;go_wp2_with fail;go_roundw
   case rel=>exact⟨2,by omega,by go_num,HF.out⟩
   case measure=>simp[intOf]
  .obtain rfl:k=2:=by omega
   have S:wr.cell? ⟨w.heap.size,0,none⟩=some (.slice a b c):=by rw[Vc _ _ _ _ _ _ A];rfl
   clear T U s;rw[show ((2:Nat):Int)=2 from rfl]
   go_wp2_with fail;have V:Zh wr G 5 (Zas t (Xm b rn) 0):=d
   clear d A S;go_loopw [43] (λx wr=>∃k:Nat,k<=b/\x=.int .i64 (k:Int)/\Zh wr G 5 (Zas t (Xm b rn) k)/\Below w.heap.size w wr) (λx _=>b - (intOf x).toNat)
   case atStart=>exact⟨0,Vl _,rfl,V,f⟩
   case round =>
    clear V f;obtain⟨k,Q,rfl,d,f⟩:=hrel;have N:(Zas t (Xm b rn) k).length=224:=by rw[Zgj,Zeu]
    by_cases a9:k<b
    case neg =>
     obtain rfl:k=b:=by omega
     have hm:=d;have ai:decide ((k:Int)<(k:Int))=false:=by simp
     go_wp2_with fail;go_ret;refine⟨_,rfl,?_,f⟩;rw[HP.out]
     have X:wr.ownsRow w.heap.size 5 1 (.slice (some ⟨G,0,none⟩) 224 224) 224 (bv (Zas t (Xm k rn) k)) :=
      ⟨by rw[Zk,N],.inr ⟨G,224,_,rfl,by omega,hm,Va _,by simp[maxLen],by simp[Zk,N],by simp[List.take_of_length_le,Zk,N]⟩⟩
     unfold Mine;rw[N];exact X
    have y:k<t.length:=by rw[<-Htn.out];exact a9
    obtain⟨g0,cc,hv,_,_,Y⟩:=HV.out.cell (λe=>by rw[e] at y;simp at y);simp only[Value.slice.injEq] at hv;have hav:=hv.1
    clear hv;subst hav;have hc:=Zi f _ _ (Y k y)
    have hd:decide ((k:Int)<(b:Int))=true:=Vd (by omega);have C:t.getD k false=t[k]:=by rw[List.getD_eq_getElem?_getD,List.getElem?_eq_getElem y];rfl
    have l:Zas t (Xm b rn) (k+1)=if t[k] then Zgl (Zas t (Xm b rn) k) k else Zas t (Xm b rn) k:=by rw[Zas,C]
    have m:=Hd l;clear Y C l;generalize t[k]=tk at *;generalize Zas t (Xm b rn) k=L at *
    cases tk with
    | false =>
     go_wp2_with fail;go_roundw
     case rel=>exact⟨k+1,by omega,by go_num,by rw[m.out];exact d,f⟩
     case measure=>simp[intOf];omega
    | true =>
     have aj:k / 8<216:=by omega
     have bc:=d.cell (8+k / 8) (by omega);have fc:=d.frozen (8+k / 8);replace bc:wr.drew.cell? _=_:=bc;replace fc:wr.drew.frozen? _=_:=fc;have ak:IntKind.i64.wrap ((k:Int) / 8)=(k:Int) / 8:=Vf _ (by omega);have al:IntKind.i64.wrap (8+(k:Int) / 8)=8+(k:Int) / 8:=Vf _ (by omega);obtain⟨am,an⟩:(0:Int)<=8+(k:Int) / 8/\8+(k:Int) / 8<224:=by omega
     have ao:∀W,Sem.run Tryz.prog (Op.shift .shl .u8 1 .i64 ((k:Int).tmod 8)) W=.ok (.int .u8 ((2 ^ (k % 8):Nat):Int)) W:=λW=>by rw[tmod8];exact run_shl1 _ (by omega) W
     have I:=or_bit L[8+k / 8] (k % 8) (by omega);rw[show ((2 ^ (k % 8):Nat):Int)=(2:Int) ^ (k % 8) by simp] at I
     have Z:Zh wr.drew G 5 L:=d;have hs:=Z.set (8+k / 8) (L[8+k / 8] ||| UInt8.ofNat (2 ^ (k % 8)));have hts:=Zc wr.drew G (8+k / 8) (.int .u8 ((L[8+k / 8] ||| UInt8.ofNat (2 ^ (k % 8))).toNat:Int));have a0:L.set (8+k / 8) (L[8+k / 8] ||| UInt8.ofNat (2 ^ (k % 8)))=Zgl L k:=by rw[Zgl,List.getD_eq_getElem?_getD,List.getElem?_eq_getElem (by omega),Option.getD_some]
     rw[a0] at hs;rw[<-I] at hs hts;have HF:=Hd (And.intro hs (f.drew.trans (hts.below (B:=w.heap.size) (by have:=f.size;exact this) (λk Q=>by omega))))
     clear I Z hs hts a0 f d;have ap:(8+(k:Int) / 8).toNat=8+k / 8:=by omega
     go_wp2_with fail;refine wp_region_still_tail 11 (by kernel_rfl) (by kernel_rfl) ?_;simp only[List.take_succ_cons,List.take_zero,List.drop_succ_cons,List.drop_zero];change wpStill _ _ wr.drew (λa'=>wpList _ _ _ _ a' wr.drew) _ _;generalize wr.drew=W5 at *;iterate 11 still_step
     refine wpStill_nil ?_;go_wp2_with fail;go_roundw
     case rel=>exact⟨k+1,by omega,by go_num,by rw[m.out];exact HF.out.1,HF.out.2⟩
     case measure=>simp[intOf];omega
end
section
open Go.RowKit
theorem Jn.writes_n (J:Jn) (zs:List Int) (ls:List (List UInt8)):(J.writes zs ls).D.n=J.D.n:=by
 have h:∀(J:Jn) (a:List (List UInt8)),(J.spread a).D.n=J.D.n:=λJ a=>by rw[Jn.spread,Jn.flush_n,Jn.spreads_n]
 unfold Jn.writes;simp only
 split<;>rw[h,Jn.flush_n,Jn.lay_n,Jn.flush_n,Jn.layTo_n]
theorem Jn.write_n (J:Jn) (zs:List Int) (ls:List (List UInt8)):(J.write zs ls).2.D.n=J.D.n:=by
 unfold Jn.write;split
 .rfl
 .split
  .rfl
  .split
   .rfl
   .exact Jn.writes_n J zs ls
theorem commit_places (P:Pg):P.places=Zt (Zbr P.own):=rfl
theorem commit_blocks (P:Pg):P.blocks=Yh P (Zbr P.own):=rfl
section
variable {w : World} {F : Ft} {p : Nat} {f : Pf} {P : Pg}
theorem commit_any (h:Ys w F p f P) (hlast:P.J.last+1<18446744073709551616) (am:-9223372036854775808<=P.J.seq) (an:P.J.seq<9223372036854775807) :
  Calls Tryz.prog 44 #[Qs f.q] w λe w'=>e=.returned (.int .i64 P.commit.1)/\Zco w F p f w' P.commit.2:=by
 have HF:=Hd (fails_any h (-1) (by omega) (by omega));by_cases h0:P.fails (-1)=0
 case neg =>
  have e:P.commit=(P.fails (-1),P):=by rw[Pg.commit,if_pos h0]
  have d1:(P.fails (-1) != 0)=true:=by simpa using h0
  have HS:=Hd (Zco.same h);rw[e];clear h h0 e;generalize P.fails (-1)=x at *;go_enter Tryz.func44,Tryz.ntmps44;go_wp2_with (go_at_call 67;refine HF.out.mono ?_;rintro e w2 ⟨rfl,rfl⟩);go_ret;exact⟨rfl,HS.out⟩
 rw[h0] at HF;obtain⟨c0,c1,c2,c3,c4,c5,c6,c7⟩:=h.cells
 cases r:P.change with
 | false =>
  have e:P.commit=(0,P):=by rw[Pg.commit,if_neg (by simp[h0]),if_pos r]
  have HS:=Hd (Zco.same h);rw[r] at c6;rw[e];clear h h0 e r;go_enter Tryz.func44,Tryz.ntmps44;go_wp2_with (go_at_call 67;refine HF.out.mono ?_;rintro e w2 ⟨rfl,rfl⟩);go_ret;exact⟨rfl,HS.out⟩
 | true =>
 rw[r] at c6
 have HE:=Hd (show P.commit=if (P.J.write P.places P.blocks).1≠0 then ((P.J.write P.places P.blocks).1,{ P with J:=(P.J.write P.places P.blocks).2,off:=Zae P.off (P.J.write P.places P.blocks).1 }) else (0,{ P with J:=(P.J.write P.places P.blocks).2,was:=P.now,wroot:=P.root,own:=[],change:=false }) by
  rw[Pg.commit,if_neg (by simp[h0]),if_neg (by simp[r])])
 have o:=h.ok;have HPB:=Hd (planB_any w 0 _ P.now P.root (h.now.mine 0 (Vl _)) o.n1 o.r0 (by have:=o.r1;have:=o.n1;omega));obtain⟨L1,V⟩:∃L,L=Xz P.now P.root:=⟨_,rfl⟩;have a7:L1.length=224:=by rw[V,Yd]
 have aL:=Hd V;rw[<-V] at HPB;have HH:=Hd h;have HO:=Hd o;have HLN:=Hd a7;clear h h0 r o V a7;go_enter Tryz.func44,Tryz.ntmps44;go_wp2_with (go_at_call 67;refine HF.out.mono ?_;rintro e w9 ⟨rfl,ao⟩;rw[ao];clear ao w9);refine HPB.out.mono ?_;rintro e w1 ⟨u,rfl,hu,W⟩;obtain⟨gu,cu,rfl,b2,aM,b3⟩:=hu.slice (by have:=HLN.out;omega);rw[HLN.out] at *;have HP1:=Hd (parts_any w1 0 gu cu 2 224 rfl aM (by omega) (by omega) (by omega));have hs1:=W.size;have HU:=Hd hu;clear hu;go_wp2_with fail;refine HP1.out.mono ?_;rintro e w2 ⟨ua,ul,rfl,a9,ap,D⟩;have hs2:=D.size;have h2:=HH.out.below (W.trans (D.mono hs1));have g5:=h2.cells.2.2.2.2.2.1;have HK:=Hd (keys_any w2 f.M f.kv h2.tab (by have:=h2.own_len;have:=h2.ok.n1;omega));have aq:Mine 5 w.heap.size w2 (.slice (some ⟨gu,0,none⟩) 224 cu) L1:=HU.out.below D;have HU2:=Hd aq;have HA2:=Hd a9;have HL2:=Hd ap;have HB2:=Hd (W.trans (D.mono hs1));clear c0 c1 c2 c3 c4 c5 c6 c7 aq a9 ap h2 W D;go_wp2_with fail;refine HK.out.mono ?_;rintro e X ⟨v,rfl,E,G⟩;obtain⟨K,hK⟩:∃K,K=upI (f.kv.map (·.1)):=⟨_,rfl⟩;rw[<-hK] at E;have ar:K=Zbr P.own:=by rw[hK,HH.out.pgs.keys];rfl
 have ab:Hid (∀k∈K,k∈P.own.map (·.1)):=Hd λk j=>by rw[hK,mem_upI,HH.out.pgs.keys] at j;exact j
 have au:Hid (∀k∈K,0<=k/\k<1024):=Hd λk j=>by
  obtain⟨y,hy,rfl⟩:=List.mem_map.1 (ab.out k j);have:=HO.out.keys y hy
  have:=HO.out.n1;omega
 have b4:K.length<=1023:=by
  rw[hK,upI_length,List.length_map,HH.out.own_len.2];have:=HH.out.own_len.1
  have:=HO.out.n1;omega
 have aN:=Hd ar;clear hK ar;obtain⟨av,cv,rfl,aY,aZ⟩:=E.form;have hs2':=HB2.out.size;have hb03:=HB2.out.trans (G.mono hs2');have ad:Hid (∀i (h:i<K.length),∃gk,av=some ⟨gk,0,none⟩/\X.cell? ⟨gk,i,none⟩=some (.int .i64 K[i])):=Hd λi hi=>by obtain⟨g,b5,hv,_,_,Y⟩:=E.cell (λe=>by rw[e] at hi;simp at hi);simp only[Value.slice.injEq] at hv;exact⟨g,hv.1,Y i hi⟩
 have H:Hid (∀gk,av=some ⟨gk,0,none⟩->w2.heap.size<=gk/\gk<X.heap.size/\∃c,X.heap[gk]?=some (.cells c 3 (0,0))):=Hd λgk e=>by have hv:=E;rw[e] at hv;obtain⟨a,c,Y⟩:=Zcv hv (k:=gk) rfl;exact⟨a,Za Y,c,Y⟩
 have aO:Hid (Qt w.heap.size X ua (Zo 0 2)):=Hd (World.ownsRow.mono (HA2.out.below G) hs1);have aP:Hid (Zbh w.heap.size X ul (Zx gu (List.range 2))):=Hd (World.ownsRow.mono (HL2.out.below G) hs1);have HU3:=Hd (HU2.out.below G);have aQ:Hid (∀gk,av=some ⟨gk,0,none⟩->ua.ownBlock≠some gk):=Hd λgk e e2=>by have h1:=H.out gk e;obtain⟨a,c,Y⟩:=Zcv HA2.out e2.symm;have:=Za Y;omega
 have aR:=Hd hb03;clear E G hb03;go_wp2_with fail
 go_loopw [4,5,38] (λaw l x wr=>∃i:Nat,i<=K.length/\x=.int .i64 (i:Int)/\Qt w.heap.size wr aw (Zt (K.take i))/\Zbh w.heap.size wr l (Zax gu f.kv (K.take i))/\Mine 5 w.heap.size wr (.slice (some ⟨gu,0,none⟩) 224 cu) L1 /\
  (∀gk,av=some ⟨gk,0,none⟩->wr.heap[gk]?=X.heap[gk]?/\aw.ownBlock≠some gk/\gk<wr.heap.size)/\Below w.heap.size w wr) (λ_ _ x _=>K.length - (intOf x).toNat)
 case atStart =>
  refine⟨0,Vl _,rfl,?_,?_,HU3.out,λgk e=>⟨rfl,aQ.out gk e,(H.out gk e).2.1⟩,aR.out⟩
  .simpa [Zt] using aO.out
  .simpa [Zax] using aP.out
 case round =>
  obtain⟨i,hi,rfl,m,hl,Z,ae,s⟩:=hrel;have hsr:=s.size
  have d:=Hd (HH.out.on HH.out s);by_cases t:i<K.length
  .have hd:decide ((i:Int)<(K.length:Int))=true:=Vd (by omega)
   obtain⟨gk,aS,ax⟩:=ad.out i t;subst aS;obtain⟨z,A,I⟩:=ae gk rfl;obtain⟨_,_,ck,N⟩:=H.out gk rfl;have aT:wr.cell? ⟨gk,i,none⟩=some (.int .i64 K[i]):=(World.cell?_of_block z).trans ax
   obtain⟨k,j⟩:∃k,k=K[i]:=⟨_,rfl⟩;have hkb:=au.out K[i] (Vo t)
   have af:=ab.out K[i] (Vo t);have HS1:=Hd (commitPlaces_succ K i t);have HS2:=Hd (commitVals_succ gu f.kv K i t);rw[<-j] at aT hkb af HS1 HS2;obtain⟨ch,b,l1,l2,l3,l4,l5⟩:=d.out.pgs.at af;have hlo:=d.out.tab.kmap.run_look (P:=Tryz.prog) (T:=143) Tryz.underlying143 Tryz.underlying3 (.slice none 0 0) (λw=>by kernel_rfl) k;rw[l1] at hlo;dsimp only[Option.getD] at hlo;have g5:=d.out.cells.2.2.2.2.2.1;have b6:IntKind.i64.wrap (k*8)=k*8:=Vf _ (by omega);have b7:IntKind.i64.wrap (2+k*8)=2+k*8:=Vf _ (by omega);have HPT:=Hd (parts_any wr (2+k*8) (pageG f.kv k) ch 8 896 rfl l4 (by omega) (by omega) (by omega));obtain⟨aa,ac,rfl,b8,a9⟩:=m.form;obtain⟨la,lc,rfl,b0,b1⟩:=hl.form;have HPL:=Hd (Zdr (K.take i));have HVL:=Hd (commitVals_len gu f.kv (K.take i));have ay:Hid ((K.take i).length=i):=Hd (by rw[List.length_take];omega);have HHk:=Hd (And.intro z (And.intro A (And.intro I N)));have HAT:=Hd m;have HL:=Hd hl;have HUR:=Hd Z;have HBR:=Hd s;clear z A I N ax ae m hl Z s l1 l2 l3 l4 l5 j af;go_wp2_with fail;refine HPT.out.mono ?_;rintro e w4 ⟨pu,pv,rfl,ag,ah,n⟩;obtain⟨pa,pc,rfl,b9,ba⟩:=ag.form;obtain⟨qa,qc,rfl,bb,bc⟩:=ah.form;have hs4:=n.size;have hat4:=HAT.out.below n;have hl4:=HL.out.below n
   have az:=HUR.out.below n;obtain⟨z,A,I,N⟩:=HHk.out;have hk14:=(n.block gk I).trans z;obtain⟨v5,w5,aA,a0,ai,O,_,aB⟩:=run_ints w4 w.heap.size _ _ hat4 _ _ ag.isI (by rw[HPL.out,Yn,ay.out];omega) (by omega);have B:Zbh w.heap.size w5 _ _:=Zfh hl4 hat4 (by decide) O;have aC:Zbh 0 w5 _ _:=Zfh (World.ownsRow.mono ah (Vl _)) (World.ownsRow.mono hat4 (Vl _)) (by decide) O;have aD:Mine 5 w.heap.size w5 _ _:=Zfh az hat4 (by decide) O;have hs5:=ai.size;obtain⟨v6,Q,aE,a1,S⟩:=B.cat (by omega) aC (chunkVals_one _ _) (by rw[HVL.out,Zbx,List.length_range,ay.out];omega);have U:Qt w.heap.size Q _ _:=Zfh a0 B (by decide) S;have aF:Mine 5 w.heap.size Q _ _:=Zfh aD B (by decide) S;have hb6:=(Ve w.heap.size w5).grown S (by omega) λk j=>(World.ownsRow.lt B k j).1;rw[<-HS1.out] at U a0;rw[<-HS2.out] at a1;have aj:w5.heap[gk]?=X.heap[gk]?:=(O.block gk (by omega) (λe=>A e.symm)).trans hk14
   have aG:Q.heap[gk]?=X.heap[gk]?:=(S.block gk (by omega) (λe=>by
    obtain⟨_,c,Y⟩:=Zcv B e;rw[aj,N] at Y
    simp at Y)).trans aj
   have aH:v5.ownBlock≠some gk:=by
    rcases aB with e | e
    .rw[e];exact A
    .rw[e];simp only[ne_eq,Option.some.injEq];omega
   have bd:=hb6.size;obtain⟨a5,be,rfl,_,_⟩:=a0.form;obtain⟨a6,bf,rfl,_,_⟩:=a1.form
   have HX:=Hd (And.intro U (And.intro a1 (And.intro aF (And.intro (show ∀C,(some ⟨gk,0,none⟩:Option Addr)=some ⟨C,0,none⟩->Q.heap[C]?=X.heap[C]?/\Value.ownBlock _≠some C/\C<Q.heap.size from λC e=>by
    simp only[Option.some.injEq,Addr.mk.injEq,and_true] at e;obtain rfl:=e
    exact⟨aG,aH,by omega⟩) ((HBR.out.trans (n.mono hsr)).trans (ai.trans hb6))))))
   clear U a1 aF aH aG aj z A I N hk14 hat4 hl4 az ag ah a0 O B aC aD S hb6 aB n ai;go_wp2_with (first | (at_builtin;refine wpList_append_run rfl (.tmp 55) (.tmp 56) 32 32 rfl _ _ _ rfl rfl aA ?_;clear aA) | (at_builtin;refine wpList_append_run rfl (.tmp 58) (.tmp 59) 147 147 rfl _ _ _ rfl rfl aE ?_;clear aE));go_roundw
   case rel=>exact⟨i+1,t,by go_num,HX.out.1,HX.out.2.1,HX.out.2.2.1,HX.out.2.2.2.1,HX.out.2.2.2.2⟩
   case measure=>simp[intOf];omega
  .obtain rfl:i=K.length:=by omega
   have bg:decide ((K.length:Int)<(K.length:Int))=false:=by simp
   rw[List.take_length] at m hl;have a2:∀k,JT F p k->¬w.heap.size<=k:=λk e h=>by have:=HH.out.jat.lt e;omega
   have HW:=Hd (jwrite_any wr F p P.J d.out.jat d.out.nib (by have:=d.out.n22;omega) _ (Zt K) (λw' ht=>(m.keep λk h1 h2=>ht.block k h2 λe=>a2 k e h1).isI) _ (Yh P K)
    (λw' ht=>(hl.keep λk h1 h2=>ht.block k h2 λe=>a2 k e h1).elB (commit_elB (by
     have:=(Z.keep λk h1 h2=>ht.block k h2 λe=>a2 k e h1).isB;rw[aL.out] at this
     exact this) (d.out.pgs.keep λx hx k j=>ht.block k (d.out.apart k (.inr (.inr (.inr (.inr ⟨x,hx,j⟩))))).2.2 (d.out.apart k (.inr (.inr (.inr (.inr ⟨x,hx,j⟩))))).1) K ab.out))
    (Zik au.out) hlast am an)
   have aI:Hid (P.commit=if (P.J.write (Zt K) (Yh P K)).1≠0 then ((P.J.write (Zt K) (Yh P K)).1,{ P with J:=(P.J.write (Zt K) (Yh P K)).2,off:=Zae P.off (P.J.write (Zt K) (Yh P K)).1 }) else (0,{ P with J:=(P.J.write (Zt K) (Yh P K)).2,was:=P.now,wroot:=P.root,own:=[],change:=false })):=Hd (by
    rw[HE.out,commit_places,commit_blocks,aN.out])
   have aU:=Hd (Jn.write_n P.J (Zt K) (Yh P K));obtain⟨aa,ac,rfl,_,_⟩:=m.form;obtain⟨la,lc,rfl,_,_⟩:=hl.form;have g0:=d.out.cells.1;have HBR:=Hd s;clear ae m hl Z s a2;go_wp2_with fail;refine HW.out.mono ?_;rintro e w5 ⟨rfl,ak,a3⟩;have hp5:=d.out.put_j ak a3 aU.out;have a4:Zb (PJ F p f) wr w5:=a3.mono λ_ _ e=>.inl e;generalize (P.J.write (Zt K) (Yh P K))=R at *;by_cases hz:R.1=0
   .have aV:(R.1 != 0)=false:=by simpa using hz
    have HC:Hid (P.commit=(0,{ P with J:=R.2,was:=P.now,wroot:=P.root,own:=[],change:=false })):=Hd (by rw[aI.out,if_neg (by simp[hz])]);have o:=HO.out;have HCL:=Hd (pclone_any w5 0 _ P.now P.root (hp5.now.mine 0 (Vl _)) (by have:=o.n1;omega));have HT5:=Hd ((Zb.of_below (T:=PJ F p f) HBR.out).trans a4);have HP5:=Hd hp5;obtain⟨c0,c1,c2,c3,c4,c5,c6,c7⟩:=hp5.cells;dsimp only at c1 c2 c3 c4;clear o ak a3 hp5 a4 hz;go_wp2_with fail;refine HCL.out.mono ?_;rintro e Q ⟨u,rfl,hu,hb6⟩;obtain⟨g,c,rfl,hg,aJ⟩:=hu.boR HO.out.n0;have h6:=HP5.out.below hb6;have f3:=h6.frozen 3;have f4:=h6.frozen 4;have hd1:=h6.head;have hd3:=Ze (Ze hd1 (i:=3) (.slice (some ⟨g,0,none⟩) P.now.length c)) (i:=4) (.int .i64 P.root);have t3:=turned_q2 Q f.q 3 4 (.slice (some ⟨g,0,none⟩) P.now.length c) (.int .i64 P.root);have hs3:((Q.setCell ⟨f.q,3,none⟩ (.slice (some ⟨g,0,none⟩) P.now.length c)).setCell ⟨f.q,4,none⟩ (.int .i64 P.root)).heap.size=Q.heap.size:=by simp[World.setCell]
    obtain⟨d0,d1,d2,d3,d4,d5,d6,d7⟩:=h6.cells;dsimp only at d3 d4 d5 d6 d7;have hmm:=λw=>run_makeMap (P:=Tryz.prog) 143 w
    obtain⟨w7,aK⟩:∃x,x=(Q.setCell ⟨f.q,3,none⟩ (.slice (some ⟨g,0,none⟩) P.now.length c)).setCell ⟨f.q,4,none⟩ (.int .i64 P.root):=⟨_,rfl⟩;rw[<-aK] at hd3 t3 hs3
    obtain⟨⟨u5,e5⟩,f5,⟨u6,e6⟩,f6,al⟩:=HP5.out.anew (f':={ f with gw:=g,cw:=c,M:=w7.heap.size,kv:=[] }) (P':={ P with J:=R.2,was:=P.now,wroot:=P.root,own:=[],change:=false }) hb6 t3 hd3 (by rfl) rfl rfl rfl rfl rfl (by rfl) (HP5.out.now.keep (hb6.block _ HP5.out.now.lt)) aJ (.inl rfl) (.inr hg) (by
     have:=HP5.out.now.lt;dsimp only;omega) (by
     have o:=HP5.out.ok
     exact⟨o.n0,o.n1,rfl,o.r0,o.r1,o.r0,o.r1,λx hx=>(by cases hx),o.jn⟩)
    rw[hs3] at al;have HX:=Hd (Zco.then (f1:=f) rfl (λ_ j=>.inl j) HT5.out al)
    have a8:=hs3;clear al hd3 t3 hs3 h6 hb6 aJ hd1;rw[a8] at *;subst aK;clear a8;go_wp2_with fail;go_ret;rw[HC.out];exact⟨rfl,HX.out⟩
   .have aV:(R.1 != 0)=true:=by simpa using hz
    have HC:Hid (P.commit=(R.1,{ P with J:=R.2,off:=Zae P.off R.1 })):=Hd (by rw[aI.out,if_pos hz]);have HR:=Hd (heard_any hp5 R.1);have HT5:=Hd ((Zb.of_below (T:=PJ F p f) HBR.out).trans a4);clear ak a3 hp5 a4 hz;go_wp2_with fail;refine HR.out.mono ?_;rintro e Q ⟨rfl,aW,aX⟩;go_wp2_with fail;go_ret;rw[HC.out];exact⟨rfl,f,aW,rfl,λ_ j=>.inl j,HT5.out.trans aX⟩
end
end
section
open Go.RowKit
theorem pagesOf_any (w:World) (F:Ft) (p:Nat) (J:Jn) (h:JAt w F p J) (h2:6<=J.D.n):Calls Tryz.prog 85 #[jptr p] w λe b=>e=.returned (.int .i64 (J.pages:Int))/\w=b:=by
 have c:=Hd (Zbp w F p J h (by omega));have hn:=h.disk.ok.nm;have f:2<=J.D.blocks:=by unfold Dk.blocks;omega
 have d:J.D.blocks<=1000000000:=by unfold Dk.blocks;omega
 have a:(J.pages:Int)=((J.D.blocks:Int) - 2) / 8:=by unfold Jn.pages;omega
 rw[a];clear a h;go_enter Tryz.func85,Tryz.ntmps85;go_wp2_with (go_at_call 79;refine c.out.mono ?_;rintro e g ⟨rfl,rfl⟩);go_ret;refine⟨?_,rfl⟩;go_num
end
section
open Go.RowKit
variable {w:World}{v:Value}{g:Nat}{t:List Bool}
theorem Yv (w:World) (o:Obj) {a:Addr} (h:w.cell? a=some v):(w.alloc o).cell? a=some v:=by
 have b:a.block<w.heap.size:=by
  rcases Ua a.block w.heap.size with b | b
  .exact b
  .have:=Array.getElem?_eq_none (xs:=w.heap) b;simp[World.cell?,this] at h
 rw[((Ve w.heap.size w).alloc (Va _) o).cell b];exact h
def RowO (w:World) (g:Nat) (t:List Bool):Prop:=w.heap[g]?=some (.cells (bov t).toArray 4 (0,0))
theorem and_bit (x:UInt8) (j:Nat) (hj:j<8):(bits .and .u8 ((x.toNat:Nat):Int) ((2 ^ j:Nat):Int) != 0)=x.toNat.testBit j:=by
 have b:(2:Nat) ^ j<256:=by have:=Nat.pow_lt_pow_right (a:=2) (by omega) hj;omega
 have e:x.toNat &&& 2 ^ j=if x.toNat.testBit j then 2 ^ j else 0:=by
  apply Nat.eq_of_testBit_eq;intro i;rw[Nat.testBit_and,Nat.testBit_two_pow];by_cases h:j=i
  .subst h
   cases c:x.toNat.testBit j<;>simp
  .cases c:x.toNat.testBit j<;>simp[h,Nat.testBit_two_pow]
 rw[u8_and_nat _ _ x.toNat_lt b,e];have d:(2:Nat) ^ j≠0:=by have:=Nat.two_pow_pos j;omega
 cases x.toNat.testBit j with
 | false=>simp
 | true =>
  rw[if_pos rfl,bne_iff_ne];intro q;exact d (by exact_mod_cast q)
def Zbj (b:List UInt8) (n k:Nat):List Bool:=Yx b k++List.replicate (n - k) false
theorem takenK_length (b:List UInt8) (n k:Nat) (h:k<=n):(Zbj b n k).length=n:=by simp[Zbj,Zs];omega
theorem takenK_set (b:List UInt8) (n k:Nat) (h:k<n):(Zbj b n k).set k (Zce b k)=Zbj b n (k+1):=by
 have a:(Yx b k).length=k:=Zs b k;have c:n - k=(n - (k+1))+1:=by omega
 have d:Yx b (k+1)=Yx b k++[Zce b k]:=by simp[Yx,List.range_succ]
 rw[Zbj,Zbj,d,c,List.replicate_succ,List.set_append_right _ _ (by omega),a,Nat.sub_self,List.set_cons_zero,List.append_assoc];rfl
theorem RowO.cell (h:RowO w g t) (i:Nat) (a:i<t.length):w.cell? ⟨g,i,none⟩=some (.bool t[i]):=by rw[Vc _ _ _ _ _ _ h];simp[bov,a]
theorem RowO.set (h:RowO w g t) (i:Nat) (b:Bool):RowO (w.setCell ⟨g,i,none⟩ (.bool b)) g (t.set i b):=by have:=Ze h (i:=i) (.bool b);rw[RowO,this];simp[bov,List.map_set]
theorem Xn {P:Program} {fn:Func} {tmps:Array Value} {a:Tmp} {t:TypeId} {p:Addr} {b:Tmp} (hr:fn.results=#[.cell a t,.tmp b]) (c:tmps.getD a undef=.pointer (some p)) (hv:(loadVar t p).run P w=.ok v w):
  (results fn tmps).run P w=.ok (.tuple #[v,tmps.getD b undef]) w:=by
 unfold results;simp only[hr,List.mapM_toArray,List.mapM_cons,List.mapM_nil,c,asAddr,Sem.run_bind,Sem.run_pure,Result.andThen_ok,hv,bind_assoc,pure_bind,Sem.run_map];rfl
theorem two_blocks (W:World) (a b:Obj):((W.alloc a).alloc b).heap[W.heap.size]?=some a/\((W.alloc a).alloc b).heap[W.heap.size+1]?=some b/\Below W.heap.size W ((W.alloc a).alloc b):=by
 have c:=Vg W a;have h2:=Vg (W.alloc a) b;have d:(W.alloc a).heap.size=W.heap.size+1:=by simp
 rw[d] at h2;have hb:=(Ve (W.alloc a).heap.size (W.alloc a)).alloc (Va _) b
 refine⟨(hb.block _ (by omega)).trans c,h2,((Ve _ _).alloc (Va _) a).alloc (by omega) b⟩
theorem run_makeO (n:Nat) (hn:n<=1000000) (w:World):(Instr.makeSlice 139 (.int .i64 (n:Int)) (.int .i64 (n:Int))).run Tryz.prog w=.ok (.slice (some ⟨w.heap.size,0,none⟩) n n) (w.alloc (.cells (bov (List.replicate n false)).toArray 4)):=by
 rw[run_make_row' (P:=Tryz.prog) 139 4 (.bool false) 1 Tryz.underlying139 info_bool rfl .i64 .i64 n (by omega) (by omega) w];congr 3;simp only[madeCells,bov,List.map_replicate,List.size_toArray,List.toArray_replicate];apply Array.ext
 .simp
 .intro i a b;simp[Nat.mod_one]
theorem planned_any (w:World) (v:Value) (b:List UInt8) (n:Nat) (hv:IsB w v b) (hb:b.length=224) (hn:n<=1023):
  Calls Tryz.prog 84 #[v,.int .i64 (n:Int)] w λe w'=>∃u,e=.returned (.tuple #[.agg #[u,.int .i64 (Xt b)],.bool (Zdj b n)])/\Qb w.heap.size w' u (Yx b n)/\Below w.heap.size w w':=by
 obtain⟨a,c,rfl,aA,aB⟩:=hv.form;have hmk:=run_makeO n (by omega)
 obtain⟨vb,vo,rfl,h6⟩:=isB_at hv 6 (by omega);obtain⟨al,am,hh,h7⟩:=isB_at hv 7 (by omega);obtain⟨rfl,rfl⟩:vb=al/\vo=am:=by simpa using hh
 clear hh;obtain⟨x6,a2⟩:∃x,x=(b[6]'(by omega)).toNat:=⟨_,rfl⟩;obtain⟨I,a3⟩:∃x,x=(b[7]'(by omega)).toNat:=⟨_,rfl⟩;rw[<-a2] at h6;rw[<-a3] at h7;have l6:x6<256:=by rw[a2];exact UInt8.toNat_lt _
 have l7:I<256:=by rw[a3];exact UInt8.toNat_lt _
 have HR:Hid (Xt b=(x6:Int)+256*(I:Int) - 1):=Hd (by
  rw[a2,a3,Xt,List.getD_eq_getElem?_getD,List.getElem?_eq_getElem (by omega),List.getD_eq_getElem?_getD,List.getElem?_eq_getElem (by omega)]
  rfl)
 have w6:IntKind.i64.wrap (x6:Int)=(x6:Int):=Vf _ (by omega);have w7:IntKind.i64.wrap (I:Int)=(I:Int):=Vf _ (by omega);have wa:IntKind.i64.wrap ((I:Int)*256)=(I:Int)*256:=Vf _ (by omega);have wb:IntKind.i64.wrap ((x6:Int)+(I:Int)*256)=(x6:Int)+(I:Int)*256:=Vf _ (by omega);have wc:IntKind.i64.wrap ((x6:Int)+(I:Int)*256 - 1)=Xt b:=by rw[HR.out,Vf _ (by omega)];omega
 have a7:-1<=Xt b:=by rw[HR.out];omega
 have a8:Xt b<65535:=by rw[HR.out];omega
 obtain⟨R,hR⟩:∃R,R=Xt b:=⟨_,rfl⟩;rw[<-hR] at wc a7 a8 ⊢;have HRb:=Hd hR
 clear a2 a3 hR;have HV:=Hd hv
 obtain⟨W1,E⟩:∃W1,W1=w.alloc (.cells #[.slice none 0 0,.int .i64 0] 141):=⟨_,rfl⟩;have a4:W1.heap[w.heap.size]?=some (Qy (.slice none 0 0) 0):=by rw[E];exact Vg w _
 have a5:Below w.heap.size w W1:=by rw[E];exact(Ve _ _).alloc (Va _) _
 have a6:W1.heap.size=w.heap.size+1:=by rw[E];simp
 have J:W1.cell? ⟨vb,vo+6,none⟩=some (.int .u8 (x6:Int)):=by rw[E];exact Yv w _ h6
 have L:W1.cell? ⟨vb,vo+7,none⟩=some (.int .u8 (I:Int)):=by rw[E];exact Yv w _ h7
 have ah:=Hd E;clear h6 h7 E hv;go_enter Tryz.func84,Tryz.ntmps84;go_upto_region 1 with fail;rw[<-ah.out];clear ah;have an:(λW:World=>W.cell? ⟨vb,vo+6,none⟩=some (.int .u8 (x6:Int))/\W.cell? ⟨vb,vo+7,none⟩=some (.int .u8 (I:Int))) W1.drew:=⟨J,L⟩;refine rgA (S:=(λW:World=>W.cell? ⟨vb,vo+6,none⟩=some (.int .u8 (x6:Int))/\W.cell? ⟨vb,vo+7,none⟩=some (.int .u8 (I:Int)))) an (λhH=>?_);refine tdI [0,2,3,4,5,6,7,8,9,10,11,12] ?_
 iterate 12
  refine tdS (v:=?_) ?_ hH ?_;rotate_left
  .rintro w ⟨q0,q1⟩;go_simp;try with_reducible rfl
  try simp only[Act.put,zA,zB,zC]
 refine tdE ?_;refine wpAnyH_ready (rs:=[1,14]) (by kernel_rfl) (by simp) ?_;refine Zdk rfl (λK z=>?_) ?_
 .go_simp
  go_wp2_with fail;refine z.out _ _ ⟨Yv _ _ hH.1,Yv _ _ hH.2⟩ (λhH=>?_);clear z K;try simp only[Act.put,zA,zB,zC]
  refine tkB 13 rfl (v:=?_) ?_ hH ?_;rotate_left
  .rintro w ⟨q0,q1⟩;go_simp;try with_reducible rfl
  try simp only[Act.put,zA,zB,zC]
  refine rdA 14 rfl (λK z=>?_);go_simp;go_wp2_with fail;refine z.out _ _ ⟨Yv _ _ hH.1,Yv _ _ hH.2⟩ (λhH=>?_);clear z K;try simp only[Act.put,zA,zB,zC]
  refine rdA 15 rfl (λK z=>?_);go_simp;obtain⟨d,h,r⟩:=two_blocks W1 (.cells (bov (List.replicate n false)).toArray 4) (.cells #[.slice (some ⟨w.heap.size+1,0,none⟩) n n,.int .i64 R] 141);have h64:=Yv _ (.cells #[.slice (some ⟨w.heap.size+1,0,none⟩) n n,.int .i64 R] 141) (Yv _ (.cells (bov (List.replicate n false)).toArray 4) J)
  have M:=Yv _ (.cells #[.slice (some ⟨w.heap.size+1,0,none⟩) n n,.int .i64 R] 141) (Yv _ (.cells (bov (List.replicate n false)).toArray 4) L);rw[a6] at d h r;clear J L hH;generalize (W1.alloc (.cells (bov (List.replicate n false)).toArray 4)).alloc (.cells #[.slice (some ⟨w.heap.size+1,0,none⟩) n n,.int .i64 R] 141)=N at *;generalize a9:w.heap.size+1+1=H at *;generalize aa:w.heap.size+1=m at *;refine z.out _ _ ⟨h64,M⟩ (λhH=>?_);clear h64 M hH;clear z K;try simp only[Act.put,zA,zB,zC]
  refine dnA ?_;have hres:=(r.block _ (by omega)).trans a4
  have f:Below w.heap.size w N.drew:=(a5.trans (r.mono (by omega))).drew
  have q:RowO N.drew m (Zbj b n 0):=by
   rw[show Zbj b n 0=List.replicate n false from rfl]
   exact d
  replace h:N.drew.heap[H]?=some (Qy (.slice (some ⟨m,0,none⟩) n n) R):=h;replace hres:N.drew.heap[w.heap.size]?=some (Qy (.slice none 0 0) 0):=hres;obtain⟨ai,aj,ak⟩:m≠H/\w.heap.size<m/\w.heap.size<H:=by omega
  clear d r a4 a5 a6 a9 aa hmk;generalize N.drew=W5 at *;go_wp2_with fail;go_loopw [24] (λx wr=>∃k:Nat,k<=n/\x=.int .i64 (k:Int)/\RowO wr m (Zbj b n k)/\wr.heap[H]?=some (Qy (.slice (some ⟨m,0,none⟩) n n) R)/\wr.heap[w.heap.size]?=some (Qy (.slice none 0 0) 0)/\Below w.heap.size w wr) (λx _=>n - (intOf x).toNat)
  case atStart=>exact⟨0,Vl _,rfl,q,h,hres,f⟩
  case round =>
   clear q h hres f;obtain⟨k,hk,rfl,d,h,hres,f⟩:=hrel;by_cases ab:k<n
   .have hd:decide ((k:Int)<(n:Int))=true:=Vd (by omega)
    have ao:k / 8<216:=by omega
    obtain⟨b',o',ha,hc⟩:=isB_at (HV.out.below f) (8+k / 8) (by omega);obtain⟨rfl,rfl⟩:vb=b'/\vo=o':=by simpa using ha
    clear ha;have hTl:=takenK_length b n k hk
    have O:=Zf d k;have Q:wr.cell? ⟨H,0,none⟩=some (.slice (some ⟨m,0,none⟩) n n):=(Yf h).1;obtain⟨tk,s⟩:∃u,wr.cell? ⟨m,k,none⟩=some u:=⟨_,d.cell k (by omega)⟩;replace hc:wr.drew.cell? _=_:=hc;replace O:wr.drew.frozen? _=_:=O;replace Q:wr.drew.cell? _=_:=Q;replace s:wr.drew.cell? _=_:=s;have ap:IntKind.i64.wrap ((k:Int) / 8)=(k:Int) / 8:=Vf _ (by omega);have aq:IntKind.i64.wrap (8+(k:Int) / 8)=8+(k:Int) / 8:=Vf _ (by omega);obtain⟨ar,au,av⟩:(0:Int)<=8+(k:Int) / 8/\8+(k:Int) / 8<224/\(8+(k:Int) / 8).toNat=8+k / 8:=by omega
    have aw:∀W,Sem.run Tryz.prog (Op.shift .shl .u8 1 .i64 ((k:Int).tmod 8)) W=.ok (.int .u8 ((2 ^ (k % 8):Nat):Int)) W:=λW=>by rw[tmod8];exact run_shl1 _ (by omega) W
    have A:=and_bit b[8+k / 8] (k % 8) (by omega);rw[show ((2 ^ (k % 8):Nat):Int)=(2:Int) ^ (k % 8) by simp] at A
    have C:b[8+k / 8].toNat.testBit (k % 8)=Zce b k:=by rw[Zce,List.getD_eq_getElem?_getD,List.getElem?_eq_getElem (by omega)];rfl
    rw[C] at A;have U:RowO wr.drew m (Zbj b n k):=d
    have hs:=U.set k (Zce b k);rw[takenK_set b n k ab] at hs;have hts:=Zc wr.drew m k (.bool (Zce b k));have HF:=Hd (And.intro hs (And.intro ((hts.block H (Za h) (by omega)).trans h) (And.intro ((hts.block w.heap.size (Za hres) (by omega)).trans hres) (f.drew.trans (hts.below (B:=w.heap.size) (by have:=f.size;exact this) (λk hk=>by omega))))));clear d h hres f U hs hts C hTl;generalize Zce b k=bk at *;go_wp2_with fail;refine wp_region_still_tail 15 (by kernel_rfl) (by kernel_rfl) ?_;simp only[List.take_succ_cons,List.take_zero,List.drop_succ_cons,List.drop_zero];change wpStill _ _ wr.drew (λa'=>wpList _ _ _ _ a' wr.drew) _ _;generalize wr.drew=W6 at *;iterate 15 still_step
    refine wpStill_nil ?_;go_wp2_with fail;go_roundw
    case rel=>exact⟨k+1,by omega,by go_num,HF.out.1,HF.out.2.1,HF.out.2.2.1,HF.out.2.2.2⟩
    case measure=>simp[intOf];omega
   .obtain rfl:k=n:=by omega
    have ax:decide ((k:Int)<(k:Int))=false:=by simp
    have e0:Zbj b k k=Yx b k:=by simp[Zbj]
    rw[e0] at d;have hTl:=Zs b k
    obtain⟨T,hT⟩:∃T,T=Yx b k:=⟨_,rfl⟩;have y:Hid (Zdj b k=(decide (R<(k:Int))&&(decide (R<0)||T.getD R.toNat false)&&(Xz T R==b))):=Hd (by rw[Zdj,HRb.out,hT])
    rw[<-hT] at d hTl;have D:Qb w.heap.size wr (.slice (some ⟨m,0,none⟩) k k) T:=by unfold Qb;rw[hTl];exact⟨by simp[Xu,hTl],.inr ⟨m,k,_,rfl,by omega,d,Va _,by simp[maxLen];omega,by simp[Xu,hTl],by simp[List.take_of_length_le,Xu,hTl]⟩⟩
    have HT:=Hd hT;obtain⟨V,X⟩:=Yf h;obtain⟨Y,Z⟩:=Yf hres;have f0:=Zf hres 0;have f1:=Zf hres 1;clear hT e0;replace D:Qb (w.heap.size+1) wr (.slice (some ⟨m,0,none⟩) k k) T:=by unfold Qb;rw[hTl];exact⟨by simp[Xu,hTl],.inr ⟨m,k,_,rfl,by omega,d,Va _,by simp[maxLen];omega,by simp[Xu,hTl],by simp[List.take_of_length_le,Xu,hTl]⟩⟩
    by_cases hA:R<(k:Int)
    case neg =>
     have d1:decide (R<(k:Int))=false:=Vb hA;go_wp2_with fail;have hq4:=Ze (Ze hres (i:=0) (.slice (some ⟨m,0,none⟩) k k)) (i:=1) (.int .i64 R);have ht4:=(Zc wr w.heap.size 0 (.slice (some ⟨m,0,none⟩) k k)).trans (Zc _ w.heap.size 1 (.int .i64 R));have hv:=Uh (P:=Tryz.prog) _ w.heap.size 141 141 _ (0,0) _ hq4 Tryz.underlying141 rfl (by rw[Zbz];rfl);refine Vn (Xn Tryz.results84 rfl hv) rfl ⟨.slice (some ⟨m,0,none⟩) k k,?_,?_,?_⟩
     .rw[y.out,d1];rfl
     .rw[<-HT.out];exact World.ownsRow.mono (D.keep λj h1 F=>ht4.block j F (by omega)) (by omega)
     .exact f.trans (ht4.below (B:=w.heap.size) f.size λj hj=>by omega)
    have d1:decide (R<(k:Int))=true:=Vd hA;have HPB:=Hd (planB_any wr (w.heap.size+1) _ T R D (by omega) a7 a8);by_cases hB:R<0
    .have d2:decide (R<0)=true:=Vd hB
     go_wp2_with fail;refine HPB.out.mono ?_;rintro e w2 ⟨u,rfl,hu,l⟩;have hu2:=hu.isB
     obtain⟨ua,uc,rfl,_,_⟩:=hu2.form;have HE:=Hd (Zhm w2 _ _ _ _ hu2 ((HV.out.below f).below l) (by rw[Yd];omega))
     rw[hb,Yd] at HE;simp only[Yd];have hres2:=(l.block _ (Za hres)).trans hres
     have o:=(l.block _ (Za h)).trans h;have hm2:=D.below l;have hbw2:=f.trans (l.mono f.size);clear hres h D f l hu hu2 V X Y Z f0 f1;go_wp2_with fail;refine HE.out.mono ?_;rintro e w3 ⟨rfl,p⟩;have hres3:=(p.block _ (Za hres2)).trans hres2;have hpl3:=(p.block _ (Za o)).trans o;have hm3:=hm2.below p;have hbw3:=hbw2.trans (p.mono hbw2.size);obtain⟨ad,ae⟩:=Yf hpl3;obtain⟨af,ag⟩:=Yf hres3;have t0:=Zf hres3 0;have t1:=Zf hres3 1;clear hres2 o hm2 hbw2 p;go_wp2_with fail;have hq4:=Ze (Ze hres3 (i:=0) (.slice (some ⟨m,0,none⟩) k k)) (i:=1) (.int .i64 R);have ht4:=(Zc w3 w.heap.size 0 (.slice (some ⟨m,0,none⟩) k k)).trans (Zc _ w.heap.size 1 (.int .i64 R));have hv:=Uh (P:=Tryz.prog) _ w.heap.size 141 141 _ (0,0) _ hq4 Tryz.underlying141 rfl (by rw[Zbz];rfl);refine Vn (Xn Tryz.results84 rfl hv) rfl ⟨.slice (some ⟨m,0,none⟩) k k,?_,?_,?_⟩
     .rw[y.out,d1,d2];rfl
     .rw[<-HT.out];exact World.ownsRow.mono (hm3.keep λj h1 F=>ht4.block j F (by omega)) (by omega)
     .exact hbw3.trans (ht4.below (B:=w.heap.size) hbw3.size λj hj=>by omega)
    .have d2:decide (R<0)=false:=Vb hB
     obtain⟨a0,ay,az⟩:R.toNat<T.length/\R.toNat<k/\(0:Int)<=R:=by omega
     have s:=d.cell R.toNat a0;obtain⟨tr,G⟩:∃x,x=T[R.toNat]:=⟨_,rfl⟩;have a1:T.getD R.toNat false=tr:=by rw[G,List.getD_eq_getElem?_getD,List.getElem?_eq_getElem a0];rfl
     rw[<-G] at s;have HTR:=Hd a1
     clear G a1
     cases tr with
     | false =>
      go_wp2_with fail;have hq4:=Ze (Ze hres (i:=0) (.slice (some ⟨m,0,none⟩) k k)) (i:=1) (.int .i64 R)
      have ht4:=(Zc wr w.heap.size 0 (.slice (some ⟨m,0,none⟩) k k)).trans (Zc _ w.heap.size 1 (.int .i64 R));have hv:=Uh (P:=Tryz.prog) _ w.heap.size 141 141 _ (0,0) _ hq4 Tryz.underlying141 rfl (by rw[Zbz];rfl);refine Vn (Xn Tryz.results84 rfl hv) rfl ⟨.slice (some ⟨m,0,none⟩) k k,?_,?_,?_⟩
      .rw[y.out,d1,d2,HTR.out];rfl
      .rw[<-HT.out];exact World.ownsRow.mono (D.keep λj h1 F=>ht4.block j F (by omega)) (by omega)
      .exact f.trans (ht4.below (B:=w.heap.size) f.size λj hj=>by omega)
     | true =>
      go_wp2_with fail;refine HPB.out.mono ?_;rintro e w2 ⟨u,rfl,hu,l⟩;have hu2:=hu.isB
      obtain⟨ua,uc,rfl,_,_⟩:=hu2.form;have HE:=Hd (Zhm w2 _ _ _ _ hu2 ((HV.out.below f).below l) (by rw[Yd];omega))
      rw[hb,Yd] at HE;simp only[Yd];have hres2:=(l.block _ (Za hres)).trans hres
      have o:=(l.block _ (Za h)).trans h;have hm2:=D.below l;have hbw2:=f.trans (l.mono f.size);clear hres h D f l hu hu2 V X Y Z f0 f1;go_wp2_with fail;refine HE.out.mono ?_;rintro e w3 ⟨rfl,p⟩;have hres3:=(p.block _ (Za hres2)).trans hres2;have hpl3:=(p.block _ (Za o)).trans o;have hm3:=hm2.below p;have hbw3:=hbw2.trans (p.mono hbw2.size);obtain⟨ad,ae⟩:=Yf hpl3;obtain⟨af,ag⟩:=Yf hres3;have t0:=Zf hres3 0;have t1:=Zf hres3 1;clear hres2 o hm2 hbw2 p;go_wp2_with fail;have hq4:=Ze (Ze hres3 (i:=0) (.slice (some ⟨m,0,none⟩) k k)) (i:=1) (.int .i64 R);have ht4:=(Zc w3 w.heap.size 0 (.slice (some ⟨m,0,none⟩) k k)).trans (Zc _ w.heap.size 1 (.int .i64 R));have hv:=Uh (P:=Tryz.prog) _ w.heap.size 141 141 _ (0,0) _ hq4 Tryz.underlying141 rfl (by rw[Zbz];rfl);refine Vn (Xn Tryz.results84 rfl hv) rfl ⟨.slice (some ⟨m,0,none⟩) k k,?_,?_,?_⟩
      .rw[y.out,d1,d2,HTR.out];rfl
      .rw[<-HT.out];exact World.ownsRow.mono (hm3.keep λj h1 F=>ht4.block j F (by omega)) (by omega)
      .exact hbw3.trans (ht4.below (B:=w.heap.size) hbw3.size λj hj=>by omega)
 refine Zdk rfl (λK z=>?_) ?_
 .go_simp
  go_wp2_with fail;refine z.out _ _ ⟨Yv _ _ hH.1,Yv _ _ hH.2⟩ (λhH=>?_);clear z K;try simp only[Act.put,zA,zB,zC]
  refine rdA 1 rfl (λK z=>?_);go_simp;go_wp2_with fail;refine z.out _ _ ⟨Yv _ _ hH.1,Yv _ _ hH.2⟩ (λhH=>?_);clear z K;try simp only[Act.put,zA,zB,zC]
  refine tkB 13 rfl (v:=?_) ?_ hH ?_;rotate_left
  .rintro w ⟨q0,q1⟩;go_simp;try with_reducible rfl
  try simp only[Act.put,zA,zB,zC]
  refine rdA 15 rfl (λK z=>?_);go_simp;obtain⟨h,d,r⟩:=two_blocks W1 (.cells #[.slice (some ⟨w.heap.size+1+1,0,none⟩) n n,.int .i64 R] 141) (.cells (bov (List.replicate n false)).toArray 4);have h64:=Yv _ (.cells (bov (List.replicate n false)).toArray 4) (Yv _ (.cells #[.slice (some ⟨w.heap.size+1+1,0,none⟩) n n,.int .i64 R] 141) J)
  have M:=Yv _ (.cells (bov (List.replicate n false)).toArray 4) (Yv _ (.cells #[.slice (some ⟨w.heap.size+1+1,0,none⟩) n n,.int .i64 R] 141) L);rw[a6] at h d r;clear J L hH;generalize (W1.alloc (.cells #[.slice (some ⟨w.heap.size+1+1,0,none⟩) n n,.int .i64 R] 141)).alloc (.cells (bov (List.replicate n false)).toArray 4)=N at *;generalize aa:w.heap.size+1+1=m at *;generalize a9:w.heap.size+1=H at *;refine z.out _ _ ⟨h64,M⟩ (λhH=>?_);clear h64 M hH;clear z K;try simp only[Act.put,zA,zB,zC]
  refine dnA ?_;have hres:=(r.block _ (by omega)).trans a4
  have f:Below w.heap.size w N.drew:=(a5.trans (r.mono (by omega))).drew
  have q:RowO N.drew m (Zbj b n 0):=by
   rw[show Zbj b n 0=List.replicate n false from rfl]
   exact d
  replace h:N.drew.heap[H]?=some (Qy (.slice (some ⟨m,0,none⟩) n n) R):=h;replace hres:N.drew.heap[w.heap.size]?=some (Qy (.slice none 0 0) 0):=hres;obtain⟨ai,aj,ak⟩:m≠H/\w.heap.size<m/\w.heap.size<H:=by omega
  clear d r a4 a5 a6 a9 aa hmk;generalize N.drew=W5 at *;go_wp2_with fail;go_loopw [24] (λx wr=>∃k:Nat,k<=n/\x=.int .i64 (k:Int)/\RowO wr m (Zbj b n k)/\wr.heap[H]?=some (Qy (.slice (some ⟨m,0,none⟩) n n) R)/\wr.heap[w.heap.size]?=some (Qy (.slice none 0 0) 0)/\Below w.heap.size w wr) (λx _=>n - (intOf x).toNat)
  case atStart=>exact⟨0,Vl _,rfl,q,h,hres,f⟩
  case round =>
   clear q h hres f;obtain⟨k,hk,rfl,d,h,hres,f⟩:=hrel;by_cases ab:k<n
   .have hd:decide ((k:Int)<(n:Int))=true:=Vd (by omega)
    have ao:k / 8<216:=by omega
    obtain⟨b',o',ha,hc⟩:=isB_at (HV.out.below f) (8+k / 8) (by omega);obtain⟨rfl,rfl⟩:vb=b'/\vo=o':=by simpa using ha
    clear ha;have hTl:=takenK_length b n k hk
    have O:=Zf d k;have Q:wr.cell? ⟨H,0,none⟩=some (.slice (some ⟨m,0,none⟩) n n):=(Yf h).1;obtain⟨tk,s⟩:∃u,wr.cell? ⟨m,k,none⟩=some u:=⟨_,d.cell k (by omega)⟩;replace hc:wr.drew.cell? _=_:=hc;replace O:wr.drew.frozen? _=_:=O;replace Q:wr.drew.cell? _=_:=Q;replace s:wr.drew.cell? _=_:=s;have ap:IntKind.i64.wrap ((k:Int) / 8)=(k:Int) / 8:=Vf _ (by omega);have aq:IntKind.i64.wrap (8+(k:Int) / 8)=8+(k:Int) / 8:=Vf _ (by omega);obtain⟨ar,au,av⟩:(0:Int)<=8+(k:Int) / 8/\8+(k:Int) / 8<224/\(8+(k:Int) / 8).toNat=8+k / 8:=by omega
    have aw:∀W,Sem.run Tryz.prog (Op.shift .shl .u8 1 .i64 ((k:Int).tmod 8)) W=.ok (.int .u8 ((2 ^ (k % 8):Nat):Int)) W:=λW=>by rw[tmod8];exact run_shl1 _ (by omega) W
    have A:=and_bit b[8+k / 8] (k % 8) (by omega);rw[show ((2 ^ (k % 8):Nat):Int)=(2:Int) ^ (k % 8) by simp] at A
    have C:b[8+k / 8].toNat.testBit (k % 8)=Zce b k:=by rw[Zce,List.getD_eq_getElem?_getD,List.getElem?_eq_getElem (by omega)];rfl
    rw[C] at A;have U:RowO wr.drew m (Zbj b n k):=d
    have hs:=U.set k (Zce b k);rw[takenK_set b n k ab] at hs;have hts:=Zc wr.drew m k (.bool (Zce b k));have HF:=Hd (And.intro hs (And.intro ((hts.block H (Za h) (by omega)).trans h) (And.intro ((hts.block w.heap.size (Za hres) (by omega)).trans hres) (f.drew.trans (hts.below (B:=w.heap.size) (by have:=f.size;exact this) (λk hk=>by omega))))));clear d h hres f U hs hts C hTl;generalize Zce b k=bk at *;go_wp2_with fail;refine wp_region_still_tail 15 (by kernel_rfl) (by kernel_rfl) ?_;simp only[List.take_succ_cons,List.take_zero,List.drop_succ_cons,List.drop_zero];change wpStill _ _ wr.drew (λa'=>wpList _ _ _ _ a' wr.drew) _ _;generalize wr.drew=W6 at *;iterate 15 still_step
    refine wpStill_nil ?_;go_wp2_with fail;go_roundw
    case rel=>exact⟨k+1,by omega,by go_num,HF.out.1,HF.out.2.1,HF.out.2.2.1,HF.out.2.2.2⟩
    case measure=>simp[intOf];omega
   .obtain rfl:k=n:=by omega
    have ax:decide ((k:Int)<(k:Int))=false:=by simp
    have e0:Zbj b k k=Yx b k:=by simp[Zbj]
    rw[e0] at d;have hTl:=Zs b k
    obtain⟨T,hT⟩:∃T,T=Yx b k:=⟨_,rfl⟩;have y:Hid (Zdj b k=(decide (R<(k:Int))&&(decide (R<0)||T.getD R.toNat false)&&(Xz T R==b))):=Hd (by rw[Zdj,HRb.out,hT])
    rw[<-hT] at d hTl;have D:Qb w.heap.size wr (.slice (some ⟨m,0,none⟩) k k) T:=by unfold Qb;rw[hTl];exact⟨by simp[Xu,hTl],.inr ⟨m,k,_,rfl,by omega,d,Va _,by simp[maxLen];omega,by simp[Xu,hTl],by simp[List.take_of_length_le,Xu,hTl]⟩⟩
    have HT:=Hd hT;obtain⟨V,X⟩:=Yf h;obtain⟨Y,Z⟩:=Yf hres;have f0:=Zf hres 0;have f1:=Zf hres 1;clear hT e0;replace D:Qb (w.heap.size+1) wr (.slice (some ⟨m,0,none⟩) k k) T:=by unfold Qb;rw[hTl];exact⟨by simp[Xu,hTl],.inr ⟨m,k,_,rfl,by omega,d,Va _,by simp[maxLen];omega,by simp[Xu,hTl],by simp[List.take_of_length_le,Xu,hTl]⟩⟩
    by_cases hA:R<(k:Int)
    case neg =>
     have d1:decide (R<(k:Int))=false:=Vb hA;go_wp2_with fail;have hq4:=Ze (Ze hres (i:=0) (.slice (some ⟨m,0,none⟩) k k)) (i:=1) (.int .i64 R);have ht4:=(Zc wr w.heap.size 0 (.slice (some ⟨m,0,none⟩) k k)).trans (Zc _ w.heap.size 1 (.int .i64 R));have hv:=Uh (P:=Tryz.prog) _ w.heap.size 141 141 _ (0,0) _ hq4 Tryz.underlying141 rfl (by rw[Zbz];rfl);refine Vn (Xn Tryz.results84 rfl hv) rfl ⟨.slice (some ⟨m,0,none⟩) k k,?_,?_,?_⟩
     .rw[y.out,d1];rfl
     .rw[<-HT.out];exact World.ownsRow.mono (D.keep λj h1 F=>ht4.block j F (by omega)) (by omega)
     .exact f.trans (ht4.below (B:=w.heap.size) f.size λj hj=>by omega)
    have d1:decide (R<(k:Int))=true:=Vd hA;have HPB:=Hd (planB_any wr (w.heap.size+1) _ T R D (by omega) a7 a8);by_cases hB:R<0
    .have d2:decide (R<0)=true:=Vd hB
     go_wp2_with fail;refine HPB.out.mono ?_;rintro e w2 ⟨u,rfl,hu,l⟩;have hu2:=hu.isB
     obtain⟨ua,uc,rfl,_,_⟩:=hu2.form;have HE:=Hd (Zhm w2 _ _ _ _ hu2 ((HV.out.below f).below l) (by rw[Yd];omega))
     rw[hb,Yd] at HE;simp only[Yd];have hres2:=(l.block _ (Za hres)).trans hres
     have o:=(l.block _ (Za h)).trans h;have hm2:=D.below l;have hbw2:=f.trans (l.mono f.size);clear hres h D f l hu hu2 V X Y Z f0 f1;go_wp2_with fail;refine HE.out.mono ?_;rintro e w3 ⟨rfl,p⟩;have hres3:=(p.block _ (Za hres2)).trans hres2;have hpl3:=(p.block _ (Za o)).trans o;have hm3:=hm2.below p;have hbw3:=hbw2.trans (p.mono hbw2.size);obtain⟨ad,ae⟩:=Yf hpl3;obtain⟨af,ag⟩:=Yf hres3;have t0:=Zf hres3 0;have t1:=Zf hres3 1;clear hres2 o hm2 hbw2 p;go_wp2_with fail;have hq4:=Ze (Ze hres3 (i:=0) (.slice (some ⟨m,0,none⟩) k k)) (i:=1) (.int .i64 R);have ht4:=(Zc w3 w.heap.size 0 (.slice (some ⟨m,0,none⟩) k k)).trans (Zc _ w.heap.size 1 (.int .i64 R));have hv:=Uh (P:=Tryz.prog) _ w.heap.size 141 141 _ (0,0) _ hq4 Tryz.underlying141 rfl (by rw[Zbz];rfl);refine Vn (Xn Tryz.results84 rfl hv) rfl ⟨.slice (some ⟨m,0,none⟩) k k,?_,?_,?_⟩
     .rw[y.out,d1,d2];rfl
     .rw[<-HT.out];exact World.ownsRow.mono (hm3.keep λj h1 F=>ht4.block j F (by omega)) (by omega)
     .exact hbw3.trans (ht4.below (B:=w.heap.size) hbw3.size λj hj=>by omega)
    .have d2:decide (R<0)=false:=Vb hB
     obtain⟨a0,ay,az⟩:R.toNat<T.length/\R.toNat<k/\(0:Int)<=R:=by omega
     have s:=d.cell R.toNat a0;obtain⟨tr,G⟩:∃x,x=T[R.toNat]:=⟨_,rfl⟩;have a1:T.getD R.toNat false=tr:=by rw[G,List.getD_eq_getElem?_getD,List.getElem?_eq_getElem a0];rfl
     rw[<-G] at s;have HTR:=Hd a1
     clear G a1
     cases tr with
     | false =>
      go_wp2_with fail;have hq4:=Ze (Ze hres (i:=0) (.slice (some ⟨m,0,none⟩) k k)) (i:=1) (.int .i64 R)
      have ht4:=(Zc wr w.heap.size 0 (.slice (some ⟨m,0,none⟩) k k)).trans (Zc _ w.heap.size 1 (.int .i64 R));have hv:=Uh (P:=Tryz.prog) _ w.heap.size 141 141 _ (0,0) _ hq4 Tryz.underlying141 rfl (by rw[Zbz];rfl);refine Vn (Xn Tryz.results84 rfl hv) rfl ⟨.slice (some ⟨m,0,none⟩) k k,?_,?_,?_⟩
      .rw[y.out,d1,d2,HTR.out];rfl
      .rw[<-HT.out];exact World.ownsRow.mono (D.keep λj h1 F=>ht4.block j F (by omega)) (by omega)
      .exact f.trans (ht4.below (B:=w.heap.size) f.size λj hj=>by omega)
     | true =>
      go_wp2_with fail;refine HPB.out.mono ?_;rintro e w2 ⟨u,rfl,hu,l⟩;have hu2:=hu.isB
      obtain⟨ua,uc,rfl,_,_⟩:=hu2.form;have HE:=Hd (Zhm w2 _ _ _ _ hu2 ((HV.out.below f).below l) (by rw[Yd];omega))
      rw[hb,Yd] at HE;simp only[Yd];have hres2:=(l.block _ (Za hres)).trans hres
      have o:=(l.block _ (Za h)).trans h;have hm2:=D.below l;have hbw2:=f.trans (l.mono f.size);clear hres h D f l hu hu2 V X Y Z f0 f1;go_wp2_with fail;refine HE.out.mono ?_;rintro e w3 ⟨rfl,p⟩;have hres3:=(p.block _ (Za hres2)).trans hres2;have hpl3:=(p.block _ (Za o)).trans o;have hm3:=hm2.below p;have hbw3:=hbw2.trans (p.mono hbw2.size);obtain⟨ad,ae⟩:=Yf hpl3;obtain⟨af,ag⟩:=Yf hres3;have t0:=Zf hres3 0;have t1:=Zf hres3 1;clear hres2 o hm2 hbw2 p;go_wp2_with fail;have hq4:=Ze (Ze hres3 (i:=0) (.slice (some ⟨m,0,none⟩) k k)) (i:=1) (.int .i64 R);have ht4:=(Zc w3 w.heap.size 0 (.slice (some ⟨m,0,none⟩) k k)).trans (Zc _ w.heap.size 1 (.int .i64 R));have hv:=Uh (P:=Tryz.prog) _ w.heap.size 141 141 _ (0,0) _ hq4 Tryz.underlying141 rfl (by rw[Zbz];rfl);refine Vn (Xn Tryz.results84 rfl hv) rfl ⟨.slice (some ⟨m,0,none⟩) k k,?_,?_,?_⟩
      .rw[y.out,d1,d2,HTR.out];rfl
      .rw[<-HT.out];exact World.ownsRow.mono (hm3.keep λj h1 F=>ht4.block j F (by omega)) (by omega)
      .exact hbw3.trans (ht4.below (B:=w.heap.size) hbw3.size λj hj=>by omega)
 exact AllReadyH.nil
end
section
open Go.RowKit
theorem run_build_plan (w:World) (a:Option Addr) (n c:Nat) (r:Int):(Instr.build 141 #[(0,.slice a n c),(1,.int .i64 r)]).run Tryz.prog w=.ok (.agg #[.slice a n c,.int .i64 r]) w:=by kernel_rfl
theorem JAt.pages_le {w:World} {F:Ft} {p:Nat} {J:Jn} (h:JAt w F p J):J.pages<=1023:=by have:=h.disk.ok.nm;unfold Jn.pages Dk.blocks;omega
theorem pformat_any (w:World) (F:Ft) (p:Nat) (J:Jn) (h:JAt w F p J) (hn:Nib w) (h6:6<=J.D.n) (hlast:J.last+1<18446744073709551616) (m:-9223372036854775808<=J.seq) (o:J.seq<9223372036854775807) :
  Calls Tryz.prog 55 #[jptr p] w λe w'=>e=.returned (.int .i64 J.pformat.1)/\JAt w' F p J.pformat.2/\Zb (JT F p) w w':=by
 have q:=Hd (pagesOf_any w F p J h h6);have hpl:=h.pages_le;obtain⟨n,H⟩:∃n,n=J.pages:=⟨_,rfl⟩;have I:Hid (J.pformat=J.write (Zo 0 2) (Xo 2 (Xz (List.replicate n false) (-1)))):=Hd (by rw[Jn.pformat,H]);rw[<-H] at q hpl;have hmk:=run_makeO n (by omega);have hbp:=λw a=>run_build_plan w a n n (-1);obtain⟨W1,d⟩:∃W1,W1=w.alloc (.cells (bov (List.replicate n false)).toArray 4):=⟨_,rfl⟩;have r:Below w.heap.size w W1:=by rw[d];exact(Ve _ _).alloc (Va _) _
 have s:Qb w.heap.size W1 (.slice (some ⟨w.heap.size,0,none⟩) n n) (List.replicate n false):=by
  have P:BoR W1 w.heap.size n (List.replicate n false):=by rw[d];exact⟨_,Vg w _,by simp,by simp[maxLen];omega,by simp[bov],by simp[bov]⟩
  have:=P.mine w.heap.size (Va _);rw[List.length_replicate] at this;exact this
 have t:=Hd (planB_any W1 w.heap.size _ (List.replicate n false) (-1) s (by simp;omega) (by omega) (by omega));obtain⟨M,f⟩:∃L,L=Xz (List.replicate n false) (-1):=⟨_,rfl⟩;have c:M.length=224:=by rw[f,Yd]
 rw[<-f] at t I;have HLN:=Hd c
 have N:=Hd h;have HNB:=Hd hn;have HB1:=Hd r;clear h H hn r s f c;go_enter Tryz.func55,Tryz.ntmps55;go_wp2_with (go_at_call 85;refine q.out.mono ?_;rintro e Q ⟨rfl,v⟩;rw[<-v];clear v Q);rw[<-d];refine t.out.mono ?_;rintro e R ⟨u,rfl,E,x⟩;obtain⟨S,U,rfl,V,y,W⟩:=E.slice (by have:=HLN.out;omega);rw[HLN.out] at y E ⊢;have HP1:=Hd (parts_any R 0 S U 2 224 rfl y (by omega) (by omega) (by omega));have hb2':=HB1.out.trans (x.mono HB1.out.size);have hs2:=hb2'.size;have HU:=Hd E;clear E x;go_wp2_with fail;refine HP1.out.mono ?_;rintro e X ⟨Y,Z,rfl,g,j,l⟩;have hbw:=hb2'.trans (l.mono hs2);have h3:=N.out.below hbw;have hn3:=HNB.out.below hbw;have b:∀k,JT F p k->¬W1.heap.size<=k:=λk e h=>by have:=N.out.lt e;have:=HB1.out.size;omega
 have z:=HU.out.below l;have hs12:=HB1.out.size
 have HW:=Hd (jwrite_any X F p J h3 hn3 (by omega) Y (Zo 0 2) (λw' G=>(g.keep λk O A=>G.block k A λe=>b k e (by omega)).isI) Z (Xo 2 M)
  (λw' G=>(j.keep λk O A=>G.block k A λe=>b k e (by omega)).elB (chunks_elB (z.keep λk O A=>G.block k A λe=>b k e (by omega)).isB 2 (by rw[HLN.out];omega)))
  (λn hn=>by
   obtain⟨i,hi,rfl⟩:=List.mem_map.1 hn;have:=List.mem_range.1 hi
   omega) hlast m o)
 obtain⟨aa,ac,rfl,_,_⟩:=g.form;obtain⟨la,lc,rfl,_,_⟩:=j.form;have HT3:=Hd (Zb.of_below (T:=JT F p) hbw)
 clear g j l h3 hn3 b z hbw hb2';go_wp2_with fail;refine HW.out.mono ?_;rintro e w4 ⟨rfl,B,C⟩;have HX:=Hd (And.intro B (HT3.out.trans C))
 clear B C;go_wp2_with fail;go_ret;rw[I.out];exact⟨rfl,HX.out⟩
end
end Go.Proofs.YtfaobkmojlhbnaaGreatDoor
