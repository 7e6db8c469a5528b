/- Contracts of the functions that the statements of this seat reach, part 5: each says what the call answers and what it leaves of the memory. -/
import Derived.Test.YtofibccplbnaiaaGreatDoorP4
import Derived.Test.YtofibccplbnaiaaGreatDoorP3
import Derived.LoopTactic
import Derived.Test.YtofibccplbnaiaaGreatDoorP2
import Derived.StillTailTactics
import Derived.IntWalk
import Derived.Deep.OwnRows
set_option linter.unusedVariables false
set_option linter.unusedSimpArgs false
set_option maxRecDepth 100000
set_option maxHeartbeats 64000000
namespace Go.Proofs.YtofibccplbnaiaaGreatDoor
section
open Go.RowKit
theorem Jn.read_D (J:Jn) (a:Int):(J.read a).2.2.D=J.D:=by unfold Jn.read;(repeat' split)<;>rfl
theorem Jn.read_ok {J:Jn} {a:Int} (h:(J.read a).2.1=0):(J.read a).2.2=J:=by
 unfold Jn.read at h ⊢;split
 ·rename_i h0;rfl
 ·rename_i h0
  rw[if_neg h0] at h;split
  ·rfl
  ·rename_i h1
   rw[if_neg h1] at h;split
   ·rename_i h2;rw[if_pos h2] at h;cases h
   ·split<;>rfl
theorem Jn.read_len (J:Jn) (a:Int):(J.read a).1.length≤112:=by
 have:∀(l:List UInt8) (k:Nat),(Xy (sec l k)).length≤112:=fun l k=>by simp[Xy,sec];omega
 unfold Jn.read
 (repeat' split)<;>first | exact this _ _ | simp
theorem Jn.reads_D (J:Jn) (a:Int):∀k,(J.reads a k).2.2.D=J.D
 | 0=>rfl
 | k+1=>by
  have ih:=Jn.reads_D J a k;rw[Jn.reads];simp only;split
  ·exact ih
  ·split<;>· simp only[Jn.read_D];exact ih
theorem Jn.reads_len (J:Jn) (a:Int):∀k,(J.reads a k).1.length≤112*k
 | 0=>by simp[Jn.reads]
 | k+1=>by
  have ih:=Jn.reads_len J a k;have h2:=Jn.read_len (J.reads a k).2.2 (a+k);rw[Jn.reads];simp only;split
  ·omega
  ·split
   ·simp
   ·simp only[List.length_append];omega
theorem Jn.reads_ok {J:Jn} {a:Int}:∀{k:Nat},(J.reads a k).2.1=0→(J.reads a k).2.2=J
 | 0,_=>rfl
 | k+1,h=>by
  rw[Jn.reads] at h ⊢;simp only at h ⊢;split at h
  ·rename_i h1;exact absurd h h1
  ·rename_i h1
   rw[if_neg h1];have ih:=Jn.reads_ok (Decidable.not_not.1 h1)
   split at h
   ·rename_i h2;exact absurd h h2
   ·rename_i h2
    rw[if_neg h2];show ((J.reads a k).2.2.read (a+k)).2.2=J
    rw[Jn.read_ok (Decidable.not_not.1 h2),ih]
theorem Jn.reads_err {J:Jn} {a:Int} {k:Nat} (h:(J.reads a k).2.1≠0):∀m,k≤m→J.reads a m=J.reads a k:=by
 intro m hm
 induction m with
 | zero =>
  obtain rfl:k=0:=by omega
  rfl
 | succ m ih =>
  by_cases e:k=m+1
  ·rw[e]
  ·have:=ih (by omega);rw[Jn.reads];simp only;rw[this,if_pos h]
theorem Jn.reads_next {J:Jn} {a:Int} {k:Nat} (h:(J.reads a k).2.1=0) (h2:(J.read (a+k)).2.1=0):J.reads a (k+1)=((J.reads a k).1++(J.read (a+k)).1,0,J):=by rw[Jn.reads];simp only;rw[if_neg (by simp[h]),Jn.reads_ok h,if_neg (by simp[h2]),Jn.read_ok h2]
theorem Jn.reads_stop {J:Jn} {a:Int} {k:Nat} (h:(J.reads a k).2.1=0) (h2:(J.read (a+k)).2.1≠0):J.reads a (k+1)=([],(J.read (a+k)).2.1,(J.read (a+k)).2.2):=by rw[Jn.reads];simp only;rw[if_neg (by simp[h]),Jn.reads_ok h,if_pos h2]
theorem run_make0_896 (w:World):(Instr.makeSlice 106 (.int .i64 0) (.int .i64 896)).run Tryz.prog w=.ok (.slice (some ⟨w.heap.size,0,none⟩) 0 896) (w.alloc (.cells (bv Zbf).toArray 5)):=by
 obtain⟨i,hi,hz,hs,hb⟩:=info_parts (P:=Tryz.prog) (e:=5) Zcy;have hr:=run_make (P:=Tryz.prog) w 106 5 i (.int .u8 0) Tryz.underlying106 hi hz .i64 .i64 0 896 (by omega) (by omega) (by rw[hb];omega) (by omega)
 rw[hr,hs]
 have e:madeCells (Value.int .u8 0).cells ((896:Int).toNat*1)=(bv Zbf).toArray:=by
  simp only[madeCells,bv,Zbf,List.map_replicate,List.size_toArray,List.toArray_replicate,Value.cells];apply Array.ext
  ·simp
  ·intro i h1 h2;simp[Nat.mod_one]
 rw[e];rfl
theorem mine_make0 (w:World):Qs 5 w.heap.size (w.alloc (.cells (bv Zbf).toArray 5)) (.slice (some ⟨w.heap.size,0,none⟩) 0 896) [] :=
 ⟨rfl,.inr ⟨w.heap.size,896,_,rfl,Nat.le_refl _,heap_alloc_new w _,Nat.zero_le _,by simp[maxLen],by simp[bv,Zbf],rfl⟩⟩
theorem Qs.keep {B:Nat} {e:TypeId} {w w':World} {v:Value} {l:List UInt8} (h:Qs e B w v l) (hw:∀k,B≤k→k<w.heap.size→w'.heap[k]?=w.heap[k]?):Qs e B w' v l:=Zfp h hw
theorem Yo.on {w w1 w2:World} {F:Ft} {p:Nat} {f:Pf} {P P':Pg} (h0:Yo w F p f P) (h:Yo w1 F p f P') (hb:Below w.heap.size w1 w2):Yo w2 F p f P':=h.keep (fun k hk=>hb.block k (h0.lt3 hk)) hb.size
theorem Zb.on {T:Nat→Prop} {w w1 w2:World} (h:Zb T w w1) (hb:Below w.heap.size w1 w2):Zb T w w2 :=
 ⟨hb.os.trans h.os,hb.tape.trans h.tape,hb.output.trans h.output,Nat.le_trans h.size hb.size,fun k hk hn=>(hb.block k hk).trans (h.block k hk hn)⟩
section
variable {w : World} {F : Ft} {p : Nat} {f : Pf} {P : Pg}
def ReadEnd (w:World) (F:Ft) (p:Nat) (f:Pf) (r:List UInt8 × Int × Pg) (e:Ending) (w':World):Prop :=
 ∃v,e=.returned (.tuple #[v,.int .i64 r.2.1])∧Qs 5 w.heap.size w' v r.1∧Yo w' F p f r.2.2∧Zb (PJ F p f) w w'
theorem pread_any (h:Yo w F p f P) (page:Int) (b1:-9223372036854775808≤page) (b2:page≤9223372036854775807) :
  Calls Tryz.prog 85 #[Xb f.q,.int .i64 page] w (ReadEnd w F p f (P.read page)):=by
 have HF:=Hd (must_any h page b1 b2);by_cases h0:P.must page=0
 case neg =>
  have e:P.read page=([],P.must page,P):=by rw[Pg.read,if_pos h0]
  have d1:(P.must page != 0)=true:=by simpa using h0
  have HS:=Hd h;rw[e];clear h h0 e;generalize P.must page=x at *;go_enter Tryz.func85,Tryz.ntmps85;go_wp2_with (go_at_call 104;refine HF.out.mono ?_;rintro e w9 ⟨rfl,hw9⟩;rw[hw9];clear hw9 w9);go_ret2;exact⟨_,rfl,Qs.nil _ _ _,HS.out,Zb.refl _ _⟩
 rw[h0] at HF;obtain⟨k0,k1,_,_⟩:=Pg.must_bounds h0;obtain⟨c0,c1,c2,c3,c4,c5,c6,c7⟩:=h.cells;have hlo:=h.tab.kmap.run_look_ok (P:=Tryz.prog) (T:=98) Tryz.underlying98 Tryz.underlying3 (.slice none 0 0) (fun w=>by kernel_rfl) page
 rcases h.pgs.look page with ⟨l1,l2⟩ | ⟨v,b,l1,l2,l3,l4,l5⟩
 case inr =>
  have e:P.read page=(b,0,P):=by rw[Pg.read,if_neg (by simp[h0]),l2]
  rw[e];rw[l1] at hlo;have HC:=Hd (clone_any v b w l4.isB (by omega))
  have HH:=Hd h;dsimp only[Option.getD,Option.isSome] at hlo;clear e h l1 l2 h0;go_enter Tryz.func85,Tryz.ntmps85;go_wp2_with (first | (go_at_call 104;refine HF.out.mono ?_;rintro e w9 ⟨rfl,hw9⟩;rw[hw9];clear hw9 w9) | (go_at_call 105;refine HC.out.mono ?_;rintro e w2 ⟨u,rfl,hu,hb2⟩));go_ret2;exact⟨_,rfl,hu,HH.out.below hb2,Zb.of_below hb2⟩
 have hn:=h.ok.n1;have w1:IntKind.i64.wrap (page*8)=page*8:=IntWalk.i64_in _ (by omega);have w2:IntKind.i64.wrap (2+page*8)=2+page*8:=IntWalk.i64_in _ (by omega);have hmk:=run_make0_896;have e:P.read page=if (P.J.reads (2+page*8) 8).2.1≠0 then ([],(P.J.reads (2+page*8) 8).2.1,{ P with J:=(P.J.reads (2+page*8) 8).2.2,off:=Zae P.off (P.J.reads (2+page*8) 8).2.1 }) else ((P.J.reads (2+page*8) 8).1,0,{ P with J:=(P.J.reads (2+page*8) 8).2.2 }):=by rw[Pg.read,if_neg (by simp[h0]),l2]
 have HE:=Hd e;rw[l1] at hlo;dsimp only[Option.getD,Option.isSome] at hlo;have HH:=Hd h;clear e h l1 l2 h0;go_enter Tryz.func85,Tryz.ntmps85;go_wp2_with (go_at_call 104;refine HF.out.mono ?_;rintro e w9 ⟨rfl,hw9⟩;rw[hw9];clear hw9 w9);go_loopw [9,32] (fun o x wr=>∃k:Nat,k≤8∧x=.int .i64 (k:Int)∧(P.J.reads (2+page*8) k).2.1=0∧Qs 5 w.heap.size wr o (P.J.reads (2+page*8) k).1∧Yo wr F p f P∧Zb (PJ F p f) w wr) (fun _ x _=>8 - (intOf x).toNat)
 case atStart =>
  have hb:Below w.heap.size w (w.alloc (.cells (bv Zbf).toArray 5)):=(Below.refl _ _).alloc (Nat.le_refl _) _;exact⟨0,Nat.zero_le _,rfl,rfl,mine_make0 w,HH.out.below hb,Zb.of_below hb⟩
 case round =>
  obtain⟨k,hk,rfl,hok,hm,hp,ht⟩:=hrel;obtain⟨a,c,rfl,_,_⟩:=hm.isB.form;by_cases hlt:k<8
  ·have hd:decide ((k:Int)<8)=true:=decide_eq_true (by omega)
   have w3:IntKind.i64.wrap (2+page*8+(k:Int))=2+page*8+(k:Int):=IntWalk.i64_in _ (by omega);obtain⟨g0,_⟩:=hp.cells;have HJ:=Hd (jread_any wr F p P.J hp.jat hp.nib (by have:=hp.n22;omega) (2+page*8+(k:Int)) (by omega) (by omega));have HP:=Hd hp;have HT:=Hd ht;have HM:=Hd hm;have hsz:=ht.size;have HOK:=Hd hok;have hlen:=Jn.reads_len P.J (2+page*8) k;clear hp ht hm hok c0 c1 c2 c3 c4 c5 c6 c7;go_wp2_with fail;refine HJ.out.mono ?_;rintro e w4 ⟨v,rfl,hv,hj4,ht4⟩;have hp4:=HP.out.put_j hj4 ht4 (by rw[Jn.read_D]);have hpj:Zb (PJ F p f) wr w4:=ht4.mono fun _ _ e=>.inl e;have hm4:=HM.out.keep (w':=w4) fun k h1 h2=>ht4.block k h2 fun e=>by have:=HH.out.jat.lt e;omega
   obtain⟨va,vc,rfl,_,_⟩:=hv.now.form;have hlen2:=Jn.read_len P.J (2+page*8+(k:Int))
   by_cases hz:(P.J.read (2+page*8+(k:Int))).2.1=0
   ·have hd2:((P.J.read (2+page*8+(k:Int))).2.1 != 0)=false:=by simpa using hz
    have HN:=Hd (Jn.reads_next HOK.out hz);have HP4:Hid (Yo w4 F p f P):=Hd (by rw[Jn.read_ok hz] at hp4;exact hp4);have HT4:=Hd (HT.out.trans hpj);have HB:=Hd hv.now;have HZ:=Hd hz;have HM4:=Hd hm4;clear hp4 hj4 ht4 hpj hv hm4 hz;generalize (P.J.read (2+page*8+(k:Int)))=R at *;generalize (P.J.reads (2+page*8) k)=L at *;have hsz4:=HT4.out.size;go_wp2_with (at_builtin;refine Zgn rfl (.tmp 53) (.tmp 54) 106 rfl w.heap.size 5 Zcy Tryz.underlying106 _ L.1 rfl HM4.out _ R.1 rfl HB.out (by omega) hsz4 ?_);intro v' w6 hm6 _ hb6 _ _;obtain⟨a6,c6,rfl,_,_⟩:=hm6.isB.form;have HM6:=Hd hm6;clear hm6;go_wp2_with fail;go_roundw
    case rel=>exact⟨k+1,by omega,by go_num,by rw[HN.out],by rw[HN.out];exact HM6.out,HH.out.on HP4.out hb6,HT4.out.on hb6⟩
    case measure=>simp[intOf];omega
   ·have hd2:((P.J.read (2+page*8+(k:Int))).2.1 != 0)=true:=by simpa using hz
    have HN:=Hd (Jn.reads_stop HOK.out hz);have HR:=Hd (heard_any hp4 (P.J.read (2+page*8+(k:Int))).2.1);have HT4:=Hd (HT.out.trans hpj)
    have HX:Hid (P.read page=([],(P.J.read (2+page*8+(k:Int))).2.1,{ P with J:=(P.J.read (2+page*8+(k:Int))).2.2,off:=Zae P.off (P.J.read (2+page*8+(k:Int))).2.1 })):=Hd (by
     have h8:=Jn.reads_err (J:=P.J) (a:=2+page*8) (k:=k+1) (by rw[HN.out];exact hz) 8 (by omega)
     rw[HE.out,h8,HN.out,if_pos hz])
    clear hp4 hj4 ht4 hpj hv hm4 hz;generalize (P.J.read (2+page*8+(k:Int)))=R at *;go_wp2_with fail;refine HR.out.mono ?_;rintro e w5 ⟨rfl,hp5,ht5⟩;go_wp2_with fail;go_ret2;rw[HX.out];exact⟨_,rfl,Qs.nil _ _ _,hp5,HT4.out.trans ht5⟩
  ·obtain rfl:k=8:=by omega
   have HX:Hid (P.read page=((P.J.reads (2+page*8) 8).1,0,P)):=Hd (by
    rw[HE.out,if_neg (by simp[hok]),Jn.reads_ok hok])
   have HM:=Hd hm;have HP:=Hd hp;have HT:=Hd ht;clear hok hm hp ht;generalize (P.J.reads (2+page*8) 8).1=L at *;go_wp2_with fail;go_ret2;rw[HX.out];exact⟨_,rfl,HM.out,HP.out,HT.out⟩
end
end
section
open Go.RowKit
section
variable {w : World} {F : Ft} {p : Nat} {f : Pf} {P : Pg}
theorem Yo.made {W:World} {f':Pf} {P':Pg} (h:Yo w F p f P) (hJ:P'.J=P.J) (ht:Zb (PT f) w W) (hq:f'.q=f.q) (head:W.heap[f'.q]?=some (pgRow p f' P')) (now:BoR W f'.gn f'.cn P'.now) (was:BoR W f'.gw f'.cw P'.was)
  (tab:OTab W f'.M f'.kv) (pgs:Pgs W f'.kv P'.own) (ok:Pok P') (hT:∀k,PT f' k→PT f k∨w.heap.size≤k) (hlt:∀k,PT f' k→k<W.heap.size) (sep:f'.gn≠f'.gw):Zbv w F p f W P':=by
 have hnj:=fun k hk=>(h.apart k hk).1;refine⟨f',⟨?_,h.nib.of_turned ht fun e=>(h.apart _ e).2.1 rfl,head,now,was,tab,pgs,ok,fun k hk=>?_,sep⟩,hq,hT,ht.mono fun k _ e=>.inr e⟩
 ·rw[hJ];exact h.jat.turned ht fun k hk e=>hnj k e hk
 ·rcases hT k hk with e | e
  ·exact⟨(h.apart k e).1,(h.apart k e).2.1,hlt k hk⟩
  ·refine⟨fun hj=>?_,fun he=>?_,hlt k hk⟩
   ·have:=h.jat.lt hj;omega
   ·have:=nib_lt h.nib;omega
theorem turned_q2 (w:World) (q i j:Nat) (a b:Value):Zb (·=q) w ((w.setCell ⟨q,i,none⟩ a).setCell ⟨q,j,none⟩ b):=(Zd w q i a).trans (Zd _ q j b)
theorem Yo.anew {w1 w3:World} {cs:Array Value} {f':Pf} {P':Pg} (h:Yo w F p f P) (hb:Below w.heap.size w w1) (ht:Zb (·=f.q) w1 w3) (hd:w3.heap[f.q]?=some (.cells cs 100 (0,0))) (hs:cs.size=8)
  (hJ:P'.J=P.J) (hq:f'.q=f.q) (hM:f'.M=w3.heap.size) (hkv:f'.kv=[]) (hown:P'.own=[]) (hrow:(cs.setIfInBounds 5 (.map (some w3.heap.size))).setIfInBounds 6 (.bool false)=#[jptr p,.slice (some ⟨f'.gn,0,none⟩) P'.now.length f'.cn,.int .i64 P'.root,.slice (some ⟨f'.gw,0,none⟩) P'.was.length f'.cw,.int .i64 P'.wroot,.map (some f'.M),.bool P'.change,.int .i64 P'.off])
  (now:BoR w1 f'.gn f'.cn P'.now) (was:BoR w1 f'.gw f'.cw P'.was) (hgn:f'.gn=f.gn∨w.heap.size≤f'.gn) (hgw:f'.gw=f.gw∨w.heap.size≤f'.gw) (hne:f'.gn≠f'.gw) (ok:Pok P') :
  (∃u,(w3.alloc (.map #[] 0)).cell? ⟨f.q,5,none⟩=some u)∧(w3.alloc (.map #[] 0)).frozen? ⟨f.q,5,none⟩=false∧(∃u,(w3.alloc (.map #[] 0)).cell? ⟨f.q,6,none⟩=some u)∧(w3.alloc (.map #[] 0)).frozen? ⟨f.q,6,none⟩=false ∧
  Zbv w F p f (((w3.alloc (.map #[] 0)).setCell ⟨f.q,5,none⟩ (.map (some w3.heap.size))).setCell ⟨f.q,6,none⟩ (.bool false)) P':=by
 have hb4:Below w3.heap.size w3 (w3.alloc (.map #[] 0)):=(Below.refl _ _).alloc (Nat.le_refl _) _;have hd4:=(hb4.block _ (Za hd)).trans hd;have hd5:=Ze hd4 (i:=5) (.map (some w3.heap.size));have hd6:=Ze hd5 (i:=6) (.bool false);have ht5:=turned_q2 (w3.alloc (.map #[] 0)) f.q 5 6 (.map (some w3.heap.size)) (.bool false);have hlq:=Za hd;have hsz:=ht.size;have hs4:(w3.alloc (.map #[] 0)).heap.size=w3.heap.size+1:=by simp
 refine⟨⟨cs[5]'(by omega),by rw[cell_of_row _ _ _ _ _ _ hd4];exact Array.getElem?_eq_getElem _⟩,Zf hd4 5,⟨cs[6]'(by omega),by rw[cell_of_row _ _ _ _ _ _ hd4];exact Array.getElem?_eq_getElem _⟩,Zf hd4 6,?_⟩
 ·have hq1:=h.qn
  have hbo:∀{g c:Nat} {t:List Bool},BoR w1 g c t→BoR (((w3.alloc (.map #[] 0)).setCell ⟨f.q,5,none⟩ (.map (some w3.heap.size))).setCell ⟨f.q,6,none⟩ (.bool false)) g c t∧g<w3.heap.size:=fun {g c t} hg=>by
   have hgq:g≠f.q:=by
    obtain⟨cur,hc,_⟩:=hg;intro e;have h2:=(hb.block _ (Za h.head)).trans h.head
    rw[e,h2] at hc;simp at hc
   have hl:=hg.lt;exact⟨((hg.keep (ht.block _ hl hgq)).keep (hb4.block _ (by omega))).keep (ht5.block _ (by omega) hgq),by omega⟩
  obtain⟨n1,n2⟩:=hbo now;obtain⟨m1,m2⟩:=hbo was
  have hPT:∀k,PT f' k→k=f.q∨k=f'.gn∨k=f'.gw∨k=w3.heap.size:=by
   rintro k (e | e | e | e | ⟨x,hx,_⟩)
   ·exact .inl (e.trans hq)
   ·exact .inr (.inl e)
   ·exact .inr (.inr (.inl e))
   ·exact .inr (.inr (.inr (e.trans hM)))
   ·rw[hkv] at hx;cases hx
  have hbs:=hb.size;refine h.made hJ ?_ hq ?_ n1 m1 ?_ (by rw[hkv,hown];trivial) ok (fun k hk=>?_) (fun k hk=>?_) hne
  ·refine(Zb.of_below hb).trans ((ht.mono fun _ _ e=>.inl e).trans ((Zb.of_below hb4).trans (ht5.mono fun _ _ e=>.inl e)))
  ·rw[hq,hd6,hrow]
  ·rw[hM,hkv];exact(OTab.made w3).keep (ht5.block _ (by omega) (by omega))
  ·rcases hPT k hk with e | e | e | e
   ·exact .inl (.inl e)
   ·rcases hgn with h1 | h1
    ·exact .inl (.inr (.inl (by rw[e,h1])))
    ·exact .inr (by omega)
   ·rcases hgw with h1 | h1
    ·exact .inl (.inr (.inr (.inl (by rw[e,h1]))))
    ·exact .inr (by omega)
   ·exact .inr (by omega)
  ·have:=ht5.size
   rcases hPT k hk with e | e | e | e<;>omega
theorem abort_any (h:Yo w F p f P):Calls Tryz.prog 29 #[Xb f.q] w fun e w'=>e=.returned (.tuple #[])∧Zbv w F p f w' P.abort:=by
 have HF:=Hd (Zfj h (-1) (by omega) (by omega));by_cases h0:P.fails (-1)=0
 case neg =>
  have e:P.abort=P:=by rw[Pg.abort,if_neg h0]
  have d1:(P.fails (-1)==0)=false:=by simpa using h0
  have HS:=Hd (Zbv.same h);rw[e];clear h h0 e;generalize P.fails (-1)=x at *;go_enter Tryz.func29,Tryz.ntmps29;go_wp2_with (go_at_call 54;refine HF.out.mono ?_;rintro e w2 ⟨rfl,rfl⟩);go_end0;exact⟨rfl,HS.out⟩
 rw[h0] at HF;have e:P.abort={ P with now:=P.was,root:=P.wroot,own:=[],change:=false }:=by rw[Pg.abort,if_pos h0]
 rw[e];have o:=h.ok
 obtain⟨c0,c1,c2,c3,c4,c5,c6,c7⟩:=h.cells;have HC:=Hd (pclone_any w 0 _ P.was P.wroot (h.was.mine 0 (Nat.zero_le _)) (by have:=o.n1;have:=o.was;omega))
 have HH:=Hd h;have HO:=Hd o;clear h h0 e o;go_enter Tryz.func29,Tryz.ntmps29;go_wp2_with (go_at_call 54;refine HF.out.mono ?_;rintro e w9 ⟨rfl,hw9⟩;rw[hw9];clear hw9 w9);refine HC.out.mono ?_;rintro e w1 ⟨u,rfl,hu,hb1⟩;obtain⟨g,c,rfl,hg,hbo⟩:=hu.boR (by have:=HO.out.n0;have:=HO.out.was;omega);have h1:=HH.out.below hb1;have f1:=h1.frozen 1;have f2:=h1.frozen 2;have hd1:=h1.head;have hd3:=Ze (Ze hd1 (i:=1) (.slice (some ⟨g,0,none⟩) P.was.length c)) (i:=2) (.int .i64 P.wroot);have t3:=turned_q2 w1 f.q 1 2 (.slice (some ⟨g,0,none⟩) P.was.length c) (.int .i64 P.wroot);have hs3:((w1.setCell ⟨f.q,1,none⟩ (.slice (some ⟨g,0,none⟩) P.was.length c)).setCell ⟨f.q,2,none⟩ (.int .i64 P.wroot)).heap.size=w1.heap.size:=by simp[World.setCell]
 obtain⟨d0,d1,d2,d3,d4,d5,d6,d7⟩:=h1.cells;clear hu;have hmm:=fun w=>run_makeMap (P:=Tryz.prog) 98 w
 obtain⟨w3,hw3⟩:∃x,x=(w1.setCell ⟨f.q,1,none⟩ (.slice (some ⟨g,0,none⟩) P.was.length c)).setCell ⟨f.q,2,none⟩ (.int .i64 P.wroot):=⟨_,rfl⟩;rw[←hw3] at hd3 t3 hs3
 obtain⟨⟨u5,e5⟩,f5,⟨u6,e6⟩,f6,hpt⟩:=HH.out.anew (f':={ f with gn:=g,cn:=c,M:=w3.heap.size,kv:=[] }) (P':={ P with now:=P.was,root:=P.wroot,own:=[],change:=false }) hb1 t3 hd3 (by rfl) rfl rfl rfl rfl rfl (by rfl) hbo (HH.out.was.keep (hb1.block _ HH.out.was.lt)) (.inr hg) (.inl rfl) (by
  have:=HH.out.was.lt;dsimp only;omega) (by
  have o:=HO.out
  exact⟨by have:=o.n0;have:=o.was;dsimp only;omega,by have:=o.n1;have:=o.was;dsimp only;omega,rfl,o.s0,by have:=o.s1;have:=o.was;dsimp only;omega,o.s0,by have:=o.s1;have:=o.was;dsimp only;omega,fun x hx=>(by cases hx),by have:=o.jn;have:=o.was;dsimp only;omega⟩)
 rw[hs3] at hpt;have HX:=Hd hpt
 have hs3':=hs3;clear hpt hd3 t3 hs3 h1 hb1 hbo hd1;rw[hs3'] at *;subst hw3;clear hs3';go_wp2_with fail;go_end0;exact⟨rfl,HX.out⟩
end
end
section
open Go.RowKit
def ElB (w:World):List Value→List (List UInt8)→Prop
 | [],[]=>True
 | u::us,l::ls=>IsB w u l∧ElB w us ls
 | _,_=>False
theorem ElB.len {w:World}:∀{us:List Value} {ls:List (List UInt8)},ElB w us ls→us.length=ls.length
 | [],[],_=>rfl
 | [],_::_,h=>h.elim
 | _::_,[],h=>h.elim
 | _::_,_::_,h=>by simp[ElB.len h.2]
theorem ElB.get {w:World}:∀{us:List Value} {ls:List (List UInt8)},ElB w us ls→∀i (h1:i<us.length) (h2:i<ls.length),IsB w us[i] ls[i]
 | [],[],_,i,h1,_=>by simp at h1
 | [],_::_,h,_,_,_=>h.elim
 | _::_,[],h,_,_,_=>h.elim
 | u::us,l::ls,h,0,_,_=>h.1
 | u::us,l::ls,h,i+1,h1,h2=>ElB.get h.2 i (by simpa using h1) (by simpa using h2)
theorem ElB.append {w:World} {us':List Value} {ls':List (List UInt8)} (h':ElB w us' ls'):∀{us:List Value} {ls:List (List UInt8)},ElB w us ls→ElB w (us++us') (ls++ls')
 | [],[],_=>h'
 | [],_::_,h=>h.elim
 | _::_,[],h=>h.elim
 | _::_,_::_,h=>⟨h.1,ElB.append h' h.2⟩
theorem Zbb.elB {B:Nat} {w:World} {v:Value} {us:List Value} (h:Zbb B w v us) {ls:List (List UInt8)} (he:ElB w us ls):IsBs w v ls:=h.isBs he.len he.get
theorem IsB.part {w:World} {g N c:Nat} {b:List UInt8} (h:IsB w (.slice (some ⟨g,0,none⟩) N c) b) (i n:Nat) (hn:i+n≤b.length):IsB w (.slice (some ⟨g,i,none⟩) n n) ((b.drop i).take n):=by
 obtain⟨a,cap,hv,h1,h2,h3,h4⟩:=h;simp only[Value.slice.injEq] at hv;obtain⟨rfl,hN,rfl⟩:=hv;obtain⟨_,hc⟩:=h4 _ rfl;have hl:((b.drop i).take n).length=n:=by simp;omega
 refine⟨some ⟨g,i,none⟩,n,by rw[hl],by rw[hl];exact Nat.le_refl _,by omega,fun e=>(by cases e),fun x hx=>?_⟩;obtain rfl:=Option.some.inj hx;refine⟨fun _=>rfl,fun j hj=>?_⟩;rw[hl] at hj;have:=hc (i+j) (by omega)
 simp only[Nat.zero_add] at this;rw[this];simp
theorem chunks_eq:∀(m:Nat) (b:List UInt8),Xn m b=(List.range m).map fun i=>(b.drop (112*i)).take 112
 | 0,b=>rfl
 | m+1,b=>by rw[Xn,chunks_eq m,List.range_succ_eq_map,List.map_cons,List.map_map];congr 1;apply List.map_congr_left;intro i _;simp only[Function.comp,List.drop_drop];congr 2;omega
theorem Zby (m:Nat) (b:List UInt8):(Xn m b).length=m:=by simp[chunks_eq]
theorem chunk_elB {w:World} {g N c:Nat} {b:List UInt8} (h:IsB w (.slice (some ⟨g,0,none⟩) N c) b) (l:List Nat) (hl:∀i∈l,112*i+112≤b.length):ElB w (Zy g l) (l.map fun i=>(b.drop (112*i)).take 112):=by
 induction l with
 | nil=>trivial
 | cons x r ih=>exact⟨h.part (112*x) 112 (hl x (by simp)),ih fun i hi=>hl i (by simp[hi])⟩
theorem chunks_elB {w:World} {g N c:Nat} {b:List UInt8} (h:IsB w (.slice (some ⟨g,0,none⟩) N c) b) (m:Nat) (hm:112*m≤b.length):ElB w (Zy g (List.range m)) (Xn m b):=by rw[chunks_eq];exact chunk_elB h _ fun i hi=>by have:=List.mem_range.1 hi;omega
def pageG (kv:List (Int × Value)) (k:Int):Nat:=match Zal kv k with | some v=>v.ownBlock.getD 0 | none=>0
theorem Qs.slice {e:TypeId} {B:Nat} {w:World} {v:Value} {b:List UInt8} (h:Qs e B w v b) (h0:0<b.length):∃g c,v=.slice (some ⟨g,0,none⟩) b.length c∧B≤g∧b.length≤c∧g<w.heap.size:=by
 rcases h.2 with ⟨rfl,hn⟩ | ⟨g,cap,cur,rfl,hb,hg,hnc,hcm,hcs,htake⟩
 ·omega
 ·exact⟨g,cap,rfl,hb,hnc,Za hg⟩
def Zau (gu:Nat) (kv:List (Int × Value)) (ks:List Int):List Value:=Zy gu (List.range 2)++ks.flatMap fun k=>Zy (pageG kv k) (List.range 8)
def Zt (ks:List Int):List Int:=Zo 0 2++ks.flatMap fun k=>Zo (2+k*8) 8
def Yi (P:Pg) (ks:List Int):List (List UInt8):=Xn 2 (Qb P.now P.root)++ks.flatMap fun k=>Xn 8 ((Yj P.own k).getD [])
theorem oLook_mem {o:List (Int × List UInt8)} {k:Int} (h:k∈o.map (·.1)):Yj o k≠none:=by obtain⟨y,hy,rfl⟩:=List.mem_map.1 h;intro e;simp only[Yj,Option.map_eq_none_iff,List.find?_eq_none] at e;simpa using e y hy
theorem Pgs.at {w:World} {kv:List (Int × Value)} {o:List (Int × List UInt8)} (h:Pgs w kv o) {k:Int} (hk:k∈o.map (·.1)):∃c b,Zal kv k=some (.slice (some ⟨pageG kv k,0,none⟩) 896 c)∧Yj o k=some b∧b.length=896∧896≤c∧Qs 5 0 w (.slice (some ⟨pageG kv k,0,none⟩) 896 c) b:=by
 rcases h.look k with ⟨_,h2⟩ | ⟨v,b,h1,h2,h3,h4,h5⟩
 ·exact absurd h2 (oLook_mem hk)
 ·obtain⟨g,c,rfl,_,hc,_⟩:=h4.slice (by omega)
  have e:pageG kv k=g:=by rw[pageG,h1];rfl
  rw[h3] at h1 h4 hc;exact⟨c,b,by rw[e,h1],h2,h3,hc,by rw[e];exact h4⟩
theorem pages_elB {w:World} {kv:List (Int × Value)} {o:List (Int × List UInt8)} (h:Pgs w kv o):∀(ks:List Int),(∀k∈ks,k∈o.map (·.1))→ElB w (ks.flatMap fun k=>Zy (pageG kv k) (List.range 8)) (ks.flatMap fun k=>Xn 8 ((Yj o k).getD []))
 | [],_=>trivial
 | k::ks,hk=>by rw[List.flatMap_cons,List.flatMap_cons];obtain⟨c,b,h1,h2,h3,h4,h5⟩:=h.at (hk k (by simp));refine ElB.append (pages_elB h ks fun x hx=>hk x (by simp[hx])) ?_;rw[h2];exact chunks_elB h5.isB 8 (by omega)
theorem commit_elB {w:World} {gu cu:Nat} {kv:List (Int × Value)} {P:Pg} (hu:IsB w (.slice (some ⟨gu,0,none⟩) 224 cu) (Qb P.now P.root)) (h:Pgs w kv P.own) (ks:List Int) (hk:∀k∈ks,k∈P.own.map (·.1)):ElB w (Zau gu kv ks) (Yi P ks) :=
 ElB.append (pages_elB h ks hk) (chunks_elB hu 2 (by rw[Yc];omega))
theorem Zbb.cat {B:Nat} {w:World} {v:Value} {us:List Value} (h:Zbb B w v us) (hB:B≤w.heap.size) {B':Nat} {u:Value} {xs:List Value} (hu:Zbb B' w u xs) (hx:∀x∈xs,x.oneCell'=true) (hL:us.length+xs.length≤1000000) :
  ∃v' w',(Builtin.append_ #[110,110] 110 #[v,u]).run Tryz.prog w=.ok v' w'∧Zbb B w' v' (us++xs)∧w.grownBy w' v.ownBlock:=by
 obtain⟨i,hi,hz,hs,hb⟩:=info_parts (P:=Tryz.prog) (e:=106) info_bytes2
 obtain⟨v',w',hr,ho,hgr,_,hown⟩:=Zdw (P:=Tryz.prog) w B 110 110 110 106 i _ 1 24 _ Tryz.underlying110 Tryz.underlying110 (.inl rfl) hi hz hs hb rfl (by decide) v us.length us h
  u xs.length xs (own_lenOf hu) (by simp) (Zeo hu) hx (by simp[maxLen];omega) (by omega) hB
 refine⟨v',w',hr,?_,hgr⟩;unfold Zbb;rw[List.length_append];exact ho
theorem chunkVals_one (g:Nat) (l:List Nat):∀x∈Zy g l,x.oneCell'=true:=by intro x hx;obtain⟨i,_,rfl⟩:=List.mem_map.1 hx;rfl
theorem nodup_range:∀(n:Nat) (l:List Int),l.Nodup→(∀x∈l,0≤x∧x<(n:Int))→l.length≤n
 | 0,[],_,_=>Nat.le_refl _
 | 0,x::l,_,h=>by have:=h x (by simp);omega
 | n+1,l,hn,h=>by
  have h1:=nodup_range n (l.erase (n:Int)) (hn.erase _) fun x hx=>by
   obtain⟨h2,h3⟩:=(hn.mem_erase_iff).1 hx;have:=h x h3
   omega
  rw[List.length_erase] at h1
  split at h1<;>omega
theorem Yo.own_len {w:World} {F:Ft} {p:Nat} {f:Pf} {P:Pg} (h:Yo w F p f P):P.own.length≤P.now.length∧f.kv.length=P.own.length:=by
 have e:=h.pgs.keys;have hnd:=h.tab.nodup;rw[e] at hnd;have hl:=nodup_range P.now.length _ hnd fun x hx=>by obtain⟨y,hy,rfl⟩:=List.mem_map.1 hx;exact h.ok.keys y hy
 have:=congrArg List.length e;simp at hl this;exact⟨hl,this⟩
theorem mem_upI {zs:List Int} {k:Int}:k∈upI zs↔k∈zs:=(List.mergeSort_perm zs _).mem_iff
theorem commitPlaces_succ (ks:List Int) (i:Nat) (h:i<ks.length):Zt (ks.take (i+1))=Zt (ks.take i)++Zo (2+ks[i]*8) 8:=by rw[Zt,Zt,List.take_add_one,List.getElem?_eq_getElem h,Option.toList_some,List.flatMap_append,List.flatMap_cons,List.flatMap_nil,List.append_nil,List.append_assoc]
theorem commitVals_succ (gu:Nat) (kv:List (Int × Value)) (ks:List Int) (i:Nat) (h:i<ks.length):Zau gu kv (ks.take (i+1))=Zau gu kv (ks.take i)++Zy (pageG kv ks[i]) (List.range 8):=by rw[Zau,Zau,List.take_add_one,List.getElem?_eq_getElem h,Option.toList_some,List.flatMap_append,List.flatMap_cons,List.flatMap_nil,List.append_nil,List.append_assoc]
theorem Zcv (ks:List Int):(Zt ks).length=2+8*ks.length:=by
 rw[Zt,List.length_append,Ym];congr 1
 induction ks with
 | nil=>rfl
 | cons k r ih=>rw[List.flatMap_cons,List.length_append,Ym,ih,List.length_cons];omega
theorem commitVals_len (gu:Nat) (kv:List (Int × Value)) (ks:List Int):(Zau gu kv ks).length=2+8*ks.length:=by
 rw[Zau,List.length_append,Zbp,List.length_range];congr 1
 induction ks with
 | nil=>rfl
 | cons k r ih=>rw[List.flatMap_cons,List.length_append,Zbp,List.length_range,ih,List.length_cons];omega
theorem Zgy {ks:List Int} (h:∀k∈ks,0≤k∧k<1024):∀n∈Zt ks,-9223372036854775808≤n∧n≤9223372036854775807:=by
 intro n hn;rcases List.mem_append.1 hn with hn | hn
 ·obtain⟨i,hi,rfl⟩:=List.mem_map.1 hn;have:=List.mem_range.1 hi;omega
 ·obtain⟨k,hk,hn⟩:=List.mem_flatMap.1 hn
  obtain⟨i,hi,rfl⟩:=List.mem_map.1 hn;have:=List.mem_range.1 hi
  have:=h k hk;omega
end
section
open Go.RowKit
theorem Live.blocks {n:Nat} {J:Jn} {seq:Int} {B:List (List UInt8)} {ok:Nat→Prop} (h:Live n J seq B ok):J.D.blocks=(n - 2) / 2:=by rw[Dk.blocks,h.hn]
theorem updB_nil (B:List (List UInt8)) (ls:List (List UInt8)):Qi B [] ls=B:=by rw[Qi]
theorem write_nil {n:Nat} {J:Jn} {seq:Int} {B:List (List UInt8)} {ok:Nat→Prop} (h:Live n J seq B ok) {ls:List (List UInt8)} (hr:Zac ((n - 2) / 2) [] ls=true):J.write [] ls=(0,J):=by rw[Jn.write,if_neg (by simp[h.off]),h.blocks,if_neg (by simp[hr]),if_pos List.length_nil]
theorem write_yes {n:Nat} {J:Jn} {seq:Int} {B:List (List UInt8)} {ok:Nat→Prop} (h:Live n J seq B ok) {zs:List Int} {ls:List (List UInt8)} (hr:Zac ((n - 2) / 2) zs ls=true) (h0:zs.length≠0):J.write zs ls=((J.writes zs ls).off,J.writes zs ls):=by rw[Jn.write,if_neg (by simp[h.off]),h.blocks,if_neg (by simp[hr]),if_neg h0]
structure WroteOk (n:Nat) (J:Jn) (seq:Int) (B:List (List UInt8)) (zs:List Int) (ls:List (List UInt8)):Prop where
 err:(J.write zs ls).1=0
 live:Live n (J.write zs ls).2 (if zs.length=0 then seq else seq+1) (Qi B zs ls) AllOk
 last:(J.write zs ls).2.last≤J.last+1
 cut:(J.write zs ls).2.D.cut=J.D.cut
 ops:(J.write zs ls).2.D.ops≤J.D.ops+(2*zs.length+4)
 same:zs.length=0→(J.write zs ls).2=J
theorem write_ok {n:Nat} {J:Jn} {seq:Int} {B:List (List UInt8)} {zs:List Int} {ls:List (List UInt8)} (h:Live n J seq B AllOk) (hcut:J.D.cut<0) (hr:Zac ((n - 2) / 2) zs ls=true) (ht:J.last+1<4611686018427387904) (hb:J.D.ops+(2*zs.length+4)≤1048576):WroteOk n J seq B zs ls:=by
 by_cases h0:zs.length=0
 ·obtain rfl:zs=[]:=List.eq_nil_of_length_eq_zero h0
  have e:=write_nil h hr;refine⟨by rw[e],?_,by rw[e];show J.last≤_;omega,by rw[e],by rw[e];show J.D.ops≤_;omega,fun _=>by rw[e]⟩
  rw[e,if_pos List.length_nil,updB_nil];exact h
 ·have e:=write_yes h hr h0
  have w:=writes_live h hr ht hb;rcases w.ends with ⟨a1,a2⟩ | ⟨_,a2,_⟩
  ·refine⟨by rw[e];exact a1,?_,by rw[e];exact Nat.le_of_eq w.last,by rw[e];exact w.cut,by rw[e];exact w.ops,fun h=>absurd h h0⟩;rw[e,if_neg h0];exact a2
  ·omega
end
section
open Go.RowKit
def Xq (B:List (List UInt8)) (from_ m:Nat):List UInt8:=(List.range m).flatMap fun i=>B.getD (from_+i) []
theorem placesFrom_cons (f m:Nat):Zo (f:Int) (m+1)=(f:Int)::Zo ((f+1:Nat):Int) m:=by
 rw[Zo,List.range_succ_eq_map,List.map_cons,List.map_map,Zo];have e:((fun(i:Nat)=>(f:Int)+(i:Int)) ∘ Nat.succ)=fun(i:Nat)=>((f+1:Nat):Int)+(i:Int):=by funext i;simp only[Function.comp];omega
 rw[e];simp
theorem updB_run:∀(m f:Nat) (b:List UInt8) (B:List (List UInt8)) (i:Nat),f+m≤B.length→(Qi B (Zo (f:Int) m) (Xn m b))[i]?=if f≤i∧i<f+m then some ((b.drop (112*(i - f))).take 112) else B[i]?
 | 0,f,b,B,i,_=>by rw[if_neg (by omega)];simp[Zo,Xn,Qi]
 | m+1,f,b,B,i,h=>by
  rw[placesFrom_cons,Xn,Qi,updB_run m (f+1) (b.drop 112) _ i (by simp;omega),Int.toNat_natCast,List.drop_drop,List.getElem?_set];by_cases h1:f+1≤i∧i<f+1+m
  ·rw[if_pos h1,if_pos (by omega)];congr 3;omega
  ·rw[if_neg h1]
   by_cases h2:f=i
   ·subst h2;rw[if_pos rfl,if_pos (by omega),if_pos (by omega),Nat.sub_self];rfl
   ·rw[if_neg h2,if_neg (by omega)]
theorem updB_app:∀(zs zs':List Int) (ls ls' B:List (List UInt8)),zs.length=ls.length→Qi B (zs++zs') (ls++ls')=Qi (Qi B zs ls) zs' ls'
 | [],_,[],_,_,_=>by simp[Qi]
 | [],_,_::_,_,_,h=>by simp at h
 | _::_,_,[],_,_,h=>by simp at h
 | z::zs,zs',l::ls,ls',B,h=>by simp only[List.cons_append,Qi];exact updB_app zs zs' ls ls' _ (by simpa using h)
theorem chunks_flat:∀(m:Nat) (b:List UInt8),b.length=112*m→((List.range m).flatMap fun i=>(b.drop (112*i)).take 112)=b
 | 0,b,h=>by have:b=[]:=List.eq_nil_of_length_eq_zero (by omega);simp[this]
 | m+1,b,h=>by
  have ih:=chunks_flat m (b.drop 112) (by rw[List.length_drop];omega);rw[List.range_succ_eq_map,List.flatMap_cons,List.flatMap_map];simp only[Nat.mul_zero,List.drop_zero];have e:((List.range m).flatMap fun i=>(b.drop (112*(i+1))).take 112)=b.drop 112:=by rw[←ih];simp only[List.drop_drop];congr 1;funext i;congr 2;omega
  show b.take 112++((List.range m).flatMap fun i=>(b.drop (112*(i+1))).take 112)=b
  rw[e,List.take_append_drop]
theorem flatMap_congr' {α β:Type} {l:List α} {f g:α→List β} (h:∀x∈l,f x=g x):l.flatMap f=l.flatMap g:=by
 induction l with
 | nil=>rfl
 | cons x r ih=>rw[List.flatMap_cons,List.flatMap_cons,h x (by simp),ih fun y hy=>h y (by simp[hy])]
theorem Zfy {m f:Nat} {b:List UInt8} {B:List (List UInt8)} (h:f+m≤B.length) (hb:b.length=112*m):Xq (Qi B (Zo (f:Int) m) (Xn m b)) f m=b:=by
 rw[Xq]
 conv=>rhs;rw[←chunks_flat m b hb]
 refine flatMap_congr' fun i hi=>?_;have:=List.mem_range.1 hi
 rw[List.getD_eq_getElem?_getD,updB_run m f b B (f+i) h,if_pos (by omega),Option.getD_some,Nat.add_sub_cancel_left]
theorem Zee {m f m' f':Nat} {b:List UInt8} {B:List (List UInt8)} (h:f+m≤B.length) (hd:f'+m'≤f∨f+m≤f'):Xq (Qi B (Zo (f:Int) m) (Xn m b)) f' m'=Xq B f' m':=by
 rw[Xq,Xq];refine flatMap_congr' fun i hi=>?_;have:=List.mem_range.1 hi
 rw[List.getD_eq_getElem?_getD,updB_run m f b B (f'+i) h,if_neg (by omega),←List.getD_eq_getElem?_getD]
abbrev pageAt (B:List (List UInt8)) (k:Nat):List UInt8:=Xq B (2+8*k) 8
theorem page_place (k:Nat):(2+(k:Int)*8)=((2+8*k:Nat):Int):=by omega
theorem pages_upd (o:List (Int × List UInt8)) (ho:∀k b,Yj o k=some b→b.length=896):∀(ks:List Int) (B:List (List UInt8)),ks.Nodup→(∀k∈ks,0≤k∧2+8*k.toNat+8≤B.length)→(∀k∈ks,∃b,Yj o k=some b) →
  (Qi B (ks.flatMap fun k=>Zo (2+k*8) 8) (ks.flatMap fun k=>Xn 8 ((Yj o k).getD []))).length=B.length ∧
  Xq (Qi B (ks.flatMap fun k=>Zo (2+k*8) 8) (ks.flatMap fun k=>Xn 8 ((Yj o k).getD []))) 0 2=Xq B 0 2 ∧
  ∀k:Nat,pageAt (Qi B (ks.flatMap fun k=>Zo (2+k*8) 8) (ks.flatMap fun k=>Xn 8 ((Yj o k).getD []))) k=if (k:Int)∈ks then (Yj o k).getD [] else pageAt B k
 | [],B,_,_,_=>by simp[Qi]
 | x::ks,B,hn,hb,hl=>by
  obtain⟨x0,x1⟩:=hb x (by simp);obtain⟨bx,hx⟩:=hl x (by simp);have hxl:=ho x bx hx
  have ex:x=((x.toNat:Nat):Int):=by omega
  obtain⟨y,hy⟩:∃y,y=x.toNat:=⟨_,rfl⟩;rw[←hy] at ex x1;rw[List.nodup_cons] at hn;rw[List.flatMap_cons,List.flatMap_cons,updB_app _ _ _ _ _ (by rw[Ym,Zby]),hx,Option.getD_some];have e1:Zo (2+x*8) 8=Zo ((2+8*y:Nat):Int) 8:=by rw[ex,page_place]
  rw[e1];obtain⟨i1,i2,i3⟩:=pages_upd o ho ks (Qi B (Zo ((2+8*y:Nat):Int) 8) (Xn 8 bx)) hn.2 (fun k hk=>by rw[Zdo];exact hb k (by simp[hk])) (fun k hk=>hl k (by simp[hk]));refine⟨i1.trans (Zdo _ _ _),by rw[i2,Zee (by omega) (by omega)],fun k=>?_⟩;rw[i3 k];by_cases hk:(k:Int)∈ks
  ·rw[if_pos hk,if_pos (by simp[hk])]
  ·rw[if_neg hk]
   by_cases he:(k:Int)=x
   ·have:k=y:=by omega
    subst this;rw[if_pos (by simp[he]),he,hx,Option.getD_some];exact Zfy (by omega) (by omega)
   ·rw[if_neg (by simp[hk,he])];exact Zee (by omega) (by omega)
theorem commit_upd {P:Pg} {B:List (List UInt8)} (ho:∀k b,Yj P.own k=some b→b.length=896) (ks:List Int) (h2:2≤B.length) (hn:ks.Nodup) (hb:∀k∈ks,0≤k∧2+8*k.toNat+8≤B.length) (hl:∀k∈ks,∃b,Yj P.own k=some b) :
  (Qi B (Zt ks) (Yi P ks)).length=B.length∧Xq (Qi B (Zt ks) (Yi P ks)) 0 2=Qb P.now P.root ∧
  ∀k:Nat,pageAt (Qi B (Zt ks) (Yi P ks)) k=if (k:Int)∈ks then (Yj P.own k).getD [] else pageAt B k:=by
 rw[Zt,Yi,updB_app _ _ _ _ _ (by rw[Ym,Zby])];have hl0:(Qi B (Zo 0 2) (Xn 2 (Qb P.now P.root))).length=B.length:=Zdo _ _ _
 obtain⟨i1,i2,i3⟩:=pages_upd P.own ho ks (Qi B (Zo 0 2) (Xn 2 (Qb P.now P.root))) hn (fun k hk=>by rw[hl0];exact hb k hk) hl;have e0:(0:Int)=((0:Nat):Int):=rfl
 refine⟨i1.trans hl0,?_,fun k=>?_⟩
 ·rw[i2,e0];exact Zfy (by omega) (by rw[Yc])
 ·rw[i3 k]
  split
  ·rfl
  ·rw[e0];exact Zee (by omega) (by omega)
end
section
open Go.RowKit
structure Rp where
 pages:List (Option (List UInt8))
 root:Int
 was:List (Option (List UInt8))
 wroot:Int
 change:Bool
def Rp.taken (R:Rp) (page:Int):Bool:=decide (0≤page)&&(decide (page<(R.pages.length:Int))&&(R.pages.getD page.toNat none).isSome)
def Rp.lay (R:Rp) (k:Nat) (b:List UInt8):Rp:={ R with pages:=R.pages.set k (some b),change:=true }
def freeR (l:List (Option (List UInt8))):Option Nat:=l.findIdx? fun x=>x.isNone
def Rp.alloc (R:Rp):(Int × Int) × Rp:=match freeR R.pages with | some k=>(((k:Int),0),R.lay k Zbf) | none=>((0,80),R)
def Rp.free (R:Rp) (page:Int):Int × Rp:=if R.taken page=false then (81,R) else if R.root=page then (2,R) else (0,{ R with pages:=R.pages.set page.toNat none,change:=true })
def Rp.read (R:Rp) (page:Int):List UInt8 × Int:=if R.taken page=false then ([],81) else ((R.pages.getD page.toNat none).getD [],0)
def Rp.write (R:Rp) (page:Int) (b:List UInt8):Int × Rp:=if R.taken page=false then (81,R) else if b.length≠896 then (2,R) else (0,R.lay page.toNat b)
def Rp.setRoot (R:Rp) (page:Int):Int × Rp:=if R.taken page=false∧page≠-1 then (81,R) else (0,{ R with root:=page,change:=true })
def Rp.commit (R:Rp):Rp:={ R with was:=R.pages,wroot:=R.root,change:=false }
def Rp.abort (R:Rp):Rp:={ R with pages:=R.was,root:=R.wroot,change:=false }
def Rp.begun (blocks:Nat):Rp:=⟨List.replicate ((blocks - 2) / 8) none,-1,List.replicate ((blocks - 2) / 8) none,-1,false⟩
end
section
open Go.RowKit
theorem Qu (x:Int × List UInt8) (r:List (Int × List UInt8)) (n:Int):Yj (x::r) n=if x.1=n then some x.2 else Yj r n:=by
 by_cases h:x.1=n
 ·simp[Yj,List.find?_cons,h]
 ·simp[Yj,List.find?_cons,h]
theorem oLook_app (a b:List (Int × List UInt8)) (n:Int):Yj (a++b) n=(Yj a n).or (Yj b n):=by
 induction a with
 | nil=>rfl
 | cons x a ih=>rw[List.cons_append,Qu,Qu,ih];split<;>simp
theorem oLook_over (k:Int) (b:List UInt8) (j:Int):∀(o:List (Int × List UInt8)),(Yj o k).isSome→Yj (o.map fun x=>if x.1=k then (k,b) else x) j=if j=k then some b else Yj o j
 | [],h=>by simp[Yj] at h
 | x::r,h=>by
  rw[Qu] at h;rw[List.map_cons,Qu,Qu];by_cases hx:x.1=k
  ·rw[if_pos hx]
   by_cases hj:j=k
   ·simp[hj]
   ·have hk:¬k=j:=fun e=>hj e.symm
    rw[if_neg hk,if_neg hj,if_neg (by rw[hx];exact hk)]
    have hr:∀r:List (Int × List UInt8),Yj (r.map fun x=>if x.1=k then (k,b) else x) j=Yj r j:=by
     intro r
     induction r with
     | nil=>rfl
     | cons y r ih =>
      rw[List.map_cons,Qu,Qu,ih];by_cases hy:y.1=k
      ·rw[if_pos hy,if_neg hk,if_neg (by rw[hy];exact hk)]
      ·rw[if_neg hy]
    exact hr r
  ·rw[if_neg hx] at h ⊢
   rw[oLook_over k b j r h];by_cases hj:j=k
   ·have:¬x.1=j:=fun e=>hx (e.trans hj);rw[if_neg this,if_pos hj,if_pos hj]
   ·rw[if_neg hj,if_neg hj]
theorem oLook_put (o:List (Int × List UInt8)) (k:Int) (b:List UInt8) (j:Int):Yj (oPut o k b) j=if j=k then some b else Yj o j:=by
 unfold oPut;split
 ·rename_i h;exact oLook_over k b j o h
 ·rename_i h
  have hn:Yj o k=none:=by simpa using h
  rw[oLook_app,Qu];by_cases hj:j=k
  ·subst hj;simp[hn]
  ·have:¬k=j:=fun e=>hj e.symm;simp[hj,this,Yj]
theorem oLook_del (o:List (Int × List UInt8)) (k j:Int):Yj (oDel o k) j=if j=k then none else Yj o j:=by
 induction o with
 | nil=>simp[oDel,Yj]
 | cons x r ih =>
  unfold oDel at ih ⊢;rw[List.filter_cons];by_cases hx:x.1=k
  ·rw[if_neg (by simpa using hx),ih,Qu]
   by_cases hj:j=k
   ·rw[if_pos hj,if_pos hj]
   ·rw[if_neg hj,if_neg hj,if_neg (by rw[hx];exact fun e=>hj e.symm)]
  ·rw[if_pos (by simpa using hx),Qu,Qu,ih]
   by_cases hj:j=k
   ·rw[if_neg (by rw[hj];exact hx),if_pos hj,if_pos hj]
   ·rw[if_neg hj,if_neg hj]
theorem oPut_nodup {o:List (Int × List UInt8)} (h:(o.map (·.1)).Nodup) (k:Int) (b:List UInt8):((oPut o k b).map (·.1)).Nodup:=by
 unfold oPut;split
 ·have e:(o.map fun x=>if x.1=k then (k,b) else x).map (·.1)=o.map (·.1):=by
   rw[List.map_map];apply List.map_congr_left;intro x _;simp only[Function.comp];split
   ·rename_i hx;exact hx.symm
   ·rfl
  rw[e];exact h
 ·rename_i hk
  rw[List.map_append,List.map_cons,List.map_nil];refine List.nodup_append.2 ⟨h,by simp,fun a ha c hc e=>?_⟩;rw[List.mem_singleton.1 hc] at e;subst e;have:=oLook_mem ha
  exact hk (Option.isSome_iff_ne_none.2 this)
theorem oDel_nodup {o:List (Int × List UInt8)} (h:(o.map (·.1)).Nodup) (k:Int):((oDel o k).map (·.1)).Nodup:=h.sublist (List.filter_sublist.map _)
theorem oLook_some {o:List (Int × List UInt8)} {k:Int} {b:List UInt8} (h:Yj o k=some b):k∈o.map (·.1):=by
 simp only[Yj,Option.map_eq_some_iff] at h;obtain⟨x,hx,_⟩:=h;have h1:=List.mem_of_find?_eq_some hx
 have h2:=List.find?_some hx;simp only[beq_iff_eq] at h2;exact List.mem_map.2 ⟨x,h1,h2⟩
structure Sim (n:Nat) (P:Pg) (R:Rp) (seq:Int) (B:List (List UInt8)):Prop where
 live:Live n P.J seq B AllOk
 off:P.off=0
 now:P.now=R.pages.map (·.isSome)
 was:P.was=R.was.map (·.isSome)
 root:P.root=R.root
 wroot:P.wroot=R.wroot
 len:R.pages.length=((n - 2) / 2 - 2) / 8
 lenw:R.was.length=R.pages.length
 plan:Xq B 0 2=Qb P.was P.wroot
 rok:RootOk P.now P.root
 wok:RootOk P.was P.wroot
 pagew:∀(k:Nat) b,R.was[k]?=some (some b)→b.length=896∧pageAt B k=b
 pagen:∀(k:Nat) b,R.pages[k]?=some (some b)→b.length=896∧(Yj P.own k=some b∨(Yj P.own k=none∧R.was[k]?=some (some b)))
 free:∀(k:Int) b,Yj P.own k=some b→0≤k∧R.pages[k.toNat]?=some (some b)
 nodup:(P.own.map (·.1)).Nodup
 clean:P.change=false→P.own=[]∧R.pages=R.was∧R.root=R.wroot
section
variable {n : Nat} {P : Pg} {R : Rp} {seq : Int} {B : List (List UInt8)}
theorem Sim.nlen (h:Sim n P R seq B):P.now.length=R.pages.length:=by rw[h.now,List.length_map]
theorem Sim.at (h:Sim n P R seq B) (k:Nat):P.now.getD k false=(R.pages.getD k none).isSome:=by
 rw[h.now,List.getD_eq_getElem?_getD,List.getElem?_map,List.getD_eq_getElem?_getD]
 cases R.pages[k]?<;>rfl
theorem taken_iff {R:Rp} {page:Int}:R.taken page=true↔0≤page∧page<(R.pages.length:Int)∧(R.pages.getD page.toNat none).isSome=true:=by simp only[Rp.taken,Bool.and_eq_true,decide_eq_true_eq]
theorem Sim.fails (h:Sim n P R seq B) (page:Int):P.fails page=if R.taken page=false∧page≠-1 then 81 else 0:=by
 rw[Pg.fails,if_neg (by simp[h.off]),h.nlen,h.at]
 cases ht:R.taken page with
 | true =>
  obtain⟨a,b,c⟩:=taken_iff.1 ht
  rw[if_neg (by
   rintro(e | e | ⟨_,e⟩)
   ·omega
   ·omega
   ·rw[c] at e;cases e),if_neg (by simp)]
 | false =>
  by_cases hp:page=-1
  ·rw[if_neg (by rintro(e | e | ⟨e,_⟩)<;>omega),if_neg (fun e=>e.2 hp)]
  ·have hL:(R.pages.length:Int)≤page∨page < -1∨0≤page∧(R.pages.getD page.toNat none).isSome=false:=by
    refine Decidable.byContradiction fun hno=>?_;have h1:¬(R.pages.length:Int)≤page:=fun e=>hno (.inl e)
    have h2:¬page < -1:=fun e=>hno (.inr (.inl e))
    have h3:R.taken page=true:=taken_iff.2 ⟨by omega,by omega,by
     cases hx:(R.pages.getD page.toNat none).isSome with
     | true=>rfl
     | false=>exact absurd (.inr (.inr ⟨by omega,hx⟩)) hno⟩
    rw[ht] at h3;cases h3
   rw[if_pos hL,if_pos ⟨rfl,hp⟩]
theorem Sim.must (h:Sim n P R seq B) (page:Int):P.must page=if R.taken page=false then 81 else 0:=by
 rw[Pg.must,h.fails];by_cases h2:page=-1
 ·subst h2
  have:R.taken (-1)=false:=by simp[Rp.taken]
  simp[this]
 ·cases hx:R.taken page<;>simp[h2]
theorem Sim.fails1 (h:Sim n P R seq B):P.fails (-1)=0:=by rw[h.fails,if_neg (by simp)]
theorem Sim.freeAt (h:Sim n P R seq B):freeAt P.now=freeR R.pages:=by
 rw[Go.Proofs.YtofibccplbnaiaaGreatDoor.freeAt,h.now,List.findIdx?_map,freeR];congr 1;funext x
 cases x<;>rfl
theorem set_map_some (l:List (Option (List UInt8))) (k:Nat) (x:Option (List UInt8)):(l.set k x).map (·.isSome)=(l.map (·.isSome)).set k x.isSome:=by rw[List.map_set]
theorem Sim.lay (h:Sim n P R seq B) (k:Nat) (b:List UInt8) (hk:k<R.pages.length) (hb:b.length=896) (now':List Bool) (hnow:now'=P.now.set k true):Sim n { P with now:=now',own:=oPut P.own k b,change:=true } (R.lay k b) seq B:=by
 have hl:(R.pages.set k (some b)).length=R.pages.length:=by simp
 refine⟨h.live,h.off,by rw[hnow,Rp.lay,set_map_some,←h.now];rfl,h.was,h.root,h.wroot,hl.trans h.len,h.lenw.trans hl.symm,h.plan,?_,h.wok,h.pagew,fun j c hj=>?_,fun j c hj=>?_,oPut_nodup h.nodup _ _,fun e=>by cases e⟩
 ·obtain⟨a1,a2,a3⟩:=h.rok
  refine⟨a1,by rw[hnow];simpa using a2,a3.imp id fun a=>?_⟩;show now'.getD P.root.toNat false=true
  rw[hnow,List.getD_eq_getElem?_getD,List.getElem?_set];split
  ·split<;>rename_i h1 h2
   ·rfl
   ·rw[h.nlen] at h2;exact absurd hk h2
  ·rw[←List.getD_eq_getElem?_getD];exact a
 ·simp only[Rp.lay] at hj
  rw[List.getElem?_set] at hj;show c.length=896∧(Yj (oPut P.own k b) j=some c∨_)
  rw[oLook_put];by_cases e:k=j
  ·subst e;rw[if_pos rfl,if_pos hk] at hj;cases hj;exact⟨hb,.inl (by rw[if_pos rfl])⟩
  ·rw[if_neg e] at hj
   have e2:¬(j:Int)=(k:Int):=by omega
   rw[if_neg e2];exact h.pagen j c hj
 ·simp only[Rp.lay]
  replace hj:Yj (oPut P.own k b) j=some c:=hj;rw[oLook_put] at hj;by_cases e:j=(k:Int)
  ·subst e;rw[if_pos rfl] at hj;cases hj;exact⟨by omega,by rw[Int.toNat_natCast,List.getElem?_set,if_pos rfl,if_pos hk]⟩
  ·rw[if_neg e] at hj;obtain⟨a1,a2⟩:=h.free j c hj;exact⟨a1,by rw[List.getElem?_set,if_neg (by omega)];exact a2⟩
theorem Sim.alloc (h:Sim n P R seq B):P.alloc.1=R.alloc.1∧Sim n P.alloc.2 R.alloc.2 seq B:=by
 have hf:=h.freeAt
 cases hx:freeR R.pages with
 | none =>
  rw[Pg.alloc,if_neg (by simp[h.fails1]),hf,hx,Rp.alloc,hx];exact⟨rfl,h⟩
 | some k =>
  rw[Pg.alloc,if_neg (by simp[h.fails1]),hf,hx,Rp.alloc,hx];have hk:k<R.pages.length:=(List.findIdx?_eq_some_iff_getElem.1 hx).1
  exact⟨rfl,h.lay k Zbf hk Zbo _ rfl⟩
theorem Zbt {R:Rp} {page:Int} (h:R.taken page=true):0≤page∧page.toNat<R.pages.length∧∃b,R.pages[page.toNat]?=some (some b):=by
 simp only[Rp.taken,Bool.and_eq_true,decide_eq_true_eq] at h;obtain⟨h1,h2,h3⟩:=h;have h4:page.toNat<R.pages.length:=by omega
 refine⟨h1,h4,?_⟩;rw[List.getD_eq_getElem?_getD,List.getElem?_eq_getElem h4] at h3;rw[List.getElem?_eq_getElem h4];simp only[Option.getD_some] at h3;exact⟨_,congrArg some (Option.some_get h3).symm⟩
theorem Sim.write (h:Sim n P R seq B) (page:Int) (b:List UInt8):(P.write page b).1=(R.write page b).1∧Sim n (P.write page b).2 (R.write page b).2 seq B:=by
 cases ht:R.taken page with
 | false=>rw[Pg.write,Rp.write,h.must,ht];exact⟨rfl,h⟩
 | true =>
  rw[Pg.write,Rp.write,h.must,ht];simp only[Bool.true_eq_false,if_false,ne_eq,not_true_eq_false];by_cases hb:b.length=896
  ·rw[if_neg (by simp[hb]),if_neg (by simp[hb])]
   obtain⟨a1,a2,c,a3⟩:=Zbt ht;have e:page=((page.toNat:Nat):Int):=by omega
   refine⟨rfl,?_⟩
   have hs:P.now=P.now.set page.toNat true:=by
    have h1:P.now[page.toNat]?=some true:=by rw[h.now,List.getElem?_map,a3];rfl
    have h2:page.toNat<P.now.length:=by rw[h.nlen];exact a2
    rw[List.getElem?_eq_getElem h2] at h1;rw[←Option.some.inj h1,List.set_getElem_self]
   have:=h.lay page.toNat b a2 hb P.now hs;rw[←e] at this;exact this
  ·rw[if_pos (by simp[hb]),if_pos (by simp[hb])];exact⟨rfl,h⟩
theorem Sim.freed (h:Sim n P R seq B) (page:Int):(P.free page).1=(R.free page).1∧Sim n (P.free page).2 (R.free page).2 seq B:=by
 cases ht:R.taken page with
 | false=>rw[Pg.free,Rp.free,h.must,ht];exact⟨rfl,h⟩
 | true =>
  rw[Pg.free,Rp.free,h.must,ht];simp only[Bool.true_eq_false,if_false,ne_eq,not_true_eq_false];by_cases hr:R.root=page
  ·rw[if_pos (h.root.trans hr).symm,if_pos hr];exact⟨rfl,h⟩
  ·rw[if_neg (fun e=>hr (h.root.symm.trans e.symm)),if_neg hr]
   obtain⟨a1,a2,c,a3⟩:=Zbt ht;have hl:(R.pages.set page.toNat none).length=R.pages.length:=by simp
   refine⟨rfl,h.live,h.off,by simp only;rw[set_map_some,←h.now];rfl,h.was,h.root,h.wroot,hl.trans h.len,h.lenw.trans hl.symm,h.plan,?_,h.wok,h.pagew,fun j d hj=>?_,fun j d hj=>?_,oDel_nodup h.nodup _,fun e=>by cases e⟩
   ·obtain⟨b1,b2,b3⟩:=h.rok
    refine⟨b1,by simpa using b2,?_⟩;by_cases hneg:P.root<0
    ·exact .inl hneg
    ·refine .inr ?_
     have a:=b3.resolve_left hneg;show (P.now.set page.toNat false).getD P.root.toNat false=true
     rw[List.getD_eq_getElem?_getD,List.getElem?_set,if_neg (by have:=h.root;omega),←List.getD_eq_getElem?_getD];exact a
   ·simp only at hj
    rw[List.getElem?_set] at hj;by_cases e:page.toNat=j
    ·rw[if_pos e] at hj
     split at hj<;>cases hj
    ·rw[if_neg e] at hj
     show d.length=896∧(Yj (oDel P.own page) j=some d∨(Yj (oDel P.own page) j=none∧_))
     rw[oLook_del,if_neg (by omega)];exact h.pagen j d hj
   ·simp only
    replace hj:Yj (oDel P.own page) j=some d:=hj;rw[oLook_del] at hj;by_cases e:j=page
    ·rw[if_pos e] at hj;cases hj
    ·rw[if_neg e] at hj;obtain⟨c1,c2⟩:=h.free j d hj;exact⟨c1,by rw[List.getElem?_set,if_neg (by omega)];exact c2⟩
end
end
section
open Go.RowKit
section
variable {n : Nat} {P : Pg} {R : Rp} {seq : Int} {B : List (List UInt8)}
theorem live_rows {J:Jn} {ok:Nat→Prop} (h:Live n J seq B ok):B.length=(n - 2) / 2∧∀b∈B,b.length=112:=by obtain⟨w,pl,him⟩:=h.im;exact⟨him.rows,him.each⟩
theorem blocksAt_succ (B:List (List UInt8)) (f m:Nat):Xq B f (m+1)=Xq B f m++B.getD (f+m) []:=by rw[Xq,List.range_succ,List.flatMap_append,Xq];simp
theorem reads_live {J:Jn} (h:Live n J seq B AllOk) (f:Nat):∀(m:Nat),f+m≤(n - 2) / 2→J.reads (f:Int) m=(Xq B f m,0,J)
 | 0,_=>by simp[Jn.reads,Xq]
 | m+1,hm=>by
  have ih:=reads_live h f m (by omega);have hl:=(live_rows h).1;have hi:f+m<B.length:=by omega
  have hr:=read_live h (i:=f+m) (by omega) trivial (List.getElem?_eq_getElem hi);have e:((f:Int)+(m:Int))=((f+m:Nat):Int):=by omega
  rw[blocksAt_succ,List.getD_eq_getElem?_getD,List.getElem?_eq_getElem hi,Option.getD_some];have h0:(J.reads (f:Int) m).2.1=0:=by rw[ih]
  have h1:(J.read ((f:Int)+(m:Int))).2.1=0:=by rw[e,hr]
  rw[Jn.reads_next h0 h1,ih,e,hr]
theorem Sim.pagesn (h:Sim n P R seq B) {k:Nat} (hk:k<R.pages.length):2+8*k+8≤(n - 2) / 2:=by have:=h.len;omega
theorem Sim.read (h:Sim n P R seq B) (page:Int):P.read page=((R.read page).1,(R.read page).2,P):=by
 cases ht:R.taken page with
 | false=>rw[Pg.read,Rp.read,h.must,ht];rfl
 | true =>
  obtain⟨a1,a2,b,a3⟩:=Zbt ht;have e:page=((page.toNat:Nat):Int):=by omega
  obtain⟨k,hk⟩:∃k,k=page.toNat:=⟨_,rfl⟩;rw[←hk] at a2 a3 e;have er:R.read page=(b,0):=by rw[Rp.read,if_neg (by simp[ht]),←hk,List.getD_eq_getElem?_getD,a3];rfl
  rw[er,Pg.read,h.must,ht];simp only[Bool.true_eq_false,if_false,ne_eq,not_true_eq_false];obtain⟨c1,c2 | ⟨c2,c3⟩⟩:=h.pagen k b a3
  ·rw[e,c2]
  ·rw[e,c2]
   obtain⟨d1,d2⟩:=h.pagew k b c3;have hp:=h.pagesn a2
   simp only;rw[page_place,reads_live h.live (2+8*k) 8 (by omega)];simp only[not_true_eq_false,if_false];have:Xq B (2+8*k) 8=b:=d2
   rw[this]
theorem Sim.setRoot (h:Sim n P R seq B) (page:Int):(P.setRoot page).1=(R.setRoot page).1∧Sim n (P.setRoot page).2 (R.setRoot page).2 seq B:=by
 rw[Pg.setRoot,Rp.setRoot,h.fails];by_cases hc:R.taken page=false∧page≠-1
 ·rw[if_pos hc,if_pos (by decide),if_pos hc];exact⟨rfl,h⟩
 ·rw[if_neg hc,if_neg (by decide),if_neg hc]
  refine⟨rfl,h.live,h.off,h.now,h.was,rfl,h.wroot,h.len,h.lenw,h.plan,?_,h.wok,h.pagew,h.pagen,h.free,h.nodup,fun e=>by cases e⟩;by_cases hp:page=-1
  ·subst hp;exact⟨Int.le_refl (-1),by show (-1:Int)<_;omega,.inl (by show (-1:Int)<0;omega)⟩
  ·have ht:R.taken page=true:=by
    cases hx:R.taken page with
    | true=>rfl
    | false=>exact absurd ⟨hx,hp⟩ hc
   obtain⟨a,b,c⟩:=taken_iff.1 ht;refine⟨by show -1≤page;omega,?_,.inr ?_⟩
   ·show page<(P.now.length:Int)
    rw[h.nlen];exact b
   ·show P.now.getD page.toNat false=true
    rw[h.at];exact c
theorem Sim.opened (h:Sim n P R seq B) {P':Pg} (e:P'={ P with now:=P.was,root:=P.wroot,own:=[],change:=false }):Sim n P' R.abort seq B:=by subst e;refine⟨h.live,h.off,h.was,h.was,h.wroot,h.wroot,h.lenw.trans h.len,rfl,h.plan,h.wok,h.wok,h.pagew,fun k b hk=>⟨(h.pagew k b hk).1,.inr ⟨rfl,hk⟩⟩,fun k b hk=>(by cases hk),List.nodup_nil,fun _=>⟨rfl,rfl,rfl⟩⟩
theorem Sim.abort (h:Sim n P R seq B):Sim n P.abort R.abort seq B:=by rw[Pg.abort,if_pos h.fails1];exact h.opened rfl
theorem Sim.popen (h:Sim n P R seq B) (h1:R.pages.length≤1023) (hn:6≤n):∃P',P.J.popen=(0,P.J,some P')∧P'.J=P.J∧Sim n P' R.abort seq B:=by
 have hr:=reads_live h.live 0 2 (by omega);rw[h.plan] at hr;have hpg:P.J.pages=P.was.length:=by rw[Jn.pages,Dk.blocks,h.live.hn,h.was,List.length_map,h.lenw,h.len]
 have hl:P.was.length≤1728:=by rw[h.was,List.length_map,h.lenw];omega
 have hro:Xw (Qb P.was P.wroot)=P.wroot:=rootOf_planB _ _ h.wok.1 (by have:=h.wok.2.1;omega);refine⟨⟨P.J,P.was,P.wroot,P.was,P.wroot,[],false,0⟩,?_,rfl,h.opened (by rw[←h.off])⟩;have hr':P.J.reads 0 2=(Qb P.was P.wroot,0,P.J):=hr;unfold Jn.popen;simp only[hr',hpg,planOk_planB hl h.wok,takenOf_planB _ _ hl,hro];simp
theorem commitPlaces_mem {ks:List Int} {z:Int}:z∈Zt ks→(0≤z∧z<2)∨∃k∈ks,2+k*8≤z∧z<2+k*8+8:=by
 intro hz;rcases List.mem_append.1 hz with hz | hz
 ·obtain⟨i,hi,rfl⟩:=List.mem_map.1 hz;have:=List.mem_range.1 hi;exact .inl (by omega)
 ·obtain⟨k,hk,hz⟩:=List.mem_flatMap.1 hz
  obtain⟨i,hi,rfl⟩:=List.mem_map.1 hz;have:=List.mem_range.1 hi
  exact .inr ⟨k,hk,by omega,by omega⟩
theorem Zdc (f:Int) (m:Nat):(Zo f m).Nodup:=by rw[Zo,List.Nodup,List.pairwise_map];exact(List.nodup_range (n:=m)).imp fun hne e=>hne (by omega)
theorem flat_nodup:∀(ks:List Int),ks.Nodup→(ks.flatMap fun k=>Zo (2+k*8) 8).Nodup
 | [],_=>List.nodup_nil
 | x::ks,h=>by
  rw[List.nodup_cons] at h;rw[List.flatMap_cons];refine List.nodup_append.2 ⟨Zdc _ _,flat_nodup ks h.2,fun a ha c hc e=>?_⟩;subst e;obtain⟨i,hi,rfl⟩:=List.mem_map.1 ha;obtain⟨k,hk,hz⟩:=List.mem_flatMap.1 hc;obtain⟨j,hj,e⟩:=List.mem_map.1 hz;have h1:=List.mem_range.1 hi
  have h2:=List.mem_range.1 hj;have:k=x:=by omega
  subst this;exact h.1 hk
theorem commitPlaces_nodup {ks:List Int} (h:ks.Nodup) (h0:∀k∈ks,0≤k):(Zt ks).Nodup:=by
 refine List.nodup_append.2 ⟨Zdc _ _,flat_nodup ks h,fun a ha c hc e=>?_⟩;subst e;obtain⟨i,hi,rfl⟩:=List.mem_map.1 ha;obtain⟨k,hk,hz⟩:=List.mem_flatMap.1 hc;obtain⟨j,hj,e⟩:=List.mem_map.1 hz;have h1:=List.mem_range.1 hi
 have h2:=List.mem_range.1 hj;have:=h0 k hk;omega
theorem Zgu {nb:Nat}:∀(zs:List Int) (ls:List (List UInt8)) (met:List Int),(∀z∈zs,0≤z∧z<(nb:Int))→zs.Nodup→(∀z∈zs,z∉met)→(∀l∈ls,l.length=112)→Qm nb met zs ls=true
 | [],_,_,_,_,_,_=>by simp[Qm]
 | _::_,[],_,_,_,_,_=>by simp[Qm]
 | z::zs,l::ls,met,h1,h2,h3,h4=>by
  rw[List.nodup_cons] at h2;have a:=h1 z (List.mem_cons_self ..)
  have ih:=Zgu zs ls (met++[z]) (fun y hy=>h1 y (List.mem_cons_of_mem _ hy)) h2.2 (fun y hy hm=>by
   rcases List.mem_append.1 hm with hm | hm
   ·exact h3 y (List.mem_cons_of_mem _ hy) hm
   ·rw[List.mem_singleton.1 hm] at hy
    exact h2.1 hy) (fun y hy=>h4 y (List.mem_cons_of_mem _ hy))
  simp only[Qm,ih,Bool.and_true,Bool.and_eq_true,decide_eq_true_eq,Bool.not_eq_true',decide_eq_false_iff_not];exact⟨⟨⟨a.1,a.2⟩,h3 z (List.mem_cons_self ..)⟩,h4 l (List.mem_cons_self ..)⟩
theorem Zfz {m:Nat} {b:List UInt8} (h:b.length=112*m):∀l∈Xn m b,l.length=112:=by
 intro l hl;rw[chunks_eq] at hl;obtain⟨i,hi,rfl⟩:=List.mem_map.1 hl;have:=List.mem_range.1 hi
 simp;omega
theorem commitBlocks_len (P:Pg) (ks:List Int):(Yi P ks).length=2+8*ks.length:=by
 rw[Yi,List.length_append,Zby];congr 1
 induction ks with
 | nil=>rfl
 | cons k r ih=>rw[List.flatMap_cons,List.length_append,Zby,ih,List.length_cons];omega
theorem Sim.keys (h:Sim n P R seq B):(Zbk P.own).Nodup∧(∀k∈Zbk P.own,0≤k∧k.toNat<R.pages.length)∧(Zbk P.own).length≤R.pages.length∧(∀k,k∈Zbk P.own↔Yj P.own k≠none):=by
 have hp:=List.mergeSort_perm (P.own.map (·.1)) (fun x y=>decide (x≤y));have hm:∀k,k∈Zbk P.own↔k∈P.own.map (·.1):=fun k=>hp.mem_iff;have hi:∀k,k∈Zbk P.own↔Yj P.own k≠none:=fun k=>by rw[hm];refine⟨oLook_mem,fun e=>?_⟩;obtain⟨b,hb⟩:=Option.ne_none_iff_exists'.1 e;exact oLook_some hb
 have hb:∀k∈Zbk P.own,0≤k∧k.toNat<R.pages.length:=fun k hk=>by obtain⟨b,hb⟩:=Option.ne_none_iff_exists'.1 ((hi k).1 hk);obtain⟨a1,a2⟩:=h.free k b hb;exact⟨a1,(List.getElem?_eq_some_iff.1 a2).1⟩
 have hnd:(Zbk P.own).Nodup:=hp.nodup_iff.2 h.nodup;exact⟨hnd,hb,nodup_range _ _ hnd fun k hk=>by have:=hb k hk;omega,hi⟩
theorem Sim.right (h:Sim n P R seq B) (hn:6≤n):Zac ((n - 2) / 2) P.places P.blocks=true:=by
 obtain⟨k1,k2,k3,k4⟩:=h.keys;have e1:P.places=Zt (Zbk P.own):=rfl
 have e2:P.blocks=Yi P (Zbk P.own):=rfl;rw[e1,e2,Zac,Zgu _ _ [] (fun z hz=>?_) (commitPlaces_nodup k1 fun k hk=>(k2 k hk).1) (fun _ _ h=>by cases h) (fun l hl=>?_),Zcv,commitBlocks_len]
 ·simp
 ·rcases commitPlaces_mem hz with hz | ⟨k,hk,h1,h2⟩
  ·omega
  ·have:=k2 k hk;have:=h.pagesn (k:=k.toNat) (k2 k hk).2;omega
 ·rcases List.mem_append.1 hl with hl | hl
  ·exact Zfz (by rw[Yc]) l hl
  ·obtain⟨k,hk,hl⟩:=List.mem_flatMap.1 hl;obtain⟨b,hb⟩:=Option.ne_none_iff_exists'.1 ((k4 k).1 hk);rw[hb] at hl;obtain⟨a1,a2⟩:=h.free k b hb;exact Zfz (by have:=(h.pagen k.toNat b a2).1;rw[Option.getD_some];omega) l hl
structure Commits (n:Nat) (P:Pg) (R:Rp) (seq:Int) (B:List (List UInt8)) (seq':Int) (B':List (List UInt8)):Prop where
 err:P.commit.1=0
 sim:Sim n P.commit.2 R.commit seq' B'
 last:P.commit.2.J.last≤P.J.last+1
 cut:P.commit.2.J.D.cut=P.J.D.cut
 ops:P.commit.2.J.D.ops≤P.J.D.ops+(8+16*R.pages.length)
 seq:seq≤seq'∧seq'≤seq+1
theorem Sim.written (h:Sim n P R seq B) (hn:6≤n) {J':Jn} {seq':Int} (hl:Live n J' seq' (Qi B P.places P.blocks) AllOk):Sim n { P with J:=J',was:=P.now,wroot:=P.root,own:=[],change:=false } R.commit seq' (Qi B P.places P.blocks):=by
 obtain⟨k1,k2,k3,k4⟩:=h.keys;have hrow:=(live_rows h.live).1
 have hlen:∀k b,Yj P.own k=some b→b.length=896:=fun k b hb=>(h.pagen k.toNat b (h.free k b hb).2).1;obtain⟨u1,u2,u3⟩:=commit_upd (P:=P) (B:=B) hlen (Zbk P.own) (by omega) k1 (fun k hk=>⟨(k2 k hk).1,by have:=h.pagesn (k2 k hk).2;omega⟩) (fun k hk=>Option.ne_none_iff_exists'.1 ((k4 k).1 hk))
 have hpw:∀(k:Nat) b,R.pages[k]?=some (some b)→b.length=896∧pageAt (Qi B P.places P.blocks) k=b:=fun k b hk=>by
  obtain⟨c1,c2⟩:=h.pagen k b hk;refine⟨c1,?_⟩;have:=u3 k
  rw[show pageAt (Qi B P.places P.blocks) k=_ from this]
  rcases c2 with c2 | ⟨c2,c3⟩
  ·rw[if_pos ((k4 _).2 (by rw[c2];simp)),c2];rfl
  ·rw[if_neg (fun e=>(k4 _).1 e c2)];exact(h.pagew k b c3).2
 exact⟨hl,h.off,h.now,h.now,h.root,h.root,h.len,rfl,u2,h.rok,h.rok,hpw,fun k b hk=>⟨(hpw k b hk).1,.inr ⟨rfl,hk⟩⟩,fun k b hk=>(by cases hk),List.nodup_nil,fun _=>⟨rfl,rfl,rfl⟩⟩
theorem Sim.commit (h:Sim n P R seq B) (hn:6≤n) (hcut:P.J.D.cut<0) (ht:P.J.last+1<4611686018427387904) (hb:P.J.D.ops+(8+16*R.pages.length)≤1048576):∃seq' B',Commits n P R seq B seq' B':=by
 cases hch:P.change with
 | false =>
  obtain⟨c1,c2,c3⟩:=h.clean hch;have e:P.commit=(0,P):=by rw[Pg.commit,if_neg (by simp[h.fails1]),if_pos hch]
  refine⟨seq,B,by rw[e],?_,by rw[e];show P.J.last≤_;omega,by rw[e],by rw[e];show P.J.D.ops≤_;omega,by omega⟩
  rw[e]
  exact⟨h.live,h.off,h.now,by rw[h.was];show _=R.pages.map _;rw[c2],h.root,by rw[h.wroot];exact c3.symm,h.len,rfl,h.plan,h.rok,h.wok,fun k b hk=>h.pagew k b (by rw[←c2];exact hk),fun k b hk=>by
   obtain⟨d1,d2⟩:=h.pagen k b hk
   exact⟨d1,d2.imp id fun d=>⟨d.1,hk⟩⟩,h.free,h.nodup,fun _=>⟨c1,rfl,rfl⟩⟩
 | true =>
  obtain⟨k1,k2,k3,k4⟩:=h.keys;have hzl:P.places.length=2+8*(Zbk P.own).length:=Zcv _
  have hw:=write_ok h.live hcut (h.right hn) ht (by omega);have e:P.commit=(0,{ P with J:=(P.J.write P.places P.blocks).2,was:=P.now,wroot:=P.root,own:=[],change:=false }):=by rw[Pg.commit,if_neg (by simp[h.fails1]),if_neg (by simp[hch])];simp only;rw[if_neg (by simp[hw.err])]
  have hl:=hw.live;rw[if_neg (by omega)] at hl;refine⟨seq+1,Qi B P.places P.blocks,by rw[e],by rw[e];exact h.written hn hl,by rw[e];exact hw.last,by rw[e];exact hw.cut,?_,by omega⟩;rw[e];have:=hw.ops;show (P.J.write P.places P.blocks).2.D.ops≤_
  omega
end
end
section
open Go.RowKit
theorem planHead_split (n r:Nat):Xl n r=((((Zai (List.replicate 224 0) 0 [85,80,71,49]).set 4 (UInt8.ofNat n)).set 5 (UInt8.ofNat (n / 256))).set 6 (UInt8.ofNat r)).set 7 (UInt8.ofNat (r / 256)):=by simp[Xl,Zai,List.replicate]
def Zdp (n r:Nat):Nat→List UInt8
 | 0=>Zai (List.replicate 224 0) 0 [85,80,71,49]
 | 1=>((Zai (List.replicate 224 0) 0 [85,80,71,49]).set 4 (UInt8.ofNat n)).set 5 (UInt8.ofNat (n / 256))
 | _=>Xl n r
theorem headTo_length (n r k:Nat):(Zdp n r k).length=224:=by
 match k with
 | 0=>simp[Zdp,Zai]
 | 1=>simp[Zdp,Zai]
 | _+2=>simp[Zdp,Xl]
theorem byte_of (n:Nat):(n:Int) % 256=(((UInt8.ofNat n).toNat:Nat):Int):=by rw[UInt8.toNat_ofNat'];omega
theorem run_shl1 (j:Nat) (hj:j<8) (W:World):Sem.run Tryz.prog (Op.shift .shl .u8 1 .i64 ((j:Nat):Int)) W=.ok (.int .u8 ((2 ^ j:Nat):Int)) W:=by
 rcases(show j=0∨j=1∨j=2∨j=3∨j=4∨j=5∨j=6∨j=7 by omega) with rfl | rfl | rfl | rfl | rfl | rfl | rfl | rfl<;>kernel_rfl
theorem tmod8 (k:Nat):(k:Int).tmod 8=((k % 8:Nat):Int):=by rw[Int.tmod_eq_emod_of_nonneg (by omega)];omega
theorem or_bit (x:UInt8) (j:Nat) (hj:j<8):bits .or .u8 ((x.toNat:Nat):Int) ((2 ^ j:Nat):Int)=(((x ||| UInt8.ofNat (2 ^ j)).toNat:Nat):Int):=by
 have hp:(2:Nat) ^ j<256:=by have:=Nat.pow_lt_pow_right (a:=2) (by omega) hj;omega
 rw[u8_or_nat _ _ x.toNat_lt hp,UInt8.toNat_or,UInt8.toNat_ofNat',Nat.mod_eq_of_lt (by omega)]
theorem byte_of8' (n:Nat) (h:n<65536):(n:Int) / 256=(((UInt8.ofNat (n / 256)).toNat:Nat):Int):=by rw[UInt8.toNat_ofNat'];omega
theorem headTo_one (n r:Nat):((Zdp n r 0).set 4 (UInt8.ofNat n)).set 5 (UInt8.ofNat (n / 256))=Zdp n r 1:=rfl
theorem headTo_two (n r:Nat):((Zdp n r 1).set 6 (UInt8.ofNat r)).set 7 (UInt8.ofNat (r / 256))=Zdp n r 2:=(planHead_split n r).symm
theorem planB_any (w:World) (B:Nat) (v:Value) (t:List Bool) (r:Int) (hv:Qe B w v t) (ht:t.length≤1023) (h1:-1≤r) (h2:r<65535) :
  Calls Tryz.prog 56 #[.agg #[v,.int .i64 r]] w fun e w'=>∃u,e=.returned u∧Qs 5 w.heap.size w' u (Qb t r)∧Below w.heap.size w w':=by
 obtain⟨a,c,rfl,hc1,hc2⟩:=hv.form;have HV:=Hd hv
 obtain⟨rn,hrn⟩:∃rn:Nat,r+1=(rn:Int):=⟨(r+1).toNat,by omega⟩;have hrn2:rn<65536:=by omega
 obtain⟨tn,htn⟩:∃tn,tn=t.length:=⟨_,rfl⟩;obtain⟨N1,hN1⟩:∃N1,N1=Zdp tn rn 1:=⟨_,rfl⟩;obtain⟨N2,hN2⟩:∃N2,N2=Xl tn rn:=⟨_,rfl⟩;have HP:Hid (Qb t r=Zaq t (Xl tn rn) tn):=Hd (by rw[Qb,htn,hrn,Int.toNat_natCast])
 obtain⟨R,hR⟩:∃R,R=List.replicate 224 (0:UInt8):=⟨_,rfl⟩;have hmk:=run_make224
 rw[←hR] at hmk;obtain⟨W1,hW1⟩:∃W1,W1=w.alloc (.cells #[.slice a t.length c,.int .i64 r] 96):=⟨_,rfl⟩;have hp1:W1.heap[w.heap.size]?=some (.cells #[.slice a t.length c,.int .i64 r] 96 (0,0)):=by rw[hW1];exact heap_alloc_new w _
 have hb1:Below w.heap.size w W1:=by rw[hW1];exact(Below.refl _ _).alloc (Nat.le_refl _) _
 have hs1:W1.heap.size=w.heap.size+1:=by rw[hW1];simp
 obtain⟨W2,hW2⟩:∃W2,W2=W1.alloc (.cells (bv R).toArray 5):=⟨_,rfl⟩;have hr2:Zh W2 W1.heap.size 5 R:=by rw[hW2];exact Zh.alloc W1 _ _
 have hb2:Below W1.heap.size W1 W2:=by rw[hW2];exact(Below.refl _ _).alloc (Nat.le_refl _) _
 have hcp:=run_copy_word hr2 (by rw[hR];simp) 3;have hr3:=hr2.lay 0 [85,80,71,49] (by rw[hR];simp);have ht3:=Zu W2 W1.heap.size 0 (bv [85,80,71,49]);have hr3':Zh (W2.setCells W1.heap.size 0 (bv [85,80,71,49])) W1.heap.size 5 (Zdp tn rn 0):=by rw[Zdp,←hR];exact hr3
 have hp3:(W2.setCells W1.heap.size 0 (bv [85,80,71,49])).heap[w.heap.size]?=some (.cells #[.slice a t.length c,.int .i64 r] 96 (0,0)) :=
  (ht3.block w.heap.size (by have:=hb2.size;omega) (by omega)).trans ((hb2.block w.heap.size (by omega)).trans hp1)
 have hb3:Below w.heap.size w (W2.setCells W1.heap.size 0 (bv [85,80,71,49])):=(hb1.trans (hb2.mono (by omega))).trans (ht3.below (by have:=hb2.size;omega) (fun k hk=>by omega));have hg3:W1.heap.size<(W2.setCells W1.heap.size 0 (bv [85,80,71,49])).heap.size:=Nat.lt_of_lt_of_le hr2.lt ht3.size;have hgG:w.heap.size<W1.heap.size:=by omega
 have HW1:=Hd hW1;have HW2:=Hd hW2;have HR:=Hd hR;have Htn:=Hd htn;have Hrn:=Hd hrn;clear hv hr2 hr3 ht3 hb1 hb2 hp1 hs1 hR hW1 hW2 hN1 hN2 N1 N2 hrn;rw[←htn] at hc1 hp3 ht ⊢;rw[←htn] at HV HW1;clear htn;go_enter Tryz.func56,Tryz.ntmps56;go_upto_region 1 with fail;rw[←HW1.out];go_upto_region 2 with fail;rw[←HW2.out];generalize W1.heap.size=G at *;go_upto_region 3 with fail;generalize W2.setCells G 0 (bv [85,80,71,49])=W3 at *;clear hcp HW1 HW2 HR;have c0:W3.cell? ⟨w.heap.size,0,none⟩=some (.slice a tn c):=by rw[cell_of_row _ _ _ _ _ _ hp3];rfl
 have c1:W3.cell? ⟨w.heap.size,1,none⟩=some (.int .i64 r):=by rw[cell_of_row _ _ _ _ _ _ hp3];rfl
 have hba:Below W3.heap.size W3 (W3.alloc (.cells #[.int .i64 (tn:Int),.int .i64 (r+1)] 3)):=(Below.refl _ _).alloc (Nat.le_refl _) _;have hl4:(W3.alloc (.cells #[.int .i64 (tn:Int),.int .i64 (r+1)] 3)).heap[W3.heap.size]?=some (.cells #[.int .i64 (tn:Int),.int .i64 (r+1)] 3 (0,0)):=heap_alloc_new W3 _;have hr4:=hr3'.below hba;have hp4:=(hba.block w.heap.size (Za hp3)).trans hp3;have hb4:=hb3.trans (hba.mono hb3.size);have hrr:-1≤r∧r≤65535:=by omega
 obtain⟨hrr1,hrr2⟩:=hrr;go_wp2_with fail;generalize hg5:W3.heap.size=g5 at *;have hg5n:g5≠G:=by omega
 clear hg5;generalize W3.alloc (.cells #[.int .i64 (tn:Int),.int .i64 (r+1)] 3)=W4 at *;clear c0 c1 hba hr3' hp3 hb3 hg3;rw[Hrn.out] at hl4 ⊢;go_loopw [19] (fun x wr=>∃k:Nat,k≤2∧x=.int .i64 (k:Int)∧Zh wr G 5 (Zdp tn rn k)∧wr.heap[g5]?=some (.cells #[.int .i64 (tn:Int),.int .i64 (rn:Int)] 3 (0,0))∧wr.heap[w.heap.size]?=some (.cells #[.slice a tn c,.int .i64 r] 96 (0,0))∧Below w.heap.size w wr) (fun x _=>2 - (intOf x).toNat)
 case atStart=>exact⟨0,by omega,rfl,hr4,hl4,hp4,hb4⟩
 case round =>
  clear hr4 hl4 hp4 hb4;obtain⟨k,hk,rfl,hr,hl,hp,hb⟩:=hrel;by_cases hk0:k=0
  ·subst hk0
   have c0:wr.cell? ⟨g5,0,none⟩=some (.int .i64 (tn:Int)):=by rw[cell_of_row _ _ _ _ _ _ hl];rfl
   have hL:=headTo_length tn rn 0;have b4:=hr.cell 4 (by omega);have b5:=hr.cell 5 (by omega);have f4:=hr.frozen 4;have f5:=hr.frozen 5;have htn2:tn≤1023:=ht;have hr':=(hr.set 4 (UInt8.ofNat tn)).set 5 (UInt8.ofNat (tn / 256));have ht1:=(Zd wr G 4 (.int .u8 ((UInt8.ofNat tn).toNat:Int))).trans (Zd _ G 5 (.int .u8 ((UInt8.ofNat (tn / 256)).toNat:Int)));rw[headTo_one] at hr';rw[←byte_of tn,←byte_of8' tn (by omega)] at hr' ht1;have HF:=Hd (And.intro hr' (And.intro ((ht1.block g5 (Za hl) (by omega)).trans hl) (And.intro ((ht1.block w.heap.size (Za hp) (by omega)).trans hp) (hb.trans (ht1.below hb.size (fun k hk=>by omega))))));clear hr' ht1 hr hl hp hb;go_wp2_with fail;go_roundw
   case rel=>exact⟨1,by omega,by go_num,HF.out⟩
   case measure=>simp[intOf]
  by_cases hk1:k=1
  ·subst hk1
   have c0:wr.cell? ⟨g5,1,none⟩=some (.int .i64 (rn:Int)):=by rw[cell_of_row _ _ _ _ _ _ hl];rfl
   have hL:=headTo_length tn rn 1;have b4:=hr.cell 6 (by omega);have b5:=hr.cell 7 (by omega);have f4:=hr.frozen 6;have f5:=hr.frozen 7;have hr':=(hr.set 6 (UInt8.ofNat rn)).set 7 (UInt8.ofNat (rn / 256));have ht1:=(Zd wr G 6 (.int .u8 ((UInt8.ofNat rn).toNat:Int))).trans (Zd _ G 7 (.int .u8 ((UInt8.ofNat (rn / 256)).toNat:Int)));rw[headTo_two] at hr';rw[←byte_of rn,←byte_of8' rn (by omega)] at hr' ht1;have HF:=Hd (And.intro hr' (And.intro ((ht1.block g5 (Za hl) (by omega)).trans hl) (And.intro ((ht1.block w.heap.size (Za hp) (by omega)).trans hp) (hb.trans (ht1.below hb.size (fun k hk=>by omega))))));clear hr' ht1 hr hl hp hb;go_wp2_with fail;go_roundw
   case rel=>exact⟨2,by omega,by go_num,HF.out⟩
   case measure=>simp[intOf]
  ·obtain rfl:k=2:=by omega
   have c0:wr.cell? ⟨w.heap.size,0,none⟩=some (.slice a tn c):=by rw[cell_of_row _ _ _ _ _ _ hp];rfl
   clear hk0 hk1 hl;rw[show ((2:Nat):Int)=2 from rfl]
   go_wp2_with fail;have hr0:Zh wr G 5 (Zaq t (Xl tn rn) 0):=hr
   clear hr hp c0;go_loopw [43] (fun x wr=>∃k:Nat,k≤tn∧x=.int .i64 (k:Int)∧Zh wr G 5 (Zaq t (Xl tn rn) k)∧Below w.heap.size w wr) (fun x _=>tn - (intOf x).toNat)
   case atStart=>exact⟨0,Nat.zero_le _,rfl,hr0,hb⟩
   case round =>
    clear hr0 hb;obtain⟨k,hk,rfl,hr,hb⟩:=hrel;have hL:(Zaq t (Xl tn rn) k).length=224:=by rw[Zfc,Zdq]
    by_cases hlt:k<tn
    case neg =>
     obtain rfl:k=tn:=by omega
     have hm:=hr;have hdz:decide ((k:Int)<(k:Int))=false:=by simp
     go_wp2_with fail;go_ret;refine⟨_,rfl,?_,hb⟩;rw[HP.out]
     have hrow:wr.ownsRow w.heap.size 5 1 (.slice (some ⟨G,0,none⟩) 224 224) 224 (bv (Zaq t (Xl k rn) k)) :=
      ⟨by rw[Zl,hL],.inr ⟨G,224,_,rfl,by omega,hm,Nat.le_refl _,by simp[maxLen],by simp[Zl,hL],by simp[List.take_of_length_le,Zl,hL]⟩⟩
     unfold Qs;rw[hL];exact hrow
    have hkt:k<t.length:=by rw[←Htn.out];exact hlt
    obtain⟨g0,cc,hv,_,_,hcs⟩:=HV.out.cell (fun e=>by rw[e] at hkt;simp at hkt);simp only[Value.slice.injEq] at hv;have hav:=hv.1
    clear hv;subst hav;have hc:=Zi hb _ _ (hcs k hkt)
    have hd:decide ((k:Int)<(tn:Int))=true:=decide_eq_true (by omega);have hget:t.getD k false=t[k]:=by rw[List.getD_eq_getElem?_getD,List.getElem?_eq_getElem hkt];rfl
    have hstep:Zaq t (Xl tn rn) (k+1)=if t[k] then Zfe (Zaq t (Xl tn rn) k) k else Zaq t (Xl tn rn) k:=by rw[Zaq,hget]
    have Hstep:=Hd hstep;clear hcs hget hstep;generalize t[k]=tk at *;generalize Zaq t (Xl tn rn) k=L at *
    cases tk with
    | false =>
     go_wp2_with fail;go_roundw
     case rel=>exact⟨k+1,by omega,by go_num,by rw[Hstep.out];exact hr,hb⟩
     case measure=>simp[intOf];omega
    | true =>
     have hk8:k / 8<216:=by omega
     have bc:=hr.cell (8+k / 8) (by omega);have fc:=hr.frozen (8+k / 8);replace bc:wr.drew.cell? _=_:=bc;replace fc:wr.drew.frozen? _=_:=fc;have hw1:IntKind.i64.wrap ((k:Int) / 8)=(k:Int) / 8:=IntWalk.i64_in _ (by omega);have hw2:IntKind.i64.wrap (8+(k:Int) / 8)=8+(k:Int) / 8:=IntWalk.i64_in _ (by omega);have hw3:(0:Int)≤8+(k:Int) / 8:=by omega
     have hw4:8+(k:Int) / 8<224:=by omega
     have hsh:∀W,Sem.run Tryz.prog (Op.shift .shl .u8 1 .i64 ((k:Int).tmod 8)) W=.ok (.int .u8 ((2 ^ (k % 8):Nat):Int)) W:=fun W=>by rw[tmod8];exact run_shl1 _ (by omega) W
     have hor:=or_bit L[8+k / 8] (k % 8) (by omega);rw[show ((2 ^ (k % 8):Nat):Int)=(2:Int) ^ (k % 8) by simp] at hor
     have hrd:Zh wr.drew G 5 L:=hr;have hs:=hrd.set (8+k / 8) (L[8+k / 8] ||| UInt8.ofNat (2 ^ (k % 8)));have hts:=Zd wr.drew G (8+k / 8) (.int .u8 ((L[8+k / 8] ||| UInt8.ofNat (2 ^ (k % 8))).toNat:Int));have hsb:L.set (8+k / 8) (L[8+k / 8] ||| UInt8.ofNat (2 ^ (k % 8)))=Zfe L k:=by rw[Zfe,List.getD_eq_getElem?_getD,List.getElem?_eq_getElem (by omega),Option.getD_some]
     rw[hsb] at hs;rw[←hor] at hs hts;have HF:=Hd (And.intro hs (hb.drew.trans (hts.below (B:=w.heap.size) (by have:=hb.size;exact this) (fun k hk=>by omega))))
     clear hor hrd hs hts hsb hb hr;have hw5:(8+(k:Int) / 8).toNat=8+k / 8:=by omega
     go_wp2_with fail;refine wp_region_still_tail 11 (by kernel_rfl) (by kernel_rfl) ?_;simp only[List.take_succ_cons,List.take_zero,List.drop_succ_cons,List.drop_zero];change wpStill _ _ wr.drew (fun a'=>wpList _ _ _ _ a' wr.drew) _ _;generalize wr.drew=W5 at *;iterate 11 still_step
     refine wpStill_nil ?_;go_wp2_with fail;go_roundw
     case rel=>exact⟨k+1,by omega,by go_num,by rw[Hstep.out];exact HF.out.1,HF.out.2⟩
     case measure=>simp[intOf];omega
end
section
open Go.RowKit
theorem Jn.writes_n (J:Jn) (zs:List Int) (ls:List (List UInt8)):(J.writes zs ls).D.n=J.D.n:=by
 have h:∀(J:Jn) (fs:List (List UInt8)),(J.spread fs).D.n=J.D.n:=fun J fs=>by rw[Jn.spread,Jn.flush_n,Jn.spreads_n]
 unfold Jn.writes;simp only
 split<;>rw[h,Jn.flush_n,Jn.lay_n,Jn.flush_n,Jn.layTo_n]
theorem Jn.write_n (J:Jn) (zs:List Int) (ls:List (List UInt8)):(J.write zs ls).2.D.n=J.D.n:=by
 unfold Jn.write;split
 ·rfl
 ·split
  ·rfl
  ·split
   ·rfl
   ·exact Jn.writes_n J zs ls
theorem commit_places (P:Pg):P.places=Zt (Zbk P.own):=rfl
theorem commit_blocks (P:Pg):P.blocks=Yi P (Zbk P.own):=rfl
section
variable {w : World} {F : Ft} {p : Nat} {f : Pf} {P : Pg}
theorem commit_any (h:Yo w F p f P) (hlast:P.J.last+1<18446744073709551616) (hsq1:-9223372036854775808≤P.J.seq) (hsq2:P.J.seq<9223372036854775807) :
  Calls Tryz.prog 28 #[Xb f.q] w fun e w'=>e=.returned (.int .i64 P.commit.1)∧Zbv w F p f w' P.commit.2:=by
 have HF:=Hd (Zfj h (-1) (by omega) (by omega));by_cases h0:P.fails (-1)=0
 case neg =>
  have e:P.commit=(P.fails (-1),P):=by rw[Pg.commit,if_pos h0]
  have d1:(P.fails (-1) != 0)=true:=by simpa using h0
  have HS:=Hd (Zbv.same h);rw[e];clear h h0 e;generalize P.fails (-1)=x at *;go_enter Tryz.func28,Tryz.ntmps28;go_wp2_with (go_at_call 54;refine HF.out.mono ?_;rintro e w2 ⟨rfl,rfl⟩);go_ret;exact⟨rfl,HS.out⟩
 rw[h0] at HF;obtain⟨c0,c1,c2,c3,c4,c5,c6,c7⟩:=h.cells
 cases hch:P.change with
 | false =>
  have e:P.commit=(0,P):=by rw[Pg.commit,if_neg (by simp[h0]),if_pos hch]
  have HS:=Hd (Zbv.same h);rw[hch] at c6;rw[e];clear h h0 e hch;go_enter Tryz.func28,Tryz.ntmps28;go_wp2_with (go_at_call 54;refine HF.out.mono ?_;rintro e w2 ⟨rfl,rfl⟩);go_ret;exact⟨rfl,HS.out⟩
 | true =>
 rw[hch] at c6
 have HE:=Hd (show P.commit=if (P.J.write P.places P.blocks).1≠0 then ((P.J.write P.places P.blocks).1,{ P with J:=(P.J.write P.places P.blocks).2,off:=Zae P.off (P.J.write P.places P.blocks).1 }) else (0,{ P with J:=(P.J.write P.places P.blocks).2,was:=P.now,wroot:=P.root,own:=[],change:=false }) by
  rw[Pg.commit,if_neg (by simp[h0]),if_neg (by simp[hch])])
 have o:=h.ok;have HPB:=Hd (planB_any w 0 _ P.now P.root (h.now.mine 0 (Nat.zero_le _)) o.n1 o.r0 (by have:=o.r1;have:=o.n1;omega));obtain⟨L1,hL1⟩:∃L,L=Qb P.now P.root:=⟨_,rfl⟩;have hlen:L1.length=224:=by rw[hL1,Yc]
 have HL1:=Hd hL1;rw[←hL1] at HPB;have HH:=Hd h;have HO:=Hd o;have HLN:=Hd hlen;clear h h0 hch o hL1 hlen;go_enter Tryz.func28,Tryz.ntmps28;go_wp2_with (go_at_call 54;refine HF.out.mono ?_;rintro e w9 ⟨rfl,hw9⟩;rw[hw9];clear hw9 w9);refine HPB.out.mono ?_;rintro e w1 ⟨u,rfl,hu,hb1⟩;obtain⟨gu,cu,rfl,hgu,hcu,hgl⟩:=hu.slice (by have:=HLN.out;omega);rw[HLN.out] at *;have HP1:=Hd (parts_any w1 0 gu cu 2 224 rfl hcu (by omega) (by omega) (by omega));have hs1:=hb1.size;have HU:=Hd hu;clear hu;go_wp2_with fail;refine HP1.out.mono ?_;rintro e w2 ⟨ua,ul,rfl,ha2,hl2,hb2⟩;have hs2:=hb2.size;have h2:=HH.out.below (hb1.trans (hb2.mono hs1));have g5:=h2.cells.2.2.2.2.2.1;have HK:=Hd (keys_any w2 f.M f.kv h2.tab (by have:=h2.own_len;have:=h2.ok.n1;omega));have hU2:Qs 5 w.heap.size w2 (.slice (some ⟨gu,0,none⟩) 224 cu) L1:=HU.out.below hb2;have HU2:=Hd hU2;have HA2:=Hd ha2;have HL2:=Hd hl2;have HB2:=Hd (hb1.trans (hb2.mono hs1));clear c0 c1 c2 c3 c4 c5 c6 c7 hU2 ha2 hl2 h2 hb1 hb2;go_wp2_with fail;refine HK.out.mono ?_;rintro e w3 ⟨v,rfl,hv3,hb3⟩;obtain⟨K,hK⟩:∃K,K=upI (f.kv.map (·.1)):=⟨_,rfl⟩;rw[←hK] at hv3;have hKo:K=Zbk P.own:=by rw[hK,HH.out.pgs.keys];rfl
 have HKM:Hid (∀k∈K,k∈P.own.map (·.1)):=Hd fun k hk=>by rw[hK,mem_upI,HH.out.pgs.keys] at hk;exact hk
 have HKB:Hid (∀k∈K,0≤k∧k<1024):=Hd fun k hk=>by
  obtain⟨y,hy,rfl⟩:=List.mem_map.1 (HKM.out k hk);have:=HO.out.keys y hy
  have:=HO.out.n1;omega
 have hKl:K.length≤1023:=by
  rw[hK,upI_length,List.length_map,HH.out.own_len.2];have:=HH.out.own_len.1
  have:=HO.out.n1;omega
 have HKO:=Hd hKo;clear hK hKo;obtain⟨av,cv,rfl,hvc1,hvc2⟩:=hv3.form;have hs2':=HB2.out.size;have hb03:=HB2.out.trans (hb3.mono hs2');have HCELL:Hid (∀i (h:i<K.length),∃gk,av=some ⟨gk,0,none⟩∧w3.cell? ⟨gk,i,none⟩=some (.int .i64 K[i])):=Hd fun i hi=>by obtain⟨g,cap,hv,_,_,hc⟩:=hv3.cell (fun e=>by rw[e] at hi;simp at hi);simp only[Value.slice.injEq] at hv;exact⟨g,hv.1,hc i hi⟩
 have HOWN:Hid (∀gk,av=some ⟨gk,0,none⟩→w2.heap.size≤gk∧gk<w3.heap.size∧∃c,w3.heap[gk]?=some (.cells c 3 (0,0))):=Hd fun gk e=>by have hv:=hv3;rw[e] at hv;obtain⟨a,c,hc⟩:=Zek hv (k:=gk) rfl;exact⟨a,Za hc,c,hc⟩
 have HA3:Hid (Qt w.heap.size w3 ua (Zo 0 2)):=Hd (World.ownsRow.mono (HA2.out.below hb3) hs1);have HL3:Hid (Zbb w.heap.size w3 ul (Zy gu (List.range 2))):=Hd (World.ownsRow.mono (HL2.out.below hb3) hs1);have HU3:=Hd (HU2.out.below hb3);have HNE:Hid (∀gk,av=some ⟨gk,0,none⟩→ua.ownBlock≠some gk):=Hd fun gk e e2=>by have h1:=HOWN.out gk e;obtain⟨a,c,hc⟩:=Zek HA2.out e2.symm;have:=Za hc;omega
 have HB3:=Hd hb03;clear hv3 hb3 hb03;go_wp2_with fail
 go_loopw [4,5,38] (fun at_ l x wr=>∃i:Nat,i≤K.length∧x=.int .i64 (i:Int)∧Qt w.heap.size wr at_ (Zt (K.take i))∧Zbb w.heap.size wr l (Zau gu f.kv (K.take i))∧Qs 5 w.heap.size wr (.slice (some ⟨gu,0,none⟩) 224 cu) L1 ∧
  (∀gk,av=some ⟨gk,0,none⟩→wr.heap[gk]?=w3.heap[gk]?∧at_.ownBlock≠some gk∧gk<wr.heap.size)∧Below w.heap.size w wr) (fun _ _ x _=>K.length - (intOf x).toNat)
 case atStart =>
  refine⟨0,Nat.zero_le _,rfl,?_,?_,HU3.out,fun gk e=>⟨rfl,HNE.out gk e,(HOWN.out gk e).2.1⟩,HB3.out⟩
  ·simpa [Zt] using HA3.out
  ·simpa [Zau] using HL3.out
 case round =>
  obtain⟨i,hi,rfl,hat,hl,hur,hkr,hbr⟩:=hrel;have hsr:=hbr.size
  have HPR:=Hd (HH.out.on HH.out hbr);by_cases hlt:i<K.length
  ·have hd:decide ((i:Int)<(K.length:Int))=true:=decide_eq_true (by omega)
   obtain⟨gk,hav,hck⟩:=HCELL.out i hlt;subst hav;obtain⟨hk1,hk2,hk3⟩:=hkr gk rfl;obtain⟨_,_,ck,hk4⟩:=HOWN.out gk rfl;have hcr:wr.cell? ⟨gk,i,none⟩=some (.int .i64 K[i]):=(World.cell?_of_block hk1).trans hck
   obtain⟨k,hk⟩:∃k,k=K[i]:=⟨_,rfl⟩;have hkb:=HKB.out K[i] (List.getElem_mem hlt)
   have hkm:=HKM.out K[i] (List.getElem_mem hlt);have HS1:=Hd (commitPlaces_succ K i hlt);have HS2:=Hd (commitVals_succ gu f.kv K i hlt);rw[←hk] at hcr hkb hkm HS1 HS2;obtain⟨ch,b,l1,l2,l3,l4,l5⟩:=HPR.out.pgs.at hkm;have hlo:=HPR.out.tab.kmap.run_look (P:=Tryz.prog) (T:=98) Tryz.underlying98 Tryz.underlying3 (.slice none 0 0) (fun w=>by kernel_rfl) k;rw[l1] at hlo;dsimp only[Option.getD] at hlo;have g5:=HPR.out.cells.2.2.2.2.2.1;have hw1:IntKind.i64.wrap (k*8)=k*8:=IntWalk.i64_in _ (by omega);have hw2:IntKind.i64.wrap (2+k*8)=2+k*8:=IntWalk.i64_in _ (by omega);have HPT:=Hd (parts_any wr (2+k*8) (pageG f.kv k) ch 8 896 rfl l4 (by omega) (by omega) (by omega));obtain⟨aa,ac,rfl,ha1,ha2⟩:=hat.form;obtain⟨la,lc,rfl,hlc1,hlc2⟩:=hl.form;have HPL:=Hd (Zcv (K.take i));have HVL:=Hd (commitVals_len gu f.kv (K.take i));have HTL:Hid ((K.take i).length=i):=Hd (by rw[List.length_take];omega);have HHk:=Hd (And.intro hk1 (And.intro hk2 (And.intro hk3 hk4)));have HAT:=Hd hat;have HL:=Hd hl;have HUR:=Hd hur;have HBR:=Hd hbr;clear hk1 hk2 hk3 hk4 hck hkr hat hl hur hbr l1 l2 l3 l4 l5 hk hkm;go_wp2_with fail;refine HPT.out.mono ?_;rintro e w4 ⟨pu,pv,rfl,hpu,hpv,hb4⟩;obtain⟨pa,pc,rfl,hp1,hp2⟩:=hpu.form;obtain⟨qa,qc,rfl,hq1,hq2⟩:=hpv.form;have hs4:=hb4.size;have hat4:=HAT.out.below hb4;have hl4:=HL.out.below hb4
   have hu4:=HUR.out.below hb4;obtain⟨hk1,hk2,hk3,hk4⟩:=HHk.out;have hk14:=(hb4.block gk hk3).trans hk1;obtain⟨v5,w5,hr5,hm5,hb5,hg5,_,ho5⟩:=run_ints w4 w.heap.size _ _ hat4 _ _ hpu.isI (by rw[HPL.out,Ym,HTL.out];omega) (by omega);have hl5:Zbb w.heap.size w5 _ _:=Zed hl4 hat4 (by decide) hg5;have hq5:Zbb 0 w5 _ _:=Zed (World.ownsRow.mono hpv (Nat.zero_le _)) (World.ownsRow.mono hat4 (Nat.zero_le _)) (by decide) hg5;have hu5:Qs 5 w.heap.size w5 _ _:=Zed hu4 hat4 (by decide) hg5;have hs5:=hb5.size;obtain⟨v6,w6,hr6,hm6,hg6⟩:=hl5.cat (by omega) hq5 (chunkVals_one _ _) (by rw[HVL.out,Zbp,List.length_range,HTL.out];omega);have hat6:Qt w.heap.size w6 _ _:=Zed hm5 hl5 (by decide) hg6;have hu6:Qs 5 w.heap.size w6 _ _:=Zed hu5 hl5 (by decide) hg6;have hb6:=(Below.refl w.heap.size w5).grown hg6 (by omega) fun k hk=>(World.ownsRow.lt hl5 k hk).1;rw[←HS1.out] at hat6 hm5;rw[←HS2.out] at hm6;have hk5:w5.heap[gk]?=w3.heap[gk]?:=(hg5.block gk (by omega) (fun e=>hk2 e.symm)).trans hk14
   have hk6:w6.heap[gk]?=w3.heap[gk]?:=(hg6.block gk (by omega) (fun e=>by
    obtain⟨_,c,hc⟩:=Zek hl5 e;rw[hk5,hk4] at hc
    simp at hc)).trans hk5
   have hne:v5.ownBlock≠some gk:=by
    rcases ho5 with e | e
    ·rw[e];exact hk2
    ·rw[e];simp only[ne_eq,Option.some.injEq];omega
   have hs6:=hb6.size;obtain⟨a5,c5',rfl,_,_⟩:=hm5.form;obtain⟨a6,c6',rfl,_,_⟩:=hm6.form
   have HX:=Hd (And.intro hat6 (And.intro hm6 (And.intro hu6 (And.intro (show ∀gk',(some ⟨gk,0,none⟩:Option Addr)=some ⟨gk',0,none⟩→w6.heap[gk']?=w3.heap[gk']?∧Value.ownBlock _≠some gk'∧gk'<w6.heap.size from fun gk' e=>by
    simp only[Option.some.injEq,Addr.mk.injEq,and_true] at e;obtain rfl:=e
    exact⟨hk6,hne,by omega⟩) ((HBR.out.trans (hb4.mono hsr)).trans (hb5.trans hb6))))))
   clear hat6 hm6 hu6 hne hk6 hk5 hk1 hk2 hk3 hk4 hk14 hat4 hl4 hu4 hpu hpv hm5 hg5 hl5 hq5 hu5 hg6 hb6 ho5 hb4 hb5;go_wp2_with (first | (at_builtin;refine wpList_append_run rfl (.tmp 55) (.tmp 56) 109 109 rfl _ _ _ rfl rfl hr5 ?_;clear hr5) | (at_builtin;refine wpList_append_run rfl (.tmp 58) (.tmp 59) 110 110 rfl _ _ _ rfl rfl hr6 ?_;clear hr6));go_roundw
   case rel=>exact⟨i+1,hlt,by go_num,HX.out.1,HX.out.2.1,HX.out.2.2.1,HX.out.2.2.2.1,HX.out.2.2.2.2⟩
   case measure=>simp[intOf];omega
  ·obtain rfl:i=K.length:=by omega
   have hdz:decide ((K.length:Int)<(K.length:Int))=false:=by simp
   rw[List.take_length] at hat hl;have hnj:∀k,JT F p k→¬w.heap.size≤k:=fun k e h=>by have:=HH.out.jat.lt e;omega
   have HW:=Hd (jwrite_any wr F p P.J HPR.out.jat HPR.out.nib (by have:=HPR.out.n22;omega) _ (Zt K) (fun w' ht=>(hat.keep fun k h1 h2=>ht.block k h2 fun e=>hnj k e h1).isI) _ (Yi P K)
    (fun w' ht=>(hl.keep fun k h1 h2=>ht.block k h2 fun e=>hnj k e h1).elB (commit_elB (by
     have:=(hur.keep fun k h1 h2=>ht.block k h2 fun e=>hnj k e h1).isB;rw[HL1.out] at this
     exact this) (HPR.out.pgs.keep fun x hx k hk=>ht.block k (HPR.out.apart k (.inr (.inr (.inr (.inr ⟨x,hx,hk⟩))))).2.2 (HPR.out.apart k (.inr (.inr (.inr (.inr ⟨x,hx,hk⟩))))).1) K HKM.out))
    (Zgy HKB.out) hlast hsq1 hsq2)
   have HEE:Hid (P.commit=if (P.J.write (Zt K) (Yi P K)).1≠0 then ((P.J.write (Zt K) (Yi P K)).1,{ P with J:=(P.J.write (Zt K) (Yi P K)).2,off:=Zae P.off (P.J.write (Zt K) (Yi P K)).1 }) else (0,{ P with J:=(P.J.write (Zt K) (Yi P K)).2,was:=P.now,wroot:=P.root,own:=[],change:=false })):=Hd (by
    rw[HE.out,commit_places,commit_blocks,HKO.out])
   have HJN:=Hd (Jn.write_n P.J (Zt K) (Yi P K));obtain⟨aa,ac,rfl,_,_⟩:=hat.form;obtain⟨la,lc,rfl,_,_⟩:=hl.form;have g0:=HPR.out.cells.1;have HBR:=Hd hbr;clear hkr hat hl hur hbr hnj;go_wp2_with fail;refine HW.out.mono ?_;rintro e w5 ⟨rfl,hj5,ht5⟩;have hp5:=HPR.out.put_j hj5 ht5 HJN.out;have hpj:Zb (PJ F p f) wr w5:=ht5.mono fun _ _ e=>.inl e;generalize (P.J.write (Zt K) (Yi P K))=R at *;by_cases hz:R.1=0
   ·have hd2:(R.1 != 0)=false:=by simpa using hz
    have HC:Hid (P.commit=(0,{ P with J:=R.2,was:=P.now,wroot:=P.root,own:=[],change:=false })):=Hd (by rw[HEE.out,if_neg (by simp[hz])]);have o:=HO.out;have HCL:=Hd (pclone_any w5 0 _ P.now P.root (hp5.now.mine 0 (Nat.zero_le _)) (by have:=o.n1;omega));have HT5:=Hd ((Zb.of_below (T:=PJ F p f) HBR.out).trans hpj);have HP5:=Hd hp5;obtain⟨c0,c1,c2,c3,c4,c5,c6,c7⟩:=hp5.cells;dsimp only at c1 c2 c3 c4;clear o hj5 ht5 hp5 hpj hz;go_wp2_with fail;refine HCL.out.mono ?_;rintro e w6 ⟨u,rfl,hu,hb6⟩;obtain⟨g,c,rfl,hg,hbo⟩:=hu.boR HO.out.n0;have h6:=HP5.out.below hb6;have f3:=h6.frozen 3;have f4:=h6.frozen 4;have hd1:=h6.head;have hd3:=Ze (Ze hd1 (i:=3) (.slice (some ⟨g,0,none⟩) P.now.length c)) (i:=4) (.int .i64 P.root);have t3:=turned_q2 w6 f.q 3 4 (.slice (some ⟨g,0,none⟩) P.now.length c) (.int .i64 P.root);have hs3:((w6.setCell ⟨f.q,3,none⟩ (.slice (some ⟨g,0,none⟩) P.now.length c)).setCell ⟨f.q,4,none⟩ (.int .i64 P.root)).heap.size=w6.heap.size:=by simp[World.setCell]
    obtain⟨d0,d1,d2,d3,d4,d5,d6,d7⟩:=h6.cells;dsimp only at d3 d4 d5 d6 d7;have hmm:=fun w=>run_makeMap (P:=Tryz.prog) 98 w
    obtain⟨w7,hw7⟩:∃x,x=(w6.setCell ⟨f.q,3,none⟩ (.slice (some ⟨g,0,none⟩) P.now.length c)).setCell ⟨f.q,4,none⟩ (.int .i64 P.root):=⟨_,rfl⟩;rw[←hw7] at hd3 t3 hs3
    obtain⟨⟨u5,e5⟩,f5,⟨u6,e6⟩,f6,hpt⟩:=HP5.out.anew (f':={ f with gw:=g,cw:=c,M:=w7.heap.size,kv:=[] }) (P':={ P with J:=R.2,was:=P.now,wroot:=P.root,own:=[],change:=false }) hb6 t3 hd3 (by rfl) rfl rfl rfl rfl rfl (by rfl) (HP5.out.now.keep (hb6.block _ HP5.out.now.lt)) hbo (.inl rfl) (.inr hg) (by
     have:=HP5.out.now.lt;dsimp only;omega) (by
     have o:=HP5.out.ok
     exact⟨o.n0,o.n1,rfl,o.r0,o.r1,o.r0,o.r1,fun x hx=>(by cases hx),o.jn⟩)
    rw[hs3] at hpt;have HX:=Hd (Zbv.then (f1:=f) rfl (fun _ hk=>.inl hk) HT5.out hpt)
    have hs3':=hs3;clear hpt hd3 t3 hs3 h6 hb6 hbo hd1;rw[hs3'] at *;subst hw7;clear hs3';go_wp2_with fail;go_ret;rw[HC.out];exact⟨rfl,HX.out⟩
   ·have hd2:(R.1 != 0)=true:=by simpa using hz
    have HC:Hid (P.commit=(R.1,{ P with J:=R.2,off:=Zae P.off R.1 })):=Hd (by rw[HEE.out,if_pos hz]);have HR:=Hd (heard_any hp5 R.1);have HT5:=Hd ((Zb.of_below (T:=PJ F p f) HBR.out).trans hpj);clear hj5 ht5 hp5 hpj hz;go_wp2_with fail;refine HR.out.mono ?_;rintro e w6 ⟨rfl,hp6,ht6⟩;go_wp2_with fail;go_ret;rw[HC.out];exact⟨rfl,f,hp6,rfl,fun _ hk=>.inl hk,HT5.out.trans ht6⟩
end
end
section
open Go.RowKit
theorem pagesOf_any (w:World) (F:Ft) (p:Nat) (J:Jn) (h:JAt w F p J) (h2:6≤J.D.n):Calls Tryz.prog 75 #[jptr p] w fun e w'=>e=.returned (.int .i64 (J.pages:Int))∧w=w':=by
 have hB:=Hd (Zbi w F p J h (by omega));have hn:=h.disk.ok.nm;have hb:2≤J.D.blocks:=by unfold Dk.blocks;omega
 have hb2:J.D.blocks≤1000000000:=by unfold Dk.blocks;omega
 have e1:(J.pages:Int)=((J.D.blocks:Int) - 2) / 8:=by unfold Jn.pages;omega
 rw[e1];clear e1 h;go_enter Tryz.func75,Tryz.ntmps75;go_wp2_with (go_at_call 63;refine hB.out.mono ?_;rintro e w2 ⟨rfl,rfl⟩);go_ret;refine⟨?_,rfl⟩;go_num
end
section
open Go.RowKit
theorem Yv (w:World) (o:Obj) {a:Addr} {v:Value} (h:w.cell? a=some v):(w.alloc o).cell? a=some v:=by
 have hl:a.block<w.heap.size:=by
  rcases Nat.lt_or_ge a.block w.heap.size with hl | hl
  ·exact hl
  ·have:=Array.getElem?_eq_none (xs:=w.heap) hl;simp[World.cell?,this] at h
 rw[((Below.refl w.heap.size w).alloc (Nat.le_refl _) o).cell hl];exact h
def RowO (w:World) (g:Nat) (t:List Bool):Prop:=w.heap[g]?=some (.cells (bov t).toArray 4 (0,0))
theorem and_bit (x:UInt8) (j:Nat) (hj:j<8):(bits .and .u8 ((x.toNat:Nat):Int) ((2 ^ j:Nat):Int) != 0)=x.toNat.testBit j:=by
 have hp:(2:Nat) ^ j<256:=by have:=Nat.pow_lt_pow_right (a:=2) (by omega) hj;omega
 have e:x.toNat &&& 2 ^ j=if x.toNat.testBit j then 2 ^ j else 0:=by
  apply Nat.eq_of_testBit_eq;intro i;rw[Nat.testBit_and,Nat.testBit_two_pow];by_cases h:j=i
  ·subst h
   cases hb:x.toNat.testBit j<;>simp
  ·cases hb:x.toNat.testBit j<;>simp[h,Nat.testBit_two_pow]
 rw[u8_and_nat _ _ x.toNat_lt hp,e];have h0:(2:Nat) ^ j≠0:=by have:=Nat.two_pow_pos j;omega
 cases x.toNat.testBit j with
 | false=>simp
 | true =>
  rw[if_pos rfl,bne_iff_ne];intro q;exact h0 (by exact_mod_cast q)
def Zbc (b:List UInt8) (n k:Nat):List Bool:=Yx b k++List.replicate (n - k) false
theorem takenK_length (b:List UInt8) (n k:Nat) (h:k≤n):(Zbc b n k).length=n:=by simp[Zbc,Zs];omega
theorem takenK_set (b:List UInt8) (n k:Nat) (h:k<n):(Zbc b n k).set k (Zbx b k)=Zbc b n (k+1):=by
 have hl:(Yx b k).length=k:=Zs b k;have e1:n - k=(n - (k+1))+1:=by omega
 have e2:Yx b (k+1)=Yx b k++[Zbx b k]:=by simp[Yx,List.range_succ]
 rw[Zbc,Zbc,e2,e1,List.replicate_succ,List.set_append_right _ _ (by omega),hl,Nat.sub_self,List.set_cons_zero,List.append_assoc];rfl
theorem RowO.cell {w:World} {g:Nat} {t:List Bool} (h:RowO w g t) (i:Nat) (hi:i<t.length):w.cell? ⟨g,i,none⟩=some (.bool t[i]):=by rw[cell_of_row _ _ _ _ _ _ h];simp[bov,hi]
theorem RowO.set {w:World} {g:Nat} {t:List Bool} (h:RowO w g t) (i:Nat) (b:Bool):RowO (w.setCell ⟨g,i,none⟩ (.bool b)) g (t.set i b):=by have:=Ze h (i:=i) (.bool b);rw[RowO,this];simp[bov,List.map_set]
theorem Xm {P:Program} {fn:Func} {tmps:Array Value} {a:Tmp} {t:TypeId} {p:Addr} {v:Value} {w:World} {b:Tmp} (hr:fn.results=#[.cell a t,.tmp b]) (ha:tmps.getD a undef=.pointer (some p)) (hv:(loadVar t p).run P w=.ok v w) :
  (results fn tmps).run P w=.ok (.tuple #[v,tmps.getD b undef]) w:=by
 unfold results;simp only[hr,List.mapM_toArray,List.mapM_cons,List.mapM_nil,ha,asAddr,Sem.run_bind,Sem.run_pure,Result.andThen_ok,hv,bind_assoc,pure_bind,Sem.run_map];rfl
theorem two_blocks (W:World) (o1 o2:Obj):((W.alloc o1).alloc o2).heap[W.heap.size]?=some o1∧((W.alloc o1).alloc o2).heap[W.heap.size+1]?=some o2∧Below W.heap.size W ((W.alloc o1).alloc o2):=by
 have h1:=heap_alloc_new W o1;have h2:=heap_alloc_new (W.alloc o1) o2;have hs:(W.alloc o1).heap.size=W.heap.size+1:=by simp
 rw[hs] at h2;have hb:=(Below.refl (W.alloc o1).heap.size (W.alloc o1)).alloc (Nat.le_refl _) o2
 refine⟨(hb.block _ (by omega)).trans h1,h2,((Below.refl _ _).alloc (Nat.le_refl _) o1).alloc (by omega) o2⟩
theorem run_makeO (n:Nat) (hn:n≤1000000) (w:World):(Instr.makeSlice 94 (.int .i64 (n:Int)) (.int .i64 (n:Int))).run Tryz.prog w=.ok (.slice (some ⟨w.heap.size,0,none⟩) n n) (w.alloc (.cells (bov (List.replicate n false)).toArray 4)):=by
 rw[run_make_row' (P:=Tryz.prog) 94 4 (.bool false) 1 Tryz.underlying94 info_bool rfl .i64 .i64 n (by omega) (by omega) w];congr 3;simp only[madeCells,bov,List.map_replicate,List.size_toArray,List.toArray_replicate];apply Array.ext
 ·simp
 ·intro i h1 h2;simp[Nat.mod_one]
theorem planned_any (w:World) (v:Value) (b:List UInt8) (n:Nat) (hv:IsB w v b) (hb:b.length=224) (hn:n≤1023) :
  Calls Tryz.prog 77 #[v,.int .i64 (n:Int)] w fun e w'=>∃u,e=.returned (.tuple #[.agg #[u,.int .i64 (Xw b)],.bool (Zcn b n)])∧Qe w.heap.size w' u (Yx b n)∧Below w.heap.size w w':=by
 obtain⟨a,c,rfl,hc1,hc2⟩:=hv.form;have hmk:=run_makeO n (by omega)
 obtain⟨vb,vo,rfl,h6⟩:=isB_at hv 6 (by omega);obtain⟨vb',vo',hh,h7⟩:=isB_at hv 7 (by omega);obtain⟨rfl,rfl⟩:vb=vb'∧vo=vo':=by simpa using hh
 clear hh;obtain⟨x6,hx6⟩:∃x,x=(b[6]'(by omega)).toNat:=⟨_,rfl⟩;obtain⟨x7,hx7⟩:∃x,x=(b[7]'(by omega)).toNat:=⟨_,rfl⟩;rw[←hx6] at h6;rw[←hx7] at h7;have l6:x6<256:=by rw[hx6];exact UInt8.toNat_lt _
 have l7:x7<256:=by rw[hx7];exact UInt8.toNat_lt _
 have HR:Hid (Xw b=(x6:Int)+256*(x7:Int) - 1):=Hd (by
  rw[hx6,hx7,Xw,List.getD_eq_getElem?_getD,List.getElem?_eq_getElem (by omega),List.getD_eq_getElem?_getD,List.getElem?_eq_getElem (by omega)]
  rfl)
 have w6:IntKind.i64.wrap (x6:Int)=(x6:Int):=IntWalk.i64_in _ (by omega);have w7:IntKind.i64.wrap (x7:Int)=(x7:Int):=IntWalk.i64_in _ (by omega);have wa:IntKind.i64.wrap ((x7:Int)*256)=(x7:Int)*256:=IntWalk.i64_in _ (by omega);have wb:IntKind.i64.wrap ((x6:Int)+(x7:Int)*256)=(x6:Int)+(x7:Int)*256:=IntWalk.i64_in _ (by omega);have wc:IntKind.i64.wrap ((x6:Int)+(x7:Int)*256 - 1)=Xw b:=by rw[HR.out,IntWalk.i64_in _ (by omega)];omega
 have hr1:-1≤Xw b:=by rw[HR.out];omega
 have hr2:Xw b<65535:=by rw[HR.out];omega
 obtain⟨R,hR⟩:∃R,R=Xw b:=⟨_,rfl⟩;rw[←hR] at wc hr1 hr2 ⊢;have HRb:=Hd hR
 clear hx6 hx7 hR;have HV:=Hd hv
 obtain⟨W1,hW1⟩:∃W1,W1=w.alloc (.cells #[.slice none 0 0,.int .i64 0] 96):=⟨_,rfl⟩;have hq1:W1.heap[w.heap.size]?=some (Qz (.slice none 0 0) 0):=by rw[hW1];exact heap_alloc_new w _
 have hb1:Below w.heap.size w W1:=by rw[hW1];exact(Below.refl _ _).alloc (Nat.le_refl _) _
 have hs1:W1.heap.size=w.heap.size+1:=by rw[hW1];simp
 have h61:W1.cell? ⟨vb,vo+6,none⟩=some (.int .u8 (x6:Int)):=by rw[hW1];exact Yv w _ h6
 have h71:W1.cell? ⟨vb,vo+7,none⟩=some (.int .u8 (x7:Int)):=by rw[hW1];exact Yv w _ h7
 have HW1:=Hd hW1;clear h6 h7 hW1 hv;go_enter Tryz.func77,Tryz.ntmps77;go_upto_region 1 with fail;rw[←HW1.out];clear HW1;have hS0:(fun W:World=>W.cell? ⟨vb,vo+6,none⟩=some (.int .u8 (x6:Int))∧W.cell? ⟨vb,vo+7,none⟩=some (.int .u8 (x7:Int))) W1.drew:=⟨h61,h71⟩;refine rgA (S:=(fun W:World=>W.cell? ⟨vb,vo+6,none⟩=some (.int .u8 (x6:Int))∧W.cell? ⟨vb,vo+7,none⟩=some (.int .u8 (x7:Int)))) hS0 (fun hH=>?_);refine tkB 0 rfl (v:=?_) ?_ hH ?_;rotate_left
 ·rintro w ⟨q0,q1⟩;go_simp;try with_reducible rfl
 try simp only[Act.put,zA,zB,zC]
 refine tkB 2 rfl (v:=?_) ?_ hH ?_;rotate_left
 ·rintro w ⟨q0,q1⟩;go_simp;try with_reducible rfl
 try simp only[Act.put,zA,zB,zC]
 refine tkB 3 rfl (v:=?_) ?_ hH ?_;rotate_left
 ·rintro w ⟨q0,q1⟩;go_simp;try with_reducible rfl
 try simp only[Act.put,zA,zB,zC]
 refine tkB 4 rfl (v:=?_) ?_ hH ?_;rotate_left
 ·rintro w ⟨q0,q1⟩;go_simp;try with_reducible rfl
 try simp only[Act.put,zA,zB,zC]
 refine tkB 5 rfl (v:=?_) ?_ hH ?_;rotate_left
 ·rintro w ⟨q0,q1⟩;go_simp;try with_reducible rfl
 try simp only[Act.put,zA,zB,zC]
 refine tkB 6 rfl (v:=?_) ?_ hH ?_;rotate_left
 ·rintro w ⟨q0,q1⟩;go_simp;try with_reducible rfl
 try simp only[Act.put,zA,zB,zC]
 refine tkB 7 rfl (v:=?_) ?_ hH ?_;rotate_left
 ·rintro w ⟨q0,q1⟩;go_simp;try with_reducible rfl
 try simp only[Act.put,zA,zB,zC]
 refine tkB 8 rfl (v:=?_) ?_ hH ?_;rotate_left
 ·rintro w ⟨q0,q1⟩;go_simp;try with_reducible rfl
 try simp only[Act.put,zA,zB,zC]
 refine tkB 9 rfl (v:=?_) ?_ hH ?_;rotate_left
 ·rintro w ⟨q0,q1⟩;go_simp;try with_reducible rfl
 try simp only[Act.put,zA,zB,zC]
 refine tkB 10 rfl (v:=?_) ?_ hH ?_;rotate_left
 ·rintro w ⟨q0,q1⟩;go_simp;try with_reducible rfl
 try simp only[Act.put,zA,zB,zC]
 refine tkB 11 rfl (v:=?_) ?_ hH ?_;rotate_left
 ·rintro w ⟨q0,q1⟩;go_simp;try with_reducible rfl
 try simp only[Act.put,zA,zB,zC]
 refine tkB 12 rfl (v:=?_) ?_ hH ?_;rotate_left
 ·rintro w ⟨q0,q1⟩;go_simp;try with_reducible rfl
 try simp only[Act.put,zA,zB,zC]
 refine wpAnyH_ready (rs:=[1,14]) (by kernel_rfl) (by simp) ?_;refine Zco rfl (fun K hK=>?_) ?_
 ·go_simp
  go_wp2_with fail;refine hK.out _ _ ⟨Yv _ _ hH.1,Yv _ _ hH.2⟩ (fun hH=>?_);clear hK K;try simp only[Act.put,zA,zB,zC]
  refine tkB 13 rfl (v:=?_) ?_ hH ?_;rotate_left
  ·rintro w ⟨q0,q1⟩;go_simp;try with_reducible rfl
  try simp only[Act.put,zA,zB,zC]
  refine rdA 14 rfl (fun K hK=>?_);go_simp;go_wp2_with fail;refine hK.out _ _ ⟨Yv _ _ hH.1,Yv _ _ hH.2⟩ (fun hH=>?_);clear hK K;try simp only[Act.put,zA,zB,zC]
  refine rdA 15 rfl (fun K hK=>?_);go_simp;obtain⟨hrow,hpl,hbn⟩:=two_blocks W1 (.cells (bov (List.replicate n false)).toArray 4) (.cells #[.slice (some ⟨w.heap.size+1,0,none⟩) n n,.int .i64 R] 96);have h64:=Yv _ (.cells #[.slice (some ⟨w.heap.size+1,0,none⟩) n n,.int .i64 R] 96) (Yv _ (.cells (bov (List.replicate n false)).toArray 4) h61)
  have h74:=Yv _ (.cells #[.slice (some ⟨w.heap.size+1,0,none⟩) n n,.int .i64 R] 96) (Yv _ (.cells (bov (List.replicate n false)).toArray 4) h71);rw[hs1] at hrow hpl hbn;clear h61 h71 hH;generalize (W1.alloc (.cells (bov (List.replicate n false)).toArray 4)).alloc (.cells #[.slice (some ⟨w.heap.size+1,0,none⟩) n n,.int .i64 R] 96)=W4 at *;generalize hpb:w.heap.size+1+1=pb at *;generalize hrb:w.heap.size+1=rb at *;refine hK.out _ _ ⟨h64,h74⟩ (fun hH=>?_);clear h64 h74 hH;clear hK K;try simp only[Act.put,zA,zB,zC]
  refine dnA ?_;have hres:=(hbn.block _ (by omega)).trans hq1
  have hbw:Below w.heap.size w W4.drew:=(hb1.trans (hbn.mono (by omega))).drew
  have hrow5:RowO W4.drew rb (Zbc b n 0):=by
   rw[show Zbc b n 0=List.replicate n false from rfl]
   exact hrow
  replace hpl:W4.drew.heap[pb]?=some (Qz (.slice (some ⟨rb,0,none⟩) n n) R):=hpl;replace hres:W4.drew.heap[w.heap.size]?=some (Qz (.slice none 0 0) 0):=hres;have hne1:rb≠pb:=by omega
  have hne2:w.heap.size<rb:=by omega
  have hne3:w.heap.size<pb:=by omega
  clear hrow hbn hq1 hb1 hs1 hpb hrb hmk;generalize W4.drew=W5 at *;go_wp2_with fail;go_loopw [24] (fun x wr=>∃k:Nat,k≤n∧x=.int .i64 (k:Int)∧RowO wr rb (Zbc b n k)∧wr.heap[pb]?=some (Qz (.slice (some ⟨rb,0,none⟩) n n) R)∧wr.heap[w.heap.size]?=some (Qz (.slice none 0 0) 0)∧Below w.heap.size w wr) (fun x _=>n - (intOf x).toNat)
  case atStart=>exact⟨0,Nat.zero_le _,rfl,hrow5,hpl,hres,hbw⟩
  case round =>
   clear hrow5 hpl hres hbw;obtain⟨k,hk,rfl,hrow,hpl,hres,hbw⟩:=hrel;by_cases hlt:k<n
   ·have hd:decide ((k:Int)<(n:Int))=true:=decide_eq_true (by omega)
    have hk8:k / 8<216:=by omega
    obtain⟨b',o',ha,hc⟩:=isB_at (HV.out.below hbw) (8+k / 8) (by omega);obtain⟨rfl,rfl⟩:vb=b'∧vo=o':=by simpa using ha
    clear ha;have hTl:=takenK_length b n k hk
    have hfz:=Zf hrow k;have hcp:wr.cell? ⟨pb,0,none⟩=some (.slice (some ⟨rb,0,none⟩) n n):=(Zx hpl).1;obtain⟨tk,hcr⟩:∃u,wr.cell? ⟨rb,k,none⟩=some u:=⟨_,hrow.cell k (by omega)⟩;replace hc:wr.drew.cell? _=_:=hc;replace hfz:wr.drew.frozen? _=_:=hfz;replace hcp:wr.drew.cell? _=_:=hcp;replace hcr:wr.drew.cell? _=_:=hcr;have hw1:IntKind.i64.wrap ((k:Int) / 8)=(k:Int) / 8:=IntWalk.i64_in _ (by omega);have hw2:IntKind.i64.wrap (8+(k:Int) / 8)=8+(k:Int) / 8:=IntWalk.i64_in _ (by omega);have hw3:(0:Int)≤8+(k:Int) / 8:=by omega
    have hw4:8+(k:Int) / 8<224:=by omega
    have hw5:(8+(k:Int) / 8).toNat=8+k / 8:=by omega
    have hsh:∀W,Sem.run Tryz.prog (Op.shift .shl .u8 1 .i64 ((k:Int).tmod 8)) W=.ok (.int .u8 ((2 ^ (k % 8):Nat):Int)) W:=fun W=>by rw[tmod8];exact run_shl1 _ (by omega) W
    have hand:=and_bit b[8+k / 8] (k % 8) (by omega);rw[show ((2 ^ (k % 8):Nat):Int)=(2:Int) ^ (k % 8) by simp] at hand
    have hbit:b[8+k / 8].toNat.testBit (k % 8)=Zbx b k:=by rw[Zbx,List.getD_eq_getElem?_getD,List.getElem?_eq_getElem (by omega)];rfl
    rw[hbit] at hand;have hrd:RowO wr.drew rb (Zbc b n k):=hrow
    have hs:=hrd.set k (Zbx b k);rw[takenK_set b n k hlt] at hs;have hts:=Zd wr.drew rb k (.bool (Zbx b k));have HF:=Hd (And.intro hs (And.intro ((hts.block pb (Za hpl) (by omega)).trans hpl) (And.intro ((hts.block w.heap.size (Za hres) (by omega)).trans hres) (hbw.drew.trans (hts.below (B:=w.heap.size) (by have:=hbw.size;exact this) (fun k hk=>by omega))))));clear hrow hpl hres hbw hrd hs hts hbit hTl;generalize Zbx b k=bk at *;go_wp2_with fail;refine wp_region_still_tail 15 (by kernel_rfl) (by kernel_rfl) ?_;simp only[List.take_succ_cons,List.take_zero,List.drop_succ_cons,List.drop_zero];change wpStill _ _ wr.drew (fun a'=>wpList _ _ _ _ a' wr.drew) _ _;generalize wr.drew=W6 at *;iterate 15 still_step
    refine wpStill_nil ?_;go_wp2_with fail;go_roundw
    case rel=>exact⟨k+1,by omega,by go_num,HF.out.1,HF.out.2.1,HF.out.2.2.1,HF.out.2.2.2⟩
    case measure=>simp[intOf];omega
   ·obtain rfl:k=n:=by omega
    have hdz:decide ((k:Int)<(k:Int))=false:=by simp
    have e0:Zbc b k k=Yx b k:=by simp[Zbc]
    rw[e0] at hrow;have hTl:=Zs b k
    obtain⟨T,hT⟩:∃T,T=Yx b k:=⟨_,rfl⟩;have HOK:Hid (Zcn b k=(decide (R<(k:Int))&&(decide (R<0)||T.getD R.toNat false)&&(Qb T R==b))):=Hd (by rw[Zcn,HRb.out,hT])
    rw[←hT] at hrow hTl;have hm:Qe w.heap.size wr (.slice (some ⟨rb,0,none⟩) k k) T:=by unfold Qe;rw[hTl];exact⟨by simp[Xx,hTl],.inr ⟨rb,k,_,rfl,by omega,hrow,Nat.le_refl _,by simp[maxLen];omega,by simp[Xx,hTl],by simp[List.take_of_length_le,Xx,hTl]⟩⟩
    have HT:=Hd hT;obtain⟨g00,g01⟩:=Zx hpl;obtain⟨s00,s01⟩:=Zx hres;have f0:=Zf hres 0;have f1:=Zf hres 1;clear hT e0;replace hm:Qe (w.heap.size+1) wr (.slice (some ⟨rb,0,none⟩) k k) T:=by unfold Qe;rw[hTl];exact⟨by simp[Xx,hTl],.inr ⟨rb,k,_,rfl,by omega,hrow,Nat.le_refl _,by simp[maxLen];omega,by simp[Xx,hTl],by simp[List.take_of_length_le,Xx,hTl]⟩⟩
    by_cases hA:R<(k:Int)
    case neg =>
     have d1:decide (R<(k:Int))=false:=decide_eq_false hA;go_wp2_with fail;have hq4:=Ze (Ze hres (i:=0) (.slice (some ⟨rb,0,none⟩) k k)) (i:=1) (.int .i64 R);have ht4:=(Zd wr w.heap.size 0 (.slice (some ⟨rb,0,none⟩) k k)).trans (Zd _ w.heap.size 1 (.int .i64 R));have hv:=run_loadVar_row (P:=Tryz.prog) _ w.heap.size 96 96 _ (0,0) _ hq4 Tryz.underlying96 rfl (by rw[Zbr];rfl);refine bodyPost_ret (Xm Tryz.results77 rfl hv) rfl ⟨.slice (some ⟨rb,0,none⟩) k k,?_,?_,?_⟩
     ·rw[HOK.out,d1];rfl
     ·rw[←HT.out];exact World.ownsRow.mono (hm.keep fun j h1 h2=>ht4.block j h2 (by omega)) (by omega)
     ·exact hbw.trans (ht4.below (B:=w.heap.size) hbw.size fun j hj=>by omega)
    have d1:decide (R<(k:Int))=true:=decide_eq_true hA;have HPB:=Hd (planB_any wr (w.heap.size+1) _ T R hm (by omega) hr1 hr2);by_cases hB:R<0
    ·have d2:decide (R<0)=true:=decide_eq_true hB
     go_wp2_with fail;refine HPB.out.mono ?_;rintro e w2 ⟨u,rfl,hu,hb2⟩;have hu2:=hu.isB
     obtain⟨ua,uc,rfl,_,_⟩:=hu2.form;have HE:=Hd (Zgc w2 _ _ _ _ hu2 ((HV.out.below hbw).below hb2) (by rw[Yc];omega))
     rw[hb,Yc] at HE;simp only[Yc];have hres2:=(hb2.block _ (Za hres)).trans hres
     have hpl2:=(hb2.block _ (Za hpl)).trans hpl;have hm2:=hm.below hb2;have hbw2:=hbw.trans (hb2.mono hbw.size);clear hres hpl hm hbw hb2 hu hu2 g00 g01 s00 s01 f0 f1;go_wp2_with fail;refine HE.out.mono ?_;rintro e w3 ⟨rfl,hb3⟩;have hres3:=(hb3.block _ (Za hres2)).trans hres2;have hpl3:=(hb3.block _ (Za hpl2)).trans hpl2;have hm3:=hm2.below hb3;have hbw3:=hbw2.trans (hb3.mono hbw2.size);obtain⟨t00,t01⟩:=Zx hpl3;obtain⟨u00,u01⟩:=Zx hres3;have t0:=Zf hres3 0;have t1:=Zf hres3 1;clear hres2 hpl2 hm2 hbw2 hb3;go_wp2_with fail;have hq4:=Ze (Ze hres3 (i:=0) (.slice (some ⟨rb,0,none⟩) k k)) (i:=1) (.int .i64 R);have ht4:=(Zd w3 w.heap.size 0 (.slice (some ⟨rb,0,none⟩) k k)).trans (Zd _ w.heap.size 1 (.int .i64 R));have hv:=run_loadVar_row (P:=Tryz.prog) _ w.heap.size 96 96 _ (0,0) _ hq4 Tryz.underlying96 rfl (by rw[Zbr];rfl);refine bodyPost_ret (Xm Tryz.results77 rfl hv) rfl ⟨.slice (some ⟨rb,0,none⟩) k k,?_,?_,?_⟩
     ·rw[HOK.out,d1,d2];rfl
     ·rw[←HT.out];exact World.ownsRow.mono (hm3.keep fun j h1 h2=>ht4.block j h2 (by omega)) (by omega)
     ·exact hbw3.trans (ht4.below (B:=w.heap.size) hbw3.size fun j hj=>by omega)
    ·have d2:decide (R<0)=false:=decide_eq_false hB
     have hRl:R.toNat<T.length:=by omega
     have hRk:R.toNat<k:=by omega
     have hR0:(0:Int)≤R:=by omega
     have hcr:=hrow.cell R.toNat hRl;obtain⟨tr,htr⟩:∃x,x=T[R.toNat]:=⟨_,rfl⟩;have hTR:T.getD R.toNat false=tr:=by rw[htr,List.getD_eq_getElem?_getD,List.getElem?_eq_getElem hRl];rfl
     rw[←htr] at hcr;have HTR:=Hd hTR
     clear htr hTR
     cases tr with
     | false =>
      go_wp2_with fail;have hq4:=Ze (Ze hres (i:=0) (.slice (some ⟨rb,0,none⟩) k k)) (i:=1) (.int .i64 R)
      have ht4:=(Zd wr w.heap.size 0 (.slice (some ⟨rb,0,none⟩) k k)).trans (Zd _ w.heap.size 1 (.int .i64 R));have hv:=run_loadVar_row (P:=Tryz.prog) _ w.heap.size 96 96 _ (0,0) _ hq4 Tryz.underlying96 rfl (by rw[Zbr];rfl);refine bodyPost_ret (Xm Tryz.results77 rfl hv) rfl ⟨.slice (some ⟨rb,0,none⟩) k k,?_,?_,?_⟩
      ·rw[HOK.out,d1,d2,HTR.out];rfl
      ·rw[←HT.out];exact World.ownsRow.mono (hm.keep fun j h1 h2=>ht4.block j h2 (by omega)) (by omega)
      ·exact hbw.trans (ht4.below (B:=w.heap.size) hbw.size fun j hj=>by omega)
     | true =>
      go_wp2_with fail;refine HPB.out.mono ?_;rintro e w2 ⟨u,rfl,hu,hb2⟩;have hu2:=hu.isB
      obtain⟨ua,uc,rfl,_,_⟩:=hu2.form;have HE:=Hd (Zgc w2 _ _ _ _ hu2 ((HV.out.below hbw).below hb2) (by rw[Yc];omega))
      rw[hb,Yc] at HE;simp only[Yc];have hres2:=(hb2.block _ (Za hres)).trans hres
      have hpl2:=(hb2.block _ (Za hpl)).trans hpl;have hm2:=hm.below hb2;have hbw2:=hbw.trans (hb2.mono hbw.size);clear hres hpl hm hbw hb2 hu hu2 g00 g01 s00 s01 f0 f1;go_wp2_with fail;refine HE.out.mono ?_;rintro e w3 ⟨rfl,hb3⟩;have hres3:=(hb3.block _ (Za hres2)).trans hres2;have hpl3:=(hb3.block _ (Za hpl2)).trans hpl2;have hm3:=hm2.below hb3;have hbw3:=hbw2.trans (hb3.mono hbw2.size);obtain⟨t00,t01⟩:=Zx hpl3;obtain⟨u00,u01⟩:=Zx hres3;have t0:=Zf hres3 0;have t1:=Zf hres3 1;clear hres2 hpl2 hm2 hbw2 hb3;go_wp2_with fail;have hq4:=Ze (Ze hres3 (i:=0) (.slice (some ⟨rb,0,none⟩) k k)) (i:=1) (.int .i64 R);have ht4:=(Zd w3 w.heap.size 0 (.slice (some ⟨rb,0,none⟩) k k)).trans (Zd _ w.heap.size 1 (.int .i64 R));have hv:=run_loadVar_row (P:=Tryz.prog) _ w.heap.size 96 96 _ (0,0) _ hq4 Tryz.underlying96 rfl (by rw[Zbr];rfl);refine bodyPost_ret (Xm Tryz.results77 rfl hv) rfl ⟨.slice (some ⟨rb,0,none⟩) k k,?_,?_,?_⟩
      ·rw[HOK.out,d1,d2,HTR.out];rfl
      ·rw[←HT.out];exact World.ownsRow.mono (hm3.keep fun j h1 h2=>ht4.block j h2 (by omega)) (by omega)
      ·exact hbw3.trans (ht4.below (B:=w.heap.size) hbw3.size fun j hj=>by omega)
 refine Zco rfl (fun K hK=>?_) ?_
 ·go_simp
  go_wp2_with fail;refine hK.out _ _ ⟨Yv _ _ hH.1,Yv _ _ hH.2⟩ (fun hH=>?_);clear hK K;try simp only[Act.put,zA,zB,zC]
  refine rdA 1 rfl (fun K hK=>?_);go_simp;go_wp2_with fail;refine hK.out _ _ ⟨Yv _ _ hH.1,Yv _ _ hH.2⟩ (fun hH=>?_);clear hK K;try simp only[Act.put,zA,zB,zC]
  refine tkB 13 rfl (v:=?_) ?_ hH ?_;rotate_left
  ·rintro w ⟨q0,q1⟩;go_simp;try with_reducible rfl
  try simp only[Act.put,zA,zB,zC]
  refine rdA 15 rfl (fun K hK=>?_);go_simp;obtain⟨hpl,hrow,hbn⟩:=two_blocks W1 (.cells #[.slice (some ⟨w.heap.size+1+1,0,none⟩) n n,.int .i64 R] 96) (.cells (bov (List.replicate n false)).toArray 4);have h64:=Yv _ (.cells (bov (List.replicate n false)).toArray 4) (Yv _ (.cells #[.slice (some ⟨w.heap.size+1+1,0,none⟩) n n,.int .i64 R] 96) h61)
  have h74:=Yv _ (.cells (bov (List.replicate n false)).toArray 4) (Yv _ (.cells #[.slice (some ⟨w.heap.size+1+1,0,none⟩) n n,.int .i64 R] 96) h71);rw[hs1] at hpl hrow hbn;clear h61 h71 hH;generalize (W1.alloc (.cells #[.slice (some ⟨w.heap.size+1+1,0,none⟩) n n,.int .i64 R] 96)).alloc (.cells (bov (List.replicate n false)).toArray 4)=W4 at *;generalize hrb:w.heap.size+1+1=rb at *;generalize hpb:w.heap.size+1=pb at *;refine hK.out _ _ ⟨h64,h74⟩ (fun hH=>?_);clear h64 h74 hH;clear hK K;try simp only[Act.put,zA,zB,zC]
  refine dnA ?_;have hres:=(hbn.block _ (by omega)).trans hq1
  have hbw:Below w.heap.size w W4.drew:=(hb1.trans (hbn.mono (by omega))).drew
  have hrow5:RowO W4.drew rb (Zbc b n 0):=by
   rw[show Zbc b n 0=List.replicate n false from rfl]
   exact hrow
  replace hpl:W4.drew.heap[pb]?=some (Qz (.slice (some ⟨rb,0,none⟩) n n) R):=hpl;replace hres:W4.drew.heap[w.heap.size]?=some (Qz (.slice none 0 0) 0):=hres;have hne1:rb≠pb:=by omega
  have hne2:w.heap.size<rb:=by omega
  have hne3:w.heap.size<pb:=by omega
  clear hrow hbn hq1 hb1 hs1 hpb hrb hmk;generalize W4.drew=W5 at *;go_wp2_with fail;go_loopw [24] (fun x wr=>∃k:Nat,k≤n∧x=.int .i64 (k:Int)∧RowO wr rb (Zbc b n k)∧wr.heap[pb]?=some (Qz (.slice (some ⟨rb,0,none⟩) n n) R)∧wr.heap[w.heap.size]?=some (Qz (.slice none 0 0) 0)∧Below w.heap.size w wr) (fun x _=>n - (intOf x).toNat)
  case atStart=>exact⟨0,Nat.zero_le _,rfl,hrow5,hpl,hres,hbw⟩
  case round =>
   clear hrow5 hpl hres hbw;obtain⟨k,hk,rfl,hrow,hpl,hres,hbw⟩:=hrel;by_cases hlt:k<n
   ·have hd:decide ((k:Int)<(n:Int))=true:=decide_eq_true (by omega)
    have hk8:k / 8<216:=by omega
    obtain⟨b',o',ha,hc⟩:=isB_at (HV.out.below hbw) (8+k / 8) (by omega);obtain⟨rfl,rfl⟩:vb=b'∧vo=o':=by simpa using ha
    clear ha;have hTl:=takenK_length b n k hk
    have hfz:=Zf hrow k;have hcp:wr.cell? ⟨pb,0,none⟩=some (.slice (some ⟨rb,0,none⟩) n n):=(Zx hpl).1;obtain⟨tk,hcr⟩:∃u,wr.cell? ⟨rb,k,none⟩=some u:=⟨_,hrow.cell k (by omega)⟩;replace hc:wr.drew.cell? _=_:=hc;replace hfz:wr.drew.frozen? _=_:=hfz;replace hcp:wr.drew.cell? _=_:=hcp;replace hcr:wr.drew.cell? _=_:=hcr;have hw1:IntKind.i64.wrap ((k:Int) / 8)=(k:Int) / 8:=IntWalk.i64_in _ (by omega);have hw2:IntKind.i64.wrap (8+(k:Int) / 8)=8+(k:Int) / 8:=IntWalk.i64_in _ (by omega);have hw3:(0:Int)≤8+(k:Int) / 8:=by omega
    have hw4:8+(k:Int) / 8<224:=by omega
    have hw5:(8+(k:Int) / 8).toNat=8+k / 8:=by omega
    have hsh:∀W,Sem.run Tryz.prog (Op.shift .shl .u8 1 .i64 ((k:Int).tmod 8)) W=.ok (.int .u8 ((2 ^ (k % 8):Nat):Int)) W:=fun W=>by rw[tmod8];exact run_shl1 _ (by omega) W
    have hand:=and_bit b[8+k / 8] (k % 8) (by omega);rw[show ((2 ^ (k % 8):Nat):Int)=(2:Int) ^ (k % 8) by simp] at hand
    have hbit:b[8+k / 8].toNat.testBit (k % 8)=Zbx b k:=by rw[Zbx,List.getD_eq_getElem?_getD,List.getElem?_eq_getElem (by omega)];rfl
    rw[hbit] at hand;have hrd:RowO wr.drew rb (Zbc b n k):=hrow
    have hs:=hrd.set k (Zbx b k);rw[takenK_set b n k hlt] at hs;have hts:=Zd wr.drew rb k (.bool (Zbx b k));have HF:=Hd (And.intro hs (And.intro ((hts.block pb (Za hpl) (by omega)).trans hpl) (And.intro ((hts.block w.heap.size (Za hres) (by omega)).trans hres) (hbw.drew.trans (hts.below (B:=w.heap.size) (by have:=hbw.size;exact this) (fun k hk=>by omega))))));clear hrow hpl hres hbw hrd hs hts hbit hTl;generalize Zbx b k=bk at *;go_wp2_with fail;refine wp_region_still_tail 15 (by kernel_rfl) (by kernel_rfl) ?_;simp only[List.take_succ_cons,List.take_zero,List.drop_succ_cons,List.drop_zero];change wpStill _ _ wr.drew (fun a'=>wpList _ _ _ _ a' wr.drew) _ _;generalize wr.drew=W6 at *;iterate 15 still_step
    refine wpStill_nil ?_;go_wp2_with fail;go_roundw
    case rel=>exact⟨k+1,by omega,by go_num,HF.out.1,HF.out.2.1,HF.out.2.2.1,HF.out.2.2.2⟩
    case measure=>simp[intOf];omega
   ·obtain rfl:k=n:=by omega
    have hdz:decide ((k:Int)<(k:Int))=false:=by simp
    have e0:Zbc b k k=Yx b k:=by simp[Zbc]
    rw[e0] at hrow;have hTl:=Zs b k
    obtain⟨T,hT⟩:∃T,T=Yx b k:=⟨_,rfl⟩;have HOK:Hid (Zcn b k=(decide (R<(k:Int))&&(decide (R<0)||T.getD R.toNat false)&&(Qb T R==b))):=Hd (by rw[Zcn,HRb.out,hT])
    rw[←hT] at hrow hTl;have hm:Qe w.heap.size wr (.slice (some ⟨rb,0,none⟩) k k) T:=by unfold Qe;rw[hTl];exact⟨by simp[Xx,hTl],.inr ⟨rb,k,_,rfl,by omega,hrow,Nat.le_refl _,by simp[maxLen];omega,by simp[Xx,hTl],by simp[List.take_of_length_le,Xx,hTl]⟩⟩
    have HT:=Hd hT;obtain⟨g00,g01⟩:=Zx hpl;obtain⟨s00,s01⟩:=Zx hres;have f0:=Zf hres 0;have f1:=Zf hres 1;clear hT e0;replace hm:Qe (w.heap.size+1) wr (.slice (some ⟨rb,0,none⟩) k k) T:=by unfold Qe;rw[hTl];exact⟨by simp[Xx,hTl],.inr ⟨rb,k,_,rfl,by omega,hrow,Nat.le_refl _,by simp[maxLen];omega,by simp[Xx,hTl],by simp[List.take_of_length_le,Xx,hTl]⟩⟩
    by_cases hA:R<(k:Int)
    case neg =>
     have d1:decide (R<(k:Int))=false:=decide_eq_false hA;go_wp2_with fail;have hq4:=Ze (Ze hres (i:=0) (.slice (some ⟨rb,0,none⟩) k k)) (i:=1) (.int .i64 R);have ht4:=(Zd wr w.heap.size 0 (.slice (some ⟨rb,0,none⟩) k k)).trans (Zd _ w.heap.size 1 (.int .i64 R));have hv:=run_loadVar_row (P:=Tryz.prog) _ w.heap.size 96 96 _ (0,0) _ hq4 Tryz.underlying96 rfl (by rw[Zbr];rfl);refine bodyPost_ret (Xm Tryz.results77 rfl hv) rfl ⟨.slice (some ⟨rb,0,none⟩) k k,?_,?_,?_⟩
     ·rw[HOK.out,d1];rfl
     ·rw[←HT.out];exact World.ownsRow.mono (hm.keep fun j h1 h2=>ht4.block j h2 (by omega)) (by omega)
     ·exact hbw.trans (ht4.below (B:=w.heap.size) hbw.size fun j hj=>by omega)
    have d1:decide (R<(k:Int))=true:=decide_eq_true hA;have HPB:=Hd (planB_any wr (w.heap.size+1) _ T R hm (by omega) hr1 hr2);by_cases hB:R<0
    ·have d2:decide (R<0)=true:=decide_eq_true hB
     go_wp2_with fail;refine HPB.out.mono ?_;rintro e w2 ⟨u,rfl,hu,hb2⟩;have hu2:=hu.isB
     obtain⟨ua,uc,rfl,_,_⟩:=hu2.form;have HE:=Hd (Zgc w2 _ _ _ _ hu2 ((HV.out.below hbw).below hb2) (by rw[Yc];omega))
     rw[hb,Yc] at HE;simp only[Yc];have hres2:=(hb2.block _ (Za hres)).trans hres
     have hpl2:=(hb2.block _ (Za hpl)).trans hpl;have hm2:=hm.below hb2;have hbw2:=hbw.trans (hb2.mono hbw.size);clear hres hpl hm hbw hb2 hu hu2 g00 g01 s00 s01 f0 f1;go_wp2_with fail;refine HE.out.mono ?_;rintro e w3 ⟨rfl,hb3⟩;have hres3:=(hb3.block _ (Za hres2)).trans hres2;have hpl3:=(hb3.block _ (Za hpl2)).trans hpl2;have hm3:=hm2.below hb3;have hbw3:=hbw2.trans (hb3.mono hbw2.size);obtain⟨t00,t01⟩:=Zx hpl3;obtain⟨u00,u01⟩:=Zx hres3;have t0:=Zf hres3 0;have t1:=Zf hres3 1;clear hres2 hpl2 hm2 hbw2 hb3;go_wp2_with fail;have hq4:=Ze (Ze hres3 (i:=0) (.slice (some ⟨rb,0,none⟩) k k)) (i:=1) (.int .i64 R);have ht4:=(Zd w3 w.heap.size 0 (.slice (some ⟨rb,0,none⟩) k k)).trans (Zd _ w.heap.size 1 (.int .i64 R));have hv:=run_loadVar_row (P:=Tryz.prog) _ w.heap.size 96 96 _ (0,0) _ hq4 Tryz.underlying96 rfl (by rw[Zbr];rfl);refine bodyPost_ret (Xm Tryz.results77 rfl hv) rfl ⟨.slice (some ⟨rb,0,none⟩) k k,?_,?_,?_⟩
     ·rw[HOK.out,d1,d2];rfl
     ·rw[←HT.out];exact World.ownsRow.mono (hm3.keep fun j h1 h2=>ht4.block j h2 (by omega)) (by omega)
     ·exact hbw3.trans (ht4.below (B:=w.heap.size) hbw3.size fun j hj=>by omega)
    ·have d2:decide (R<0)=false:=decide_eq_false hB
     have hRl:R.toNat<T.length:=by omega
     have hRk:R.toNat<k:=by omega
     have hR0:(0:Int)≤R:=by omega
     have hcr:=hrow.cell R.toNat hRl;obtain⟨tr,htr⟩:∃x,x=T[R.toNat]:=⟨_,rfl⟩;have hTR:T.getD R.toNat false=tr:=by rw[htr,List.getD_eq_getElem?_getD,List.getElem?_eq_getElem hRl];rfl
     rw[←htr] at hcr;have HTR:=Hd hTR
     clear htr hTR
     cases tr with
     | false =>
      go_wp2_with fail;have hq4:=Ze (Ze hres (i:=0) (.slice (some ⟨rb,0,none⟩) k k)) (i:=1) (.int .i64 R)
      have ht4:=(Zd wr w.heap.size 0 (.slice (some ⟨rb,0,none⟩) k k)).trans (Zd _ w.heap.size 1 (.int .i64 R));have hv:=run_loadVar_row (P:=Tryz.prog) _ w.heap.size 96 96 _ (0,0) _ hq4 Tryz.underlying96 rfl (by rw[Zbr];rfl);refine bodyPost_ret (Xm Tryz.results77 rfl hv) rfl ⟨.slice (some ⟨rb,0,none⟩) k k,?_,?_,?_⟩
      ·rw[HOK.out,d1,d2,HTR.out];rfl
      ·rw[←HT.out];exact World.ownsRow.mono (hm.keep fun j h1 h2=>ht4.block j h2 (by omega)) (by omega)
      ·exact hbw.trans (ht4.below (B:=w.heap.size) hbw.size fun j hj=>by omega)
     | true =>
      go_wp2_with fail;refine HPB.out.mono ?_;rintro e w2 ⟨u,rfl,hu,hb2⟩;have hu2:=hu.isB
      obtain⟨ua,uc,rfl,_,_⟩:=hu2.form;have HE:=Hd (Zgc w2 _ _ _ _ hu2 ((HV.out.below hbw).below hb2) (by rw[Yc];omega))
      rw[hb,Yc] at HE;simp only[Yc];have hres2:=(hb2.block _ (Za hres)).trans hres
      have hpl2:=(hb2.block _ (Za hpl)).trans hpl;have hm2:=hm.below hb2;have hbw2:=hbw.trans (hb2.mono hbw.size);clear hres hpl hm hbw hb2 hu hu2 g00 g01 s00 s01 f0 f1;go_wp2_with fail;refine HE.out.mono ?_;rintro e w3 ⟨rfl,hb3⟩;have hres3:=(hb3.block _ (Za hres2)).trans hres2;have hpl3:=(hb3.block _ (Za hpl2)).trans hpl2;have hm3:=hm2.below hb3;have hbw3:=hbw2.trans (hb3.mono hbw2.size);obtain⟨t00,t01⟩:=Zx hpl3;obtain⟨u00,u01⟩:=Zx hres3;have t0:=Zf hres3 0;have t1:=Zf hres3 1;clear hres2 hpl2 hm2 hbw2 hb3;go_wp2_with fail;have hq4:=Ze (Ze hres3 (i:=0) (.slice (some ⟨rb,0,none⟩) k k)) (i:=1) (.int .i64 R);have ht4:=(Zd w3 w.heap.size 0 (.slice (some ⟨rb,0,none⟩) k k)).trans (Zd _ w.heap.size 1 (.int .i64 R));have hv:=run_loadVar_row (P:=Tryz.prog) _ w.heap.size 96 96 _ (0,0) _ hq4 Tryz.underlying96 rfl (by rw[Zbr];rfl);refine bodyPost_ret (Xm Tryz.results77 rfl hv) rfl ⟨.slice (some ⟨rb,0,none⟩) k k,?_,?_,?_⟩
      ·rw[HOK.out,d1,d2,HTR.out];rfl
      ·rw[←HT.out];exact World.ownsRow.mono (hm3.keep fun j h1 h2=>ht4.block j h2 (by omega)) (by omega)
      ·exact hbw3.trans (ht4.below (B:=w.heap.size) hbw3.size fun j hj=>by omega)
 exact AllReadyH.nil
end
section
open Go.RowKit
theorem run_build_plan (w:World) (a:Option Addr) (n c:Nat) (r:Int):(Instr.build 96 #[(0,.slice a n c),(1,.int .i64 r)]).run Tryz.prog w=.ok (.agg #[.slice a n c,.int .i64 r]) w:=by kernel_rfl
theorem JAt.pages_le {w:World} {F:Ft} {p:Nat} {J:Jn} (h:JAt w F p J):J.pages≤1023:=by have:=h.disk.ok.nm;unfold Jn.pages Dk.blocks;omega
theorem pformat_any (w:World) (F:Ft) (p:Nat) (J:Jn) (h:JAt w F p J) (hn:Nib w) (h6:6≤J.D.n) (hlast:J.last+1<18446744073709551616) (hsq1:-9223372036854775808≤J.seq) (hsq2:J.seq<9223372036854775807) :
  Calls Tryz.prog 35 #[jptr p] w fun e w'=>e=.returned (.int .i64 J.pformat.1)∧JAt w' F p J.pformat.2∧Zb (JT F p) w w':=by
 have HPO:=Hd (pagesOf_any w F p J h h6);have hpl:=h.pages_le;obtain⟨n,hN⟩:∃n,n=J.pages:=⟨_,rfl⟩;have HE:Hid (J.pformat=J.write (Zo 0 2) (Xn 2 (Qb (List.replicate n false) (-1)))):=Hd (by rw[Jn.pformat,hN]);rw[←hN] at HPO hpl;have hmk:=run_makeO n (by omega);have hbp:=fun w a=>run_build_plan w a n n (-1);obtain⟨W1,hW1⟩:∃W1,W1=w.alloc (.cells (bov (List.replicate n false)).toArray 4):=⟨_,rfl⟩;have hb1:Below w.heap.size w W1:=by rw[hW1];exact(Below.refl _ _).alloc (Nat.le_refl _) _
 have hm1:Qe w.heap.size W1 (.slice (some ⟨w.heap.size,0,none⟩) n n) (List.replicate n false):=by
  have hb:BoR W1 w.heap.size n (List.replicate n false):=by rw[hW1];exact⟨_,heap_alloc_new w _,by simp,by simp[maxLen];omega,by simp[bov],by simp[bov]⟩
  have:=hb.mine w.heap.size (Nat.le_refl _);rw[List.length_replicate] at this;exact this
 have HPB:=Hd (planB_any W1 w.heap.size _ (List.replicate n false) (-1) hm1 (by simp;omega) (by omega) (by omega));obtain⟨L1,hL1⟩:∃L,L=Qb (List.replicate n false) (-1):=⟨_,rfl⟩;have hlen:L1.length=224:=by rw[hL1,Yc]
 rw[←hL1] at HPB HE;have HLN:=Hd hlen
 have HH:=Hd h;have HNB:=Hd hn;have HB1:=Hd hb1;clear h hN hn hb1 hm1 hL1 hlen;go_enter Tryz.func35,Tryz.ntmps35;go_wp2_with (go_at_call 75;refine HPO.out.mono ?_;rintro e w9 ⟨rfl,hw9⟩;rw[←hw9];clear hw9 w9);rw[←hW1];refine HPB.out.mono ?_;rintro e w2 ⟨u,rfl,hu,hb2⟩;obtain⟨gu,cu,rfl,hgu,hcu,hgl⟩:=hu.slice (by have:=HLN.out;omega);rw[HLN.out] at hcu hu ⊢;have HP1:=Hd (parts_any w2 0 gu cu 2 224 rfl hcu (by omega) (by omega) (by omega));have hb2':=HB1.out.trans (hb2.mono HB1.out.size);have hs2:=hb2'.size;have HU:=Hd hu;clear hu hb2;go_wp2_with fail;refine HP1.out.mono ?_;rintro e w3 ⟨ua,ul,rfl,ha3,hl3,hb3⟩;have hbw:=hb2'.trans (hb3.mono hs2);have h3:=HH.out.below hbw;have hn3:=HNB.out.below hbw;have hnj:∀k,JT F p k→¬W1.heap.size≤k:=fun k e h=>by have:=HH.out.lt e;have:=HB1.out.size;omega
 have hu3:=HU.out.below hb3;have hs12:=HB1.out.size
 have HW:=Hd (jwrite_any w3 F p J h3 hn3 (by omega) ua (Zo 0 2) (fun w' ht=>(ha3.keep fun k h1 h2=>ht.block k h2 fun e=>hnj k e (by omega)).isI) ul (Xn 2 L1)
  (fun w' ht=>(hl3.keep fun k h1 h2=>ht.block k h2 fun e=>hnj k e (by omega)).elB (chunks_elB (hu3.keep fun k h1 h2=>ht.block k h2 fun e=>hnj k e (by omega)).isB 2 (by rw[HLN.out];omega)))
  (fun n hn=>by
   obtain⟨i,hi,rfl⟩:=List.mem_map.1 hn;have:=List.mem_range.1 hi
   omega) hlast hsq1 hsq2)
 obtain⟨aa,ac,rfl,_,_⟩:=ha3.form;obtain⟨la,lc,rfl,_,_⟩:=hl3.form;have HT3:=Hd (Zb.of_below (T:=JT F p) hbw)
 clear ha3 hl3 hb3 h3 hn3 hnj hu3 hbw hb2';go_wp2_with fail;refine HW.out.mono ?_;rintro e w4 ⟨rfl,hj4,ht4⟩;have HX:=Hd (And.intro hj4 (HT3.out.trans ht4))
 clear hj4 ht4;go_wp2_with fail;go_ret;rw[HE.out];exact⟨rfl,HX.out⟩
end
end Go.Proofs.YtofibccplbnaiaaGreatDoor
