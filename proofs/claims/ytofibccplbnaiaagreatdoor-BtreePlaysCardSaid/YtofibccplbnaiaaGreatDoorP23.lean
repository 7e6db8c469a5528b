/- Contracts of the functions that the statements of this seat reach, part 23: each says what the call answers and what it leaves of the memory. -/
import Derived.Test.YtofibccplbnaiaaGreatDoorP13
import Derived.Test.YtofibccplbnaiaaGreatDoorP21
import Derived.Test.YtofibccplbnaiaaGreatDoorP22
import Derived.Test.YtofibccplbnaiaaGreatDoorP5
set_option linter.unusedVariables false
set_option linter.unusedSimpArgs false
set_option maxRecDepth 100000
set_option maxHeartbeats 64000000
namespace Go.Proofs.YtofibccplbnaiaaGreatDoor
section
open Go.RowKit Go.Shelf Go.Lib
structure PW (k:Nat) (F:Ft) (p:Nat) (a b:List KV) (w:World) (f:Pf) (tb:Nat):Prop where
 ex:∃J seq B R,Tr 4096 J seq B w F p f R tb∧Tre R a∧Tre R.abort b∧R.pages.length=255∧J.D.cut<0∧J.last≤2+k∧J.D.ops≤8205+4088*k
structure PL (N:Nat) (w0:World) (F:Ft) (p:Nat) (k:Nat) (a b:List KV) (vn:Value) (ln:List KV) (vw:Value) (lw:List KV) (w:World) (f:Pf) (tb:Nat):Prop where
 pw:PW k F p a b w f tb
 own:∀i,PJ F p f i→N≤i
 tbN:N≤tb
 below:Below N w0 w
 base:N≤w.heap.size
 isn:Qj w vn ln
 offn:∀i,vn.ownBlock=some i→i<w.heap.size∧¬PJ F p f i
 isw:Qj w vw lw
 offw:∀i,vw.ownBlock=some i→i<w.heap.size∧¬PJ F p f i
section
variable {N : Nat} {w0 w w' : World} {k : Nat} {F : Ft} {p : Nat} {f : Pf} {tb : Nat} {a b : List KV} {vn vw : Value} {ln lw : List KV}
theorem PW.step (h:PW k F p a b w f tb) (hb:Below w.heap.size w w'):PW k F p a b w' f tb:=by obtain⟨J,seq,B,R,t,x⟩:=h.ex;exact⟨J,seq,B,R,t.step hb,x⟩
theorem PW.lt (h:PW k F p a b w f tb) {i:Nat} (hi:PJ F p f i):i<w.heap.size:=by obtain⟨J,seq,B,R,t,x⟩:=h.ex;exact t.lp.lt hi
theorem PL.step (h:PL N w0 F p k a b vn ln vw lw w f tb) (hb:Below w.heap.size w w'):PL N w0 F p k a b vn ln vw lw w' f tb :=
 ⟨h.pw.step hb,h.own,h.tbN,h.below.trans (hb.mono h.base),Nat.le_trans h.base hb.size,h.isn.below hb,fun i hi=>⟨Nat.lt_of_lt_of_le (h.offn i hi).1 hb.size,(h.offn i hi).2⟩,h.isw.below hb,fun i hi=>⟨Nat.lt_of_lt_of_le (h.offw i hi).1 hb.size,(h.offw i hi).2⟩⟩
theorem PL.row (h:PL N w0 F p k a b vn ln vw lw w f tb) {B:Nat} {v':Value} {l':List KV} (hB:B=w.heap.size) (hi:Qj w' v' l') (hm:v'=vn∨Xo B w' v' l') (hb:Below w.heap.size w w'):PL N w0 F p k a b v' l' vw lw w' f tb:=by
 have h':=h.step hb;refine⟨h'.pw,h'.own,h'.tbN,h'.below,h'.base,hi,fun i hi=>?_,h'.isw,h'.offw⟩;rcases hm with rfl | hm
 ·exact h'.offn i hi
 ·exact⟨(hm.lt hi).2,fun e=>by have:=(hm.lt hi).1;have:=h.pw.lt e;omega⟩
theorem PL.keep (h:PL N w0 F p k a b vn ln vw lw w f tb):PL N w0 F p k a b vn ln vn ln w f tb:=⟨h.pw,h.own,h.tbN,h.below,h.base,h.isn,h.offn,h.isn,h.offn⟩
theorem PL.back (h:PL N w0 F p k a b vn ln vw lw w f tb):PL N w0 F p k a b vw lw vw lw w f tb:=⟨h.pw,h.own,h.tbN,h.below,h.base,h.isw,h.offw,h.isw,h.offw⟩
theorem PL.to (h:PL N w0 F p k a b vn ln vw lw w f tb) {k':Nat} {a' b':List KV} {f':Pf} (h2:PW k' F p a' b' w' f' tb) (hk:∀i,PT f' i→PT f i∨w.heap.size≤i) (ht:Zb (PJ F p f) w w'):PL N w0 F p k' a' b' vn ln vw lw w' f' tb:=by have hx:∀i,PJ F p f' i→PJ F p f i∨w.heap.size≤i:=fun i hi=>hi.elim (fun e=>.inl (.inl e)) fun e=>(hk i e).imp .inr id;have ho:∀{v:Value},(∀i,v.ownBlock=some i→i<w.heap.size∧¬PJ F p f i)→∀i,v.ownBlock=some i→i<w'.heap.size∧¬PJ F p f' i:=fun hv i hi=>⟨Nat.lt_of_lt_of_le (hv i hi).1 ht.size,fun e=>(hx i e).elim (hv i hi).2 fun e=>by have:=(hv i hi).1;omega⟩;exact⟨h2,fun i hi=>(hx i hi).elim (h.own i) fun e=>Nat.le_trans h.base e,h.tbN,h.below.trans (ht.below h.base h.own),Nat.le_trans h.base ht.size,h.isn.turned ht fun i hi=>(h.offn i hi).2,ho h.offn,h.isw.turned ht fun i hi=>(h.offw i hi).2,ho h.offw⟩
def PLto (N:Nat) (w0:World) (F:Ft) (p:Nat) (k:Nat) (a b:List KV) (vn:Value) (ln:List KV) (vw:Value) (lw:List KV) (w':World) (f:Pf) (tb:Nat):Prop:=∃f',f'.q=f.q∧PL N w0 F p k a b vn ln vw lw w' f' tb
theorem put_pl (h:PL N w0 F p k a b vn ln vw lw w f tb) (hw:wgtB a≤45300) {key val:List UInt8} (hk:key.length≤80) (hv:val.length≤200) :
  Calls Tryz.prog 11 #[trp tb,.string ⟨key.toArray⟩,.string ⟨val.toArray⟩] w fun e w'=>e=.returned (.int .i64 0)∧PLto N w0 F p k (putL a key val) b vn ln vw lw w' f tb:=by
 obtain⟨J,seq,B,R,t,x1,x2,x3,x4⟩:=h.pw.ex;obtain⟨p1,p2,p3⟩:=x1.put t.lp.good (by omega) (roomy255 hw R t.lp.good x3) hk hv;refine(tput_any t key val (by omega) (by omega)).mono ?_;rintro e w' ⟨rfl,f',t1,t2,t3,t4⟩;exact⟨by rw[p1],f',t2,h.to ⟨_,_,_,_,t1,p2,Tre.congr (R:=R.abort) p3.was p3.wroot x2,p3.len.trans x3,x4⟩ t3 t4⟩
theorem put_plb (h:PL N w0 F p k a b vn ln vw lw w f tb) {key val:List UInt8} (hk:key.length≤9223372036854775807) (hv:val.length≤9223372036854775807) (hf:Xr key val≠0) :
  Calls Tryz.prog 11 #[trp tb,.string ⟨key.toArray⟩,.string ⟨val.toArray⟩] w fun e w'=>e=.returned (.int .i64 (Xr key val))∧PLto N w0 F p k a b vn ln vw lw w' f tb:=by
 obtain⟨J,seq,B,R,t,x⟩:=h.pw.ex;have hp:R.put key val=(Xr key val,R):=by unfold Rp.put;rw[if_pos hf]
 refine(tput_any t key val hk hv).mono ?_;rintro e w' ⟨rfl,f',t1,t2,t3,t4⟩;rw[hp] at t1 ⊢;exact⟨rfl,f',t2,h.to ⟨_,_,_,_,t1,x⟩ t3 t4⟩
theorem del_pl (h:PL N w0 F p k a b vn ln vw lw w f tb) (hw:wgtB a≤45300) {key:List UInt8} (hk:key.length≤80) :
  Calls Tryz.prog 13 #[trp tb,.string ⟨key.toArray⟩] w fun e w'=>e=.returned (.tuple #[.bool (Zab a key).2,.int .i64 0])∧PLto N w0 F p k (delL a key) b vn ln vw lw w' f tb:=by
 obtain⟨J,seq,B,R,t,x1,x2,x3,x4⟩:=h.pw.ex;obtain⟨p1,p2,p3⟩:=x1.del t.lp.good (roomy255 hw R t.lp.good x3) hk;refine(tdel_any t key (by omega)).mono ?_;rintro e w' ⟨rfl,f',t1,t2,t3,t4⟩;exact⟨by rw[p1],f',t2,h.to ⟨_,_,_,_,t1,p2,Tre.congr (R:=R.abort) p3.was p3.wroot x2,p3.len.trans x3,x4⟩ t3 t4⟩
theorem del_plb (h:PL N w0 F p k a b vn ln vw lw w f tb) {key:List UInt8} (hk:80<key.length) (hk2:key.length≤9223372036854775807) :
  Calls Tryz.prog 13 #[trp tb,.string ⟨key.toArray⟩] w fun e w'=>e=.returned (.tuple #[.bool false,.int .i64 100])∧PLto N w0 F p k a b vn ln vw lw w' f tb:=by
 obtain⟨J,seq,B,R,t,x⟩:=h.pw.ex
 have hp:R.del key=((false,100),R):=by
  have hg:R.get key=(([],false),100):=by unfold Rp.get;rw[if_pos hk]
  unfold Rp.del;rw[hg,if_pos (.inl (by decide))]
 refine(tdel_any t key hk2).mono ?_;rintro e w' ⟨rfl,f',t1,t2,t3,t4⟩;rw[hp] at t1 ⊢;exact⟨rfl,f',t2,h.to ⟨_,_,_,_,t1,x⟩ t3 t4⟩
theorem get_pl (h:PL N w0 F p k a b vn ln vw lw w f tb) {key:List UInt8} (hk:key.length≤80) :
  Calls Tryz.prog 21 #[trp tb,.string ⟨key.toArray⟩] w fun e w'=>e=.returned (.tuple #[.string ⟨(Zab a key).1.toArray⟩,.bool (Zab a key).2,.int .i64 0])∧PL N w0 F p k a b vn ln vw lw w' f tb:=by
 obtain⟨J,seq,B,R,t,x1,x2,x3,x4⟩:=h.pw.ex;have hrb:=t.lp.root_le
 have e1:=x1.get t.lp.good (TreH.low39 t.lp.good (by omega)) hk;refine(tget_any t key (by omega) (by omega)).mono ?_;rw[e1];rintro e w' ⟨rfl,t1,t2⟩;exact⟨rfl,h.to ⟨_,_,_,_,t1,x1,x2,x3,x4⟩ (fun _ hi=>.inl hi) t2⟩
theorem get_plb (h:PL N w0 F p k a b vn ln vw lw w f tb) {key:List UInt8} (hk:80<key.length) (hk2:key.length≤9223372036854775807) :
  Calls Tryz.prog 21 #[trp tb,.string ⟨key.toArray⟩] w fun e w'=>e=.returned (.tuple #[.string ⟨#[]⟩,.bool false,.int .i64 100])∧PL N w0 F p k a b vn ln vw lw w' f tb:=by
 obtain⟨J,seq,B,R,t,x⟩:=h.pw.ex;have hrb:=t.lp.root_le
 have e1:R.get key=(([],false),100):=by unfold Rp.get;rw[if_pos hk]
 refine(tget_any t key hk2 (by omega)).mono ?_;rw[e1];rintro e w' ⟨rfl,t1,t2⟩;exact⟨rfl,h.to ⟨_,_,_,_,t1,x⟩ (fun _ hi=>.inl hi) t2⟩
theorem sound_pl (h:PL N w0 F p k a b vn ln vw lw w f tb):Calls Tryz.prog 14 #[trp tb] w fun e w'=>e=.returned (.int .i64 0)∧PL N w0 F p k a b vn ln vw lw w' f tb:=by
 obtain⟨J,seq,B,R,t,x1,x2,x3,x4⟩:=h.pw.ex;have e1:=x1.sound t.lp.good (TreH.low39 t.lp.good (by omega))
 refine(tsound_any t).mono ?_;rw[e1];rintro e w' ⟨rfl,t1,t2⟩;exact⟨rfl,h.to ⟨_,_,_,_,t1,x1,x2,x3,x4⟩ (fun _ hi=>.inl hi) t2⟩
theorem same_pl (h:PL N w0 F p k a b vn ln vw lw w f tb) (hll:a.length≤1000000) {from_ to_:List UInt8} {v:Value} (hv:Qj w v (Zch from_ to_ a)) (hvT:∀i,v.ownBlock=some i→¬PJ F p f i) (ea:Int) (hea:-9223372036854775808≤ea∧ea≤9223372036854775807) :
  Calls Tryz.prog 12 #[trp tb,.string ⟨from_.toArray⟩,.string ⟨to_.toArray⟩,v,.int .i64 ea] w fun e w'=>e=.returned (.bool true)∧PL N w0 F p k a b vn ln vw lw w' f tb:=by
 obtain⟨J,seq,B,R,t,x1,x2,x3,x4⟩:=h.pw.ex;refine(bsame_tr t x1 (by omega) hll hv hvT ea hea).mono ?_;rintro e w' ⟨rfl,t1,t2⟩;exact⟨rfl,h.to ⟨_,_,_,_,t1,x1,x2,x3,x4⟩ (fun _ hi=>.inl hi) t2⟩
theorem commit_pl (h:PL N w0 F p k a b vn ln vw lw w f tb) (hk:k<250):Calls Tryz.prog 28 #[Xb f.q] w fun e w'=>e=.returned (.int .i64 0)∧PLto N w0 F p (k+1) a a vn ln vw lw w' f tb:=by
 obtain⟨J,seq,B,R,t,x1,x2,x3,x4,x5,x6⟩:=h.pw.ex;obtain⟨P,e1,h2,h3⟩:=t.lp;subst e1;obtain⟨seq',B',c⟩:=h3.commit (by omega) x4 (by omega) (by omega);have hs:0≤seq∧seq≤P.J.last:=by obtain⟨wn,pl,im⟩:=h3.live.im;exact⟨im.s0,by have:=im.s1;have:=im.wt;omega⟩
 refine(commit_any h2 (by omega) (by rw[h3.live.hseq];omega) (by rw[h3.live.hseq];omega)).mono ?_;rintro e w' ⟨rfl,f',a1,a2,a3,a4⟩;obtain⟨f2,b1,b2,b3,b4⟩:=t.to (R':=R) (LpTo.same t.lp);have hlt:=Za t.head
 exact⟨by rw[c.err],f',a2,h.to ⟨_,seq',B',R.commit,⟨⟨P.commit.2,rfl,a1,c.sim⟩,by rw[a2];exact Yg a4 t.apart t.head,fun e=>by
  rcases e with e | e
  ·exact t.apart (.inl e)
  ·rcases a3 _ e with e | e
   ·exact t.apart (.inr e)
   ·omega⟩,Tre.congr (R:=R) rfl rfl x1,Tre.congr (R:=R) rfl rfl x1,x3,by rw[c.cut];exact x4,by have:=c.last;omega,by have:=c.ops;omega⟩ a3 a4⟩
theorem abort_pl (h:PL N w0 F p k a b vn ln vw lw w f tb):Calls Tryz.prog 29 #[Xb f.q] w fun e w'=>e=.returned (.tuple #[])∧PLto N w0 F p k b b vn ln vw lw w' f tb:=by
 obtain⟨J,seq,B,R,t,x1,x2,x3,x4⟩:=h.pw.ex;have hlen:R.was.length=255:=by obtain⟨P,_,_,h3⟩:=t.lp;exact h3.lenw.trans x3
 refine(lp_abort t.lp).mono ?_;rintro e w' ⟨rfl,ht⟩;obtain⟨f',t1,t2,t3,t4⟩:=t.to ht;exact⟨rfl,f',t2,h.to ⟨_,_,_,_,t1,x2,Tre.congr (R:=R.abort) rfl rfl x2,hlen,x4⟩ t3 t4⟩
theorem open_pl (h:PL N w0 F p k a b vn ln vw lw w f tb):Calls Tryz.prog 30 #[Xb f.q] w fun e w'=>e=.returned (.tuple #[trp w.heap.size,.int .i64 0])∧PL N w0 F p k a b vn ln vw lw w' f w.heap.size:=by
 obtain⟨J,seq,B,R,t,x⟩:=h.pw.ex;refine(topen_any t.lp).mono ?_;rintro e w' ⟨rfl,hb,t1⟩;have h':=h.step hb
 exact⟨rfl,⟨_,_,_,_,t1,x⟩,h'.own,h.base,h'.below,h'.base,h'.isn,h'.offn,h'.isw,h'.offw⟩
theorem alloc_pl (h:PL N w0 F p k a b vn ln vw lw w f tb) (hw:wgtB a≤45300):Calls Tryz.prog 31 #[Xb f.q] w fun e w'=>(∃pg:Int,e=.returned (.tuple #[.int .i64 pg,.int .i64 0]))∧Calls Tryz.prog 14 #[trp tb] w' fun e2 w2=>e2=.returned (.int .i64 103)∧Below N w0 w2:=by
 obtain⟨J,seq,B,R,t,x1,x2,x3,x4⟩:=h.pw.ex;obtain⟨s1,s2⟩:=x1.spoilt t.lp.good (TreH.low39 t.lp.good (by omega)) (x1.leaves t.lp.good x3 hw);refine(lp_alloc t.lp).mono ?_;rintro e w' ⟨rfl,ht⟩;obtain⟨f',t1,t2,t3,t4⟩:=t.to ht;refine⟨⟨_,by rw[s1]⟩,(tsound_any t1).mono ?_⟩;rw[s2];rintro e2 w2 ⟨rfl,u1,u2⟩;refine⟨rfl,h.below.trans ((t4.below h.base h.own).trans (u2.below (Nat.le_trans h.base t4.size) fun i hi=>?_))⟩;rcases hi with hi | hi
 ·exact h.own i (.inl hi)
 ·rcases t3 i hi with hi | hi
  ·exact h.own i (.inr hi)
  ·exact Nat.le_trans h.base hi
end
end
end Go.Proofs.YtofibccplbnaiaaGreatDoor
