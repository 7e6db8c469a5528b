/- Contracts of the functions that the statements of this seat reach, part 9: each says what the call answers and what it leaves of the memory. -/
import Derived.Test.YtofibccplbnaiaaDoorR8
import Derived.Test.YtofibccplbnaiaaDoorR6
import Derived.Test.YtofibccplbnaiaaDoorR2
set_option linter.unusedVariables false
set_option linter.unusedSimpArgs false
set_option maxRecDepth 100000
namespace Go.Proofs.YtofibccplbnaiaaDoor
section
theorem taken_pages {R R' : Rp} (h : R'.pages = R.pages) (p : Int) : R'.taken p = R.taken p:=by unfold Rp.taken;rw [h]
theorem read_pages {R R' : Rp} (h : R'.pages = R.pages) (p : Int) : R'.read p = R.read p:=by unfold Rp.read;rw [taken_pages h,h]
theorem Rp.good.of_pages {R R' : Rp} (h : R.good) (e : R'.pages = R.pages) : R'.good:=⟨by rw [e];exact h.few,by rw [e];exact h.len⟩
theorem setRoot_neg (R : Rp) : R.setRoot (-1) = (0,{ R with root:=-1,change:=true }):=by unfold Rp.setRoot;rw [if_neg (by simp)]
def Rp.unroot (R : Rp) (page : Int) : Rp:=if page = R.root then (R.setRoot (-1)).2 else R
section
variable {R R' : Rp} {page : Int} {X X' : List Int}
theorem unroot_pages (R : Rp) (page : Int) : (R.unroot page).pages = R.pages:=by
 unfold Rp.unroot;split
 ·rw [setRoot_neg]
 ·rfl
theorem unroot_ne (h : page ≠ R.root) : R.unroot page = R:=by unfold Rp.unroot;rw [if_neg h]
theorem unroot_root (h : R.taken page = true) : (R.unroot page).root ≠ page:=by
 unfold Rp.unroot;split
 ·rw [setRoot_neg];obtain ⟨a,_⟩:=taken_get h;dsimp only;omega
 ·rename_i h;exact fun e=>h e.symm
theorem freeT_unroot (R : Rp) (page : Int) : R.freeT page = (R.unroot page).free page:=by
 unfold Rp.freeT Rp.unroot
 split <;> rfl
theorem Fr.unroot (h : Fr R R' X X') (page : Int) : Fr (R.unroot page) (R'.unroot page) X X':=by
 have e1:=unroot_pages R page;have e2:=unroot_pages R' page;refine ⟨by rw [e1,e2];exact h.len,?_,?_,?_,fun p hp=>by rw [taken_pages e1];exact h.own p hp,fun p hp=>by rw [taken_pages e2];exact h.own' p hp,h.nd,h.nd',fun p a b=>?_,fun p a b=>?_,by rw [e1,e2];exact h.count,fun hg=>(h.good (hg.of_pages e1.symm)).of_pages e2⟩
 ·unfold Rp.unroot
  rw [h.root];split
  ·rw [setRoot_neg,setRoot_neg]
  ·exact h.root
 ·unfold Rp.unroot
  rw [h.root];split
  ·rw [setRoot_neg,setRoot_neg];exact h.was
  ·exact h.was
 ·unfold Rp.unroot
  rw [h.root];split
  ·rw [setRoot_neg,setRoot_neg];exact h.wroot
  ·exact h.wroot
 ·rw [taken_pages e1] at a;rw [taken_pages e2,read_pages e1,read_pages e2];exact h.keep p a b
 ·rw [taken_pages e2] at a;rw [taken_pages e1];exact h.back p a b
theorem relay_free (ht : R.taken page = true) (n : Nd) : R.relay page n = ((R.unroot page).free page).2.layL n∧Fr (R.unroot page) ((R.unroot page).free page).2 [page] []:=by
 have ht' : (R.unroot page).taken page = true:=by rw [taken_pages (unroot_pages R page)];exact ht
 obtain ⟨f1,f2⟩:=fr_free ht' (unroot_root ht);refine ⟨?_,f2⟩;unfold Rp.relay;rw [freeT_unroot,if_neg (by rw [f1];simp)]
theorem relay_leaf (hg : R.good) (ht : R.taken page = true) {l : List En} (hf : ∀ e ∈ l,e.few) (hk : ∀ e ∈ l,e.kid = 0) (hs : (l.map (·.key)).Pairwise (· < ·)) (hsum : (Nd.mk true l).sum ≤ 1504) (hr : 1 ≤ freeRN R.pages) :
  ∃ M,(R.relay page ⟨true,l⟩).1 = (M.map (·.e),0)∧Laid (R.unroot page) (R.relay page ⟨true,l⟩).2 0 [page] (l.map enKV) M∧(M.flatMap (·.P)).length = M.length∧(l ≠ [] → M ≠ []):=by
 obtain ⟨e,f⟩:=relay_free ht ⟨true,l⟩;have hc:=f.count
 rw [unroot_pages] at hc;simp only [List.length_nil,List.length_cons] at hc;obtain ⟨M,m1,m2,m3,m4,m5⟩:=laid_leaf (f.good (hg.of_pages (unroot_pages R page))) hf hk hs hsum (by omega);rw [e];exact ⟨M,m1,⟨m2.fl,f.trans m2.fr,m2.row,m2.few,m2.val,m2.two,m2.big⟩,m4,m5⟩
theorem relay_inner {h : Nat} (hg : R.good) (ht : R.taken page = true) {T0 : List Kid} (hf : ∀ t ∈ T0,t.e.few) (hv : ∀ t ∈ T0,t.e.val = []) (hrow : RowT (Sub R h) T0) (hbig : ∀ t ∈ T0,Big R t.e.kid) (hnd : (page :: T0.flatMap (·.P)).Nodup) (hsum : (Nd.mk false (T0.map (·.e))).sum ≤ 1504) (hr : 1 ≤ freeRN R.pages) :
  ∃ M,(R.relay page ⟨false,T0.map (·.e)⟩).1 = (M.map (·.e),0)∧Laid (R.unroot page) (R.relay page ⟨false,T0.map (·.e)⟩).2 (h + 1) (page :: T0.flatMap (·.P)) (T0.flatMap (·.l)) M∧(M.flatMap (·.P)).length = M.length + (T0.flatMap (·.P)).length∧(T0 ≠ [] → M ≠ []):=by
 obtain ⟨e,f⟩:=relay_free ht ⟨false,T0.map (·.e)⟩;have hc:=f.count
 rw [unroot_pages] at hc;simp only [List.length_nil,List.length_cons] at hc;obtain ⟨n1,n2⟩:=List.nodup_cons.1 hnd
 have hY : ∀ t ∈ T0,∀ p ∈ t.P,(R.unroot page).taken p = true∧p ∉ [page]:=fun t hu p hp=>⟨by rw [taken_pages (unroot_pages R page)];exact Sub.taken h (hrow.kid t hu) p hp,by
  rw [List.mem_singleton]
  exact fun e=>n1 (List.mem_flatMap.2 ⟨t,hu,e ▸ hp⟩)⟩
 have hread : ∀ t ∈ T0,∀ p ∈ t.P,((R.unroot page).free page).2.read p = R.read p:=fun t ht p hp=>by rw [(f.keep p (hY t ht p hp).1 (hY t ht p hp).2).2.2,read_pages (unroot_pages R page)]
 obtain ⟨M,m1,m2,m3,m4,m5⟩:=laid_inner (f.good (hg.of_pages (unroot_pages R page))) hf hv (hrow.same hread) (fun t ht=>(hbig t ht).same (hread t ht _ (Sub.page h (hrow.kid t ht)))) n2 hsum (by omega);rw [e]
 have hb:=f.beside (Y:=T0.flatMap (·.P)) (fun p hp=>by
  obtain ⟨t,ht,hp⟩:=List.mem_flatMap.1 hp;exact (hY t ht p hp).1) (fun p hp=>by
  obtain ⟨t,ht,hp⟩:=List.mem_flatMap.1 hp
  exact (hY t ht p hp).2) n2
 exact ⟨M,m1,⟨m2.fl,hb.trans m2.fr,m2.row,m2.few,m2.val,m2.two,m2.big⟩,m4,m5⟩
end
theorem anew_fin {R R2 : Rp} {page : Int} {h : Nat} {X : List Int} {T2 : List Kid} {l : List KV} (hg : R.good) (ht : R.taken page = true) (hn : h + 2 ≤ freeRN R.pages) (hrow : RowT (Sub R2 h) T2) (hf : ∀ t ∈ T2,t.e.few) (hv : ∀ t ∈ T2,t.e.val = []) (hbig : ∀ t ∈ T2,Big R2 t.e.kid) (hl : T2.flatMap (·.l) = l) (hF : Fr R R2 (page :: X) (page :: T2.flatMap (·.P))) (hsum : (Nd.mk false (T2.map (·.e))).sum ≤ 1504) (hc : (T2.flatMap (·.P)).length ≤ X.length + h + 1) :
  ∃ M,(R2.relay page ⟨false,T2.map (·.e)⟩).1 = (M.map (·.e),0)∧Laid (R.unroot page) (R2.relay page ⟨false,T2.map (·.e)⟩).2 (h + 1) (page :: X) l M∧(M.flatMap (·.P)).length ≤ (page :: X).length + (h + 1) + 1:=by
 have hcc:=hF.count;simp only [List.length_cons] at hcc;obtain ⟨M,m1,m2,m3,m4⟩:=relay_inner (hF.good hg) (hF.own' page (List.mem_cons_self ..)) hf hv hrow hbig hF.nd' hsum (by omega);have h2:=m2.two;refine ⟨M,m1,⟨by rw [m2.fl];exact hl,(hF.unroot page).trans m2.fr,m2.row,m2.few,m2.val,m2.two,m2.big⟩,?_⟩;simp only [List.length_cons];omega
structure ChgL (c : Chg) (key : List UInt8) (cl : List KV → List KV) : Prop where
 ok : ChgOk c
 leaf : ∀ n : Nd,n.leaf = true → (c n.l (n.behind key).1 (n.behind key).2).map enKV = cl (n.l.map enKV)
 kid : ∀ (l : List En) i is,(∀ e ∈ l,e.kid = 0) → ∀ e ∈ c l i is,e.kid = 0
 mid : ∀ A L C : List KV,(∀ x ∈ A,x.1 < key) → (∀ x ∈ C,key < x.1) → cl (A ++ (L ++ C)) = A ++ (cl L ++ C)
 mem : ∀ L : List KV,∀ x ∈ cl L,x.1 = key ∨ x ∈ L
 rise : ∀ L : List KV,Rise L → Rise (cl L)
theorem rise_keys {l : List En} : Rise (l.map enKV) ↔ (l.map (·.key)).Pairwise (· < ·):=by unfold Rise;rw [List.pairwise_map,List.pairwise_map];exact Iff.rfl
def Two (R : Rp) (page : Int) : Prop:=∀ n,(R.load page).1 = some n → 2 ≤ n.l.length
theorem Big.two {R : Rp} (hg : R.good) {h : Nat} {page : Int} {l : List KV} {P : List Int} (hs : Sub R (h + 1) page l P) (hb : Big R page) : Two R page:=fun n hn=>by
 obtain ⟨m,T,h1,h2,_⟩:=hs;rw [h1] at hn;cases hn;have h3:=hb n (by rw [h1])
 have h4:=sumFrom_in n.l 0 (Sub.srt hg h1).few;unfold Nd.sum at h3;rw [h2] at h3;omega
theorem anew_sub {c : Chg} {key : List UInt8} {cl : List KV → List KV} (hc : ChgL c key cl) : ∀ (h f : Nat) {R : Rp} {page : Int} {l : List KV} {P : List Int},R.good → Sub R h page l P → P.Nodup → (page = R.root ∨ R.root ∉ P) → R.taken R.root = true → h < f → h + 1 ≤ freeRN R.pages → (1 ≤ h → Two R page) →
  ∃ M,(R.anewN c key f page).1 = (M.map (·.e),0)∧Laid (R.unroot page) (R.anewN c key f page).2 h P (cl l) M∧(M.flatMap (·.P)).length ≤ P.length + h + 1
 | h,0,R,page,l,P,_,_,_,_,_,hf,_,_=>by omega
 | 0,f + 1,R,page,l,P,hg,hs,hnd,hroot,hrk,hf,hfree,_=>by
  obtain ⟨n,h1,h2,h3,h4⟩:=hs;have fn:=Sub.srt hg h1
  rw [Rp.anewN,h1];dsimp only;rw [if_pos h2];obtain ⟨b1,b2⟩:=behind_leaf_le h2 key;have hsum:=fn.sum
  unfold Nd.sum at hsum;rw [h2] at hsum;obtain ⟨c1,c2⟩:=hc.ok n.l _ _ fn.few hsum b1 b2;have c3:=hc.leaf n h2
  have c4:=hc.kid n.l (n.behind key).1 (n.behind key).2 (load_kid0 (by rw [h1]) h2);have c5 : ((c n.l (n.behind key).1 (n.behind key).2).map (·.key)).Pairwise (· < ·):=by rw [← rise_keys,c3];exact hc.rise _ (rise_keys.2 (fit_rise fn h2))
  obtain ⟨M,m1,m2,m3,m4⟩:=relay_leaf (page:=page) hg (taken_of_load h1) c1 c4 c5 (by unfold Nd.sum;dsimp only;omega) (by omega);rw [c3,← h3,← h4] at m2;refine ⟨M,m1,m2,?_⟩;have:=m2.two
  rw [m3,h4];simp only [List.length_cons,List.length_nil];omega
 | h + 1,f + 1,R,page,l,P,hg,hs,hnd,hroot,hrk,hf,hfree,htwo=>by
  obtain ⟨n,T,h1,h2,h3,h4,h5,h6,h7⟩:=hs;have fn:=Sub.srt hg h1
  have ht2:=htwo (by omega) n (by rw [h1]);obtain ⟨A,t,C,e1,e2,e3,e4,e5,e6⟩:=inner_parts h6 h2 h3 fn.some key;subst e1;have hk : kidAt n.l (n.behind key).1 = t.e.kid:=by rw [kidAt,h3,← e2];simp
  have hak : atK n.l (n.behind key).1 = t.e.key:=by rw [atK,h3,← e2];simp
  have hlow : ¬ key < t.e.key:=by
   cases A with
   | nil =>
    have:=load_key0 (by rw [h1]) h2 (e:=t.e) (r:=C.map (·.e)) (by rw [h3];rfl);rw [this];exact List.not_lt_nil _
   | cons a r=>exact e6 (by simp)
  rw [Rp.anewN,h1];dsimp only;rw [if_neg (by rw [h2];simp),hk];rw [h5] at hnd hroot;have st:=h6.kid t (by simp)
  have hT : (A ++ t :: C).flatMap (·.P) = A.flatMap (·.P) ++ (t.P ++ C.flatMap (·.P)):=by rw [List.flatMap_append,List.flatMap_cons]
  obtain ⟨hpn,hndT⟩:=List.nodup_cons.1 hnd;have hndT':=hndT
  rw [hT] at hndT'
  have hrT : R.root ∉ (A ++ t :: C).flatMap (·.P):=fun hm=>by
   rcases hroot with e | e
   ·rw [← e] at hm;exact hpn hm
   ·exact e (List.mem_cons_of_mem _ hm)
  have hrt : R.root ∉ t.P:=fun hm=>hrT (by rw [hT];exact List.mem_append_right _ (List.mem_append_left _ hm));obtain ⟨n1,n2,n3⟩:=List.nodup_append.1 hndT';obtain ⟨n4,n5,n6⟩:=List.nodup_append.1 n2
  obtain ⟨M,m1,m2,m3⟩:=anew_sub hc h f hg st n4 (.inr hrt) hrk (by omega) (by omega) (fun hh=>by
   cases h with
   | zero=>omega
   | succ h=>exact (h7 t (by simp)).two hg st)
  rw [unroot_ne (fun e=>hrt (by rw [← e];exact Sub.page h st))] at m2;obtain ⟨r1,hr1⟩ : ∃ r,r = R.anewN c key f t.e.kid:=⟨_,rfl⟩;rw [← hr1] at m1 m2 ⊢;obtain ⟨q1,R1⟩:=r1;dsimp only at m1 m2 ⊢;subst m1;dsimp only;have hmerge : mergeN n.l (M.map (·.e)) (n.behind key).1 = (A ++ (keyKid t.e.key M ++ C)).map (·.e):=by rw [mergeN,hak,← e2,h3,List.map_append,List.map_cons,List.take_left' (by simp),← List.drop_drop,List.drop_left' (by simp),List.map_append,List.map_append,keyKid_e];rfl
  rw [if_neg (by simp),hmerge,List.length_map,List.length_map];have hfT : ∀ u ∈ A ++ t :: C,u.e.few:=fun u hu=>fn.few u.e (by rw [h3];exact List.mem_map.2 ⟨u,hu,rfl⟩)
  have hvT : ∀ u ∈ A ++ t :: C,u.e.val = []:=fun u hu=>load_val0 (by rw [h1]) h2 u.e (by rw [h3];exact List.mem_map.2 ⟨u,hu,rfl⟩)
  have hY : ∀ u ∈ A ++ C,∀ p ∈ u.P,R.taken p = true∧p ∉ t.P:=fun u hu p hp=>by
   rcases List.mem_append.1 hu with hu | hu
   ·exact ⟨Sub.taken h (h6.kid u (by simp [hu])) p hp,fun e=>n3 p (List.mem_flatMap.2 ⟨u,hu,hp⟩) p (List.mem_append_left _ e) rfl⟩
   ·exact ⟨Sub.taken h (h6.kid u (by simp [hu])) p hp,fun e=>n6 p e p (List.mem_flatMap.2 ⟨u,hu,hp⟩) rfl⟩
  have hread : ∀ u ∈ A ++ C,∀ p ∈ u.P,R1.read p = R.read p:=fun u hu p hp=>(m2.fr.keep p (hY u hu p hp).1 (hY u hu p hp).2).2.2;have hra : RowT (Sub R h) A:=h6.left;have hr2 : RowT (Sub R h) ([t] ++ C):=h6.right;have hml : ∀ m ∈ M,∀ x ∈ m.l,x.1 = key ∨ x ∈ t.l:=fun m hm x hx=>hc.mem t.l x (by rw [← m2.fl];exact List.mem_flatMap.2 ⟨m,hm,hx⟩)
  have hrow1 : RowT (Sub R1 h) (A ++ (keyKid t.e.key M ++ C)):=by
   refine RowT.swap (hra.same fun u hu=>hread u (List.mem_append_left _ hu)) m2.row (hr2.right.same fun u hu=>hread u (List.mem_append_right _ hu)) (fun a ha c hc=>h6.mid a ha c (by simp [hc])) (fun a ha=>h6.mid a ha t (by simp)) (fun m hm x hx=>?_) fun m hm x hx c hcc=>?_
   ·rcases hml m hm x hx with e | e
    ·rw [e];exact hlow
    ·exact h6.low t (by simp) x e
   ·rcases hml m hm x hx with e | e
    ·rw [e];exact e4 c hcc
    ·exact hr2.mid t (by simp) c hcc x e
  have htk : t.e.key.length ≤ 80:=(hfT t (by simp)).key
  have hf1 : ∀ u ∈ A ++ (keyKid t.e.key M ++ C),u.e.few:=fun u hu=>by
   rcases List.mem_append.1 hu with hu | hu
   ·exact hfT u (by simp [hu])
   ·rcases List.mem_append.1 hu with hu | hu
    ·exact keyKid_few htk m2.few u hu
    ·exact hfT u (by simp [hu])
  have hv1 : ∀ u ∈ A ++ (keyKid t.e.key M ++ C),u.e.val = []:=fun u hu=>by
   rcases List.mem_append.1 hu with hu | hu
   ·exact hvT u (by simp [hu])
   ·rcases List.mem_append.1 hu with hu | hu
    ·obtain ⟨v,hv,_,_,_,e,_⟩:=keyKid_mem hu;rw [e];exact m2.val v hv
    ·exact hvT u (by simp [hu])
  have hbA : ∀ u ∈ A ++ C,Big R1 u.e.kid:=fun u hu=>by
   have hu' : u ∈ A ++ t :: C:=by
    rcases List.mem_append.1 hu with hu | hu <;> simp [hu]
   exact (h7 u hu').same (hread u hu _ (Sub.page h (h6.kid u hu')))
  have hl1 : (A ++ (keyKid t.e.key M ++ C)).flatMap (·.l) = cl l:=by
   rw [h4,List.flatMap_append,List.flatMap_append,keyKid_l,m2.fl,List.flatMap_append,List.flatMap_cons]
   exact (hc.mid _ _ _ (fun x hx=>by
    obtain ⟨a,ha,hx⟩:=List.mem_flatMap.1 hx
    exact e3 a ha x hx) fun x hx=>by
    obtain ⟨c,hcc,hx⟩:=List.mem_flatMap.1 hx
    exact e5 c hcc x hx).symm
  have hP1 : (A ++ (keyKid t.e.key M ++ C)).flatMap (·.P) = A.flatMap (·.P) ++ (M.flatMap (·.P) ++ C.flatMap (·.P)):=by rw [List.flatMap_append,List.flatMap_append,keyKid_P]
  have hF1 : Fr R R1 (page :: (A ++ t :: C).flatMap (·.P)) (page :: (A ++ (keyKid t.e.key M ++ C)).flatMap (·.P)):=by
   have hb:=m2.fr.beside (Y:=page :: (A.flatMap (·.P) ++ C.flatMap (·.P))) (fun p hp=>by
    rcases List.mem_cons.1 hp with rfl | hp
    ·exact taken_of_load h1
    ·rw [← List.flatMap_append] at hp;obtain ⟨u,hu,hp⟩:=List.mem_flatMap.1 hp;exact (hY u hu p hp).1) (fun p hp=>by
    rcases List.mem_cons.1 hp with rfl | hp
    ·exact fun e=>hpn (by rw [hT];exact List.mem_append_right _ (List.mem_append_left _ e))
    ·rw [← List.flatMap_append] at hp;obtain ⟨u,hu,hp⟩:=List.mem_flatMap.1 hp;exact (hY u hu p hp).2) (by
    refine List.nodup_cons.2 ⟨fun e=>hpn ?_,List.nodup_append.2 ⟨n1,n5,fun p hp q hq=>n3 p hp q (List.mem_append_right _ hq)⟩⟩;rw [hT];rcases List.mem_append.1 e with e | e
    ·exact List.mem_append_left _ e
    ·exact List.mem_append_right _ (List.mem_append_right _ e))
   rw [hT,hP1];refine hb.perm ?_ ?_
   ·exact List.perm_middle.trans (List.Perm.cons _ (List.perm_append_comm_assoc _ _ _))
   ·exact List.perm_middle.trans (List.Perm.cons _ (List.perm_append_comm_assoc _ _ _))
  have hc1 : ((A ++ (keyKid t.e.key M ++ C)).flatMap (·.P)).length ≤ ((A ++ t :: C).flatMap (·.P)).length + h + 1:=by rw [hP1,hT];simp only [List.length_append];omega
  have hi:=behind_lt fn.some h2 key
  have hs1 : sumFrom false 0 ((A ++ (keyKid t.e.key M ++ C)).map (·.e)) ≤ 893 + 83 * M.length:=by
   have h0:=merge_sum (l:=n.l) (M:=M.map (·.e)) (n.behind key).1 ((n.behind key).1 + 1) (by omega) (by omega) (fun e he=>by
    obtain ⟨m,hm,rfl⟩:=List.mem_map.1 he
    exact m2.few m hm) (key:=t.e.key) htk
   have h0' : n.l.take (n.behind key).1 ++ (setKey0 t.e.key (M.map (·.e)) ++ n.l.drop ((n.behind key).1 + 1)) = (A ++ (keyKid t.e.key M ++ C)).map (·.e):=by rw [← hmerge,mergeN,hak]
   rw [h0',List.length_map] at h0;have h8:=fn.sum
   unfold Nd.sum at h8;rw [h2] at h8;omega
  have h2M:=m2.two;rw [h5];by_cases hj : M.length = 1∧1 < (A ++ (keyKid t.e.key M ++ C)).length
  ·rw [if_pos hj]
   obtain ⟨hj1,hj2⟩:=hj;have hlen1 : (A ++ (keyKid t.e.key M ++ C)).length = A.length + (1 + C.length):=by simp only [List.length_append,keyKid_len,hj1]
   rw [hlen1] at hj2;rw [hlen1,← e2]
   have hbigj : ∀ (j : Nat) (u : Kid),(A ++ (keyKid t.e.key M ++ C))[j]? = some u → j ≠ A.length → Big R1 u.e.kid:=fun j u hu hne=>by
    refine hbA u ?_;rcases Nat.lt_or_ge j A.length with hlt | hge
    ·rw [List.getElem?_append_left hlt] at hu;exact List.mem_append_left _ (List.mem_of_getElem? hu)
    ·rw [List.getElem?_append_right hge,List.getElem?_append_right (by rw [keyKid_len];omega)] at hu;exact List.mem_append_right _ (List.mem_of_getElem? hu)
   obtain ⟨T2,j1,j2,j3,j4,j5,j6,j7,j8,j9⟩:=join_row (R:=R1) (k:=min A.length (A.length + (1 + C.length) - 2)) (i:=A.length) (m2.fr.good hg) hrow1 hf1 hv1 (List.nodup_cons.1 hF1.nd').2 (by
    rw [m2.fr.root];intro hm;rcases hroot with e | e
    ·rw [← e] at hm;exact (List.nodup_cons.1 hF1.nd').1 hm
    ·exact (hF1.keep _ hrk e).2.1 (List.mem_cons_of_mem _ hm)) (by rw [hlen1];omega) (by omega) hbigj
   obtain ⟨R2,hR2⟩ : ∃ r,r = R1.joinN ((A ++ (keyKid t.e.key M ++ C)).map (·.e)) (min A.length (A.length + (1 + C.length) - 2)) A.length:=⟨_,rfl⟩
   obtain ⟨jb1,jb2⟩:=joinN_bounds (R:=R1) (m2.fr.good hg) (l:=(A ++ (keyKid t.e.key M ++ C)).map (·.e)) (s:=976) ⟨fun e he=>by
    obtain ⟨u,hu,rfl⟩:=List.mem_map.1 he
    exact hf1 u hu,by omega⟩ (k:=min A.length (A.length + (1 + C.length) - 2)) (i:=A.length) (by rw [List.length_map,hlen1];omega)
   rw [← hR2] at j1 j3 j4 j7 jb1 jb2 ⊢;obtain ⟨⟨q2,q3⟩,R2⟩:=R2;dsimp only at j1 j3 j4 j7 jb1 jb2 ⊢;obtain ⟨rfl,rfl⟩ : q2 = 0∧q3 = T2.map (·.e):=by cases j1;exact ⟨rfl,rfl⟩
   rw [if_neg (by simp)]
   have hbes:=j3.beside (Y:=[page]) (by
    intro p hp;rw [List.mem_singleton.1 hp];exact hF1.own' page (List.mem_cons_self ..)) (by
    intro p hp;rw [List.mem_singleton.1 hp]
    exact (List.nodup_cons.1 hF1.nd').1) (by simp)
   have hF2:=hF1.trans (hbes.perm (X1:=page :: (A ++ (keyKid t.e.key M ++ C)).flatMap (·.P)) (X2:=page :: T2.flatMap (·.P)) List.perm_append_comm List.perm_append_comm);refine anew_fin hg (taken_of_load h1) (by omega) j4 j5 j6 j7 (j2.trans hl1) hF2 (by have:=jb2.sum;unfold Nd.sum;dsimp only;omega) (by omega)
  ·rw [if_neg hj]
   refine anew_fin hg (taken_of_load h1) (by omega) hrow1 hf1 hv1 (fun u hu=>?_) hl1 hF1 (by unfold Nd.sum;dsimp only;omega) hc1
   have h0 : ∀ m ∈ M,Big R1 m.e.kid:=by
    have hA1 : 2 ≤ (A ++ t :: C).length:=by rw [h3,List.length_map] at ht2;exact ht2
    rcases Nat.lt_or_ge M.length 2 with hlt | hge
    ·rcases Nat.eq_zero_or_pos M.length with h0 | h0
     ·rw [List.eq_nil_of_length_eq_zero h0];simp
     ·exfalso;refine hj ⟨by omega,?_⟩;simp only [List.length_append,keyKid_len,List.length_cons] at hA1 ⊢;omega
    ·exact m2.big hge
   rcases List.mem_append.1 hu with hu | hu
   ·exact hbA u (List.mem_append_left _ hu)
   ·rcases List.mem_append.1 hu with hu | hu
    ·obtain ⟨v,hv,_,_,e,_⟩:=keyKid_mem hu;rw [e];exact h0 v hv
    ·exact hbA u (List.mem_append_right _ hu)
end
section
open Go.RowKit
abbrev keyO (k : List UInt8) : Obj:=.cells #[.string ⟨k.toArray⟩] 9 (0,0)
set_option maxHeartbeats 4000000 in
theorem find2_any (w : World) (nb kb : Nat) (leaf : Bool) (a : Option Addr) (n cap : Nat) {l : List En} (h : IsE w (.slice a n cap) l) (hnl : n = l.length) (hn : w.heap[nb]? = some (ndO leaf (.slice a n cap))) (key : List UInt8) (hk : w.heap[kb]? = some (keyO key)) (i : Nat) (hi : i < l.length) (hm : l.length ≤ 1000000) :
  Calls Tryd.prog 67 #[.int .i64 (i : Int),.pointer (some ⟨nb,0,none⟩),.pointer (some ⟨kb,0,none⟩)] w fun e w'=>e = .returned (.bool (!decide (l[i].key < key)))∧w' = w.drew:=by
 obtain ⟨b,o,rfl,c0,c1,c2⟩:=h.at i hi;have d0 : w.drew.cell? ⟨b,o + i * 3,none⟩ = some (.string ⟨l[i].key.toArray⟩):=c0
 obtain ⟨n0,n1⟩:=nd_cells (w:=w.drew) hn
 have k0 : w.drew.cell? ⟨kb,0,none⟩ = some (.string ⟨key.toArray⟩):=by
  show w.cell? _ = _
  rw [cell_of_row _ _ _ _ _ _ hk];rfl
 have hi0 : (0 : Int) ≤ (i : Int):=by omega
 have hi1 : (i : Int) < (n : Int):=by omega
 have hlt:=bytesLess_dec l[i].key key;clear h c0 c1 c2 hn hk hnl hm;generalize l[i].key = lk at *;rw [← hlt];clear hlt;go_enter Tryd.func67,Tryd.ntmps67;go_upto_region 1 with fail;go_region;go_wp2_with fail;go_ret;exact ⟨rfl,rfl⟩
set_option maxHeartbeats 4000000 in
theorem find1_any (w : World) (nb kb : Nat) (leaf : Bool) (a : Option Addr) (n cap : Nat) {l : List En} (h : IsE w (.slice a n cap) l) (hnl : n = l.length) (hn : w.heap[nb]? = some (ndO leaf (.slice a n cap))) (key : List UInt8) (hk : w.heap[kb]? = some (keyO key)) (i : Nat) (hi : i + 1 < l.length) (hm : l.length ≤ 1000000) :
  Calls Tryd.prog 66 #[.int .i64 (i : Int),.pointer (some ⟨nb,0,none⟩),.pointer (some ⟨kb,0,none⟩)] w fun e w'=>e = .returned (.bool (decide (key < l[i + 1].key)))∧w' = w.drew:=by
 obtain ⟨b,o,rfl,c0,c1,c2⟩:=h.at (i + 1) hi;have d0 : w.drew.cell? ⟨b,o + (i + 1) * 3,none⟩ = some (.string ⟨l[i + 1].key.toArray⟩):=c0
 obtain ⟨n0,n1⟩:=nd_cells (w:=w.drew) hn
 have k0 : w.drew.cell? ⟨kb,0,none⟩ = some (.string ⟨key.toArray⟩):=by
  show w.cell? _ = _
  rw [cell_of_row _ _ _ _ _ _ hk];rfl
 obtain ⟨j,hj⟩ : ∃ j,j = i + 1:=⟨_,rfl⟩;have hw : IntKind.i64.wrap ((i : Int) + 1) = (j : Int):=by rw [IntWalk.i64_in _ (by omega)];omega
 have hi0 : (0 : Int) ≤ (j : Int):=by omega
 have hi1 : (j : Int) < (n : Int):=by omega
 have hlt:=leq_fits l[i + 1].key key;clear h c0 c1 c2 hn hk hnl hm;generalize l[i + 1].key = lk at *;rw [← hj] at d0;clear hj;have hres : decide (key < lk) = !(Op.bytesLess lk key || lk == key):=by rw [hlt,Bool.not_not]
 rw [hres];clear hlt hres;go_enter Tryd.func66,Tryd.ntmps66;go_upto_region 1 with fail;go_region;go_wp2_with fail;go_ret;exact ⟨by simp,rfl⟩
end
end Go.Proofs.YtofibccplbnaiaaDoor
