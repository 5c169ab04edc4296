/- The presses that solve lights of several colours, on both sides. -/
import Derived.Test.YtbbdjoahdbjljaaQuiet
import Derived.Test.YtbbdjoahdbjljaaPx30
import Derived.Test.YtbbdjoahdbjljaaPx31
import Derived.Test.YtbbdjoahdbjljaaPx33
import Derived.Test.YtbbdjoahdbjljaaPx34
import Derived.Test.YtbbdjoahdbjljaaPx35
import Derived.Test.YtbbdjoahdbjljaaPx5
namespace Go.Proofs.Ytbbdjoahdbjljaa.Ef
open Go.RowKit Go.Proofs.Ytbbdjoahdbjljaa.P Go.Proofs.Ytbbdjoahdbjljaa.Bt Go.Proofs.Ytbbdjoahdbjljaa.Lw Go.Proofs.Ytbbdjoahdbjljaa.Gr Go.Proofs.Ytbbdjoahdbjljaa.Co Go.Proofs.Ytbbdjoahdbjljaa.El Go.Proofs.YtbbdjoahdbjljaaW.PrintWords Go.Proofs.YtbbdjoahdbjljaaW.PrintLast Go.Proofs.YtbbdjoahdbjljaaW.PrintMore
set_option linter.unusedVariables false
set_option linter.unusedSimpArgs false
def neg (m:Int) (t:List Int):List Int:=scaleR m (-1) t
theorem neg_len (m:Int) (t:List Int):(neg m t).length=t.length:=by simp [neg,scaleR]
theorem neg_get (m:Int) (t:List Int) (j:Nat):(neg m t).getD j 0=(m - t.getD j 0) % m:=by
  unfold neg
  rw [scaleR_getD,show m - t.getD j 0=t.getD j 0*-1+m by omega,Int.add_emod_right]
theorem neg_in {m:Int} (hm:2≤m) (t:List Int):InR m (neg m t):=by
  intro x hx
  simp only [neg,scaleR,List.mem_map] at hx
  obtain ⟨y,_,rfl⟩:=hx
  exact ⟨Int.emod_nonneg _ (by omega),Int.emod_lt_of_pos _ (by omega)⟩
def oset (R:List (List Int)) (c:Nat):Nat→List Int→List Int→List Int
  |_,[],l=>l
  |k,p::ps,l=>oset R c (k+1) ps (l.set p.toNat (at2 R k c))
theorem oset_len (R:List (List Int)) (c:Nat):∀ (pl:List Int) (k:Nat) (l:List Int),(oset R c k pl l).length=l.length
  |[],_,_=>rfl
  |p::ps,k,l=>by rw [oset,oset_len R c ps,List.length_set]
theorem oset_in {m:Int} {R:List (List Int)} {c:Nat} (hR:∀ i,0≤at2 R i c∧at2 R i c< m):∀ (pl:List Int) (k:Nat) (l:List Int),InR m l→InR m (oset R c k pl l)
  |[],_,_,h=>h
  |p::ps,k,l,h=>oset_in hR ps (k+1) _ (set_InR h (hR k))
theorem oset_congr {R S:List (List Int)} {c:Nat}:∀ (pl:List Int) (k:Nat) (l:List Int),(∀ i,i< k+pl.length→at2 R i c=at2 S i c)→oset R c k pl l=oset S c k pl l
  |[],_,_,_=>rfl
  |p::ps,k,l,h=>by
    rw [oset,oset,h k (by simp),oset_congr ps (k+1) _ (fun i hi=>h i (by rw [List.length_cons];omega))]
def first (q:List Int):Nat:=(q.takeWhile fun x=>decide (x=0)).length
def outq (m:Int):List (List Int)→List Int→List Int
  |[],o=>o
  |q::qs,o=>outq m qs (addR m (o.getD (first q) 0) o q)
theorem first_lt:∀ {q:List Int},(∃ c,q.getD c 0≠0)→first q< q.length
  |[],⟨c,h⟩=>by simp at h
  |x::q,⟨c,h⟩=>by
    unfold first
    rw [List.takeWhile_cons]
    by_cases hx:x=0
    · rw [if_pos (by simpa using hx)]
      have:∃ c,q.getD c 0≠0:=by
        cases c with
        |zero=>simp [hx] at h
        |succ c=>exact ⟨c,by simpa using h⟩
      have:=first_lt this
      unfold first at this
      simp only [List.length_cons];omega
    · rw [if_neg (by simpa using hx)];simp
theorem idx_first:∀ (q:List Int) (i:Nat),(∃ c,q.getD c 0≠0)→idxP (fun x=>(x !=0)) q i=((i+first q:Nat):Int)
  |[],i,⟨c,h⟩=>by simp at h
  |x::q,i,⟨c,h⟩=>by
    unfold first
    rw [idxP,List.takeWhile_cons]
    by_cases hx:x=0
    · rw [if_neg (by simp [hx]),if_pos (by simpa using hx)]
      have:∃ c,q.getD c 0≠0:=by
        cases c with
        |zero=>simp [hx] at h
        |succ c=>exact ⟨c,by simpa using h⟩
      rw [idx_first q (i+1) this]
      unfold first
      simp only [List.length_cons];omega
    · rw [if_pos (by simpa using hx),if_neg (by simpa using hx)];simp
theorem clFirst_l0 (q:List Int) (hl:q.length≤100) (hq:∃ c,q.getD c 0≠0):∀ (d i:Nat),i+d=first q→Ev (fun k=>spec_clFirst.l0 k q (i:Int)) (first q:Int):=by
  have hz:∀ (q:List Int) (i:Nat),i< first q→q.getD i 0=0:=by
    intro q
    induction q with
    |nil=>intro i h;simp [first] at h
    |cons x q ih=>
      intro i h
      unfold first at h
      rw [List.takeWhile_cons] at h
      by_cases hx:x=0
      · rw [if_pos (by simpa using hx)] at h
        cases i with
        |zero=>simpa using hx
        |succ i=>simpa using ih i (by unfold first;simp only [List.length_cons] at h;omega)
      · rw [if_neg (by simpa using hx)] at h;simp at h
  have hne:∀ (q:List Int),(∃ c,q.getD c 0≠0)→q.getD (first q) 0≠0:=by
    intro q
    induction q with
    |nil=>rintro ⟨c,h⟩;simp at h
    |cons x q ih=>
      rintro ⟨c,h⟩
      unfold first
      rw [List.takeWhile_cons]
      by_cases hx:x=0
      · rw [if_pos (by simpa using hx)]
        have:∃ c,q.getD c 0≠0:=by
          cases c with
          |zero=>simp [hx] at h
          |succ c=>exact ⟨c,by simpa using h⟩
        simpa [first] using ih this
      · rw [if_neg (by simpa using hx)];simpa using hx
  have hlt:=first_lt hq
  intro d
  induction d with
  |zero=>
    intro i hi
    obtain rfl:i=first q:=by omega
    refine Ev.konst 1 fun k hk=>?_
    obtain ⟨k,rfl⟩:∃ m,k=m+1:=⟨k - 1,by omega⟩
    rw [spec_clFirst.l0,if_pos (by omega),if_pos (by omega),rd_nat,if_neg (hne q hq)]
  |succ d ih=>
    intro i hi
    refine Ev.succ (ih (i+1) (by omega)) 0 fun k _=>?_
    rw [spec_clFirst.l0,if_pos (by omega),if_pos (by omega),rd_nat,if_pos (hz q i (by omega)),step1 (by omega)]
theorem clFirst_ev (q:List Int) (hl:q.length≤100) (hq:∃ c,q.getD c 0≠0):Ev (fun k=>spec_clFirst.f k q) (first q:Int):=clFirst_l0 q hl hq (first q) 0 (by omega)
theorem firsts_l0 (Q:List (List Int)) (hl:Q.length≤100) (hq:∀ q ∈ Q,∃ c,q.getD c 0≠0):∀ (d i:Nat),i+d=Q.length→Ev (fun k=>impl_firstPlaces.l0 k ((Q.take i).map fun q=>(first q:Int)) Q (Q.length:Int) (i:Int)) (Q.map fun q=>(first q:Int)):=by
  intro d
  induction d with
  |zero=>
    intro i hi
    refine Ev.konst 1 fun k hk=>?_
    obtain ⟨k,rfl⟩:∃ m,k=m+1:=⟨k - 1,by omega⟩
    rw [impl_firstPlaces.l0,if_neg (by omega),List.take_of_length_le (by omega)]
  |succ d ih=>
    intro i hi
    have ht:Q.take (i+1)=Q.take i++[Q.getD i []]:=by
      rw [List.take_succ_eq_append_getElem (by omega),List.getD_eq_getElem?_getD,List.getElem?_eq_getElem (by omega)];rfl
    have hm:Q.getD i [] ∈ Q:=by
      rw [List.getD_eq_getElem?_getD,List.getElem?_eq_getElem (by omega)];exact List.getElem_mem _
    have h:=ih (i+1) (by omega)
    rw [ht,List.map_append] at h
    refine Ev.succ h 0 fun k _=>?_
    have hf:pseudo_firstNZ.f (Q.getD i [])=some ((first (Q.getD i []):Nat):Int):=by
      unfold pseudo_firstNZ.f
      rw [idx_first _ 0 (hq _ hm),Nat.zero_add]
    rw [impl_firstPlaces.l0,if_pos (by omega),if_pos (by omega),if_pos (by omega),rdL,hf,Option.bind_some,if_pos (by rw [List.length_map,List.length_take];omega),step1 (by omega)]
    rfl
theorem firsts_ev (Q:List (List Int)) (hl:Q.length≤100) (hq:∀ q ∈ Q,∃ c,q.getD c 0≠0):Ev (fun k=>impl_firstPlaces.f k Q) (Q.map fun q=>(first q:Int)):=firsts_l0 Q hl hq Q.length 0 (by omega)
/-! ### the quiet lists are taken off -/
theorem mem_getD {Q:List (List Int)} {i:Nat} (hi:i< Q.length):Q.getD i [] ∈ Q:=by
  rw [List.getD_eq_getElem?_getD,List.getElem?_eq_getElem hi];exact List.getElem_mem _
section off
variable {m:Int} {n:Nat} {Q:List (List Int)} (Mm:IsMod m) (hn:n≤16) (hQ:matOk m n Q=true) (hl:Q.length≤100) (hq:∀ q ∈ Q,∃ c,q.getD c 0≠0)
include Mm hn hQ hl hq
theorem spec_off:∀ (d i:Nat) (o:List Int),i+d=Q.length→o.length=n→InR m o→Ev (fun k=>spec_clSolve.l2 k m o Q (Q.length:Int) (i:Int)) (outq m (Q.drop i) o,true):=by
  have hm:=mod_small Mm
  intro d
  induction d with
  |zero=>
    intro i o hi ho hin
    refine Ev.konst 1 fun k hk=>?_
    obtain ⟨k,rfl⟩:∃ m,k=m+1:=⟨k - 1,by omega⟩
    rw [spec_clSolve.l2,if_neg (by omega),List.drop_eq_nil_of_le (by omega)];rfl
  |succ d ih=>
    intro i o hi ho hin
    have hql:=len_at hQ (i:=i) (by omega)
    have hqr:=rowOk_iff.1 (matOk_at hQ (i:=i) (by omega))
    have hne:=hq _ (mem_getD (i:=i) (by omega))
    have hfl:=first_lt hne
    obtain ⟨K,hF⟩:=clFirst_ev _ (by omega) hne
    rw [drop_cons (by omega),outq]
    generalize hqq:Q.getD i []=q at*
    have hf:=getD_InR hin (i:=first q) (by omega)
    generalize hff:o.getD (first q) 0=f at*
    have hla:(addR m f o q).length=o.length:=by simp only [addR,List.length_zipWith];omega
    have hia:InR m (addR m f o q):=(rowOk_iff.1 (addR_ok (m:=m) (f:=f) (w:=n) (by omega) ho hql)).2
    have h2:=ih (i+1) (addR m f o q) (by omega) (by omega) hia
    have inner:∀ (e j:Nat),j+e=n→Ev (fun k=>spec_clSolve.l3 k m (mix (addR m f o q) o j) q f Q (Q.length:Int) (i:Int) (n:Int) (j:Int)) (outq m (Q.drop (i+1)) (addR m f o q),true):=by
      intro e
      induction e with
      |zero=>
        intro j hj
        refine Ev.succ h2 0 fun k _=>?_
        rw [spec_clSolve.l3,if_neg (by omega),show j=o.length by omega,mix_end hla,step1 (by omega)]
      |succ e ihe=>
        intro j hj
        have hml:=mix_len hla j
        have hgj:=mix_get hla (j:=j) (by omega)
        have hsj:=mix_set hla (j:=j) (by omega)
        have hx:=getD_InR hin (i:=j) (by omega)
        have hy:=hqr.2 _ (getD_mem' (l:=q) (i:=j) (by omega))
        have hp:=prod_le (x:=m - f) (y:=q.getD j 0) (by omega) (by omega)
        have hpp:0≤(m - f)*q.getD j 0:=Int.mul_nonneg (by omega) hy.1
        rw [addR_getD (by omega) (by omega)] at hsj
        refine Ev.succ (ihe (j+1) (by omega)) 0 fun k _=>?_
        rw [spec_clSolve.l3,if_pos (by omega),if_pos (by omega),if_pos (by omega),if_pos (by omega),if_neg (by omega),rd_nat,rd_nat,hgj,Bt.wrap_id (x:=m - f) (by omega) (by omega),Bt.wrap_id (x:=(m - f)*_) (by omega) (by omega),Bt.wrap_id (by omega) (by omega),tmod_val (by omega),Int.toNat_natCast,hsj,step1 (by omega)]
    have h3:=inner n 0 (by omega)
    rw [mix_zero] at h3
    refine Ev.succ h3 K fun k hk=>?_
    have hF':=hF k hk
    simp only at hF'
    rw [spec_clSolve.l2,if_pos (by omega),if_pos (by omega),if_pos (by omega),rdL,hqq,hF',Option.bind_some,if_pos (by omega),if_pos (by omega),rd_nat,hff,ho]
    rfl
theorem impl_off:∀ (d i:Nat) (o:List Int),i+d=Q.length→o.length=n→InR m o→Ev (fun k=>impl_Graph_solveColours.l1 k m o Q (Q.map fun q=>(first q:Int)) ((Q.map fun q=>(first q:Int)).length:Int) (i:Int)) (outq m (Q.drop i) o,true):=by
  have hm:=mod_small Mm
  have hml:(Q.map fun q=>(first q:Int)).length=Q.length:=by simp
  intro d
  induction d with
  |zero=>
    intro i o hi ho hin
    refine Ev.konst 1 fun k hk=>?_
    obtain ⟨k,rfl⟩:∃ m,k=m+1:=⟨k - 1,by omega⟩
    rw [impl_Graph_solveColours.l1,if_neg (by omega),List.drop_eq_nil_of_le (by omega)];rfl
  |succ d ih=>
    intro i o hi ho hin
    have hql:=len_at hQ (i:=i) (by omega)
    have hqr:=matOk_at hQ (i:=i) (by omega)
    have hne:=hq _ (mem_getD (i:=i) (by omega))
    have hfl:=first_lt hne
    have hpl:(Q.map fun q=>(first q:Int)).getD i 0=((first (Q.getD i []):Nat):Int):=by
      rw [List.getD_eq_getElem?_getD,List.getElem?_map,List.getElem?_eq_getElem (by omega),List.getD_eq_getElem?_getD,List.getElem?_eq_getElem (by omega)];rfl
    rw [drop_cons (by omega),outq]
    generalize hqq:Q.getD i []=q at*
    have hf:=getD_InR hin (i:=first q) (by omega)
    obtain ⟨K,hA⟩:=added_ev Mm (b:=-o.getD (first q) 0) (by omega) o q (by omega) (by omega) (rowOk_sml hm.2 (rowOk_iff.2 ⟨ho,hin⟩)) (rowOk_sml hm.2 hqr)
    rw [addB_addR] at hA
    generalize hff:o.getD (first q) 0=f at*
    have hla:(addR m f o q).length=o.length:=by simp only [addR,List.length_zipWith];omega
    have hia:InR m (addR m f o q):=(rowOk_iff.1 (addR_ok (m:=m) (f:=f) (w:=n) (by omega) ho hql)).2
    have h2:=ih (i+1) (addR m f o q) (by omega) (by omega) hia
    refine Ev.succ h2 K fun k hk=>?_
    have hA':=hA k hk
    simp only at hA'
    rw [impl_Graph_solveColours.l1,if_pos (by omega),if_pos (by omega),if_pos (by omega),if_pos (by omega),rd_nat,hpl,if_pos (by omega),if_pos (by omega),rd_nat,hff,Bt.wrap_id (by omega) (by omega),rdL,hqq,hA',Option.bind_some,step1 (by omega)]
end off
theorem quiet_props {m:Int} (Mm:IsMod m) (T:Nat→Nat) (n:Nat):matOk m n (quietN m T n)=true∧(quietN m T n).length≤n∧∀ q ∈ quietN m T n,∃ c,q.getD c 0≠0:=by
  obtain ⟨g1,g2,g3,g4⟩:=quiet_full Mm T n
  refine ⟨g4,Nat.le_trans (Nat.le_of_eq g1) (quiet0_len _ _ _ _),fun q hq=>?_⟩
  obtain ⟨i,hi,rfl⟩:=List.mem_iff_getElem.1 hq
  have h:∃ c,((quietN m T n).getD i []).getD c 0≠0:=Dual.row (isMod_of Mm) g3 (i:=i) hi
  rw [List.getD_eq_getElem?_getD,List.getElem?_eq_getElem hi] at h
  exact h
/-! ### the whole -/
section whole
variable {m:Int} (Mm:IsMod m) {l:List Int} (G:Gr.Good l) (own:Bool)
/-- what both sides answer -/
def solveN (m:Int) (T:Nat→Nat) (n:Nat) (t:List Int):List Int × Bool:=
  let e:=elim m n 0 (tabM T n (neg m t)) [] 1
  if find e.1 n e.2.1.length< e.1.length then ([],false) else (outq m (quietN m T n) (oset e.1 n 0 e.2.1 (List.replicate n 0)),true)
theorem solve_facts {m:Int} (Mm:IsMod m) (T:Nat→Nat) (n:Nat) {t:List Int} (ht:t.length=n):
    let e:=elim m n 0 (tabM T n (neg m t)) [] 1
    (∀ p ∈ e.2.1,0≤p∧p< (n:Int))∧e.2.1.length≤n∧e.1.length=n∧matOk m (n+1) e.1=true:=by
  intro e
  have hm:=mod_small Mm
  obtain ⟨f1,f2,_⟩:=tab_facts Mm T n
  obtain ⟨g1,g2,_⟩:=tabM_facts Mm T n (more:=neg m t) (by rw [neg_len];exact ht) (neg_in hm.1 t)
  have hh:=(elim_more T n m (neg m t)).1
  rw [show e.2.1=(elim m n 0 (tab T n) [] 1).2.1 from by rw [hh]]
  exact ⟨f1,f2,g1,g2⟩
theorem addmore_ev {m:Int} {n:Nat} (hn:n≤16) (T:Nat→Nat) {t:List Int} (ht:t.length=n) (hin:InR m t) (hm:2≤m∧m≤7) (l:List Int) (own:Bool) {r:List Int × Bool}
    (h:Ev (fun k=>spec_clSolve.l0 k m t (n:Int) (tabM T n (neg m t)) (n:Int) (n:Int) l own) r):∀ (d i:Nat),i+d=n→
    Ev (fun k=>spec_clSolve.l0 k m t (n:Int) ((tabM T n (neg m t)).take i++(tab T n).drop i) (n:Int) (i:Int) l own) r:=by
  intro d
  induction d with
  |zero=>
    intro i hi
    obtain rfl:i=n:=by omega
    rw [List.take_of_length_le (by rw [tabM_len];exact Nat.le_refl _),List.drop_eq_nil_of_le (by rw [tab_len];exact Nat.le_refl _),List.append_nil]
    exact h
  |succ d ih=>
    intro i hi
    have hA:=tabM_len T n (neg m t)
    have hB:=tab_len T n
    have h1:((tabM T n (neg m t)).take i).length=i:=by rw [List.length_take];omega
    have e0:(tab T n).drop i=trow T n i::(tab T n).drop (i+1):=by
      rw [List.drop_eq_getElem_cons (by omega)]
      congr 1
      simp [tab]
    have e1:((tabM T n (neg m t)).take i++(tab T n).drop i).getD i []=trow T n i:=by
      rw [List.getD_eq_getElem?_getD,List.getElem?_append_right (by omega),h1,Nat.sub_self,e0];rfl
    have e2:((tabM T n (neg m t)).take i++(tab T n).drop i).set i (trow T n i++[(neg m t).getD i 0])=(tabM T n (neg m t)).take (i+1)++(tab T n).drop (i+1):=by
      rw [List.set_append_right _ _ (by omega),h1,Nat.sub_self,e0,List.set_cons_zero,List.take_succ_eq_append_getElem (by omega),List.append_assoc]
      congr 1
      simp [tabM]
    have hl2:((tabM T n (neg m t)).take i++(tab T n).drop i).length=n:=by rw [List.length_append,h1,List.length_drop];omega
    have hti:=getD_InR hin (i:=i) (by omega)
    refine Ev.succ (ih (i+1) (by omega)) 0 fun k _=>?_
    rw [spec_clSolve.l0,if_pos (by omega),if_pos (by omega),if_pos (by omega),if_pos (by omega),if_neg (by omega),rdL,e1,if_pos (by rw [trow_len];omega),rd_nat,Bt.wrap_id (by omega) (by omega),tmod_val (by omega),Int.toNat_natCast,← neg_get,e2,step1 (by omega)]
include Mm G
theorem spec_solve {t:List Int} (ht:t.length=l.length) (hin:InR m t):Ev (fun k=>spec_clSolve.f k l own m t) (solveN m (tg l own) l.length t):=by
  have hm:=mod_small Mm
  have hl:=G.2.1
  have hnl:=neg_len m t
  have hmok:=tabM_ok hm.1 (tg l own) l.length (more:=neg m t) (by omega) (neg_in hm.1 t)
  obtain ⟨K1,h1⟩:=clTable_ev G own
  obtain ⟨K2,h2⟩:=clSteps_ev Mm (n:=l.length+1) (w:=l.length+1) (by omega) (Nat.le_refl _) hmok (by rw [tabM_len];omega)
  have hsp:=elim_split m 1 l.length 0 (tabM (tg l own) l.length (neg m t)) [] 1
  obtain ⟨f1,f2,f3,f4⟩:=solve_facts Mm (tg l own) l.length ht
  obtain ⟨q1,q2,q3⟩:=quiet_props Mm (tg l own) l.length
  obtain ⟨K4,h4⟩:=spec_quiet G own Mm
  rw [hsp] at h2
  unfold solveN
  generalize he:elim m l.length 0 (tabM (tg l own) l.length (neg m t)) [] 1=e at*
  (try simp only [])
  rw [Nat.zero_add] at h2
  simp only [elim] at h2
  have hnin:(l.length:Int) ∉ e.2.1:=fun h=>by have:=f1 _ h;omega
  suffices h:Ev (fun k=>spec_clSolve.l0 k m t (l.length:Int) (tabM (tg l own) l.length (neg m t)) (l.length:Int) (l.length:Int) l own) (if find e.1 l.length e.2.1.length< e.1.length then ([],false) else (outq m (quietN m (tg l own) l.length) (oset e.1 l.length 0 e.2.1 (List.replicate l.length 0)),true)) by
    have h3:=addmore_ev hl (tg l own) ht hin hm l own h l.length 0 (by omega)
    obtain ⟨K3,h3⟩:=h3
    refine ⟨K1+K3,fun k hk=>?_⟩
    show spec_clSolve.f k l own m t=_
    have h1':=h1 k (by omega)
    have h3':=h3 k (by omega)
    simp only at h1' h3'
    unfold spec_clSolve.f
    rw [h1',Option.bind_some,tab_len]
    exact h3'
  by_cases hf:find e.1 l.length e.2.1.length< e.1.length
  · rw [if_pos hf] at h2 ⊢
    have hh:=has_ev (l.length:Int) (e.2.1++[(l.length:Int)]) (by simp;omega)
    obtain ⟨K3,h3⟩:=hh
    simp only at h3
    refine Ev.konst (K2+K3+1) fun k hk=>?_
    obtain ⟨k,rfl⟩:∃ m,k=m+1:=⟨k - 1,by omega⟩
    have h2':=h2 k (by omega)
    (try simp only at h2')
    rw [spec_clSolve.l0,if_neg (by omega),Bt.wrap_id (by omega) (by omega),show ((l.length:Int)+1)=((l.length+1:Nat):Int) from by omega,h2',Option.bind_some]
    unfold cut
    (try simp only [])
    rw [h3 k (by omega),Option.bind_some,if_pos (by simp)]
  · rw [if_neg hf] at h2 ⊢
    have hh:=has_ev (l.length:Int) e.2.1 (by omega)
    obtain ⟨K3,h3⟩:=hh
    simp only at h3
    have hpl100:e.2.1.length≤100:=by omega
    have hat:∀ i,0≤at2 e.1 i l.length∧at2 e.1 i l.length< m:=fun i=>at2_in (by omega) f4 i l.length
    have hoff:=spec_off Mm hl q1 (by omega) q3 (quietN m (tg l own) l.length).length 0 (oset e.1 l.length 0 e.2.1 (List.replicate l.length 0)) (by omega) (by rw [oset_len];simp) (oset_in hat _ _ _ (zeros_InR hm.1 _))
    have hset:∀ (d i:Nat) (o:List Int),i+d=e.2.1.length→o.length=l.length→oset e.1 l.length i (e.2.1.drop i) o=oset e.1 l.length 0 e.2.1 (List.replicate l.length 0)→
        Ev (fun k=>spec_clSolve.l1 k m (l.length:Int) (e.1.take e.2.1.length) o e.2.1 (e.2.1.length:Int) (i:Int) l own) (outq m (quietN m (tg l own) l.length) (oset e.1 l.length 0 e.2.1 (List.replicate l.length 0)),true):=by
      intro d
      induction d with
      |zero=>
        intro i o hi ho heq
        rw [List.drop_eq_nil_of_le (by omega)] at heq
        have heq2:o=_:=heq
        refine Ev.succ hoff K4 fun k hk=>?_
        have h4':=h4 k hk
        simp only at h4'
        rw [spec_clSolve.l1,if_neg (by omega),h4',Option.bind_some,heq2]
        rfl
      |succ d ih=>
        intro i o hi ho heq
        have hp:=f1 _ (getD_mem' (l:=e.2.1) (i:=i) (by omega))
        have hlen:=len_at f4 (i:=i) (by omega)
        rw [drop_at (by omega),oset] at heq
        refine Ev.succ (ih (i+1) _ (by omega) (by rw [List.length_set];exact ho) heq) 0 fun k _=>?_
        have hat':(e.1.getD i []).getD l.length 0=at2 e.1 i l.length:=rfl
        rw [spec_clSolve.l1,if_pos (by omega),if_pos (by omega),if_pos (by omega),if_pos (by rw [List.length_take];omega),if_pos (by omega),rdL,getD_takeL (by omega),if_pos (by omega),rd_nat,rd_nat,if_pos (by omega),if_pos (by omega),hat',step1 (by omega)]
    have hset0:=hset e.2.1.length 0 (List.replicate l.length 0) (by omega) (by simp) rfl
    refine Ev.succ hset0 (K2+K3) fun k hk=>?_
    have h2':=h2 k (by omega)
    (try simp only at h2')
    rw [spec_clSolve.l0,if_neg (by omega),Bt.wrap_id (by omega) (by omega),show ((l.length:Int)+1)=((l.length+1:Nat):Int) from by omega,h2',Option.bind_some]
    unfold cut
    (try simp only [])
    rw [h3 k (by omega),Option.bind_some,if_neg (by simpa using hnin),if_pos (by omega),if_pos (by omega),Int.toNat_natCast]
    rfl
theorem impl_solve {t:List Int} (ht:t.length=l.length) (hin:InR m t):Ev (fun k=>impl_Graph_solveColours.f k l own m t) (solveN m (tg l own) l.length t):=by
  have hm:=mod_small Mm
  have hl:=G.2.1
  have hnl:=neg_len m t
  obtain ⟨K1,h1⟩:=scaled_ev Mm (u:=-1) (by omega) t (by omega) (fun x hx=>by have:=hin x hx;omega)
  obtain ⟨K2,h2⟩:=impl_solved G own Mm (neg m t) (by omega) (neg_in hm.1 t)
  obtain ⟨f1,f2,f3,f4⟩:=solve_facts Mm (tg l own) l.length ht
  obtain ⟨q1,q2,q3⟩:=quiet_props Mm (tg l own) l.length
  obtain ⟨K4,h4⟩:=impl_quiet G own Mm
  obtain ⟨K5,h5⟩:=firsts_ev _ (by omega) q3
  unfold solveN
  generalize he:elim m l.length 0 (tabM (tg l own) l.length (neg m t)) [] 1=e at*
  (try simp only [])
  have hat:∀ i,0≤at2 e.1 i l.length∧at2 e.1 i l.length< m:=fun i=>at2_in (by omega) f4 i l.length
  have hoff:=impl_off Mm hl q1 (by omega) q3 (quietN m (tg l own) l.length).length 0 (oset e.1 l.length 0 e.2.1 (List.replicate l.length 0)) (by omega) (by rw [oset_len];simp) (oset_in hat _ _ _ (zeros_InR hm.1 _))
  have hfin:Ev (fun k=>impl_Graph_solveColours.l0 k m (l.length:Int) (oset e.1 l.length 0 e.2.1 (List.replicate l.length 0)) e.1 (e.1.length:Int) (e.1.length:Int) l own e.1 e.2.1 e.2.2) (outq m (quietN m (tg l own) l.length) (oset e.1 l.length 0 e.2.1 (List.replicate l.length 0)),true):=by
    refine Ev.succ hoff (K4+K5) fun k hk=>?_
    have h4':=h4 k (by omega)
    have h5':=h5 k (by omega)
    simp only at h4' h5'
    rw [impl_Graph_solveColours.l0,if_neg (by omega),h4',Option.bind_some,h5',Option.bind_some]
    rfl
  have htail:∀ (d i:Nat),i+d=e.1.length→e.2.1.length≤i→find e.1 l.length i=find e.1 l.length e.2.1.length→Ev (fun k=>impl_Graph_solveColours.l0 k m (l.length:Int) (oset e.1 l.length 0 e.2.1 (List.replicate l.length 0)) e.1 (e.1.length:Int) (i:Int) l own e.1 e.2.1 e.2.2) (if find e.1 l.length e.2.1.length< e.1.length then ([],false) else (outq m (quietN m (tg l own) l.length) (oset e.1 l.length 0 e.2.1 (List.replicate l.length 0)),true)):=by
    intro d
    induction d with
    |zero=>
      intro i hi hge hfe
      obtain rfl:i=e.1.length:=by omega
      rw [find_end (Nat.le_refl _)] at hfe
      rw [← hfe,if_neg (by omega)]
      exact hfin
    |succ d ih=>
      intro i hi hge hfe
      have hlen:=len_at f4 (i:=i) (by omega)
      have hat':(e.1.getD i []).getD l.length 0=at2 e.1 i l.length:=rfl
      by_cases hz:at2 e.1 i l.length=0
      · rw [find_next (by omega) hz] at hfe
        refine Ev.succ (ih (i+1) (by omega) (by omega) hfe) 0 fun k _=>?_
        rw [impl_Graph_solveColours.l0,if_pos (by omega),if_pos (by omega),if_pos (by omega),if_neg (by omega),if_pos (by omega),rdL,if_pos (by omega),rd_nat,hat',if_pos hz,step1 (by omega)]
      · rw [find_here (by omega) hz] at hfe
        rw [← hfe,if_pos (by omega)]
        refine Ev.konst 1 fun k hk=>?_
        obtain ⟨k,rfl⟩:∃ m,k=m+1:=⟨k - 1,by omega⟩
        rw [impl_Graph_solveColours.l0,if_pos (by omega),if_pos (by omega),if_pos (by omega),if_neg (by omega),if_pos (by omega),rdL,if_pos (by omega),rd_nat,hat',if_neg hz]
  have hset:∀ (d i:Nat) (o:List Int),i+d=e.2.1.length→o.length=l.length→oset e.1 l.length i (e.2.1.drop i) o=oset e.1 l.length 0 e.2.1 (List.replicate l.length 0)→
      Ev (fun k=>impl_Graph_solveColours.l0 k m (l.length:Int) o e.1 (e.1.length:Int) (i:Int) l own e.1 e.2.1 e.2.2) (if find e.1 l.length e.2.1.length< e.1.length then ([],false) else (outq m (quietN m (tg l own) l.length) (oset e.1 l.length 0 e.2.1 (List.replicate l.length 0)),true)):=by
    intro d
    induction d with
    |zero=>
      intro i o hi ho heq
      rw [List.drop_eq_nil_of_le (by omega)] at heq
      have heq2:o=_:=heq
      rw [heq2]
      obtain rfl:i=e.2.1.length:=by omega
      exact htail (e.1.length - e.2.1.length) e.2.1.length (by omega) (Nat.le_refl _) rfl
    |succ d ih=>
      intro i o hi ho heq
      have hp:=f1 _ (getD_mem' (l:=e.2.1) (i:=i) (by omega))
      have hlen:=len_at f4 (i:=i) (by omega)
      rw [drop_at (by omega),oset] at heq
      refine Ev.succ (ih (i+1) _ (by omega) (by rw [List.length_set];exact ho) heq) 0 fun k _=>?_
      have hat':(e.1.getD i []).getD l.length 0=at2 e.1 i l.length:=rfl
      rw [impl_Graph_solveColours.l0,if_pos (by omega),if_pos (by omega),if_pos (by omega),if_pos (by omega),if_pos (by omega),rdL,if_pos (by omega),rd_nat,rd_nat,if_pos (by omega),if_pos (by omega),hat',step1 (by omega)]
  obtain ⟨K3,h3⟩:=hset e.2.1.length 0 (List.replicate l.length 0) (by omega) (by simp) rfl
  refine ⟨K1+K2+K3,fun k hk=>?_⟩
  show impl_Graph_solveColours.f k l own m t=_
  have h1':=h1 k (by omega)
  have h2':=h2 k (by omega)
  have h3':=h3 k (by omega)
  simp only at h1' h2' h3'
  unfold impl_Graph_solveColours.f
  rw [h1',Option.bind_some]
  unfold neg at h2'
  rw [h2',Option.bind_some,if_pos (by omega),if_pos (by omega),Int.toNat_natCast]
  exact h3'
end whole
theorem solveN_len {m:Int} (Mm:IsMod m) (T:Nat→Nat) {n:Nat} (hn:n≤16) {t:List Int} (ht:t.length=n):(solveN m T n t).1.length≤16:=by
  have hm:=mod_small Mm
  obtain ⟨q1,q2,q3⟩:=quiet_props Mm T n
  have hq:∀ (Q:List (List Int)) (o:List Int),o.length=n→(∀ q ∈ Q,q.length=n)→(outq m Q o).length=n:=by
    intro Q
    induction Q with
    |nil=>intro o ho _;exact ho
    |cons q Q ih=>
      intro o ho hQ
      rw [outq]
      refine ih _ ?_ (fun x hx=>hQ x (List.mem_cons_of_mem _ hx))
      simp only [addR,List.length_zipWith]
      have:=hQ q List.mem_cons_self
      omega
  unfold solveN
  (try simp only [])
  split
  · simp
  · simp only []
    rw [hq _ _ (by rw [oset_len];simp) (fun q hq=>(rowOk_iff.1 (matOk_iff.1 q1 q hq)).1)]
    exact hn
end Go.Proofs.Ytbbdjoahdbjljaa.Ef
