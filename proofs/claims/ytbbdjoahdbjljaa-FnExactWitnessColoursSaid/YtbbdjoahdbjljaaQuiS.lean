/- The table of toggles and the quiet lists, on both sides. -/
import Derived.Test.YtbbdjoahdbjljaaElimF
import Derived.Test.YtbbdjoahdbjljaaPx1
import Derived.Test.YtbbdjoahdbjljaaPx17
import Derived.Test.YtbbdjoahdbjljaaPx19
import Derived.Test.YtbbdjoahdbjljaaPx22
import Derived.Test.YtbbdjoahdbjljaaPx23
import Derived.Test.YtbbdjoahdbjljaaPx25
import Derived.Test.YtbbdjoahdbjljaaPx27
namespace Go.Proofs.Ytbbdjoahdbjljaa.Ef
open Go.RowKit Go.Proofs.Ytbbdjoahdbjljaa.P Go.Proofs.Ytbbdjoahdbjljaa.Bt Go.Proofs.Ytbbdjoahdbjljaa.Lw Go.Proofs.Ytbbdjoahdbjljaa.Gr Go.Proofs.Ytbbdjoahdbjljaa.Co Go.Proofs.Ytbbdjoahdbjljaa.El Go.Proofs.YtbbdjoahdbjljaaW.PrintWords Go.Proofs.YtbbdjoahdbjljaaW.PrintLast Go.Proofs.YtbbdjoahdbjljaaW.PrintMore
set_option linter.unusedVariables false
set_option linter.unusedSimpArgs false
def tb (T:Nat→Nat) (i j:Nat):Int:=if (T j).testBit i=true then 1 else 0
def trow (T:Nat→Nat) (n i:Nat):List Int:=(List.range n).map (tb T i)
def tab (T:Nat→Nat) (n:Nat):List (List Int):=(List.range n).map (trow T n)
def tabM (T:Nat→Nat) (n:Nat) (more:List Int):List (List Int):=(List.range n).map fun i=>trow T n i++[more.getD i 0]
theorem range_snoc {α:Type} (f:Nat→α) (j:Nat):(List.range (j+1)).map f=(List.range j).map f++[f j]:=by simp [List.range_succ]
theorem map_range_len {α:Type} (f:Nat→α) (j:Nat):((List.range j).map f).length=j:=by simp
theorem bit_one {t i:Nat} (ht:t< 9223372036854775808):Go.bits .and .i64 (shr .i64 (t:Int) (i:Int)) 1=if t.testBit i=true then (1:Int) else 0:=by
  have h1:t>>>i< 9223372036854775808:=by rw [Nat.shiftRight_eq_div_pow];exact Nat.lt_of_le_of_lt (Nat.div_le_self _ _) ht
  rw [shr_nat ht,show (1:Int)=((1:Nat):Int) from rfl,bits_and h1 (by omega)]
  simp only [Nat.testBit,Nat.and_comm]
  rw [Nat.and_one_is_mod]
  rcases Nat.mod_two_eq_zero_or_one (t>>>i) with h|h<;>rw [h]<;>rfl
theorem toggleRows_ev {l:List Int} (G:Gr.Good l) (own:Bool) (more:List Int) (hm:more.length=l.length):Ev (fun k=>impl_Graph_toggleRows.f k l own more) (tabM (tg l own) l.length more):=by
  have hl:=G.2.1
  have outer:∀ (d i:Nat),i+d=l.length→Ev (fun k=>impl_Graph_toggleRows.l0 k more ((List.range i).map fun i=>trow (tg l own) l.length i++[more.getD i 0]) (l.length:Int) (i:Int) l own) (tabM (tg l own) l.length more):=by
    intro d
    induction d with
    |zero=>
      intro i hi
      refine Ev.konst 1 fun k hk=>?_
      obtain ⟨k,rfl⟩:∃ m,k=m+1:=⟨k - 1,by omega⟩
      obtain rfl:i=l.length:=by omega
      rw [impl_Graph_toggleRows.l0,if_neg (by omega)];rfl
    |succ d ih=>
      intro i hi
      have inner:∀ (e j:Nat),j+e=l.length→Ev (fun k=>impl_Graph_toggleRows.l1 k more ((List.range i).map fun i=>trow (tg l own) l.length i++[more.getD i 0]) (i:Int) ((List.range j).map (tb (tg l own) i)) (l.length:Int) (i:Int) (l.length:Int) (j:Int) l own) (tabM (tg l own) l.length more):=by
        intro e
        induction e with
        |zero=>
          intro j hj
          obtain rfl:j=l.length:=by omega
          have h:=ih (i+1) (by omega)
          rw [range_snoc] at h
          refine Ev.succ h 0 fun k _=>?_
          rw [impl_Graph_toggleRows.l1,if_neg (by omega),if_pos (by omega),if_pos (by omega),if_pos (by rw [map_range_len];omega),if_pos (by rw [map_range_len];omega),rd_nat,step1 (by omega)]
          rfl
        |succ e ihe=>
          intro j hj
          have h:=ihe (j+1) (by omega)
          rw [range_snoc] at h
          refine Ev.succ h 0 fun k _=>?_
          have ht:=tg_small G own (i:=j) (by omega)
          rw [impl_Graph_toggleRows.l1,if_pos (by omega),(toggles_at G own (i:=j) (by omega)).2,Option.bind_some,if_pos (by omega),if_pos (by rw [map_range_len];omega),bit_one (by omega),step1 (by omega)]
          rfl
      refine Ev.succ (inner l.length 0 (by omega)) 0 fun k _=>?_
      rw [impl_Graph_toggleRows.l0,if_pos (by omega)]
      rfl
  exact outer l.length 0 (by omega)
theorem clTable_ev {l:List Int} (G:Gr.Good l) (own:Bool):Ev (fun k=>spec_clTable.f k l own) (tab (tg l own) l.length):=by
  have hl:=G.2.1
  have outer:∀ (d i:Nat),i+d=l.length→Ev (fun k=>spec_clTable.l0 k ((List.range i).map (trow (tg l own) l.length)) (l.length:Int) (i:Int) l own) (tab (tg l own) l.length):=by
    intro d
    induction d with
    |zero=>
      intro i hi
      refine Ev.konst 1 fun k hk=>?_
      obtain ⟨k,rfl⟩:∃ m,k=m+1:=⟨k - 1,by omega⟩
      obtain rfl:i=l.length:=by omega
      rw [spec_clTable.l0,if_neg (by omega)];rfl
    |succ d ih=>
      intro i hi
      have inner:∀ (e j:Nat),j+e=l.length→Ev (fun k=>spec_clTable.l1 k ((List.range i).map (trow (tg l own) l.length)) (i:Int) ((List.range j).map (tb (tg l own) i)) (l.length:Int) (i:Int) (l.length:Int) (j:Int) l own) (tab (tg l own) l.length):=by
        intro e
        induction e with
        |zero=>
          intro j hj
          obtain rfl:j=l.length:=by omega
          have h:=ih (i+1) (by omega)
          rw [range_snoc] at h
          refine Ev.succ h 0 fun k _=>?_
          rw [spec_clTable.l1,if_neg (by omega),if_pos (by rw [map_range_len];omega),step1 (by omega)]
          rfl
        |succ e ihe=>
          intro j hj
          have h:=ihe (j+1) (by omega)
          rw [range_snoc] at h
          refine Ev.succ h 0 fun k _=>?_
          have ht:=tg_small G own (i:=j) (by omega)
          rw [spec_clTable.l1,if_pos (by omega),(toggles_at G own (i:=j) (by omega)).1,Option.bind_some,grIn_nat _ i (by omega),Option.bind_some,step1 (by omega)]
          by_cases c:(tg l own j).testBit i=true
          · rw [if_pos c,if_pos (by rw [map_range_len];omega),show tb (tg l own) i j=1 by unfold tb;rw [if_pos c]]
          · rw [if_neg c,if_pos (by rw [map_range_len];omega),show tb (tg l own) i j=0 by unfold tb;rw [if_neg c]]
      refine Ev.succ (inner l.length 0 (by omega)) 0 fun k _=>?_
      rw [spec_clTable.l0,if_pos (by omega)]
      rfl
  exact outer l.length 0 (by omega)
theorem trow_len (T:Nat→Nat) (n i:Nat):(trow T n i).length=n:=by simp [trow]
theorem trow_ok {m:Int} (hm:2≤m) (T:Nat→Nat) (n i:Nat):∀ x ∈ trow T n i,0≤x∧x< m:=by
  intro x hx
  simp only [trow,List.mem_map] at hx
  obtain ⟨j,_,rfl⟩:=hx
  unfold tb
  split<;>omega
theorem tab_ok {m:Int} (hm:2≤m) (T:Nat→Nat) (n:Nat):matOk m n (tab T n)=true:=by
  rw [matOk_iff]
  intro r hr
  simp only [tab,List.mem_map] at hr
  obtain ⟨i,_,rfl⟩:=hr
  exact rowOk_iff.2 ⟨trow_len _ _ _,trow_ok hm _ _ _⟩
theorem tabM_ok {m:Int} (hm:2≤m) (T:Nat→Nat) (n:Nat) {more:List Int} (hl:more.length=n) (hin:InR m more):matOk m (n+1) (tabM T n more)=true:=by
  rw [matOk_iff]
  intro r hr
  simp only [tabM,List.mem_map,List.mem_range] at hr
  obtain ⟨i,hi,rfl⟩:=hr
  refine rowOk_iff.2 ⟨by simp [trow_len],fun x hx=>?_⟩
  rcases List.mem_append.1 hx with hx|hx
  · exact trow_ok hm _ _ _ x hx
  · rw [List.mem_singleton.1 hx]
    exact getD_InR hin (by omega)
theorem tab_len (T:Nat→Nat) (n:Nat):(tab T n).length=n:=by simp [tab]
theorem tabM_len (T:Nat→Nat) (n:Nat) (more:List Int):(tabM T n more).length=n:=by simp [tabM]
theorem tabM_take (T:Nat→Nat) (n:Nat) (more:List Int):(tabM T n more).map (List.take n)=tab T n:=by
  simp only [tabM,tab,List.map_map]
  apply List.map_congr_left
  intro i _
  simp only [Function.comp]
  rw [List.take_append_of_le_length (by rw [trow_len];exact Nat.le_refl _),List.take_of_length_le (by rw [trow_len];exact Nat.le_refl _)]
/-- what the elimination of the table and of the table with one number more have in common -/
theorem elim_more (T:Nat→Nat) (n:Nat) (m:Int) (more:List Int):
    (elim m n 0 (tab T n) [] 1).2=(elim m n 0 (tabM T n more) [] 1).2∧(elim m n 0 (tab T n) [] 1).1=(elim m n 0 (tabM T n more) [] 1).1.map (List.take n):=by
  have h:=elim_take (n:=n) m n 0 (tabM T n more) [] 1 (by omega)
  rw [tabM_take] at h
  rw [h]
  exact ⟨rfl,rfl⟩
/-! ### quiet lists -/
def qset (m:Int) (R:List (List Int)) (c:Nat):Nat→List Int→List Int→List Int
  |_,[],l=>l
  |k,p::ps,l=>qset m R c (k+1) ps (l.set p.toNat ((m - at2 R k c) % m))
def qrow (m:Int) (R:List (List Int)) (pl:List Int) (n c:Nat):List Int:=qset m R c 0 pl ((List.replicate n 0).set c 1)
def frees (pl:List Int) (n:Nat):List Nat:=(List.range n).filter fun c=>!pl.contains (c:Int)
def quiet0 (m:Int) (R:List (List Int)) (pl:List Int) (n:Nat):List (List Int):=(frees pl n).map (qrow m R pl n)
theorem qset_len (m:Int) (R:List (List Int)) (c:Nat):∀ (pl:List Int) (k:Nat) (l:List Int),(qset m R c k pl l).length=l.length
  |[],_,_=>rfl
  |p::ps,k,l=>by rw [qset,qset_len m R c ps,List.length_set]
theorem qset_in {m:Int} (hm:0< m) (R:List (List Int)) (c:Nat):∀ (pl:List Int) (k:Nat) (l:List Int),InR m l→InR m (qset m R c k pl l)
  |[],_,_,h=>h
  |p::ps,k,l,h=>qset_in hm R c ps (k+1) _ (set_InR h ⟨Int.emod_nonneg _ (by omega),Int.emod_lt_of_pos _ hm⟩)
theorem getD_set_other {l:List Int} {i j:Nat} {x:Int} (h:i≠j):(l.set i x).getD j 0=l.getD j 0:=by
  rw [List.getD_eq_getElem?_getD,List.getD_eq_getElem?_getD,List.getElem?_set_ne h]
theorem getD_set_same {l:List Int} {i:Nat} {x:Int} (h:i< l.length):(l.set i x).getD i 0=x:=by
  rw [List.getD_eq_getElem?_getD,List.getElem?_set_self h];rfl
theorem qset_get (m:Int) (R:List (List Int)) (c f:Nat):∀ (pl:List Int) (k:Nat) (l:List Int),(∀ p ∈ pl,p.toNat≠f)→(qset m R c k pl l).getD f 0=l.getD f 0
  |[],_,_,_=>rfl
  |p::ps,k,l,h=>by
    rw [qset,qset_get m R c f ps (k+1) _ (fun q hq=>h q (List.mem_cons_of_mem _ hq)),getD_set_other (h p (List.mem_cons_self))]
theorem frees_mem {pl:List Int} {n c:Nat}:c ∈ frees pl n↔c< n∧(c:Int) ∉ pl:=by
  simp [frees]
theorem qrow_len (m:Int) (R:List (List Int)) (pl:List Int) (n c:Nat):(qrow m R pl n c).length=n:=by
  rw [qrow,qset_len];simp
theorem qrow_at {m:Int} {R:List (List Int)} {pl:List Int} {n c f:Nat} (hpl:∀ p ∈ pl,0≤p) (hc:c ∈ frees pl n) (hf:f ∈ frees pl n):(qrow m R pl n c).getD f 0=if f=c then 1 else 0:=by
  have hc:=frees_mem.1 hc
  have hf:=frees_mem.1 hf
  rw [qrow,qset_get _ _ _ _ _ _ _ (fun p hp e=>hf.2 (by have:=hpl p hp;rw [show (f:Int)=p by omega];exact hp))]
  by_cases h:f=c
  · subst h
    rw [if_pos rfl,getD_set_same (by simp;omega)]
  · rw [if_neg h,getD_set_other (Ne.symm h),List.getD_eq_getElem?_getD,List.getElem?_replicate]
    split<;>rfl
theorem qrow_in {m:Int} (hm:2≤m) (R:List (List Int)) (pl:List Int) (n c:Nat):InR m (qrow m R pl n c):=
  qset_in (by omega) _ _ _ _ _ (set_InR (zeros_InR hm n) (by omega))
theorem quiet0_ok {m:Int} (hm:2≤m) (R:List (List Int)) (pl:List Int) (n:Nat):matOk m n (quiet0 m R pl n)=true:=by
  rw [matOk_iff]
  intro r hr
  simp only [quiet0,List.mem_map] at hr
  obtain ⟨c,_,rfl⟩:=hr
  exact rowOk_iff.2 ⟨qrow_len _ _ _ _ _,qrow_in hm _ _ _ _⟩
theorem frees_nodup (pl:List Int) (n:Nat):(frees pl n).Nodup:=List.Nodup.sublist List.filter_sublist List.nodup_range
theorem quiet0_dual {m:Int} (R:List (List Int)) {pl:List Int} (n:Nat) (hpl:∀ p ∈ pl,0≤p):Dual m (quiet0 m R pl n):=by
  refine ⟨fun j c=>if c=(frees pl n).getD j 0 then 1 else 0,fun i j hi hj=>⟨0,?_⟩⟩
  simp only [quiet0,List.length_map] at hi hj
  have e1:(quiet0 m R pl n).getD i []=qrow m R pl n ((frees pl n)[i]):=by
    rw [List.getD_eq_getElem?_getD,quiet0,List.getElem?_map,List.getElem?_eq_getElem hi];rfl
  have e2:(frees pl n).getD j 0=(frees pl n)[j]:=by rw [List.getD_eq_getElem?_getD,List.getElem?_eq_getElem hj];rfl
  simp only []
  rw [e1,e2,dot_unit,qrow_at hpl (List.getElem_mem hi) (List.getElem_mem hj),Int.mul_zero,Int.add_zero]
  unfold delta
  by_cases h:i=j
  · subst h;rw [if_pos rfl,if_pos rfl]
  · rw [if_neg h,if_neg]
    intro e
    have hp:=List.pairwise_iff_getElem.1 (frees_nodup pl n)
    rcases Nat.lt_or_gt_of_ne h with h|h
    · exact hp i j hi hj h e.symm
    · exact hp j i hj hi h e
/-- the quiet lists of a graph, in steps -/
def quietN (m:Int) (T:Nat→Nat) (n:Nat):List (List Int):=
  let e:=elim m n 0 (tab T n) [] 1
  (elim m n 0 (quiet0 m e.1 e.2.1 n) [] 1).1
theorem qset_congr {m:Int} {R S:List (List Int)} {c:Nat}:∀ (pl:List Int) (k:Nat) (l:List Int),(∀ i,i< k+pl.length→at2 R i c=at2 S i c)→qset m R c k pl l=qset m S c k pl l
  |[],_,_,_=>rfl
  |p::ps,k,l,h=>by
    rw [qset,qset,h k (by simp),qset_congr ps (k+1) _ (fun i hi=>h i (by rw [List.length_cons];omega))]
/-! ### the loops that lay quiet lists -/
theorem has_l0 (x:Int) (pl:List Int) (hl:pl.length≤900):∀ (d i:Nat),i+d=pl.length→Ev (fun k=>spec_l1Has.l0 k x pl (pl.length:Int) (i:Int)) (decide (x ∈ pl.drop i)):=by
  intro d
  induction d with
  |zero=>
    intro i hi
    refine Ev.konst 1 fun k hk=>?_
    obtain ⟨k,rfl⟩:∃ m,k=m+1:=⟨k - 1,by omega⟩
    rw [spec_l1Has.l0,if_neg (by omega),List.drop_eq_nil_of_le (by omega)];rfl
  |succ d ih=>
    intro i hi
    by_cases h:pl.getD i 0=x
    · refine Ev.konst 1 fun k hk=>?_
      obtain ⟨k,rfl⟩:∃ m,k=m+1:=⟨k - 1,by omega⟩
      rw [spec_l1Has.l0,if_pos (by omega),if_pos (by omega),if_pos (by omega),rd_nat,if_pos h,drop_at (by omega),h];simp
    · have e:decide (x ∈ pl.drop i)=decide (x ∈ pl.drop (i+1)):=by
        rw [drop_at (by omega)]
        simp only [List.mem_cons,show ¬ x=pl.getD i 0 from fun e=>h e.symm,false_or]
      rw [e]
      refine Ev.succ (ih (i+1) (by omega)) 0 fun k _=>?_
      rw [spec_l1Has.l0,if_pos (by omega),if_pos (by omega),if_pos (by omega),rd_nat,if_neg h,step1 (by omega)]
theorem has_ev (x:Int) (pl:List Int) (hl:pl.length≤900):Ev (fun k=>spec_l1Has.f k pl x) (decide (x ∈ pl)):=has_l0 x pl hl pl.length 0 (by omega)
theorem index_l0 (x:Int) (pl:List Int) (hl:pl.length≤900):∀ (d i:Nat),i+d=pl.length→∃ r:Int,Ev (fun k=>slices_Index_int_int.l0 k pl x (pl.length:Int) (i:Int)) r∧(r≥0↔x ∈ pl.drop i):=by
  intro d
  induction d with
  |zero=>
    intro i hi
    refine ⟨-1,Ev.konst 1 fun k hk=>?_,?_⟩
    · obtain ⟨k,rfl⟩:∃ m,k=m+1:=⟨k - 1,by omega⟩
      rw [slices_Index_int_int.l0,if_neg (by omega)]
    · rw [List.drop_eq_nil_of_le (by omega)];simp
  |succ d ih=>
    intro i hi
    by_cases h:x=pl.getD i 0
    · refine ⟨(i:Int),Ev.konst 1 fun k hk=>?_,?_⟩
      · obtain ⟨k,rfl⟩:∃ m,k=m+1:=⟨k - 1,by omega⟩
        rw [slices_Index_int_int.l0,if_pos (by omega),if_pos (by omega),if_pos (by omega),rd_nat,if_pos h]
      · rw [drop_at (by omega),← h];simp
    · obtain ⟨r,h1,h2⟩:=ih (i+1) (by omega)
      refine ⟨r,Ev.succ h1 0 fun k _=>?_,?_⟩
      · rw [slices_Index_int_int.l0,if_pos (by omega),if_pos (by omega),if_pos (by omega),rd_nat,if_neg h,step1 (by omega)]
      · rw [h2,drop_at (i:=i) (by omega),List.mem_cons]
        exact ⟨.inr,fun z=>z.elim (fun e=>absurd e h) id⟩
theorem contains_ev (x:Int) (pl:List Int) (hl:pl.length≤900):Ev (fun k=>slices_Contains_int_int.f k pl x) (decide (x ∈ pl)):=by
  obtain ⟨r,⟨K,h1⟩,h2⟩:=index_l0 x pl hl pl.length 0 (by omega)
  refine ⟨K,fun k hk=>?_⟩
  show slices_Contains_int_int.f k pl x=_
  unfold slices_Contains_int_int.f slices_Index_int_int.f
  have h3:=h1 k hk
  simp only at h3
  rw [show ((0:Nat):Int)=0 from rfl] at h3
  rw [h3,Option.bind_some,decide_eq_decide.2 h2]
  rfl
section laid
variable {m:Int} {n:Nat} {R:List (List Int)} {pl:List Int} (Mm:IsMod m) (hn:n≤16) (hR:R.length≤100) (hRc:∀ i,i< pl.length→i< R.length∧n≤(R.getD i []).length∧∀ c,c< n→0≤at2 R i c∧at2 R i c< m) (hpl:∀ p ∈ pl,0≤p∧p< (n:Int)) (hpn:pl.length≤100)
include Mm hn hR hRc hpl hpn
omit hpn in
theorem spec_lay {c:Nat} {Q:List (List Int)} {r:List (List Int)} (hc:c< n) (hQ:Q.length≤100):∀ (d i:Nat) (cur:List Int),i+d=pl.length→cur.length=n→
    Ev (fun k=>spec_clQuiet.l0 k m (n:Int) R pl (Q++[qset m R c i (pl.drop i) cur]) ((c+1:Nat):Int)) r→
    Ev (fun k=>spec_clQuiet.l1 k m (n:Int) R pl Q (c:Int) cur pl (pl.length:Int) (i:Int)) r:=by
  have hm:=mod_small Mm
  intro d
  induction d with
  |zero=>
    intro i cur hi hcl h
    rw [List.drop_eq_nil_of_le (by omega)] at h
    refine Ev.succ h 0 fun k _=>?_
    rw [spec_clQuiet.l1,if_neg (by omega),if_pos (by omega),step1 (by omega)]
    rfl
  |succ d ih=>
    intro i cur hi hcl h
    obtain ⟨h1,h2,h3⟩:=hRc i (by omega)
    have h4:=h3 c hc
    have hp:=hpl _ (getD_mem' (l:=pl) (i:=i) (by omega))
    rw [drop_at (by omega),qset] at h
    have h5:=ih (i+1) (cur.set (pl.getD i 0).toNat ((m - at2 R i c) % m)) (by omega) (by rw [List.length_set];exact hcl) h
    have hat:(R.getD i []).getD c 0=at2 R i c:=rfl
    refine Ev.succ h5 0 fun k _=>?_
    rw [spec_clQuiet.l1,if_pos (by omega),if_pos (by omega),if_pos (by omega),if_pos (by omega),if_pos (by omega),rdL,if_pos (by omega),if_neg (by omega),rd_nat,if_pos (by omega),if_pos (by omega),rd_nat,hat,Bt.wrap_id (by omega) (by omega),tmod_val (by omega),step1 (by omega)]
omit hpn in
theorem impl_lay {c:Nat} {det:Int} {Q:List (List Int)} {r:List (List Int)} (hc:c< n) (hQ:Q.length≤100):∀ (d i:Nat) (cur:List Int),i+d=pl.length→cur.length=n→
    Ev (fun k=>impl_Graph_quietColours.l0 k m (n:Int) (Q++[qset m R c i (pl.drop i) cur]) (n:Int) ((c+1:Nat):Int) R pl det) r→
    Ev (fun k=>impl_Graph_quietColours.l1 k m (n:Int) Q (c:Int) cur (n:Int) (c:Int) pl (pl.length:Int) (i:Int) R pl det) r:=by
  have hm:=mod_small Mm
  intro d
  induction d with
  |zero=>
    intro i cur hi hcl h
    rw [List.drop_eq_nil_of_le (by omega)] at h
    refine Ev.succ h 0 fun k _=>?_
    rw [impl_Graph_quietColours.l1,if_neg (by omega),if_pos (by omega),step1 (by omega)]
    rfl
  |succ d ih=>
    intro i cur hi hcl h
    obtain ⟨h1,h2,h3⟩:=hRc i (by omega)
    have h4:=h3 c hc
    have hp:=hpl _ (getD_mem' (l:=pl) (i:=i) (by omega))
    rw [drop_at (by omega),qset] at h
    have h5:=ih (i+1) (cur.set (pl.getD i 0).toNat ((m - at2 R i c) % m)) (by omega) (by rw [List.length_set];exact hcl) h
    have hat:(R.getD i []).getD c 0=at2 R i c:=rfl
    have hmm:-at2 R i c % m=(m - at2 R i c) % m:=by rw [show m - at2 R i c=-at2 R i c+m by omega,Int.add_emod_right]
    refine Ev.succ h5 0 fun k _=>?_
    rw [impl_Graph_quietColours.l1,if_pos (by omega),if_pos (by omega),if_pos (by omega),if_pos (by omega),if_pos (by omega),rdL,if_pos (by omega),rd_nat,hat,Bt.wrap_id (by omega) (by omega),mod_val hm.1 hm.2 (by omega) (by omega),Option.bind_some,rd_nat,if_pos (by omega),if_pos (by omega),hmm,step1 (by omega)]
def upTo (m:Int) (R:List (List Int)) (pl:List Int) (n c:Nat):List (List Int):=((List.range c).filter fun c:Nat=>!pl.contains (c:Int)).map (qrow m R pl n)
omit Mm hn hR hRc hpl hpn in
theorem upTo_in {c:Nat} (h:(c:Int) ∈ pl):upTo m R pl n (c+1)=upTo m R pl n c:=by
  unfold upTo
  rw [List.range_succ,List.filter_append]
  simp [h]
omit Mm hn hR hRc hpl hpn in
theorem upTo_out {c:Nat} (h:(c:Int) ∉ pl):upTo m R pl n (c+1)=upTo m R pl n c++[qrow m R pl n c]:=by
  unfold upTo
  rw [List.range_succ,List.filter_append,List.map_append]
  simp [h]
omit Mm hn hR hRc hpl hpn in
theorem upTo_len (c:Nat):(upTo m R pl n c).length≤c:=by
  unfold upTo
  rw [List.length_map]
  have:=List.length_filter_le (fun c:Nat=>!pl.contains (c:Int)) (List.range c)
  rw [List.length_range] at this
  exact this
theorem spec_laid {r:List (List Int)} (h:Ev (fun k=>(spec_clSteps.f k (quiet0 m R pl n) m (n:Int)).bind fun b=>some b.1) r):∀ (d c:Nat),c+d=n→Ev (fun k=>spec_clQuiet.l0 k m (n:Int) R pl (upTo m R pl n c) (c:Int)) r:=by
  intro d
  induction d with
  |zero=>
    intro c hc
    obtain rfl:c=n:=by omega
    refine Ev.succ h 0 fun k _=>?_
    rw [spec_clQuiet.l0,if_neg (by omega)]
    rfl
  |succ d ih=>
    intro c hc
    have hu:=upTo_len (m:=m) (R:=R) (pl:=pl) (n:=n) c
    obtain ⟨K,hh⟩:=has_ev (c:Int) pl (by omega)
    simp only at hh
    by_cases hin:(c:Int) ∈ pl
    · have h2:=ih (c+1) (by omega)
      rw [upTo_in hin] at h2
      refine Ev.succ h2 K fun k hk=>?_
      rw [spec_clQuiet.l0,if_pos (by omega),hh k hk,Option.bind_some,if_pos (by simpa using hin),step1 (by omega)]
    · have h2:=ih (c+1) (by omega)
      rw [upTo_out hin] at h2
      have h3:=spec_lay Mm hn hR hRc hpl (c:=c) (Q:=upTo m R pl n c) (r:=r) (by omega) (by omega) pl.length 0 ((List.replicate n 0).set c 1) (by omega) (by simp) h2
      refine Ev.succ h3 K fun k hk=>?_
      rw [spec_clQuiet.l0,if_pos (by omega),hh k hk,Option.bind_some,if_neg (by simpa using hin),if_pos (by omega),if_pos (by omega),Option.bind_some,Int.toNat_natCast,if_pos (by omega),if_pos (by rw [List.length_replicate];omega),Int.toNat_natCast]
      rfl
theorem impl_laid {det:Int} {r:List (List Int)} (h:Ev (fun k=>(pseudo_elimS.f k (quiet0 m R pl n) (n:Int) m).bind fun b=>some b.1) r):∀ (d c:Nat),c+d=n→Ev (fun k=>impl_Graph_quietColours.l0 k m (n:Int) (upTo m R pl n c) (n:Int) (c:Int) R pl det) r:=by
  intro d
  induction d with
  |zero=>
    intro c hc
    obtain rfl:c=n:=by omega
    refine Ev.succ h 0 fun k _=>?_
    rw [impl_Graph_quietColours.l0,if_neg (by omega)]
    rfl
  |succ d ih=>
    intro c hc
    have hu:=upTo_len (m:=m) (R:=R) (pl:=pl) (n:=n) c
    obtain ⟨K,hh⟩:=contains_ev (c:Int) pl (by omega)
    simp only at hh
    by_cases hin:(c:Int) ∈ pl
    · have h2:=ih (c+1) (by omega)
      rw [upTo_in hin] at h2
      refine Ev.succ h2 K fun k hk=>?_
      rw [impl_Graph_quietColours.l0,if_pos (by omega),hh k hk,Option.bind_some,if_pos (by simpa using hin),step1 (by omega)]
    · have h2:=ih (c+1) (by omega)
      rw [upTo_out hin] at h2
      have h3:=impl_lay Mm hn hR hRc hpl (c:=c) (det:=det) (Q:=upTo m R pl n c) (r:=r) (by omega) (by omega) pl.length 0 ((List.replicate n 0).set c 1) (by omega) (by simp) h2
      refine Ev.succ h3 K fun k hk=>?_
      rw [impl_Graph_quietColours.l0,if_pos (by omega),hh k hk,Option.bind_some,if_neg (by simpa using hin),if_pos (by omega),if_pos (by omega),Option.bind_some,Int.toNat_natCast,if_pos (by omega),if_pos (by rw [List.length_replicate];omega),Int.toNat_natCast]
      rfl
end laid
theorem qrow_congr {m:Int} {R S:List (List Int)} {pl:List Int} {n c:Nat} (h:∀ i,i< pl.length→at2 R i c=at2 S i c):qrow m R pl n c=qrow m S pl n c:=qset_congr pl 0 _ (fun i hi=>h i (by omega))
theorem quiet0_congr {m:Int} {R S:List (List Int)} {pl:List Int} {n:Nat} (h:∀ i,i< pl.length→∀ c,c< n→at2 R i c=at2 S i c):quiet0 m R pl n=quiet0 m S pl n:=by
  unfold quiet0
  apply List.map_congr_left
  intro c hc
  exact qrow_congr (fun i hi=>h i hi c (frees_mem.1 hc).1)
theorem getD_takeL {M:List (List Int)} {k i:Nat} (h:i< k):(M.take k).getD i []=M.getD i []:=by
  rw [List.getD_eq_getElem?_getD,List.getD_eq_getElem?_getD,List.getElem?_take_of_lt h]
theorem at2_takeL {M:List (List Int)} {k i:Nat} (h:i< k) (c:Nat):at2 (M.take k) i c=at2 M i c:=by unfold at2;rw [getD_takeL h]
/-- what is known of the table's elimination -/
theorem tab_facts {m:Int} (Mm:IsMod m) (T:Nat→Nat) (n:Nat):(∀ p ∈ (elim m n 0 (tab T n) [] 1).2.1,0≤p∧p< (n:Int))∧(elim m n 0 (tab T n) [] 1).2.1.length≤n∧(elim m n 0 (tab T n) [] 1).1.length=n∧matOk m n (elim m n 0 (tab T n) [] 1).1=true∧(elim m n 0 (tab T n) [] 1).2.1.Pairwise (·< ·):=by
  have hm:=mod_small Mm
  have h:=elim_places (m:=m) (w:=n) (by omega) n 0 (tab T n) [] 1 ⟨List.Pairwise.nil,by simp⟩ (by simp) (tab_ok hm.1 _ _) (by omega)
  rw [tab_len,Nat.zero_add] at h
  exact ⟨h.1.2,h.2.1,h.2.2.1,h.2.2.2.1,h.1.1⟩
theorem quiet_full {m:Int} (Mm:IsMod m) (T:Nat→Nat) (n:Nat):
    let e:=elim m n 0 (tab T n) [] 1
    let q:=elim m n 0 (quiet0 m e.1 e.2.1 n) [] 1
    q.1.length=(quiet0 m e.1 e.2.1 n).length∧q.2.1.length=(quiet0 m e.1 e.2.1 n).length∧Dual m q.1∧matOk m n q.1=true:=by
  intro e q
  have hm:=mod_small Mm
  obtain ⟨f1,f2,f3,f4,_⟩:=tab_facts Mm T n
  have hd:=quiet0_dual (m:=m) e.1 n (fun p hp=>(f1 p hp).1)
  have h:=elim_full (m:=m) (n:=n) (isMod_of Mm) n 0 (quiet0 m e.1 e.2.1 n) [] 1 (by omega) (quiet0_ok hm.1 _ _ _) hd (by simp) (fun i _ _ c' hc'=>by omega)
  have h2:=elim_places (m:=m) (w:=n) (by omega) n 0 (quiet0 m e.1 e.2.1 n) [] 1 ⟨List.Pairwise.nil,by simp⟩ (by simp) (quiet0_ok hm.1 _ _ _) (by omega)
  exact ⟨h.1,h.2.1,h.2.2,h2.2.2.2.1⟩
theorem quiet0_len (m:Int) (R:List (List Int)) (pl:List Int) (n:Nat):(quiet0 m R pl n).length≤n:=by
  unfold quiet0 frees
  rw [List.length_map]
  have:=List.length_filter_le (fun c:Nat=>!pl.contains (c:Int)) (List.range n)
  rw [List.length_range] at this
  exact this
theorem spec_quiet {l:List Int} (G:Gr.Good l) (own:Bool) {m:Int} (Mm:IsMod m):Ev (fun k=>spec_clQuiet.f k l own m) (quietN m (tg l own) l.length):=by
  have hm:=mod_small Mm
  have hl:=G.2.1
  obtain ⟨f1,f2,f3,f4,_⟩:=tab_facts Mm (tg l own) l.length
  obtain ⟨g1,g2,g3,g4⟩:=quiet_full Mm (tg l own) l.length
  obtain ⟨K1,h1⟩:=clTable_ev G own
  obtain ⟨K2,h2⟩:=clSteps_ev Mm (n:=l.length) (w:=l.length) (by omega) (Nat.le_refl _) (tab_ok hm.1 (tg l own) l.length) (by rw [tab_len];omega)
  generalize he:elim m l.length 0 (tab (tg l own) l.length) [] 1=e at*
  have hcong:quiet0 m (e.1.take e.2.1.length) e.2.1 l.length=quiet0 m e.1 e.2.1 l.length:=quiet0_congr (fun i hi c hc=>at2_takeL hi c)
  have hq:=clSteps_ev Mm (n:=l.length) (w:=l.length) (by omega) (Nat.le_refl _) (quiet0_ok hm.1 e.1 e.2.1 l.length) (by have:=quiet0_len m e.1 e.2.1 l.length;omega)
  have hfin:(cut (elim m l.length 0 (quiet0 m e.1 e.2.1 l.length) [] 1)).1=quietN m (tg l own) l.length:=by
    unfold cut quietN
    simp only [he]
    rw [List.take_of_length_le (by omega)]
  have hlay:=spec_laid Mm hl (R:=e.1.take e.2.1.length) (pl:=e.2.1) (n:=l.length) (m:=m) (by rw [List.length_take];omega)
    (fun i hi=>⟨by rw [List.length_take];omega,by rw [getD_takeL hi,len_at f4 (by omega)];exact Nat.le_refl _,fun c hc=>by rw [at2_takeL hi];exact at2_in (by omega) f4 i c⟩) f1 (by omega) (r:=quietN m (tg l own) l.length) (by
      rw [hcong]
      obtain ⟨K,hq⟩:=hq
      refine ⟨K,fun k hk=>?_⟩
      have:=hq k hk
      simp only at this ⊢
      rw [this,Option.bind_some,hfin]) l.length 0 (by omega)
  obtain ⟨K3,h3⟩:=hlay
  refine ⟨K1+K2+K3,fun k hk=>?_⟩
  show spec_clQuiet.f k l own m=_
  have h1':=h1 k (by omega)
  have h2':=h2 k (by omega)
  have h3':=h3 k (by omega)
  simp only at h1' h2' h3'
  unfold spec_clQuiet.f
  rw [h1',Option.bind_some,h2',Option.bind_some]
  exact h3'
theorem impl_solved {l:List Int} (G:Gr.Good l) (own:Bool) {m:Int} (Mm:IsMod m) (more:List Int) (hml:more.length=l.length) (hin:InR m more):Ev (fun k=>impl_Graph_solved.f k l own m more) (elim m l.length 0 (tabM (tg l own) l.length more) [] 1):=by
  have hm:=mod_small Mm
  have hl:=G.2.1
  obtain ⟨K1,h1⟩:=toggleRows_ev G own more hml
  obtain ⟨K2,h2⟩:=eliminate_ev Mm (w:=l.length+1) (n:=l.length) (by omega) (by omega) (tabM_ok hm.1 (tg l own) l.length hml hin) (by rw [tabM_len];omega)
  refine ⟨K1+K2,fun k hk=>?_⟩
  show impl_Graph_solved.f k l own m more=_
  have h1':=h1 k (by omega)
  have h2':=h2 k (by omega)
  simp only at h1' h2'
  unfold impl_Graph_solved.f pseudo_elimS.f
  rw [h1',Option.bind_some,h2',Option.bind_some]
theorem tabM_facts {m:Int} (Mm:IsMod m) (T:Nat→Nat) (n:Nat) {more:List Int} (hml:more.length=n) (hin:InR m more):
    (elim m n 0 (tabM T n more) [] 1).1.length=n∧matOk m (n+1) (elim m n 0 (tabM T n more) [] 1).1=true∧∀ i c,c< n→at2 (elim m n 0 (tabM T n more) [] 1).1 i c=at2 (elim m n 0 (tab T n) [] 1).1 i c:=by
  have hm:=mod_small Mm
  have h:=elim_places (m:=m) (w:=n+1) (by omega) n 0 (tabM T n more) [] 1 ⟨List.Pairwise.nil,by simp⟩ (by simp) (tabM_ok hm.1 _ _ hml hin) (by omega)
  rw [tabM_len,Nat.zero_add] at h
  refine ⟨h.2.2.1,h.2.2.2.1,fun i c hc=>?_⟩
  rw [(elim_more T n m more).2,at2_take hc]
theorem impl_quiet {l:List Int} (G:Gr.Good l) (own:Bool) {m:Int} (Mm:IsMod m):Ev (fun k=>impl_Graph_quietColours.f k l own m) (quietN m (tg l own) l.length):=by
  have hm:=mod_small Mm
  have hl:=G.2.1
  have hz:(List.replicate l.length (0:Int)).length=l.length:=by simp
  obtain ⟨f1,f2,f3,f4,_⟩:=tab_facts Mm (tg l own) l.length
  obtain ⟨g1,g2,g3⟩:=tabM_facts Mm (tg l own) l.length hz (zeros_InR hm.1 _)
  obtain ⟨K1,h1⟩:=impl_solved G own Mm (List.replicate l.length 0) hz (zeros_InR hm.1 _)
  have hmore:=elim_more (tg l own) l.length m (List.replicate l.length 0)
  generalize he:elim m l.length 0 (tab (tg l own) l.length) [] 1=e at*
  generalize he':elim m l.length 0 (tabM (tg l own) l.length (List.replicate l.length 0)) [] 1=e' at*
  have h21:e'.2.1=e.2.1:=by rw [hmore.1]
  have hcong:quiet0 m e'.1 e.2.1 l.length=quiet0 m e.1 e.2.1 l.length:=quiet0_congr (fun i hi c hc=>g3 i c hc)
  obtain ⟨Kq,hq⟩:=eliminate_ev Mm (w:=l.length) (n:=l.length) (by omega) (Nat.le_refl _) (quiet0_ok hm.1 e.1 e.2.1 l.length) (by have:=quiet0_len m e.1 e.2.1 l.length;omega)
  have hlay:=impl_laid Mm hl (R:=e'.1) (pl:=e.2.1) (n:=l.length) (m:=m) (by omega)
    (fun i hi=>⟨by omega,by rw [len_at g2 (by omega)];omega,fun c hc=>by rw [g3 i c hc];exact at2_in (by omega) f4 i c⟩) f1 (by omega) (det:=e'.2.2) (r:=quietN m (tg l own) l.length) (by
      rw [hcong]
      refine ⟨Kq,fun k hk=>?_⟩
      have:=hq k hk
      simp only at this ⊢
      unfold pseudo_elimS.f
      rw [this,Option.bind_some]
      unfold quietN
      simp only [he]) l.length 0 (by omega)
  obtain ⟨K3,h3⟩:=hlay
  refine ⟨K1+K3,fun k hk=>?_⟩
  show impl_Graph_quietColours.f k l own m=_
  have h1':=h1 k (by omega)
  have h3':=h3 k (by omega)
  simp only at h1' h3'
  unfold impl_Graph_quietColours.f
  rw [if_pos (by omega),if_pos (by omega),Int.toNat_natCast,h1',Option.bind_some,h21]
  exact h3'
theorem filter_len {α:Type} (p:α→Bool):∀ l:List α,(l.filter p).length+(l.filter fun x=>!p x).length=l.length
  |[]=>rfl
  |x::l=>by
    have:=filter_len p l
    cases h:p x<;>simp [h]<;>omega
end Go.Proofs.Ytbbdjoahdbjljaa.Ef
