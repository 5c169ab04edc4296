/- The law FnExactWitnessColours, with no program in sight. -/
import Derived.Test.YtbbdjoahdbjljaaQuiS
import Derived.Test.YtbbdjoahdbjljaaColour
import Derived.Test.YtbbdjoahdbjljaaBundleA
import Derived.Test.YtbbdjoahdbjljaaSayFnExactWitnessColours
import Derived.Test.YtbbdjoahdbjljaaPx32
import Derived.Test.YtbbdjoahdbjljaaPx33
namespace Go.Proofs.Ytbbdjoahdbjljaa.Pure
open Go.RowKit Go.Proofs.Ytbbdjoahdbjljaa.P Go.Proofs.Ytbbdjoahdbjljaa.Bt Go.Proofs.Ytbbdjoahdbjljaa.Lw Go.Proofs.Ytbbdjoahdbjljaa.Gr Go.Proofs.Ytbbdjoahdbjljaa.Co Go.Proofs.Ytbbdjoahdbjljaa.Ef Go.Proofs.Ytbbdjoahdbjljaa.El Go.Proofs.YtbbdjoahdbjljaaW.PrintWords Go.Proofs.YtbbdjoahdbjljaaW.PrintLast Go.Proofs.YtbbdjoahdbjljaaW.PrintMore
set_option linter.unusedVariables false
set_option linter.unusedSimpArgs false
theorem dot_swap (xs ys:List Int) (h:xs.length=ys.length):∀ (d i:Nat) (s:Int),i+d=xs.length→∃ v,dotW (xs.drop i) ys i s=some v∧dotW (ys.drop i) xs i s=some v
  |0,i,s,hi=>⟨s,by rw [List.drop_eq_nil_of_le (by omega)];rfl,by rw [List.drop_eq_nil_of_le (by omega)];rfl⟩
  |d+1,i,s,hi=>by
    have h1:i< xs.length:=by omega
    have h2:i< ys.length:=by omega
    obtain ⟨v,e1,e2⟩:=dot_swap xs ys h d (i+1) (wrap64 (s+wrap64 (xs[i]*ys[i]))) (by omega)
    refine ⟨v,?_,?_⟩
    · rw [List.drop_eq_getElem_cons h1,dotW,if_pos h2,show rd ys (i:Int)=ys[i] by simp [rd,List.getElem?_eq_getElem h2]]
      exact e1
    · rw [List.drop_eq_getElem_cons h2,dotW,if_pos h1,show rd xs (i:Int)=xs[i] by simp [rd,List.getElem?_eq_getElem h1],Int.mul_comm]
      exact e2
theorem wit_at {m:Int} (hm:m≠0) (t:List Int):∀ Q:List (List Int),(∀ q ∈ Q,q.length=t.length)→∃ r:List Int × Bool,r.1.length≤t.length∧witF true m t Q=some r∧witF false m t Q=some r
  |[],_=>⟨([],false),by simp,rfl,rfl⟩
  |q::Q,h=>by
    obtain ⟨v,e1,e2⟩:=dot_swap t q (h q (List.mem_cons_self ..)).symm t.length 0 0 (by omega)
    rw [List.drop_zero] at e1 e2
    obtain ⟨r,h1,h2,h3⟩:=wit_at hm t Q (fun x hx=>h x (List.mem_cons_of_mem _ hx))
    rw [witF,witF,if_pos rfl,if_neg (by simp),e1,e2]
    simp only [Option.bind_some]
    rw [if_neg hm,if_neg hm]
    by_cases c:Int.tmod v m=0
    · rw [if_pos c,if_pos c]
      exact ⟨r,h1,h2,h3⟩
    · rw [if_neg c,if_neg c]
      exact ⟨(q,true),Nat.le_of_eq (h q (List.mem_cons_self ..)),rfl,rfl⟩
theorem both (l:List Int) (own:Bool) (hlen:l.length≤4611686018427387904) (m:Int) (t:List Int):∃ r:List Int × Bool,r.1.length≤16∧Ev (fun k=>spec_WitnessColours.f k l own m t) r∧Ev (fun k=>impl_WitnessColours.f k l own m t) r:=by
  obtain ⟨b,hb,⟨K3,e3⟩,⟨K4,e4⟩⟩:=list_both l own hlen m t
  simp only at e3 e4
  cases b with
  |false=>
    refine ⟨([],false),by simp,⟨K3,fun k hk=>?_⟩,⟨K4,fun k hk=>?_⟩⟩
    · show spec_WitnessColours.f k l own m t=_
      unfold spec_WitnessColours.f;rw [e3 k hk];rfl
    · show impl_WitnessColours.f k l own m t=_
      unfold impl_WitnessColours.f;rw [e4 k hk];rfl
  |true=>
    obtain ⟨G,M,L,T,I⟩:=hb.1 rfl
    have hl:=G.2.1
    have hm:=mod_small M
    obtain ⟨K1,e1⟩:=spec_quiet G own M
    obtain ⟨K2,e2⟩:=impl_quiet G own M
    obtain ⟨g1,g2,g3,g4⟩:=quiet_full M (tg l own) l.length
    simp only at e1 e2
    obtain ⟨r,h1,h2,h3⟩:=wit_at (m:=m) (by omega) t (quietN m (tg l own) l.length) (fun q hq=>by rw [(rowOk_iff.1 (matOk_iff.1 g4 q hq)).1];exact T.symm)
    refine ⟨r,by omega,⟨K1+K3,fun k hk=>?_⟩,⟨K2+K4,fun k hk=>?_⟩⟩
    · show spec_WitnessColours.f k l own m t=_
      unfold spec_WitnessColours.f;rw [e3 k (by omega),Option.bind_some,if_pos rfl,e1 k (by omega),Option.bind_some,h2]
    · show impl_WitnessColours.f k l own m t=_
      unfold impl_WitnessColours.f;rw [e4 k (by omega),Option.bind_some,if_pos rfl,e2 k (by omega),Option.bind_some,h3]
theorem FnExactWitnessColours:laws_FnExactWitnessColours.Pure:=by
  intro l b m t hl _ _ _ _ _
  have hmx:maxLen=9223372036854775807:=by decide
  rw [hmx] at hl
  by_cases ht:(t.length:Int)>1048576
  · exact ⟨0,by unfold laws_FnExactWitnessColours.f;rw [if_pos ht]⟩
  by_cases hbig:l.length≤1048576
  · obtain ⟨⟨r1,r2⟩,hr,⟨K1,s⟩,⟨K2,i⟩⟩:=both l b (by omega) m t
    simp only at hr
    obtain ⟨K3,tg⟩:=toGraph_ev l b (by omega)
    obtain ⟨K4,e⟩:=eqGraph_ev l b (by omega)
    obtain ⟨K5,tt⟩:=toIntS_ev t (by omega)
    obtain ⟨K6,et⟩:=eqIntS_ev t (by omega)
    obtain ⟨K7,er⟩:=eqIntS_ev r1 (by omega)
    obtain ⟨K8,mg⟩:=markGraph_ev l b 1 (by omega) (by omega)
    obtain ⟨K9,mt⟩:=markIntS_ev t (1+(l.length:Int)) (by omega) (by omega)
    obtain ⟨K10,mr⟩:=markIntS_ev r1 1 (by omega) (by omega)
    obtain ⟨K11,hd⟩:=heldIntS_ev 1 r1.length (by omega) (by omega)
    simp only at s i tg e tt et er mg mt mr hd
    refine ⟨K1+K2+K3+K4+K5+K6+K7+K8+K9+K10+K11+3,?_⟩
    generalize hk:K1+K2+K3+K4+K5+K6+K7+K8+K9+K10+K11=K
    unfold laws_FnExactWitnessColours.f
    rw [if_neg ht,szGraph_small l b hbig,Option.bind_some,if_neg (by omega),tg (K+3) (by omega),Option.bind_some,tt (K+3) (by omega),Option.bind_some,s (K+3) (by omega),Option.bind_some,Option.bind_some,Option.bind_some,i (K+3) (by omega),Option.bind_some]
    simp only [bne_self_eq_false]
    rw [er (K+3) (by omega),Option.bind_some,if_pos rfl]
    rw [laws_FnExactWitnessColours.j0,if_neg (by simp),tg (K+2) (by omega),Option.bind_some,e (K+2) (by omega),Option.bind_some,if_pos rfl,tt (K+2) (by omega),Option.bind_some,et (K+2) (by omega),Option.bind_some,if_pos rfl,mg (K+2) (by omega),Option.bind_some]
    simp only []
    rw [mt (K+2) (by omega),Option.bind_some]
    simp only []
    rw [if_neg (by omega),er (K+2) (by omega),Option.bind_some,if_pos rfl,bne_self_eq_false]
    rw [laws_FnExactWitnessColours.j1,if_neg (by simp),mr (K+1) (by omega),Option.bind_some]
    simp only []
    rw [hd (K+1) (by omega),Option.bind_some,if_neg (by omega),if_pos rfl,tg (K+1) (by omega),Option.bind_some,tt (K+1) (by omega),Option.bind_some]
    simp only []
    rw [i (K+1) (by omega),Option.bind_some]
    simp only [bne_self_eq_false]
    rw [er (K+1) (by omega),Option.bind_some,if_pos rfl]
    rw [laws_FnExactWitnessColours.j2,if_neg (by simp),hd K (by omega),Option.bind_some,if_neg (by omega),if_pos rfl]
  · exact ⟨0,by unfold laws_FnExactWitnessColours.f;rw [if_neg ht,szGraph_big l b hl hbig];rfl⟩
end Go.Proofs.Ytbbdjoahdbjljaa.Pure
