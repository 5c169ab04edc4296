/- The law FnExactSolveColours, with no program in sight. -/
import Derived.Test.YtbbdjoahdbjljaaSolve
import Derived.Test.YtbbdjoahdbjljaaColour
import Derived.Test.YtbbdjoahdbjljaaBundleA
import Derived.Test.YtbbdjoahdbjljaaSayFnExactSolveColours
import Derived.Test.YtbbdjoahdbjljaaPx36
namespace Go.Proofs.Ytbbdjoahdbjljaa.Pure
open Go.RowKit Go.Proofs.Ytbbdjoahdbjljaa.P Go.Proofs.Ytbbdjoahdbjljaa.Bt Go.Proofs.Ytbbdjoahdbjljaa.Lw Go.Proofs.Ytbbdjoahdbjljaa.Gr Go.Proofs.Ytbbdjoahdbjljaa.Co Go.Proofs.Ytbbdjoahdbjljaa.Ef Go.Proofs.Ytbbdjoahdbjljaa.El Go.Proofs.YtbbdjoahdbjljaaW.PrintWords Go.Proofs.YtbbdjoahdbjljaaW.PrintLast Go.Proofs.YtbbdjoahdbjljaaW.PrintMore
set_option linter.unusedVariables false
set_option linter.unusedSimpArgs false
theorem both (l:List Int) (own:Bool) (hlen:l.length≤4611686018427387904) (m:Int) (t:List Int):∃ r:List Int × Bool,r.1.length≤16∧Ev (fun k=>spec_SolveColours.f k l own m t) r∧Ev (fun k=>impl_SolveColours.f k l own m t) r:=by
  obtain ⟨b,hb,⟨K3,e3⟩,⟨K4,e4⟩⟩:=list_both l own hlen m t
  simp only at e3 e4
  cases b with
  |false=>
    refine ⟨([],false),by simp,⟨K3,fun k hk=>?_⟩,⟨K4,fun k hk=>?_⟩⟩
    · show spec_SolveColours.f k l own m t=_
      unfold spec_SolveColours.f;rw [e3 k hk];rfl
    · show impl_SolveColours.f k l own m t=_
      unfold impl_SolveColours.f;rw [e4 k hk];rfl
  |true=>
    obtain ⟨G,M,L,T,I⟩:=hb.1 rfl
    obtain ⟨K1,e1⟩:=spec_solve M G own T I
    obtain ⟨K2,e2⟩:=impl_solve M G own T I
    simp only at e1 e2
    refine ⟨solveN m (tg l own) l.length t,solveN_len M _ G.2.1 T,⟨K1+K3,fun k hk=>?_⟩,⟨K2+K4,fun k hk=>?_⟩⟩
    · show spec_SolveColours.f k l own m t=_
      unfold spec_SolveColours.f;rw [e3 k (by omega),Option.bind_some,if_pos rfl,e1 k (by omega)];rfl
    · show impl_SolveColours.f k l own m t=_
      unfold impl_SolveColours.f;rw [e4 k (by omega),Option.bind_some,if_pos rfl,e2 k (by omega)];rfl
theorem FnExactSolveColours:laws_FnExactSolveColours.Pure:=by
  intro l b m t hl _ _ _ _ _
  have hmx:maxLen=9223372036854775807:=by decide
  rw [hmx] at hl
  by_cases ht:(t.length:Int)>1048576
  · exact ⟨0,by unfold laws_FnExactSolveColours.f;rw [if_pos ht]⟩
  by_cases hbig:l.length≤1048576
  · obtain ⟨⟨r1,r2⟩,hr,⟨K1,s⟩,⟨K2,i⟩⟩:=both l b (by omega) m t
    simp only at hr
    obtain ⟨K3,tg⟩:=toGraph_ev l b (by omega)
    obtain ⟨K4,e⟩:=eqGraph_ev l b (by omega)
    obtain ⟨K5,tt⟩:=toIntS_ev t (by omega)
    obtain ⟨K6,et⟩:=eqIntS_ev t (by omega)
    obtain ⟨K7,er⟩:=eqIntS_ev r1 (by omega)
    obtain ⟨K8,mg⟩:=markGraph_ev l b 1 (by omega) (by omega)
    obtain ⟨K9,mt⟩:=markIntS_ev t (1+(l.length:Int)) (by omega) (by omega)
    obtain ⟨K10,mr⟩:=markIntS_ev r1 1 (by omega) (by omega)
    obtain ⟨K11,hd⟩:=heldIntS_ev 1 r1.length (by omega) (by omega)
    simp only at s i tg e tt et er mg mt mr hd
    refine ⟨K1+K2+K3+K4+K5+K6+K7+K8+K9+K10+K11+3,?_⟩
    generalize hk:K1+K2+K3+K4+K5+K6+K7+K8+K9+K10+K11=K
    unfold laws_FnExactSolveColours.f
    rw [if_neg ht,szGraph_small l b hbig,Option.bind_some,if_neg (by omega),tg (K+3) (by omega),Option.bind_some,tt (K+3) (by omega),Option.bind_some,s (K+3) (by omega),Option.bind_some,Option.bind_some,Option.bind_some,i (K+3) (by omega),Option.bind_some]
    simp only [bne_self_eq_false]
    rw [er (K+3) (by omega),Option.bind_some,if_pos rfl]
    rw [laws_FnExactSolveColours.j0,if_neg (by simp),tg (K+2) (by omega),Option.bind_some,e (K+2) (by omega),Option.bind_some,if_pos rfl,tt (K+2) (by omega),Option.bind_some,et (K+2) (by omega),Option.bind_some,if_pos rfl,mg (K+2) (by omega),Option.bind_some]
    simp only []
    rw [mt (K+2) (by omega),Option.bind_some]
    simp only []
    rw [if_neg (by omega),er (K+2) (by omega),Option.bind_some,if_pos rfl,bne_self_eq_false]
    rw [laws_FnExactSolveColours.j1,if_neg (by simp),mr (K+1) (by omega),Option.bind_some]
    simp only []
    rw [hd (K+1) (by omega),Option.bind_some,if_neg (by omega),if_pos rfl,tg (K+1) (by omega),Option.bind_some,tt (K+1) (by omega),Option.bind_some]
    simp only []
    rw [i (K+1) (by omega),Option.bind_some]
    simp only [bne_self_eq_false]
    rw [er (K+1) (by omega),Option.bind_some,if_pos rfl]
    rw [laws_FnExactSolveColours.j2,if_neg (by simp),hd K (by omega),Option.bind_some,if_neg (by omega),if_pos rfl]
  · exact ⟨0,by unfold laws_FnExactSolveColours.f;rw [if_neg ht,szGraph_big l b hl hbig];rfl⟩
end Go.Proofs.Ytbbdjoahdbjljaa.Pure
