/- The law FnExactCountColourSolutions, with no program in sight. -/
import Derived.Test.YtbbdjoahdbjljaaSolve
import Derived.Test.YtbbdjoahdbjljaaColour
import Derived.Test.YtbbdjoahdbjljaaBundleA
import Derived.Test.YtbbdjoahdbjljaaSayFnExactCountColourSolutions
import Derived.Test.YtbbdjoahdbjljaaPx32
namespace Go.Proofs.Ytbbdjoahdbjljaa.Pure
open Go.RowKit Go.Proofs.Ytbbdjoahdbjljaa.P Go.Proofs.Ytbbdjoahdbjljaa.Bt Go.Proofs.Ytbbdjoahdbjljaa.Lw Go.Proofs.Ytbbdjoahdbjljaa.Gr Go.Proofs.Ytbbdjoahdbjljaa.Co Go.Proofs.Ytbbdjoahdbjljaa.Ef Go.Proofs.Ytbbdjoahdbjljaa.El Go.Proofs.YtbbdjoahdbjljaaW.PrintWords Go.Proofs.YtbbdjoahdbjljaaW.PrintLast Go.Proofs.YtbbdjoahdbjljaaW.PrintMore
set_option linter.unusedVariables false
set_option linter.unusedSimpArgs false
theorem powers {m:Int} (M:IsMod m) (n:Nat) (hn:n≤16):∀ (d i:Nat) (c:Int),i+d=n→∃ r:Int,Ev (fun k=>spec_CountColourSolutions.l0 k m c (n:Int) (i:Int)) (r,true)∧Ev (fun k=>impl_CountColourSolutions.l0 k m c (n:Int) (i:Int)) (r,true):=by
  intro d
  induction d with
  |zero=>
    intro i c hi
    refine ⟨c,Ev.konst 1 fun k hk=>?_,Ev.konst 1 fun k hk=>?_⟩
    · obtain ⟨k,rfl⟩:∃ m,k=m+1:=⟨k - 1,by omega⟩
      rw [spec_CountColourSolutions.l0,if_neg (by omega)]
    · obtain ⟨k,rfl⟩:∃ m,k=m+1:=⟨k - 1,by omega⟩
      rw [impl_CountColourSolutions.l0,if_neg (by omega)]
  |succ d ih=>
    intro i c hi
    obtain ⟨r,a,b⟩:=ih (i+1) (wrap64 (c*m)) (by omega)
    refine ⟨r,Ev.succ a 0 fun k _=>?_,Ev.succ b 0 fun k _=>?_⟩
    · rw [spec_CountColourSolutions.l0,if_pos (by omega),step1 (by omega)]
    · rw [impl_CountColourSolutions.l0,if_pos (by omega),step1 (by omega)]
theorem both (l:List Int) (own:Bool) (hlen:l.length≤4611686018427387904) (m:Int) (t:List Int) (hw:t.length≤4611686018427387904):∃ r:Int × Bool,Ev (fun k=>spec_CountColourSolutions.f k l own m t) r∧Ev (fun k=>impl_CountColourSolutions.f k l own m t) r:=by
  obtain ⟨b,hb,⟨K3,e3⟩,⟨K4,e4⟩⟩:=list_both l own hlen m t
  simp only at e3 e4
  cases b with
  |false=>
    refine ⟨(0,false),⟨K3,fun k hk=>?_⟩,⟨K4,fun k hk=>?_⟩⟩
    · show spec_CountColourSolutions.f k l own m t=_
      unfold spec_CountColourSolutions.f;rw [e3 k hk];rfl
    · show impl_CountColourSolutions.f k l own m t=_
      unfold impl_CountColourSolutions.f;rw [e4 k hk];rfl
  |true=>
    obtain ⟨G,M,L,T,I⟩:=hb.1 rfl
    obtain ⟨K1,e1⟩:=spec_solve M G own T I
    obtain ⟨K2,e2⟩:=impl_solve M G own T I
    obtain ⟨K5,e5⟩:=spec_quiet G own M
    obtain ⟨K6,e6⟩:=impl_quiet G own M
    obtain ⟨q1,q2,q3⟩:=quiet_props M (tg l own) l.length
    have hl:=G.2.1
    obtain ⟨r,⟨K7,e7⟩,⟨K8,e8⟩⟩:=powers M (quietN m (tg l own) l.length).length (by omega) (quietN m (tg l own) l.length).length 0 1 (by omega)
    simp only at e1 e2 e5 e6 e7 e8
    refine ⟨if (solveN m (tg l own) l.length t).2=true then (r,true) else (0,true),⟨K1+K3+K5+K7,fun k hk=>?_⟩,⟨K2+K4+K6+K8,fun k hk=>?_⟩⟩
    · show spec_CountColourSolutions.f k l own m t=_
      unfold spec_CountColourSolutions.f
      rw [e3 k (by omega),Option.bind_some,if_pos rfl,e1 k (by omega),Option.bind_some]
      by_cases h:(solveN m (tg l own) l.length t).2=true
      · rw [if_pos h,if_pos h,e5 k (by omega),Option.bind_some]
        exact e7 k (by omega)
      · rw [if_neg h,if_neg h]
    · show impl_CountColourSolutions.f k l own m t=_
      unfold impl_CountColourSolutions.f
      rw [e4 k (by omega),Option.bind_some,if_pos rfl,e2 k (by omega),Option.bind_some]
      by_cases h:(solveN m (tg l own) l.length t).2=true
      · rw [if_pos h,if_pos h,e6 k (by omega),Option.bind_some]
        exact e8 k (by omega)
      · rw [if_neg h,if_neg h]
theorem FnExactCountColourSolutions:laws_FnExactCountColourSolutions.Pure:=by
  intro l b m t hl _ _ _ _ _
  have hmx:maxLen=9223372036854775807:=by decide
  rw [hmx] at hl
  by_cases ht:(t.length:Int)>1048576
  · exact ⟨0,by unfold laws_FnExactCountColourSolutions.f;rw [if_pos ht]⟩
  by_cases hbig:l.length≤1048576
  · obtain ⟨⟨r1,r2⟩,⟨K1,s⟩,⟨K2,i⟩⟩:=both l b (by omega) m t (by omega)
    obtain ⟨K3,tg⟩:=toGraph_ev l b (by omega)
    obtain ⟨K4,e⟩:=eqGraph_ev l b (by omega)
    obtain ⟨K5,tt⟩:=toIntS_ev t (by omega)
    obtain ⟨K6,et⟩:=eqIntS_ev t (by omega)
    simp only at s i tg e tt et
    refine ⟨K1+K2+K3+K4+K5+K6+1,?_⟩
    generalize hk:K1+K2+K3+K4+K5+K6=K
    unfold laws_FnExactCountColourSolutions.f
    rw [if_neg ht,szGraph_small l b hbig,Option.bind_some,if_neg (by omega),tg (K+1) (by omega),Option.bind_some,tt (K+1) (by omega),Option.bind_some,s (K+1) (by omega),Option.bind_some,Option.bind_some,Option.bind_some,i (K+1) (by omega),Option.bind_some]
    simp only [bne_self_eq_false,if_true]
    rw [laws_FnExactCountColourSolutions.j0,if_neg (by simp),tg K (by omega),Option.bind_some,e K (by omega),Option.bind_some,if_pos rfl,tt K (by omega),Option.bind_some,et K (by omega)]
    rfl
  · exact ⟨0,by unfold laws_FnExactCountColourSolutions.f;rw [if_neg ht,szGraph_big l b hl hbig];rfl⟩
end Go.Proofs.Ytbbdjoahdbjljaa.Pure
