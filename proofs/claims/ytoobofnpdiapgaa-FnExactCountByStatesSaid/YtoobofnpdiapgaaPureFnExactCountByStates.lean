/- The law FnExactCountByStates, with no program in sight. -/
import Derived.Test.YtoobofnpdiapgaaDP
import Derived.Test.YtoobofnpdiapgaaSayFnExactCountByStates
import Derived.Test.YtoobofnpdiapgaaPx1
import Derived.Test.YtoobofnpdiapgaaPx28
import Derived.Test.YtoobofnpdiapgaaPx46
import Derived.Test.YtoobofnpdiapgaaPx48
import Derived.Test.YtoobofnpdiapgaaPx49
namespace Go.Proofs.Ytoobofnpdiapgaa.Pure
open Go.RowKit Go.Proofs.Ytoobofnpdiapgaa.P Go.Proofs.Ytoobofnpdiapgaa.Bt Go.Proofs.Ytoobofnpdiapgaa.Lw Go.Proofs.Ytoobofnpdiapgaa.Gr Go.Proofs.Ytoobofnpdiapgaa.Dp Go.Proofs.YtoobofnpdiapgaaW.PrintWords Go.Proofs.YtoobofnpdiapgaaW.PrintLast Go.Proofs.YtoobofnpdiapgaaW.PrintMore
set_option linter.unusedVariables false
set_option linter.unusedSimpArgs false
theorem notForest {l:List Int} {own:Bool} {K:Nat} (h:∀ k,K≤k→impl_isGraph.f k l own=some false) (k:Nat) (hk:K≤k):impl_isForest.f k l own=some false:=by
  unfold impl_isForest.f;rw [h k hk];rfl
theorem bothCountByStates (l:List Int) (own:Bool) (hlen:l.length≤4611686018427387904) (a:Int):∃ r:Int × Bool,Ev (fun k=>spec_CountByStates.f k l own a) r∧Ev (fun k=>impl_CountByStates.f k l own a) r:=by
  obtain ⟨b,hb,⟨K1,e1⟩,⟨K2,e2⟩⟩:=set_both l own hlen a
  obtain ⟨g,hg,-,⟨K3,e3⟩⟩:=good_both l own hlen
  simp only at e1 e2 e3
  cases g with
  |false=>
    have hbf:b=false:=by
      cases b with
      |false=>rfl
      |true=>exact absurd (hg.2 (hb.1 rfl).1) (by simp)
    subst hbf
    refine ⟨(0,false),⟨K1,fun k hk=>?_⟩,⟨K3,fun k hk=>?_⟩⟩
    · show spec_CountByStates.f k l own a=_
      unfold spec_CountByStates.f;rw [e1 k hk];rfl
    · show impl_CountByStates.f k l own a=_
      unfold impl_CountByStates.f;rw [notForest e3 k hk];rfl
  |true=>
    have G:=hg.1 rfl
    obtain ⟨K4,f1⟩:=tr_ev l own G
    obtain ⟨K5,f2⟩:=forest_ev l own G
    simp only at f1 f2
    by_cases hbad:badOf l=0
    · rw [show (badOf l==0)=true by simpa using hbad] at f2
      cases b with
      |false=>
        refine ⟨(0,false),⟨K1,fun k hk=>?_⟩,⟨K2+K5,fun k hk=>?_⟩⟩
        · show spec_CountByStates.f k l own a=_
          unfold spec_CountByStates.f;rw [e1 k hk];rfl
        · show impl_CountByStates.f k l own a=_
          unfold impl_CountByStates.f impl_CountSolutions.f impl_CountSolutions.fk;rw [f2 k (by omega)]
          simp only [Option.bind_some,if_true]
          rw [e2 k (by omega)];rfl
      |true=>
        obtain ⟨-,h0,h1⟩:=hb.1 rfl
        obtain ⟨Y,rfl⟩:∃ Y:Nat,a=Y:=⟨a.toNat,by omega⟩
        have ep:((2 ^ l.length:Nat):Int)=(2:Int) ^ l.length:=by simp
        obtain ⟨c,E,s,lr,rr,e,s1,s2,s3,s4,s5,-,⟨K6,s6⟩⟩:=count_good l G own Y hbad (by omega)
        simp only at s6
        refine ⟨((c:Int),true),⟨K1+K4+K6,fun k hk=>?_⟩,⟨K2+K5,fun k hk=>?_⟩⟩
        · show spec_CountByStates.f k l own (Y:Int)=_
          unfold spec_CountByStates.f;rw [e1 k (by omega)]
          simp only [Option.bind_some,if_true]
          rw [f1 k (by omega),if_pos hbad]
          simp only [Option.bind_some,if_true]
          rw [s6 k (by omega)]
          rfl
        · show impl_CountByStates.f k l own (Y:Int)=_
          unfold impl_CountByStates.f impl_CountSolutions.f impl_CountSolutions.fk;rw [f2 k (by omega)]
          simp only [Option.bind_some,if_true]
          rw [e2 k (by omega)]
          simp only [Option.bind_some,if_true]
          rw [s1]
          simp only [Option.bind_some]
          rw [s2]
          simp only [Option.bind_some]
          rw [s3]
          simp only [Option.bind_some]
          rw [s4]
          simp only [Option.bind_some]
          rw [s5]
          rfl
    · rw [show (badOf l==0)=false by simpa using hbad] at f2
      refine ⟨(0,false),⟨K1+K4,fun k hk=>?_⟩,⟨K5,fun k hk=>?_⟩⟩
      · show spec_CountByStates.f k l own a=_
        unfold spec_CountByStates.f;rw [e1 k (by omega)]
        cases b with
        |false=>rfl
        |true=>
          simp only [Option.bind_some,if_true]
          rw [f1 k (by omega),if_neg hbad]
          rfl
      · show impl_CountByStates.f k l own a=_
        unfold impl_CountByStates.f;rw [f2 k (by omega)];rfl
theorem FnExactCountByStates:laws_FnExactCountByStates.Pure:=by
  intro l b a hl _ _
  have hm:maxLen=9223372036854775807:=by decide
  rw [hm] at hl
  by_cases hbig:l.length≤1048576
  · obtain ⟨⟨r1,r2⟩,⟨K1,s⟩,⟨K2,i⟩⟩:=bothCountByStates l b (by omega) a
    obtain ⟨K3,t⟩:=toGraph_ev l b (by omega)
    obtain ⟨K4,e⟩:=eqGraph_ev l b (by omega)
    simp only at s i t e
    refine ⟨K1+K2+K3+K4+1,?_⟩
    generalize hk:K1+K2+K3+K4=K
    unfold laws_FnExactCountByStates.f
    rw [szGraph_small l b hbig]
    simp only [Option.bind_some]
    rw [if_neg (by omega),t (K+1) (by omega)]
    simp only [Option.bind_some]
    rw [s (K+1) (by omega)]
    simp only [Option.bind_some]
    rw [i (K+1) (by omega)]
    simp only [Option.bind_some,bne_self_eq_false,if_true]
    rw [laws_FnExactCountByStates.j0,if_neg (by simp),t K (by omega)]
    simp only [Option.bind_some]
    rw [e K (by omega)]
    rfl
  · exact ⟨0,by unfold laws_FnExactCountByStates.f;rw [szGraph_big l b hl hbig];rfl⟩
end Go.Proofs.Ytoobofnpdiapgaa.Pure
