/- The law FnExactNullityByStates, with no program in sight. -/
import Derived.Test.YtoobofnpdiapgaaDP
import Derived.Test.YtoobofnpdiapgaaSayFnExactNullityByStates
import Derived.Test.YtoobofnpdiapgaaPx1
import Derived.Test.YtoobofnpdiapgaaPx28
import Derived.Test.YtoobofnpdiapgaaPx38
import Derived.Test.YtoobofnpdiapgaaPx4
import Derived.Test.YtoobofnpdiapgaaPx48
import Derived.Test.YtoobofnpdiapgaaPx49
namespace Go.Proofs.Ytoobofnpdiapgaa.Pure
open Go.RowKit Go.Proofs.Ytoobofnpdiapgaa.P Go.Proofs.Ytoobofnpdiapgaa.Bt Go.Proofs.Ytoobofnpdiapgaa.Lw Go.Proofs.Ytoobofnpdiapgaa.Gr Go.Proofs.Ytoobofnpdiapgaa.Dp Go.Proofs.YtoobofnpdiapgaaW.PrintWords Go.Proofs.YtoobofnpdiapgaaW.PrintLast Go.Proofs.YtoobofnpdiapgaaW.PrintMore
set_option linter.unusedVariables false
set_option linter.unusedSimpArgs false
theorem notForest {l:List Int} {own:Bool} {K:Nat} (h:∀ k,K≤k→impl_isGraph.f k l own=some false) (k:Nat) (hk:K≤k):impl_isForest.f k l own=some false:=by
  unfold impl_isForest.f;rw [h k hk];rfl
theorem bl_pow:∀ m,Gf.bl (2 ^ m)=m+1
  |0=>by decide
  |m+1=>by rw [Nat.pow_succ,Nat.mul_comm,Gf.bl_two_mul (by have:=Nat.two_pow_pos m;omega),bl_pow m]
theorem soTop_pow {m:Nat} (h:m≤16) {k:Nat} (hk:100< k):spec_soTop.f k ((2 ^ m:Nat):Int)=some (m:Int):=by
  unfold spec_soTop.f
  rw [St.soTop_l0 (m+1) (2 ^ m) k (-1) (bl_pow m) (by omega) (by omega) (by omega) (by omega)]
  congr 1;omega
theorem bothNullityByStates (l:List Int) (own:Bool) (hlen:l.length≤4611686018427387904):∃ r:Int × Bool,Ev (fun k=>spec_NullityByStates.f k l own) r∧Ev (fun k=>impl_NullityByStates.f k l own) r:=by
  obtain ⟨b,hb,⟨K1,e1⟩,-⟩:=set_both l own hlen 0
  obtain ⟨g,hg,-,⟨K3,e3⟩⟩:=good_both l own hlen
  simp only at e1 e3
  cases g with
  |false=>
    have hbf:b=false:=by
      cases b with
      |false=>rfl
      |true=>exact absurd (hg.2 (hb.1 rfl).1) (by simp)
    subst hbf
    refine ⟨(0,false),⟨K1,fun k hk=>?_⟩,⟨K3,fun k hk=>?_⟩⟩
    · show spec_NullityByStates.f k l own=_
      unfold spec_NullityByStates.f spec_CountByStates.f;rw [e1 k hk];rfl
    · show impl_NullityByStates.f k l own=_
      unfold impl_NullityByStates.f;rw [notForest e3 k hk];rfl
  |true=>
    have G:=hg.1 rfl
    have hpos:(0:Int)< 2 ^ l.length:=by
      have h1:=Nat.two_pow_pos l.length
      have ep:((2 ^ l.length:Nat):Int)=(2:Int) ^ l.length:=by simp
      omega
    have hbt:b=true:=hb.2 ⟨G,Int.le_refl 0,hpos⟩
    subst hbt
    obtain ⟨K4,f1⟩:=tr_ev l own G
    obtain ⟨K5,f2⟩:=forest_ev l own G
    simp only at f1 f2
    by_cases hbad:badOf l=0
    · rw [show (badOf l==0)=true by simpa using hbad] at f2
      obtain ⟨c,E,s,lr,rr,e,s1,s2,s3,s4,s5,s7,⟨K6,s6⟩⟩:=count_good l G own 0 hbad (Nat.two_pow_pos _)
      obtain ⟨hc,hq⟩:=s7 rfl
      subst hc
      simp only at s6
      refine ⟨((s.2.1.length:Int),true),⟨K1+K4+K6+101,fun k hk=>?_⟩,⟨K3+K5,fun k hk=>?_⟩⟩
      · show spec_NullityByStates.f k l own=_
        unfold spec_NullityByStates.f spec_CountByStates.f;rw [e1 k (by omega)]
        simp only [Option.bind_some,if_true]
        rw [f1 k (by omega),if_pos hbad]
        simp only [Option.bind_some,if_true]
        rw [show (0:Int)=((0:Nat):Int) from rfl,s6 k (by omega)]
        simp only [Option.bind_some,if_true]
        rw [soTop_pow hq (by omega)]
        rfl
      · show impl_NullityByStates.f k l own=_
        unfold impl_NullityByStates.f impl_NullityOf.f impl_NullityOf.fk;rw [f2 k (by omega)]
        simp only [Option.bind_some,if_true]
        rw [e3 k (by omega)]
        simp only [Option.bind_some,if_true]
        rw [s1]
        simp only [Option.bind_some]
        rw [s2]
        rfl
    · rw [show (badOf l==0)=false by simpa using hbad] at f2
      refine ⟨(0,false),⟨K1+K4,fun k hk=>?_⟩,⟨K5,fun k hk=>?_⟩⟩
      · show spec_NullityByStates.f k l own=_
        unfold spec_NullityByStates.f spec_CountByStates.f;rw [e1 k (by omega)]
        simp only [Option.bind_some,if_true]
        rw [f1 k (by omega),if_neg hbad]
        rfl
      · show impl_NullityByStates.f k l own=_
        unfold impl_NullityByStates.f;rw [f2 k (by omega)];rfl
theorem FnExactNullityByStates:laws_FnExactNullityByStates.Pure:=by
  intro l b hl _
  have hm:maxLen=9223372036854775807:=by decide
  rw [hm] at hl
  by_cases hbig:l.length≤1048576
  · obtain ⟨⟨r1,r2⟩,⟨K1,s⟩,⟨K2,i⟩⟩:=bothNullityByStates l b (by omega)
    obtain ⟨K3,t⟩:=toGraph_ev l b (by omega)
    obtain ⟨K4,e⟩:=eqGraph_ev l b (by omega)
    simp only at s i t e
    refine ⟨K1+K2+K3+K4+1,?_⟩
    generalize hk:K1+K2+K3+K4=K
    unfold laws_FnExactNullityByStates.f
    rw [szGraph_small l b hbig]
    simp only [Option.bind_some]
    rw [if_neg (by omega),t (K+1) (by omega)]
    simp only [Option.bind_some]
    rw [s (K+1) (by omega)]
    simp only [Option.bind_some]
    rw [i (K+1) (by omega)]
    simp only [Option.bind_some,bne_self_eq_false,if_true]
    rw [laws_FnExactNullityByStates.j0,if_neg (by simp),t K (by omega)]
    simp only [Option.bind_some]
    rw [e K (by omega)]
    rfl
  · exact ⟨0,by unfold laws_FnExactNullityByStates.f;rw [szGraph_big l b hl hbig];rfl⟩
end Go.Proofs.Ytoobofnpdiapgaa.Pure
