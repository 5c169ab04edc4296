/- The law FnExactQuietColours, with no program in sight. -/
import Derived.Test.YtbbdjoahdbjljaaQuiS
import Derived.Test.YtbbdjoahdbjljaaMarkSS
import Derived.Test.YtbbdjoahdbjljaaBundleA
import Derived.Test.YtbbdjoahdbjljaaSayFnExactQuietColours
import Derived.Test.YtbbdjoahdbjljaaPx29
import Derived.Test.YtbbdjoahdbjljaaPx31
namespace Go.Proofs.Ytbbdjoahdbjljaa.Pure
open Go.RowKit Go.Proofs.Ytbbdjoahdbjljaa.P Go.Proofs.Ytbbdjoahdbjljaa.Bt Go.Proofs.Ytbbdjoahdbjljaa.Lw Go.Proofs.Ytbbdjoahdbjljaa.Gr Go.Proofs.Ytbbdjoahdbjljaa.Co Go.Proofs.Ytbbdjoahdbjljaa.Ef Go.Proofs.Ytbbdjoahdbjljaa.El Go.Proofs.YtbbdjoahdbjljaaW.PrintWords Go.Proofs.YtbbdjoahdbjljaaW.PrintLast Go.Proofs.YtbbdjoahdbjljaaW.PrintMore
set_option linter.unusedVariables false
set_option linter.unusedSimpArgs false
theorem size_le (w:Nat):∀ R:List (List Int),(∀ r ∈ R,r.length=w)→sizeS R=w*R.length
  |[],_=>rfl
  |r::R,h=>by
    rw [sizeS,size_le w R (fun x hx=>h x (List.mem_cons_of_mem _ hx)),h r (List.mem_cons_self ..),List.length_cons,Nat.mul_succ];omega
theorem both (l:List Int) (own:Bool) (hlen:l.length≤4611686018427387904) (m:Int):∃ (R:List (List Int)) (b:Bool) (w:Nat),w≤16∧R.length≤16∧(∀ r ∈ R,r.length=w)∧Ev (fun k=>spec_QuietColours.f k l own m) (R,b)∧Ev (fun k=>impl_QuietColours.f k l own m) (R,b):=by
  obtain ⟨b,hb,⟨K1,e1⟩,⟨K2,e2⟩⟩:=coloured_both l own hlen m
  simp only at e1 e2
  cases b with
  |false=>
    refine ⟨[],false,0,by omega,by simp,by simp,⟨K1,fun k hk=>?_⟩,⟨K2,fun k hk=>?_⟩⟩
    · show spec_QuietColours.f k l own m=_
      unfold spec_QuietColours.f;rw [e1 k hk];rfl
    · show impl_QuietColours.f k l own m=_
      unfold impl_QuietColours.f;rw [e2 k hk];rfl
  |true=>
    obtain ⟨G,M,L⟩:=hb.1 rfl
    have hl:=G.2.1
    obtain ⟨K3,e3⟩:=spec_quiet G own M
    obtain ⟨K4,e4⟩:=impl_quiet G own M
    obtain ⟨g1,g2,g3,g4⟩:=quiet_full M (tg l own) l.length
    simp only at e3 e4
    refine ⟨quietN m (tg l own) l.length,true,l.length,by omega,Nat.le_trans (Nat.le_trans (Nat.le_of_eq g1) (quiet0_len _ _ _ _)) (by omega),fun r hr=>(rowOk_iff.1 (matOk_iff.1 g4 r hr)).1,⟨K1+K3,fun k hk=>?_⟩,⟨K2+K4,fun k hk=>?_⟩⟩
    · show spec_QuietColours.f k l own m=_
      unfold spec_QuietColours.f
      rw [e1 k (by omega),Option.bind_some,if_pos rfl,e3 k (by omega),Option.bind_some]
    · show impl_QuietColours.f k l own m=_
      unfold impl_QuietColours.f
      rw [e2 k (by omega),Option.bind_some,if_pos rfl,e4 k (by omega),Option.bind_some]
theorem FnExactQuietColours:laws_FnExactQuietColours.Pure:=by
  intro l b a hl _ _
  have hm:maxLen=9223372036854775807:=by decide
  rw [hm] at hl
  by_cases hbig:l.length≤1048576
  · obtain ⟨R,r2,w,hw,hR,hr,⟨K1,s⟩,⟨K2,i⟩⟩:=both l b (by omega) a
    obtain ⟨K3,t⟩:=toGraph_ev l b (by omega)
    obtain ⟨K4,e⟩:=eqGraph_ev l b (by omega)
    have hsz:=size_le w R hr
    have hsz2:w*R.length≤16*16:=Nat.mul_le_mul hw hR
    obtain ⟨K5,er⟩:=eqSS_ev R (by omega) (fun x hx=>by rw [hr x hx];omega)
    obtain ⟨K6,mg⟩:=markGraph_ev l b 1 (by omega) (by omega)
    obtain ⟨K7,mr⟩:=mkSS_at R 1 (by omega) (by omega)
    obtain ⟨K8,hd⟩:=heldSS_ev 1 R (by omega) (by omega) (by omega)
    simp only at s i t e er mg mr hd
    refine ⟨K1+K2+K3+K4+K5+K6+K7+K8,?_⟩
    generalize hk:K1+K2+K3+K4+K5+K6+K7+K8=K
    unfold laws_FnExactQuietColours.f
    rw [szGraph_small l b hbig]
    simp only [Option.bind_some]
    rw [if_neg (by omega),t K (by omega)]
    simp only [Option.bind_some]
    rw [s K (by omega)]
    simp only [Option.bind_some]
    rw [i K (by omega)]
    simp only [Option.bind_some]
    rw [er K (by omega)]
    simp only [Option.bind_some]
    rw [e K (by omega)]
    simp only [Option.bind_some]
    rw [mg K (by omega)]
    simp only [Option.bind_some]
    rw [mr K (by omega)]
    simp only [Option.bind_some]
    rw [hd K (by omega)]
    simp only [Option.bind_some]
    rw [if_pos (by refine ⟨?_,?_,?_,?_,?_,?_⟩<;>first|trivial|omega)]
  · exact ⟨0,by unfold laws_FnExactQuietColours.f;rw [szGraph_big l b hl hbig];rfl⟩
end Go.Proofs.Ytbbdjoahdbjljaa.Pure
