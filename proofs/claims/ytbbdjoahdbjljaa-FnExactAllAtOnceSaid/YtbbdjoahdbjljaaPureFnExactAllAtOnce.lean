/- The law FnExactAllAtOnce, with no program in sight. -/
import Derived.Test.YtbbdjoahdbjljaaSolve
import Derived.Test.YtbbdjoahdbjljaaColour
import Derived.Test.YtbbdjoahdbjljaaBundleA
import Derived.Test.YtbbdjoahdbjljaaSayFnExactAllAtOnce
import Derived.Test.YtbbdjoahdbjljaaPx31
import Derived.Test.YtbbdjoahdbjljaaPx37
import Derived.Test.YtbbdjoahdbjljaaPx38
import Derived.Test.YtbbdjoahdbjljaaPx39
namespace Go.Proofs.Ytbbdjoahdbjljaa.Pure
open Go.RowKit Go.Proofs.Ytbbdjoahdbjljaa.P Go.Proofs.Ytbbdjoahdbjljaa.Bt Go.Proofs.Ytbbdjoahdbjljaa.Lw Go.Proofs.Ytbbdjoahdbjljaa.Gr Go.Proofs.Ytbbdjoahdbjljaa.Co Go.Proofs.Ytbbdjoahdbjljaa.Ef Go.Proofs.Ytbbdjoahdbjljaa.El Go.Proofs.YtbbdjoahdbjljaaW.PrintWords Go.Proofs.YtbbdjoahdbjljaaW.PrintLast Go.Proofs.YtbbdjoahdbjljaaW.PrintMore
set_option linter.unusedVariables false
set_option linter.unusedSimpArgs false
theorem alls {m:Int} (M:IsMod m) (n:Nat) (hn:n≤16) (l:List Int) (own:Bool) {r:List Int × Bool} (h:Ev (fun k=>spec_clSolve.f k l own m (List.replicate n (m - 1))) r):∀ (d i:Nat),i+d=n→Ev (fun k=>spec_AllAtOnce.l0 k m (List.replicate i (m - 1)) (n:Int) (i:Int) l own) r:=by
  have hm:=mod_small M
  intro d
  induction d with
  |zero=>
    intro i hi
    obtain rfl:i=n:=by omega
    refine Ev.succ h 0 fun k _=>?_
    rw [spec_AllAtOnce.l0,if_neg (by omega)]
    cases spec_clSolve.f k l own m (List.replicate i (m - 1))<;>rfl
  |succ d ih=>
    intro i hi
    refine Ev.succ (ih (i+1) (by omega)) 0 fun k _=>?_
    rw [spec_AllAtOnce.l0,if_pos (by omega),if_pos (by rw [List.length_replicate];omega),Bt.wrap_id (by omega) (by omega),step1 (by omega),List.replicate_succ']
theorem both (l:List Int) (own:Bool) (hlen:l.length≤4611686018427387904) (m:Int):∃ r:List Int × Bool,r.1.length≤16∧Ev (fun k=>spec_AllAtOnce.f k l own m) r∧Ev (fun k=>impl_AllAtOnce.f k l own m) r:=by
  obtain ⟨b,hb,⟨K3,e3⟩,⟨K4,e4⟩⟩:=coloured_both l own hlen m
  simp only at e3 e4
  cases b with
  |false=>
    refine ⟨([],false),by simp,⟨K3,fun k hk=>?_⟩,⟨K4,fun k hk=>?_⟩⟩
    · show spec_AllAtOnce.f k l own m=_
      unfold spec_AllAtOnce.f;rw [e3 k hk];rfl
    · show impl_AllAtOnce.f k l own m=_
      unfold impl_AllAtOnce.f;rw [e4 k hk];rfl
  |true=>
    obtain ⟨G,M,L⟩:=hb.1 rfl
    have hm:=mod_small M
    have hl:=G.2.1
    have hl1:=G.1
    have T:(List.replicate l.length (m - 1)).length=l.length:=by simp
    have I:InR m (List.replicate l.length (m - 1)):=fun x hx=>by have:=List.eq_of_mem_replicate hx;omega
    obtain ⟨K1,e1⟩:=alls M l.length hl l own (spec_solve M G own T I) l.length 0 (by omega)
    obtain ⟨K2,e2⟩:=impl_solve M G own T I
    simp only at e1 e2
    have hr:slices_Repeat_int_int.f [wrap64 (m - 1)] (l.length:Int)=some (List.replicate l.length (m - 1)):=by
      unfold slices_Repeat_int_int.f
      rw [if_pos (show [wrap64 (m - 1)].length=1 from rfl),if_pos (by omega),if_pos (by omega),Int.toNat_natCast,Bt.wrap_id (by omega) (by omega)];rfl
    refine ⟨solveN m (tg l own) l.length (List.replicate l.length (m - 1)),solveN_len M _ hl T,⟨K1+K3,fun k hk=>?_⟩,⟨K2+K4,fun k hk=>?_⟩⟩
    · show spec_AllAtOnce.f k l own m=_
      unfold spec_AllAtOnce.f;rw [e3 k (by omega),Option.bind_some,if_pos rfl]
      exact e1 k (by omega)
    · show impl_AllAtOnce.f k l own m=_
      unfold impl_AllAtOnce.f;rw [e4 k (by omega),Option.bind_some,if_pos rfl,hr,Option.bind_some,e2 k (by omega)];rfl
theorem FnExactAllAtOnce:laws_FnExactAllAtOnce.Pure:=by
  intro l b m hl _ _
  have hmx:maxLen=9223372036854775807:=by decide
  rw [hmx] at hl
  by_cases hbig:l.length≤1048576
  · obtain ⟨⟨r1,r2⟩,hr,⟨K1,s⟩,⟨K2,i⟩⟩:=both l b (by omega) m
    simp only at hr
    obtain ⟨K3,tg⟩:=toGraph_ev l b (by omega)
    obtain ⟨K4,e⟩:=eqGraph_ev l b (by omega)
    obtain ⟨K7,er⟩:=eqIntS_ev r1 (by omega)
    obtain ⟨K8,mg⟩:=markGraph_ev l b 1 (by omega) (by omega)
    obtain ⟨K10,mr⟩:=markIntS_ev r1 1 (by omega) (by omega)
    obtain ⟨K11,hd⟩:=heldIntS_ev 1 r1.length (by omega) (by omega)
    simp only at s i tg e er mg mr hd
    refine ⟨K1+K2+K3+K4+K7+K8+K10+K11+3,?_⟩
    generalize hk:K1+K2+K3+K4+K7+K8+K10+K11=K
    unfold laws_FnExactAllAtOnce.f
    rw [szGraph_small l b hbig,Option.bind_some,if_neg (by omega),tg (K+3) (by omega),Option.bind_some,s (K+3) (by omega),Option.bind_some,Option.bind_some,i (K+3) (by omega),Option.bind_some]
    simp only [bne_self_eq_false]
    rw [er (K+3) (by omega),Option.bind_some,if_pos rfl]
    rw [laws_FnExactAllAtOnce.j0,if_neg (by simp),tg (K+2) (by omega),Option.bind_some,e (K+2) (by omega),Option.bind_some,if_pos rfl,mg (K+2) (by omega),Option.bind_some]
    simp only []
    rw [if_neg (by omega),er (K+2) (by omega),Option.bind_some,if_pos rfl,bne_self_eq_false]
    rw [laws_FnExactAllAtOnce.j1,if_neg (by simp),mr (K+1) (by omega),Option.bind_some]
    simp only []
    rw [hd (K+1) (by omega),Option.bind_some,if_neg (by omega),if_pos rfl,tg (K+1) (by omega),Option.bind_some]
    simp only []
    rw [i (K+1) (by omega),Option.bind_some]
    simp only [bne_self_eq_false]
    rw [er (K+1) (by omega),Option.bind_some,if_pos rfl]
    rw [laws_FnExactAllAtOnce.j2,if_neg (by simp),hd K (by omega),Option.bind_some,if_neg (by omega),if_pos rfl]
  · exact ⟨0,by unfold laws_FnExactAllAtOnce.f;rw [szGraph_big l b hl hbig];rfl⟩
end Go.Proofs.Ytbbdjoahdbjljaa.Pure
