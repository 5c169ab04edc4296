/- Colours: which numbers and lists count, on both sides. -/
import Derived.Test.YtbbdjoahdbjljaaBundleA
import Derived.Test.YtbbdjoahdbjljaaPx3
import Derived.Test.YtbbdjoahdbjljaaPx7
namespace Go.Proofs.Ytbbdjoahdbjljaa.Co
open Go.RowKit Go.Proofs.Ytbbdjoahdbjljaa.P Go.Proofs.Ytbbdjoahdbjljaa.Bt Go.Proofs.Ytbbdjoahdbjljaa.Lw Go.Proofs.Ytbbdjoahdbjljaa.Gr Go.Proofs.YtbbdjoahdbjljaaW.PrintWords Go.Proofs.YtbbdjoahdbjljaaW.PrintLast Go.Proofs.YtbbdjoahdbjljaaW.PrintMore
set_option linter.unusedVariables false
set_option linter.unusedSimpArgs false
theorem all_InR {m:Int} (h:IsMod m) (l:List Int):(l.all fun x=>decide (0≤x) && decide (x≤wrap64 (m - 1)))=true↔InR m l:=by
  have:=mod_small h
  rw [Bt.wrap_id (by omega) (by omega)]
  simp only [List.all_eq_true,Bool.and_eq_true,decide_eq_true_eq,InR]
  exact ⟨fun h x hx=>⟨(h x hx).1,by have:=(h x hx).2;omega⟩,fun h x hx=>⟨(h x hx).1,by have:=(h x hx).2;omega⟩⟩
theorem list_both (l:List Int) (own:Bool) (hlen:l.length≤4611686018427387904) (m:Int) (t:List Int):
    ∃ b:Bool,(b=true↔Gr.Good l∧IsMod m∧l.length≤10∧t.length=l.length∧InR m t)∧Ev (fun k=>spec_clList.f k l own m t) b∧Ev (fun k=>impl_areColours.f k l own m t) b:=by
  obtain ⟨g,hg,⟨K1,e1⟩,⟨K2,e2⟩⟩:=coloured_both l own hlen m
  simp only at e1 e2
  cases g with
  |false=>
    refine ⟨false,⟨fun h=>(by cases h),fun h=>(by have:=hg.2 ⟨h.1,h.2.1,h.2.2.1⟩;cases this)⟩,⟨K1,fun k hk=>?_⟩,⟨K2,fun k hk=>?_⟩⟩
    · show spec_clList.f k l own m t=_
      unfold spec_clList.f;rw [e1 k hk];rfl
    · show impl_areColours.f k l own m t=_
      unfold impl_areColours.f;rw [e2 k hk];rfl
  |true=>
    obtain ⟨G,M,L⟩:=hg.1 rfl
    by_cases c:(t.length:Int)=(l.length:Int)
    · refine ⟨t.all fun x=>decide (0≤x) && decide (x≤wrap64 (m - 1)),?_,⟨K1+t.length+1,fun k hk=>?_⟩,⟨K2,fun k hk=>?_⟩⟩
      · rw [all_InR M]
        exact ⟨fun h=>⟨G,M,L,by omega,h⟩,fun h=>h.2.2.2.2⟩
      · show spec_clList.f k l own m t=_
        unfold spec_clList.f
        rw [e1 k (by omega),Option.bind_some,if_pos rfl,if_pos c,l1All_at t 0 _ (by omega) k (by omega)]
        rfl
      · show impl_areColours.f k l own m t=_
        unfold impl_areColours.f
        rw [e2 k hk,Option.bind_some,if_pos rfl,if_pos c]
    · refine ⟨false,⟨fun h=>(by cases h),fun h=>absurd (by rw [h.2.2.2.1]) c⟩,⟨K1,fun k hk=>?_⟩,⟨K2,fun k hk=>?_⟩⟩
      · show spec_clList.f k l own m t=_
        unfold spec_clList.f
        rw [e1 k hk,Option.bind_some,if_pos rfl,if_neg c]
      · show impl_areColours.f k l own m t=_
        unfold impl_areColours.f
        rw [e2 k hk,Option.bind_some,if_pos rfl,if_neg c]
end Go.Proofs.Ytbbdjoahdbjljaa.Co
