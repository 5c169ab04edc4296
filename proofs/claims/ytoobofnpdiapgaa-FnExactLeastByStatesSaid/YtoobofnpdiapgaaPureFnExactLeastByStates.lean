/- The law FnExactLeastByStates, with no program in sight. -/
import Derived.Test.YtoobofnpdiapgaaDP
import Derived.Test.YtoobofnpdiapgaaSayFnExactLeastByStates
import Derived.Test.YtoobofnpdiapgaaPx1
import Derived.Test.YtoobofnpdiapgaaPx10
import Derived.Test.YtoobofnpdiapgaaPx12
import Derived.Test.YtoobofnpdiapgaaPx23
import Derived.Test.YtoobofnpdiapgaaPx27
import Derived.Test.YtoobofnpdiapgaaPx28
import Derived.Test.YtoobofnpdiapgaaPx29
import Derived.Test.YtoobofnpdiapgaaPx33
import Derived.Test.YtoobofnpdiapgaaPx34
import Derived.Test.YtoobofnpdiapgaaPx35
import Derived.Test.YtoobofnpdiapgaaPx7
namespace Go.Proofs.Ytoobofnpdiapgaa.Gr
open Go.RowKit Go.Proofs.Ytoobofnpdiapgaa.P Go.Proofs.Ytoobofnpdiapgaa.Bt Go.Proofs.Ytoobofnpdiapgaa.Lw Go.Proofs.Ytoobofnpdiapgaa.Gf Go.Proofs.Ytoobofnpdiapgaa.Sp Go.Proofs.Ytoobofnpdiapgaa.Pa Go.Proofs.Ytoobofnpdiapgaa.St Go.Proofs.Ytoobofnpdiapgaa.Sv Go.Proofs.Ytoobofnpdiapgaa.Sy Go.Proofs.Ytoobofnpdiapgaa.Bo Go.Proofs.YtoobofnpdiapgaaW.PrintWords Go.Proofs.YtoobofnpdiapgaaW.PrintLast Go.Proofs.YtoobofnpdiapgaaW.PrintMore
set_option linter.unusedVariables false
set_option linter.unusedSimpArgs false
theorem patI_at {b:Nat} (hb:b< 65536):∀ (S out:List Nat),(∀ x ∈ S,x< 65536)→out.length+S.length≤1000000→patI (b:Int) (ci S) (ci out)=some (ci (out++S.map (· ^^^ b)))
  |[],out,_,_=>by simp [ci,patI]
  |s::S,out,hS,hl=>by
    have hs:=hS s (List.mem_cons_self ..)
    have hl':out.length+(S.length+1)≤1000000:=hl
    show patI (b:Int) ((s:Int)::ci S) (ci out)=_
    rw [patI,if_pos (by rw [ci_length];omega),bits_xor (by omega) (by omega),ci_snoc,patI_at hb S _ (fun x hx=>hS x (List.mem_cons_of_mem _ hx)) (by rw [List.length_append,List.length_singleton];omega)]
    simp
theorem sums_small {C:List Nat} (h:∀ x ∈ C,x< 65536):∀ x ∈ sums C,x< 65536:=fun x hx=>
  InSpan.sub (P:=fun v=>v< 65536) (by omega) (fun u v hu hv=>xor16 hu hv) h ((sums_mem C x).1 hx)
theorem patL_at:∀ (B C:List Nat),(∀ x ∈ B,x< 65536)→(∀ x ∈ C,x< 65536)→B.length+C.length≤16→patL (ci B) (ci (sums C))=some (ci (sums (B.reverse++C)))
  |[],C,_,_,_=>by simp [ci,patL]
  |b::B,C,hB,hC,hl=>by
    have hb:=hB b (List.mem_cons_self ..)
    have hl':B.length+1+C.length≤16:=hl
    have hp:2 ^ C.length≤65536:=pow_le16 (by omega)
    have hq:=Nat.two_pow_pos C.length
    show patL ((b:Int)::ci B) (ci (sums C))=_
    rw [patL,if_pos (by rw [ci_length,sums_len];omega),patI_at hb _ _ (sums_small hC) (by rw [sums_len];omega)]
    simp only [Option.bind_some]
    have:=patL_at B (b::C) (fun x hx=>hB x (List.mem_cons_of_mem _ hx)) (fun x hx=>by
      rcases List.mem_cons.1 hx with rfl|hx
      · exact hb
      · exact hC x hx) (by rw [List.length_cons];omega)
    rw [show sums C++(sums C).map (· ^^^ b)=sums (b::C) from rfl,this]
    simp
end Go.Proofs.Ytoobofnpdiapgaa.Gr
namespace Go.Proofs.Ytoobofnpdiapgaa.Dp
open Go.RowKit Go.Proofs.Ytoobofnpdiapgaa.P Go.Proofs.Ytoobofnpdiapgaa.Bt Go.Proofs.Ytoobofnpdiapgaa.Lw Go.Proofs.Ytoobofnpdiapgaa.Gr Go.Proofs.Ytoobofnpdiapgaa.Gf Go.Proofs.Ytoobofnpdiapgaa.Sp Go.Proofs.Ytoobofnpdiapgaa.Pa Go.Proofs.Ytoobofnpdiapgaa.St Go.Proofs.Ytoobofnpdiapgaa.Sv Go.Proofs.Ytoobofnpdiapgaa.Sy Go.Proofs.Ytoobofnpdiapgaa.Bo Go.Proofs.YtoobofnpdiapgaaW.PrintWords Go.Proofs.YtoobofnpdiapgaaW.PrintLast Go.Proofs.YtoobofnpdiapgaaW.PrintMore
set_option linter.unusedVariables false
set_option linter.unusedSimpArgs false
/-- The program's pick among one and a row of patterns. -/
theorem ls_at {r:Nat} (hr:r< 65536):∀ (S:List Nat) (b:Nat),(∀ x ∈ S,x< 65536)→b< 65536→∃ c:Nat,lsI (r:Int) (ci S) (b:Int)=some (c:Int)∧c< 65536∧(c=b∨∃ x ∈ S,c=r ^^^ x)∧pc c≤pc b∧∀ x ∈ S,pc c≤pc (r ^^^ x)
  |[],b,_,hb=>⟨b,rfl,hb,.inl rfl,Nat.le_refl _,fun x hx=>by cases hx⟩
  |q::S,b,hS,hb=>by
    have hq:=hS q (List.mem_cons_self ..)
    have hx:r ^^^ q< 65536:=xor16 hr hq
    have hT:∀ x ∈ S,x< 65536:=fun x hx=>hS x (List.mem_cons_of_mem _ hx)
    show ∃ c:Nat,lsI (r:Int) ((q:Int)::ci S) (b:Int)=_∧_
    rw [lsI,bits_xor (by omega) (by omega),count_at hx,count_at hb]
    simp only [Option.bind_some]
    by_cases c:((pc (r ^^^ q):Nat):Int)< ((pc b:Nat):Int)∨((pc (r ^^^ q):Nat):Int)=((pc b:Nat):Int)∧((r ^^^ q:Nat):Int)< (b:Int)
    · rw [if_pos c]
      obtain ⟨m,h1,h2,h3,h4,h5⟩:=ls_at hr S (r ^^^ q) hT hx
      have:pc (r ^^^ q)≤pc b:=by rcases c with c|c<;>omega
      refine ⟨m,h1,h2,?_,by omega,fun x hx'=>?_⟩
      · rcases h3 with h|⟨x,hx',h⟩
        · exact .inr ⟨q,List.mem_cons_self ..,h⟩
        · exact .inr ⟨x,List.mem_cons_of_mem _ hx',h⟩
      · rcases List.mem_cons.1 hx' with rfl|h
        · exact h4
        · exact h5 x h
    · rw [if_neg c]
      obtain ⟨m,h1,h2,h3,h4,h5⟩:=ls_at hr S b hT hb
      have:pc b≤pc (r ^^^ q):=by
        rcases Nat.lt_or_ge (pc (r ^^^ q)) (pc b) with h|h
        · exact absurd (.inl (by omega)) c
        · exact h
      refine ⟨m,h1,h2,?_,h4,fun x hx'=>?_⟩
      · rcases h3 with h|⟨x,hx',h⟩
        · exact .inl h
        · exact .inr ⟨x,List.mem_cons_of_mem _ hx',h⟩
      · rcases List.mem_cons.1 hx' with rfl|h
        · omega
        · exact h5 x h
theorem lst_mem:∀ {A:List Nat},A≠[]→∃ y ∈ A,pc y=lst A
  |[],h=>absurd rfl h
  |[x],_=>⟨x,List.mem_cons_self ..,rfl⟩
  |x::y::l,_=>by
    obtain ⟨z,hz,e⟩:=lst_mem (A:=y::l) (by simp)
    rw [lst_cons x (by simp)]
    rcases Nat.le_total (pc x) (lst (y::l)) with h|h
    · exact ⟨x,List.mem_cons_self ..,by omega⟩
    · exact ⟨z,List.mem_cons_of_mem _ hz,by omega⟩
theorem lst_low:∀ {A:List Nat} {y:Nat},y ∈ A→lst A≤pc y
  |[],_,h=>by cases h
  |[x],y,h=>by
    rw [List.mem_singleton.1 h];exact Nat.le_refl _
  |x::z::l,y,h=>by
    rw [lst_cons x (by simp)]
    rcases List.mem_cons.1 h with rfl|h
    · omega
    · have:=lst_low h
      omega
/-- The sorted row of all sums. -/
theorem sorted_at {Q:List Nat} (hl:Q.length≤16) (hs:∀ x ∈ Q,x< 65536):∃ (o:List Int) (B:List Nat),patL (ci Q) [0]=some o∧slices_Sort_int_int.f o=some (ci B)∧∀ x,x ∈ B↔InSpan Q x:=by
  have hp:2 ^ Q.length≤65536:=pow_le16 hl
  have h1:=patL_at Q [] hs (fun x hx=>by cases hx) (by simpa using hl)
  rw [List.append_nil] at h1
  have hlen:(sums Q.reverse).length=2 ^ Q.length:=by rw [sums_len,List.length_reverse]
  have hsort:slices_Sort_int_int.f (ci (sums Q.reverse))=some ((ci (sums Q.reverse)).mergeSort fun x y=>decide (x≤y)):=by
    unfold slices_Sort_int_int.f
    rw [if_pos (by rw [ci_length,hlen];omega)]
  obtain ⟨B,eB,pB⟩:=ci_toNat (List.mergeSort_perm (ci (sums Q.reverse)) (fun x y=>decide (x≤y)))
  exact ⟨_,B,h1,by rw [hsort,eB],fun x=>by rw [pB.mem_iff,sums_mem,InSpan.perm (List.reverse_perm Q)]⟩
section
variable (l:List Int) (G:Gr.Good l)
include G
/-- The least number of presses in a forest, on both sides. -/
theorem least_good (own:Bool) (Y:Nat) (hb:badOf l=0) (hY:Y< 2 ^ l.length):
    ∃ (c m:Nat) (E:List Int) (s:List (Int × Int) × List Int × List Int) (lr:Int × Int) (rr:Int),tgF l own l.length 0 []=some E∧solF 1000 E 0 [] [] []=some s∧reachL s.1 1000 (Y:Int) 0=some lr∧impl_reduced.f s.2.1 lr.2=some rr∧
      ((lr.1==0)=false∧c=0∨(lr.1==0)=true∧0< c∧∃ (o q:List Int) (b:Int),patL s.2.1 [0]=some o∧slices_Sort_int_int.f o=some q∧lsI rr q rr=some b∧impl_count.f b=some (m:Int))∧
      Ev (fun k=>spec_trAll.f k l own (bfs l).par (Y:Int)) ((c:Int),(m:Int)):=by
  have hl:=G.2.1
  have h16:2 ^ l.length≤65536:=pow_le16 hl
  obtain ⟨p1,⟨pos,p2,p3⟩,p4⟩:=Bf.forest_par (nr l) (gsym G) (glt G) hb
  have hsy:=lF_sym hl (fun a b ha hb=>by rw [Bool.eq_iff_iff];exact ⟨gsym G a b ha hb,gsym G b a hb ha⟩) (gloop G) (glt G) (fO own)
  have hR:∀ i,i< l.length→(lF (nr l) (fO own) l.length).getD i 0< 2 ^ l.length:=fun i hi=>by
    have:=hsy.l ((lF (nr l) (fO own) l.length).getD i 0) (by
      rw [List.getD_eq_getElem?_getD,List.getElem?_eq_getElem (by rw [lF_len];exact hi)];exact List.getElem_mem _)
    rwa [lF_len] at this
  have U:Up l.length (fun j=>(bfs l).par.getD j 0) pos:=⟨p3⟩
  have hA:Adj (nr l) l.length (fun j=>(bfs l).par.getD j 0):=p4
  have hF:=(allL_fam U own Y l.length l.length p2 (Nat.le_refl _)).congr (T:=fun v=>v< l.length) (Q:=fun y=>eff (fun j=>(lF (nr l) (fO own) l.length).getD j 0) l.length y=Y) (fun v=>Iff.rfl) (fun y _=>all_iff U hA own hR Y y hY)
  obtain ⟨P,Q,I,q1,hI⟩:=solF_all (L:=lF (nr l) (fO own) l.length) (fun x hx=>by
    have:=hsy.l x hx
    rw [lF_len] at this;omega) (by rw [lF_len];exact hl) (k:=1000) (by omega)
  have hspL:∀ v,InSpan (P.map (·.1)) v↔InSpan (lF (nr l) (fO own) l.length) v:=fun v=>by rw [hI.span,List.take_length]
  obtain ⟨l',p',r1,r2,r3,r4,r5,r6⟩:=reach_at (m:=(lF (nr l) (fO own) l.length).length) (by rw [lF_len];exact hl) hI.pok 16 Y 0 1000 (bl16 (by omega)) (by omega) (Nat.two_pow_pos _) (by omega)
  have hef:=r6 (eff (fun j=>(lF (nr l) (fO own) l.length).getD j 0) (lF (nr l) (fO own) l.length).length) (eff_xor _ _) hI.pe
  rw [eff_zero,Nat.zero_xor] at hef
  have hcnt:=hI.cnt
  rw [lF_len] at hcnt hef r3
  have hk:∀ v,InSpan Q v↔v< 2 ^ l.length∧eff (fun j=>(lF (nr l) (fO own) l.length).getD j 0) l.length v=0:=fun v=>⟨fun h=>by
    have:=hI.qe v h
    rw [lF_len] at this
    exact this,fun h=>by
    have:=hI.ker v
    rw [lF_len] at this
    exact this h.1 h.2⟩
  have hred:=reduced_at hI.qs (by omega) (s:=p') (by omega)
  have hev:Ev (fun k=>spec_trAll.f k l own (bfs l).par (Y:Int)) (((allL l.length (fun j=>(bfs l).par.getD j 0) own Y l.length).length:Int),(lst (allL l.length (fun j=>(bfs l).par.getD j 0) own Y l.length):Int)):=
    ⟨_,fun k hk=>trAll_at l (bfs l).par own Y U hl p1 (by omega) p2 k hk⟩
  have t1:=tgO_at l G own l.length 0 (by omega)
  rw [show ci (List.take 0 (lF (nr l) (fO own) l.length))=[] by simp [ci]] at t1
  refine ⟨_,_,_,_,_,_,t1,q1,r1,hred,?_,hev⟩
  dsimp only
  by_cases c:l'=0
  · subst c
    refine .inr ⟨by simp,?_,?_⟩
    all_goals rw [Nat.xor_zero] at hef
    · exact List.length_pos_of_mem ((hF.mem p').2 ⟨lt_bits.2 r3,hef⟩)
    · have hQl:∀ s ∈ Q.reverse,s< 2 ^ l.length:=fun s hs=>((hk s).1 (InSpan.mem (List.mem_reverse.1 hs))).1
      have hx:=putN_lt Q.reverse p' hQl r3
      have hspx:InSpan Q (p' ^^^ putN Q.reverse p'):=(InSpan.perm (List.reverse_perm Q) _).1 (putN_span _ _)
      have hxe:eff (fun j=>(lF (nr l) (fO own) l.length).getD j 0) l.length (putN Q.reverse p')=Y:=by
        have:=((hk _).1 hspx).2
        rw [eff_xor,hef] at this
        exact (xor_eq_zero.1 this).symm
      generalize putN Q.reverse p'=r at hx hspx hxe
      obtain ⟨o,B,s1,s2,s3⟩:=sorted_at (Q:=Q) (by omega) (fun x hx=>by
        have:=((hk x).1 (InSpan.mem hx)).1
        omega)
      have hB16:∀ x ∈ B,x< 65536:=fun x hx=>by
        have:=((hk x).1 ((s3 x).1 hx)).1
        omega
      obtain ⟨b,t1,t2,t3,t4,t5⟩:=ls_at (r:=r) (by omega) B r hB16 (by omega)
      refine ⟨o,ci B,(b:Int),s1,s2,t1,?_⟩
      have hin:∀ y,y ∈ allL l.length (fun j=>(bfs l).par.getD j 0) own Y l.length↔y< 2 ^ l.length∧eff (fun j=>(lF (nr l) (fO own) l.length).getD j 0) l.length y=Y:=fun y=>by rw [hF.mem,lt_bits]
      have hbA:b ∈ allL l.length (fun j=>(bfs l).par.getD j 0) own Y l.length:=by
        rw [hin]
        rcases t3 with rfl|⟨x,hxB,rfl⟩
        · exact ⟨hx,hxe⟩
        · obtain ⟨z1,z2⟩:=(hk x).1 ((s3 x).1 hxB)
          exact ⟨Nat.xor_lt_two_pow hx z1,by rw [eff_xor,z2,Nat.xor_zero,hxe]⟩
      obtain ⟨y,hy,ey⟩:=lst_mem (List.ne_nil_of_mem hbA)
      have h1:=lst_low hbA
      obtain ⟨y1,y2⟩:=(hin y).1 hy
      have hz:r ^^^ y ∈ B:=(s3 _).2 ((hk _).2 ⟨Nat.xor_lt_two_pow hx y1,by rw [eff_xor,hxe,y2,Nat.xor_self]⟩)
      have h2:=t5 _ hz
      rw [xor_xor] at h2
      have hkey:pc b=lst (allL l.length (fun j=>(bfs l).par.getD j 0) own Y l.length):=Nat.le_antisymm (by rw [← ey];exact h2) h1
      rw [count_at t2,hkey]
  · refine .inl ⟨by simpa using c,?_⟩
    refine List.length_eq_zero_iff.2 (List.eq_nil_iff_forall_not_mem.2 (fun y hy=>c ?_))
    obtain ⟨y1,y2⟩:=(hF.mem y).1 hy
    have hyl:=lt_bits.1 y1
    have hin:InSpan (P.map (·.1)) Y:=by
      rw [hspL,← List.take_length (l:=lF (nr l) (fO own) l.length),← y2]
      have:=eff_small (lF (nr l) (fO own) l.length) (x:=y) (m:=l.length) (by rw [lF_len];exact Nat.le_refl _) hyl
      rw [lF_len] at this
      rw [show List.take (lF (nr l) (fO own) l.length).length (lF (nr l) (fO own) l.length)=List.take l.length (lF (nr l) (fO own) l.length) by rw [lF_len]]
      exact this
    exact tri_no hI.tri r4 (by have:=hin.xor r5;rwa [xor_xor] at this)
end
end Go.Proofs.Ytoobofnpdiapgaa.Dp
namespace Go.Proofs.Ytoobofnpdiapgaa.Pure
open Go.RowKit Go.Proofs.Ytoobofnpdiapgaa.P Go.Proofs.Ytoobofnpdiapgaa.Bt Go.Proofs.Ytoobofnpdiapgaa.Lw Go.Proofs.Ytoobofnpdiapgaa.Gr Go.Proofs.Ytoobofnpdiapgaa.Dp Go.Proofs.YtoobofnpdiapgaaW.PrintWords Go.Proofs.YtoobofnpdiapgaaW.PrintLast Go.Proofs.YtoobofnpdiapgaaW.PrintMore
set_option linter.unusedVariables false
set_option linter.unusedSimpArgs false
theorem notForest {l:List Int} {own:Bool} {K:Nat} (h:∀ k,K≤k→impl_isGraph.f k l own=some false) (k:Nat) (hk:K≤k):impl_isForest.f k l own=some false:=by
  unfold impl_isForest.f;rw [h k hk];rfl
theorem count0:impl_count.f 0=some 0:=by
  have h:=count_at (n:=0) (by omega)
  rw [pc_zero] at h
  exact h
theorem bothLeastByStates (l:List Int) (own:Bool) (hlen:l.length≤4611686018427387904) (a:Int):∃ r:Int × Bool,Ev (fun k=>spec_LeastByStates.f k l own a) r∧Ev (fun k=>impl_LeastByStates.f k l own a) r:=by
  obtain ⟨b,hb,⟨K1,e1⟩,⟨K2,e2⟩⟩:=set_both l own hlen a
  obtain ⟨g,hg,-,⟨K3,e3⟩⟩:=good_both l own hlen
  simp only at e1 e2 e3
  cases g with
  |false=>
    have hbf:b=false:=by
      cases b with
      |false=>rfl
      |true=>exact absurd (hg.2 (hb.1 rfl).1) (by simp)
    subst hbf
    refine ⟨(0,false),⟨K1,fun k hk=>?_⟩,⟨K3,fun k hk=>?_⟩⟩
    · show spec_LeastByStates.f k l own a=_
      unfold spec_LeastByStates.f;rw [e1 k hk];rfl
    · show impl_LeastByStates.f k l own a=_
      unfold impl_LeastByStates.f;rw [notForest e3 k hk];rfl
  |true=>
    have G:=hg.1 rfl
    obtain ⟨K4,f1⟩:=tr_ev l own G
    obtain ⟨K5,f2⟩:=forest_ev l own G
    simp only at f1 f2
    by_cases hbad:badOf l=0
    · rw [show (badOf l==0)=true by simpa using hbad] at f2
      cases b with
      |false=>
        refine ⟨(0,false),⟨K1,fun k hk=>?_⟩,⟨K2+K5,fun k hk=>?_⟩⟩
        · show spec_LeastByStates.f k l own a=_
          unfold spec_LeastByStates.f;rw [e1 k hk];rfl
        · show impl_LeastByStates.f k l own a=_
          unfold impl_LeastByStates.f impl_LeastSolution.f impl_LeastSolution.fk;rw [f2 k (by omega)]
          simp only [Option.bind_some,if_true]
          rw [e2 k (by omega)]
          simp only [Option.bind_some]
          rw [if_neg (by simp)]
          simp only [Option.bind_some]
          rw [count0]
          rfl
      |true=>
        obtain ⟨-,h0,h1⟩:=hb.1 rfl
        obtain ⟨Y,rfl⟩:∃ Y:Nat,a=Y:=⟨a.toNat,by omega⟩
        have ep:((2 ^ l.length:Nat):Int)=(2:Int) ^ l.length:=by simp
        obtain ⟨c,m,E,s,lr,rr,s1,s2,s3,s4,s5,⟨K6,s6⟩⟩:=least_good l G own Y hbad (by omega)
        simp only at s6
        have hs:∀ k,K1+K4+K6≤k→spec_LeastByStates.f k l own (Y:Int)=if (c:Int)=0 then some (0,false) else some ((m:Int),true):=fun k hk=>by
          unfold spec_LeastByStates.f;rw [e1 k (by omega)]
          simp only [Option.bind_some,if_true]
          rw [f1 k (by omega),if_pos hbad]
          simp only [Option.bind_some,if_true]
          rw [s6 k (by omega)]
          rfl
        have hi:∀ k,K2+K5≤k→impl_LeastByStates.f k l own (Y:Int)=(if (lr.1==0)=true then (patL s.2.1 [0]).bind fun o=>(slices_Sort_int_int.f o).bind fun q=>(lsI rr q rr).bind fun b=>some (b,true) else some (0,false)).bind fun v=>(impl_count.f v.1).bind fun n=>some (n,v.2):=fun k hk=>by
          unfold impl_LeastByStates.f impl_LeastSolution.f impl_LeastSolution.fk;rw [f2 k (by omega)]
          simp only [Option.bind_some,if_true]
          rw [e2 k (by omega)]
          simp only [Option.bind_some,if_true]
          rw [s1]
          simp only [Option.bind_some]
          rw [s2]
          simp only [Option.bind_some]
          rw [s3]
          simp only [Option.bind_some]
          rw [s4]
          rfl
        rcases s5 with ⟨c1,c2⟩|⟨c1,c2,o,q,b,d1,d2,d3,d4⟩
        · refine ⟨(0,false),⟨K1+K4+K6,fun k hk=>(hs k hk).trans (if_pos (by omega))⟩,⟨K2+K5,fun k hk=>(hi k hk).trans ?_⟩⟩
          rw [c1,if_neg (by simp)]
          simp only [Option.bind_some]
          rw [count0]
          rfl
        · refine ⟨((m:Int),true),⟨K1+K4+K6,fun k hk=>(hs k hk).trans (if_neg (by omega))⟩,⟨K2+K5,fun k hk=>(hi k hk).trans ?_⟩⟩
          rw [if_pos c1,d1]
          simp only [Option.bind_some]
          rw [d2]
          simp only [Option.bind_some]
          rw [d3]
          simp only [Option.bind_some]
          rw [d4]
          rfl
    · rw [show (badOf l==0)=false by simpa using hbad] at f2
      refine ⟨(0,false),⟨K1+K4,fun k hk=>?_⟩,⟨K5,fun k hk=>?_⟩⟩
      · show spec_LeastByStates.f k l own a=_
        unfold spec_LeastByStates.f;rw [e1 k (by omega)]
        cases b with
        |false=>rfl
        |true=>
          simp only [Option.bind_some,if_true]
          rw [f1 k (by omega),if_neg hbad]
          rfl
      · show impl_LeastByStates.f k l own a=_
        unfold impl_LeastByStates.f;rw [f2 k (by omega)];rfl
theorem FnExactLeastByStates:laws_FnExactLeastByStates.Pure:=by
  intro l b a hl _ _
  have hm:maxLen=9223372036854775807:=by decide
  rw [hm] at hl
  by_cases hbig:l.length≤1048576
  · obtain ⟨⟨r1,r2⟩,⟨K1,s⟩,⟨K2,i⟩⟩:=bothLeastByStates l b (by omega) a
    obtain ⟨K3,t⟩:=toGraph_ev l b (by omega)
    obtain ⟨K4,e⟩:=eqGraph_ev l b (by omega)
    simp only at s i t e
    refine ⟨K1+K2+K3+K4+1,?_⟩
    generalize hk:K1+K2+K3+K4=K
    unfold laws_FnExactLeastByStates.f
    rw [szGraph_small l b hbig]
    simp only [Option.bind_some]
    rw [if_neg (by omega),t (K+1) (by omega)]
    simp only [Option.bind_some]
    rw [s (K+1) (by omega)]
    simp only [Option.bind_some]
    rw [i (K+1) (by omega)]
    simp only [Option.bind_some,bne_self_eq_false,if_true]
    rw [laws_FnExactLeastByStates.j0,if_neg (by simp),t K (by omega)]
    simp only [Option.bind_some]
    rw [e K (by omega)]
    rfl
  · exact ⟨0,by unfold laws_FnExactLeastByStates.f;rw [szGraph_big l b hl hbig];rfl⟩
end Go.Proofs.Ytoobofnpdiapgaa.Pure
