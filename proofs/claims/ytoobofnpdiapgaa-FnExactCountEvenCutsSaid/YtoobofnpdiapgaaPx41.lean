-- Written by a program of this session (wip/mp.py), which runs the kit's print with contracts of the session's own.
import Derived.Test.YtoobofnpdiapgaaPx0
import Derived.Test.YtoobofnpdiapgaaPx1
import Derived.Test.YtoobofnpdiapgaaPx2
import Derived.Test.YtoobofnpdiapgaaPx17
import Derived.Test.YtoobofnpdiapgaaPx28
import Derived.Test.YtoobofnpdiapgaaPx40
namespace Go.Proofs.Ytoobofnpdiapgaa.P
open Go.RowKit Go.Proofs.YtoobofnpdiapgaaW.PrintWords Go.Proofs.YtoobofnpdiapgaaW.PrintLast Go.Proofs.YtoobofnpdiapgaaW.PrintMore
attribute [local go_sem] max2_int min2_int max_two min_two max_three min_three max_four min_four -- for this text's walks alone
set_option linter.unusedVariables false
set_option linter.unusedSimpArgs false
/-! ### spec_CountEvenCuts: function 33 -/
mutual
def spec_CountEvenCuts.j0:Nat→Bool→List Int→Bool→Option (Int × Bool)
 |0,_,_,_=>none
 |k+1,x14,x626000,x626001=>if x14=true then (some (0,false)) else (spec_CountEvenCuts.l0 k 0 0 x626000 x626001)
def spec_CountEvenCuts.l0:Nat→Int→Int→List Int→Bool→Option (Int × Bool)
 |0,_,_,_,_=>none
 |k+1,x4,x5,x626000,x626001=>if x5< (shl .i64 1 (x626000.length:Int)) then ((spec_paCut.f k x626000 x626001 x5).bind fun t630=>((spec_paEven.f k x626000 x626001 t630).bind fun t633=>(if t633=true then (spec_CountEvenCuts.l0 k (wrap64 (x4+1)) (wrap64 (x5+1)) x626000 x626001) else (spec_CountEvenCuts.l0 k x4 (wrap64 (x5+1)) x626000 x626001)))) else ((spec_paParts.f k x626000 x626001).bind fun t627=>(some (shr .i64 x4 (t627.length:Int),true)))
end
def spec_CountEvenCuts.f (k:Nat) (l0_0:List Int) (a0_1:Bool):Option (Int × Bool):=(spec_grGood.f k l0_0 a0_1).bind fun t626=>(if t626=true then (spec_CountEvenCuts.j0 k (decide ((l0_0.length:Int)>10)) l0_0 a0_1) else (spec_CountEvenCuts.j0 k true l0_0 a0_1))
set_option maxHeartbeats 8000000 in
set_option maxRecDepth 100000 in
theorem spec_CountEvenCuts.calls (k:Nat) (A0_0:Option Addr) (c0_0:Nat) (l0_0:List Int) (a0_1:Bool) (r1:Int) (r2:Bool) (w:World) (hr0_0:Kd.C (Kd.int .i64) w A0_0 l0_0.length l0_0) (hc0_0:l0_0.length≤c0_0) (h:spec_CountEvenCuts.f k l0_0 a0_1=some (r1,r2)):
  Calls Try.prog 33 #[.agg #[.slice A0_0 l0_0.length c0_0,.bool a0_1]] w fun e w'=>e=.returned (.tuple #[.int .i64 r1,.bool r2])∧Below w.heap.size w w':=by
 have hu28:=Try.underlying28
 have HR0_0:=Aside0.mk hr0_0
 have HC0_0:=Aside0.mk hc0_0
 clear hr0_0 hc0_0
 have HB:=Aside0.mk (Below.refl w.heap.size w)
 have H:((spec_grGood.f k l0_0 a0_1).bind fun t626=>(if t626=true then (spec_CountEvenCuts.j0 k (decide ((l0_0.length:Int)>10)) l0_0 a0_1) else (spec_CountEvenCuts.j0 k true l0_0 a0_1)))=some (r1,r2):=h
 clear h
 have HC2:=Aside0.mk H
 clear H
 go_enter Try.func33,Try.ntmps33
 go_upto_region 1 with (first|((with_reducible refine gate_dst (N:=1) rfl ?_);(try (refine gate_guard (by rfl) ?_;dsimp only));refine box_event ?hg (N:=1) ?hd (cs:=#[.slice A0_0 l0_0.length c0_0,.bool a0_1]) (t:=28) ?hr ?_;(case hd=>rfl);(case hg=>rfl);(case hr=>first|(go_simp;done)|(go_simp;rfl));intro gb625 hg w3 hbox hb;have n0_:=Aside0.mk (below_step (by repeat (first|(with_reducible first|exact HB.out|apply below_alloc|apply pw_below_drewN|apply below_drew1)|exact HB.out)) hb);have n1_:=Aside0.mk (hbox);have n2_:=Aside0.mk ((by rw [hg];exact (below_size (by repeat (first|(with_reducible first|exact HB.out|apply below_alloc|apply pw_below_drewN|apply below_drew1)|exact HB.out))):w.heap.size≤gb625));have n3_:=Aside0.mk ((by rw [hg];exact (below_size (by repeat (first|(with_reducible first|exact HB.out|apply below_alloc|apply pw_below_drewN|apply below_drew1)|exact HB.out))):w.heap.size≤gb625));clear HB;have HB:=n0_;have BK625:=n1_;have GW625:=n2_;have GE625:=n3_;clear n0_ n1_ n2_ n3_;clear hb hbox hg))
 (try simp only [Act.put,List.setIfInBounds_toArray,List.set_cons_zero,List.set_cons_succ])
 go_cut [14] (fun v14 wc=>∃ (kq:Nat) (x14_1:Bool),v14=.bool x14_1∧Aside0 (spec_CountEvenCuts.j0 kq x14_1 l0_0 a0_1=some (r1,r2))∧Aside0 (kq≤k)∧Aside0 (wc.heap[gb625]?=some (.cells #[(.slice A0_0 l0_0.length c0_0),.bool a0_1] 28 (0,0)))∧Aside0 (Below w.heap.size w wc))
 case first=>
  have H:=HC2.out
  clear HC2
  replace H:=Option.bind_eq_some_iff.mp H
  obtain ⟨t626,A40,H⟩:=H
  replace H:(if t626=true then (spec_CountEvenCuts.j0 k (decide ((l0_0.length:Int)>10)) l0_0 a0_1) else (spec_CountEvenCuts.j0 k true l0_0 a0_1))=some (r1,r2):=H
  have A4:=Aside0.mk A40
  clear A40
  by_cases c5:t626=true
  ·subst c5
   have H1:(spec_CountEvenCuts.j0 k (decide ((l0_0.length:Int)>10)) l0_0 a0_1)=some (r1,r2):=by rw [if_pos rfl] at H;exact H
   clear H
   have H:=H1
   clear H1
   have H':=Aside0.mk H
   clear H
   have hcz6_0:w3.cell? ⟨gb625,0,none⟩=some (.slice A0_0 l0_0.length c0_0):=(blk_cell BK625.out 0).trans rfl
   have hcz6_1:w3.cell? ⟨gb625,1,none⟩=some (.bool a0_1):=(blk_cell BK625.out 1).trans rfl
   have hfz6_0:=blk_frozen BK625.out 0
   have hfz6_1:=blk_frozen BK625.out 1
   go_wp2_with (first|((with_reducible refine gate_callee (f:=44) rfl ?_);refine goesL_ (some 7) rfl rfl Try.func44 (by kernel_rfl) rfl #[.agg #[.slice A0_0 l0_0.length c0_0,.bool a0_1]] rfl (by (try simp only [List.map_toArray,List.map_cons,List.map_nil]);first|done|rfl|(simp only [List.length_drop,List.length_take];rfl)) ?_;(with_reducible refine (spec_grGood.calls k _ _ l0_0 a0_1 true _ ?side1 ?side2 A4.out).mono ?_);(case side1=>repeat (first|exact (Kd.C_below HR0_0.out HB.out)|(with_reducible refine Kd.C_alloc ?_ _)|(with_reducible refine Kd.C_drewN ?_ _)|(with_reducible refine Kd.C_drew ?_)));(case side2=>exact HC0_0.out);rintro e w7 ⟨rfl,hb⟩;refine ⟨_,rfl,?_⟩;have n0_:=Aside0.mk (blk_below (g:=gb625) (o:=.cells #[.slice A0_0 l0_0.length c0_0,.bool a0_1] 28 (0,0)) (by (with_reducible repeat (first|refine blk_drewN ?_ _|refine blk_drew ?_|refine blk_alloc ?_ _));exact BK625.out) hb);have n1_:=Aside0.mk (below_step (by repeat (first|(with_reducible first|exact HB.out|apply below_alloc|apply pw_below_drewN|apply below_drew1|refine below_set ?_ GE625.out)|exact HB.out)) hb);clear BK625;clear HB;have BK625:=n0_;have HB:=n1_;clear n0_ n1_;(try clear hb);(try clear hb2);(try clear hk);(try clear hi);have hcz8_0:w7.cell? ⟨gb625,0,none⟩=some (.slice A0_0 l0_0.length c0_0):=(blk_cell BK625.out 0).trans rfl;have hcz8_1:w7.cell? ⟨gb625,1,none⟩=some (.bool a0_1):=(blk_cell BK625.out 1).trans rfl;have hfz8_0:=blk_frozen BK625.out 0;have hfz8_1:=blk_frozen BK625.out 1))
   go_meet
   case rel=>exact ⟨_,(decide ((l0_0.length:Int)>10)),(by first|rfl|(simp;done)|(simp [*];done)),H',⟨by first|omega|exact Nat.le_refl _⟩,⟨by (with_reducible repeat (first|refine blk_drewN ?_ _|refine blk_drew ?_|refine blk_alloc ?_ _));exact BK625.out⟩,⟨by repeat (first|(with_reducible first|exact HB.out|apply below_alloc|apply pw_below_drewN|apply below_drew1|refine below_set ?_ GE625.out)|exact HB.out)⟩⟩
  ·replace c5:=Bool.eq_false_iff.mpr c5
   subst c5
   have H1:(spec_CountEvenCuts.j0 k true l0_0 a0_1)=some (r1,r2):=by rw [if_neg (show ¬ (false=true) by decide)] at H;exact H
   clear H
   have H:=H1
   clear H1
   have H':=Aside0.mk H
   clear H
   have hcz9_0:w3.cell? ⟨gb625,0,none⟩=some (.slice A0_0 l0_0.length c0_0):=(blk_cell BK625.out 0).trans rfl
   have hcz9_1:w3.cell? ⟨gb625,1,none⟩=some (.bool a0_1):=(blk_cell BK625.out 1).trans rfl
   have hfz9_0:=blk_frozen BK625.out 0
   have hfz9_1:=blk_frozen BK625.out 1
   go_wp2_with (first|((with_reducible refine gate_callee (f:=44) rfl ?_);refine goesL_ (some 7) rfl rfl Try.func44 (by kernel_rfl) rfl #[.agg #[.slice A0_0 l0_0.length c0_0,.bool a0_1]] rfl (by (try simp only [List.map_toArray,List.map_cons,List.map_nil]);first|done|rfl|(simp only [List.length_drop,List.length_take];rfl)) ?_;(with_reducible refine (spec_grGood.calls k _ _ l0_0 a0_1 false _ ?side1 ?side2 A4.out).mono ?_);(case side1=>repeat (first|exact (Kd.C_below HR0_0.out HB.out)|(with_reducible refine Kd.C_alloc ?_ _)|(with_reducible refine Kd.C_drewN ?_ _)|(with_reducible refine Kd.C_drew ?_)));(case side2=>exact HC0_0.out);rintro e w10 ⟨rfl,hb⟩;refine ⟨_,rfl,?_⟩;have n0_:=Aside0.mk (blk_below (g:=gb625) (o:=.cells #[.slice A0_0 l0_0.length c0_0,.bool a0_1] 28 (0,0)) (by (with_reducible repeat (first|refine blk_drewN ?_ _|refine blk_drew ?_|refine blk_alloc ?_ _));exact BK625.out) hb);have n1_:=Aside0.mk (below_step (by repeat (first|(with_reducible first|exact HB.out|apply below_alloc|apply pw_below_drewN|apply below_drew1|refine below_set ?_ GE625.out)|exact HB.out)) hb);clear BK625;clear HB;have BK625:=n0_;have HB:=n1_;clear n0_ n1_;(try clear hb);(try clear hb2);(try clear hk);(try clear hi)))
   go_meet
   case rel=>exact ⟨_,(true),(by first|rfl|(simp;done)|(simp [*];done)),H',⟨by first|omega|exact Nat.le_refl _⟩,⟨by (with_reducible repeat (first|refine blk_drewN ?_ _|refine blk_drew ?_|refine blk_alloc ?_ _));exact BK625.out⟩,⟨by repeat (first|(with_reducible first|exact HB.out|apply below_alloc|apply pw_below_drewN|apply below_drew1|refine below_set ?_ GE625.out)|exact HB.out)⟩⟩
 case rest=>
  clear HC2;(try clear p2);(try clear c3);(try clear c4);(try clear c5);(try clear hcz6_0);(try clear hcz6_1);(try clear hcz8_0);(try clear hcz8_1);(try clear hcz9_0);(try clear hcz9_1);(try clear hfz6_0);(try clear hfz6_1);(try clear hfz8_0);(try clear hfz8_1);(try clear hfz9_0);(try clear hfz9_1)
  obtain ⟨kq,x14_1,rfl,HA,HJ1,BK625,HB⟩:=hcut
  cases kq with
  |zero=>exact absurd HA.out (by simp [spec_CountEvenCuts.j0])
  |succ kj1=>
   have H:=HA.out
   clear HA
   simp only [spec_CountEvenCuts.j0] at H
   by_cases c11:x14_1=true
   ·subst c11
    have H1:(some (0,false))=some (r1,r2):=by rw [if_pos rfl] at H;exact H
    clear H
    have H:=H1
    clear H1
    simp only [Option.some.injEq,Prod.mk.injEq] at H
    obtain ⟨rfl,rfl⟩:=H
    go_wp2
    go_ret2
    exact ⟨by first|rfl|(simp [errW_none,errW_some]<;>rfl)|(simp [*,errW_none,errW_some]<;>rfl),by repeat (first|(with_reducible first|exact HB.out|apply below_alloc|apply pw_below_drewN|apply below_drew1|refine below_set ?_ GE625.out)|exact HB.out)⟩
   ·replace c11:=Bool.eq_false_iff.mpr c11
    subst c11
    have H1:(spec_CountEvenCuts.l0 kj1 0 0 l0_0 a0_1)=some (r1,r2):=by rw [if_neg (show ¬ (false=true) by decide)] at H;exact H
    clear H
    have H:=H1
    clear H1
    have H':=Aside0.mk H
    clear H
    go_wp2
    go_loopg [4,5] kj1 (fun kq v4 v5 w'=>∃ (x4_2:Int) (x5_2:Int),v4=.int .i64 x4_2∧v5=.int .i64 x5_2∧Aside0 (spec_CountEvenCuts.l0 kq x4_2 x5_2 l0_0 a0_1=some (r1,r2))∧Aside0 (kq≤kj1)∧Aside0 (w'.heap[gb625]?=some (.cells #[(.slice A0_0 l0_0.length c0_0),.bool a0_1] 28 (0,0)))∧Aside0 (Below w.heap.size w w'))
    case atStart=>exact ⟨(0),(0),(by first|rfl|(simp;done)|(simp [*];done)),(by first|rfl|(simp;done)|(simp [*];done)),H',⟨Nat.le_refl _⟩,⟨by (with_reducible repeat (first|refine blk_drewN ?_ _|refine blk_drew ?_|refine blk_alloc ?_ _));exact BK625.out⟩,⟨by repeat (first|(with_reducible first|exact HB.out|apply below_alloc|apply pw_below_drewN|apply below_drew1|refine below_set ?_ GE625.out)|exact HB.out)⟩⟩
    case round=>
     clear H'
     (try clear c1);(try clear p2);(try clear c3);(try clear c4);(try clear c5);(try clear c11);(try clear hcz6_0);(try clear hcz6_1);(try clear hcz8_0);(try clear hcz8_1);(try clear hcz9_0);(try clear hcz9_1);(try clear hfz6_0);(try clear hfz6_1);(try clear hfz8_0);(try clear hfz8_1);(try clear hfz9_0);(try clear hfz9_1);(try clear p2)
     obtain ⟨x4_2,x5_2,rfl,rfl,HA,HK2,BK625,HB⟩:=hrel
     cases gk with
     |zero=>exact absurd HA.out (by simp [spec_CountEvenCuts.l0])
     |succ k2=>
      have H:=HA.out
      clear HA
      simp only [spec_CountEvenCuts.l0] at H
      obtain ⟨ji12,hji12⟩:∃ j_:Int,(shl .i64 1 (l0_0.length:Int))=j_:=⟨_,rfl⟩
      replace H:(if x5_2< (ji12) then ((spec_paCut.f k2 l0_0 a0_1 x5_2).bind fun t630=>((spec_paEven.f k2 l0_0 a0_1 t630).bind fun t633=>(if t633=true then (spec_CountEvenCuts.l0 k2 (wrap64 (x4_2+1)) (wrap64 (x5_2+1)) l0_0 a0_1) else (spec_CountEvenCuts.l0 k2 x4_2 (wrap64 (x5_2+1)) l0_0 a0_1)))) else ((spec_paParts.f k2 l0_0 a0_1).bind fun t627=>(some (shr .i64 x4_2 (t627.length:Int),true))))=some (r1,r2):=by first|(rw [hji12] at H;exact H)|(simp only [hji12] at H ⊢;exact H)
      have hji12_:(IntKind.i64.wrap (1*2 ^ min (l0_0.length:Int).toNat 64))=ji12:=hji12
      have hji12z:(l0_0.length:Int)≤64→(IntKind.i64.wrap (1*2 ^ (l0_0.length:Int).toNat))=ji12:=shl_small hji12
      have hji12p:(IntKind.i64.wrap (1*2 ^ min l0_0.length 64))=ji12:=hji12_
      have hji12q:(l0_0.length:Int)≤64→(IntKind.i64.wrap (1*2 ^ l0_0.length))=ji12:=hji12z
      have hji12r:(IntKind.i64.wrap (2 ^ min l0_0.length 64))=ji12:=by have h_:=hji12p;rw [Int.one_mul] at h_;exact h_
      have hji12s:(l0_0.length:Int)≤64→(IntKind.i64.wrap (2 ^ l0_0.length))=ji12:=fun hle_=>by have h_:=hji12q hle_;rw [Int.one_mul] at h_;exact h_
      have hji12u:(IntKind.i64.wrap (2 ^ min (l0_0.length:Int).toNat 64))=ji12:=by have h_:=hji12_;rw [Int.one_mul] at h_;exact h_
      have hji12v:(l0_0.length:Int)≤64→(IntKind.i64.wrap (2 ^ (l0_0.length:Int).toNat))=ji12:=fun hle_=>by have h_:=hji12z hle_;rw [Int.one_mul] at h_;exact h_
      have hji12y:(wrap64 (1*2 ^ min (l0_0.length:Int).toNat 64))=ji12:=(i64_w _).symm.trans hji12_
      have hji12x:(l0_0.length:Int)≤64→(wrap64 (1*2 ^ (l0_0.length:Int).toNat))=ji12:=fun h_=>(i64_w _).symm.trans (hji12z h_)
      by_cases c13:x5_2< (ji12)
      ·rw [if_pos c13] at H
       have c13b0:decide (x5_2< (ji12))=true:=decide_eq_true c13
       clear c13
       replace H:=Option.bind_eq_some_iff.mp H
       obtain ⟨t630,A140,H⟩:=H
       replace H:((spec_paEven.f k2 l0_0 a0_1 t630).bind fun t633=>(if t633=true then (spec_CountEvenCuts.l0 k2 (wrap64 (x4_2+1)) (wrap64 (x5_2+1)) l0_0 a0_1) else (spec_CountEvenCuts.l0 k2 x4_2 (wrap64 (x5_2+1)) l0_0 a0_1)))=some (r1,r2):=H
       have A14:=Aside0.mk A140
       clear A140
       replace H:=Option.bind_eq_some_iff.mp H
       obtain ⟨t633,A150,H⟩:=H
       replace H:(if t633=true then (spec_CountEvenCuts.l0 k2 (wrap64 (x4_2+1)) (wrap64 (x5_2+1)) l0_0 a0_1) else (spec_CountEvenCuts.l0 k2 x4_2 (wrap64 (x5_2+1)) l0_0 a0_1))=some (r1,r2):=H
       have A15:=Aside0.mk A150
       clear A150
       by_cases c16:t633=true
       ·subst c16
        have H1:(spec_CountEvenCuts.l0 k2 (wrap64 (x4_2+1)) (wrap64 (x5_2+1)) l0_0 a0_1)=some (r1,r2):=by rw [if_pos rfl] at H;exact H
        clear H
        have H:=H1
        clear H1
        have H':=Aside0.mk H
        clear H
        have hcz17_0:wr.cell? ⟨gb625,0,none⟩=some (.slice A0_0 l0_0.length c0_0):=(blk_cell BK625.out 0).trans rfl
        have hcz17_1:wr.cell? ⟨gb625,1,none⟩=some (.bool a0_1):=(blk_cell BK625.out 1).trans rfl
        have hfz17_0:=blk_frozen BK625.out 0
        have hfz17_1:=blk_frozen BK625.out 1
        try go_wp2
        have n0_:=Aside0.mk (blk_drew BK625.out)
        have n1_:=Aside0.mk (below_drew1 HB.out)
        clear BK625;clear HB
        have BK625:=n0_
        have HB:=n1_
        clear n0_ n1_
        refine start_ (n:=5) (S:=fun w'=>w'.cell? ⟨gb625,0,none⟩=some (.slice A0_0 l0_0.length c0_0)∧w'.cell? ⟨gb625,1,none⟩=some (.bool a0_1)) (ds:=[]) #[false,false,false,false,false] (by kernel_rfl) rfl rfl ⟨(blk_cell BK625.out 0).trans rfl,(blk_cell BK625.out 1).trans rfl⟩ (fun hHeld=>?_)
        generalize wr.drew=w18 at BK625 HB hHeld ⊢
        refine pure_ (i:=2) (N:=some 25) (v:=?_) (a':=?_) #[false,false,true,false,false] rfl rfl (by kernel_rfl) (fun _ _ _ h=>h) (Or.inl ⟨by rfl,?_⟩) ?_ ?_
        rotate_left
        ·intro w'
         go_simp
         with_reducible rfl
        rotate_left
        ·simp only [Act.put,List.setIfInBounds_toArray,List.set_cons_zero,List.set_cons_succ,i64_w,i32_w]
         rfl
        refine take_ (i:=0) (N:=some 23) (v:=?_) (a':=?_) #[true,false,true,false,false] rfl rfl (by kernel_rfl) (fun _ _ _ h=>h) (Or.inl ⟨by rfl,?_⟩) hHeld ?_ ?_
        rotate_left
        ·rintro w' ⟨s0,s1⟩
         go_simp
         with_reducible rfl
        rotate_left
        ·simp only [Act.put,List.setIfInBounds_toArray,List.set_cons_zero,List.set_cons_succ,i64_w,i32_w]
         rfl
        refine take_ (i:=1) (N:=some 24) (v:=?_) (a':=?_) #[true,true,true,false,false] rfl rfl (by kernel_rfl) (fun _ _ _ h=>h) (Or.inl ⟨by rfl,?_⟩) hHeld ?_ ?_
        rotate_left
        ·rintro w' ⟨s0,s1⟩
         go_simp
         with_reducible rfl
        rotate_left
        ·simp only [Act.put,List.setIfInBounds_toArray,List.set_cons_zero,List.set_cons_succ,i64_w,i32_w]
         rfl
        refine one_ (i:=3) (N:=some 26) #[true,true,true,true,false] rfl rfl (by kernel_rfl) (by decide) (fun K hK=>?_)
        refine goes_ Try.func63 (by kernel_rfl) rfl #[.agg #[.slice A0_0 l0_0.length c0_0,.bool a0_1],.int .i64 x5_2] (by rfl) rfl rfl (by (try simp only [List.map_toArray,List.map_cons,List.map_nil]);first|done|rfl|(simp only [List.length_drop,List.length_take];rfl)) ?_
        with_reducible refine (spec_paCut.calls k2 _ _ l0_0 a0_1 x5_2 t630 _ ?side1 ?side2 A14.out).mono ?_
        (case side1=>repeat (first|exact (Kd.C_below HR0_0.out HB.out)|(with_reducible refine Kd.C_alloc ?_ _)|(with_reducible refine Kd.C_drewN ?_ _)|(with_reducible refine Kd.C_drew ?_)))
        (case side2=>exact HC0_0.out)
        rintro e w19 ⟨v631,rfl,ho0,hb⟩
        refine ⟨_,rfl,?_⟩
        have n0_:=Aside0.mk (Kd.S_lower ho0 (below_size (by repeat (first|(with_reducible first|exact HB.out|apply below_alloc|apply pw_below_drewN|apply below_drew1|refine below_set ?_ GE625.out)|exact HB.out))))
        have n1_:=Aside0.mk (blk_below (g:=gb625) (o:=.cells #[.slice A0_0 l0_0.length c0_0,.bool a0_1] 28 (0,0)) (by (with_reducible repeat (first|refine blk_drewN ?_ _|refine blk_drew ?_|refine blk_alloc ?_ _));exact BK625.out) hb)
        have n2_:=Aside0.mk (below_step (by repeat (first|(with_reducible first|exact HB.out|apply below_alloc|apply pw_below_drewN|apply below_drew1|refine below_set ?_ GE625.out)|exact HB.out)) hb)
        clear BK625;clear HB
        have HO632:=n0_
        have BK625:=n1_
        have HB:=n2_
        clear n0_ n1_ n2_;(try clear hb);(try clear hb2);(try clear hk);(try clear hi);(try clear ho0)
        obtain ⟨Ao20,co20,eo20⟩:=Kd.S_slice HO632.out
        (first|subst eo20|(injection eo20 with f1_ f2_ f3_;have f4_:=f1_.symm;have f5_:=f3_.symm;clear f1_ f2_ f3_;subst f4_;subst f5_))
        refine hK.out _ _ ⟨(blk_cell BK625.out 0).trans rfl,(blk_cell BK625.out 1).trans rfl⟩ (fun hHeld=>?_)
        clear hK K
        refine norm_ (a':=?_) ?_ ?_
        rotate_left
        ·show Act.put _ (some 26) _=_
         simp only [Act.put,List.setIfInBounds_toArray,List.set_cons_zero,List.set_cons_succ,i64_w,i32_w]
         rfl
        refine one_ (i:=4) (N:=some 27) #[true,true,true,true,true] rfl rfl (by kernel_rfl) (by decide) (fun K hK=>?_)
        refine goes_ Try.func62 (by kernel_rfl) rfl #[.agg #[.slice A0_0 l0_0.length c0_0,.bool a0_1],.slice Ao20 t630.length co20] (by rfl) rfl rfl (by (try simp only [List.map_toArray,List.map_cons,List.map_nil]);first|done|rfl|(simp only [List.length_drop,List.length_take];rfl)) ?_
        with_reducible refine (spec_paEven.calls k2 _ _ l0_0 a0_1 _ _ t630 true _ ?side1 ?side2 ?side3 ?side4 A15.out).mono ?_
        (case side1=>repeat (first|exact (Kd.C_below HR0_0.out HB.out)|(with_reducible refine Kd.C_alloc ?_ _)|(with_reducible refine Kd.C_drewN ?_ _)|(with_reducible refine Kd.C_drew ?_)))
        (case side2=>exact HC0_0.out)
        (case side3=>repeat (first|exact (Kd.S_reads' HO632.out).2.2|(with_reducible refine Kd.C_alloc ?_ _)|(with_reducible refine Kd.C_drewN ?_ _)|(with_reducible refine Kd.C_drew ?_)))
        (case side4=>exact (Kd.S_reads' HO632.out).2.1)
        rintro e w21 ⟨rfl,hb⟩
        refine ⟨_,rfl,?_⟩
        have n0_:=Aside0.mk (Kd.S_below (by (with_reducible repeat (first|apply Kd.S_alloc|apply Kd.S_drewN|apply Kd.S_drew));exact HO632.out) hb)
        have n1_:=Aside0.mk (blk_below (g:=gb625) (o:=.cells #[.slice A0_0 l0_0.length c0_0,.bool a0_1] 28 (0,0)) (by (with_reducible repeat (first|refine blk_drewN ?_ _|refine blk_drew ?_|refine blk_alloc ?_ _));exact BK625.out) hb)
        have n2_:=Aside0.mk (below_step (by repeat (first|(with_reducible first|exact HB.out|apply below_alloc|apply pw_below_drewN|apply below_drew1|refine below_set ?_ GE625.out)|exact HB.out)) hb)
        clear HO632;clear BK625;clear HB
        have HO632:=n0_
        have BK625:=n1_
        have HB:=n2_
        clear n0_ n1_ n2_;(try clear hb);(try clear hb2);(try clear hk);(try clear hi)
        refine hK.out _ _ ⟨(blk_cell BK625.out 0).trans rfl,(blk_cell BK625.out 1).trans rfl⟩ (fun hHeld=>?_)
        clear hK K
        refine norm_ (a':=?_) ?_ ?_
        rotate_left
        ·show Act.put _ (some 27) _=_
         simp only [Act.put,List.setIfInBounds_toArray,List.set_cons_zero,List.set_cons_succ,i64_w,i32_w]
         rfl
        refine done_ (by kernel_rfl) ?_
        try go_wp2
        go_roundg k2
        case measure=>have:=HJ1.out;have:=HK2.out;omega
        case rel=>exact ⟨(wrap64 (x4_2+1)),(wrap64 (x5_2+1)),(by first|rfl|(simp;done)|(simp [*];done)),(by first|rfl|(simp;done)|(simp [*];done)),H',⟨by have:=HJ1.out;have:=HK2.out;omega⟩,⟨by (with_reducible repeat (first|refine blk_drewN ?_ _|refine blk_drew ?_|refine blk_alloc ?_ _));exact BK625.out⟩,⟨by repeat (first|(with_reducible first|exact HB.out|apply below_alloc|apply pw_below_drewN|apply below_drew1|refine below_set ?_ GE625.out)|exact HB.out)⟩⟩
       ·replace c16:=Bool.eq_false_iff.mpr c16
        subst c16
        have H1:(spec_CountEvenCuts.l0 k2 x4_2 (wrap64 (x5_2+1)) l0_0 a0_1)=some (r1,r2):=by rw [if_neg (show ¬ (false=true) by decide)] at H;exact H
        clear H
        have H:=H1
        clear H1
        have H':=Aside0.mk H
        clear H
        have hcz22_0:wr.cell? ⟨gb625,0,none⟩=some (.slice A0_0 l0_0.length c0_0):=(blk_cell BK625.out 0).trans rfl
        have hcz22_1:wr.cell? ⟨gb625,1,none⟩=some (.bool a0_1):=(blk_cell BK625.out 1).trans rfl
        have hfz22_0:=blk_frozen BK625.out 0
        have hfz22_1:=blk_frozen BK625.out 1
        try go_wp2
        have n0_:=Aside0.mk (blk_drew BK625.out)
        have n1_:=Aside0.mk (below_drew1 HB.out)
        clear BK625;clear HB
        have BK625:=n0_
        have HB:=n1_
        clear n0_ n1_
        refine start_ (n:=5) (S:=fun w'=>w'.cell? ⟨gb625,0,none⟩=some (.slice A0_0 l0_0.length c0_0)∧w'.cell? ⟨gb625,1,none⟩=some (.bool a0_1)) (ds:=[]) #[false,false,false,false,false] (by kernel_rfl) rfl rfl ⟨(blk_cell BK625.out 0).trans rfl,(blk_cell BK625.out 1).trans rfl⟩ (fun hHeld=>?_)
        generalize wr.drew=w23 at BK625 HB hHeld ⊢
        refine pure_ (i:=2) (N:=some 25) (v:=?_) (a':=?_) #[false,false,true,false,false] rfl rfl (by kernel_rfl) (fun _ _ _ h=>h) (Or.inl ⟨by rfl,?_⟩) ?_ ?_
        rotate_left
        ·intro w'
         go_simp
         with_reducible rfl
        rotate_left
        ·simp only [Act.put,List.setIfInBounds_toArray,List.set_cons_zero,List.set_cons_succ,i64_w,i32_w]
         rfl
        refine take_ (i:=0) (N:=some 23) (v:=?_) (a':=?_) #[true,false,true,false,false] rfl rfl (by kernel_rfl) (fun _ _ _ h=>h) (Or.inl ⟨by rfl,?_⟩) hHeld ?_ ?_
        rotate_left
        ·rintro w' ⟨s0,s1⟩
         go_simp
         with_reducible rfl
        rotate_left
        ·simp only [Act.put,List.setIfInBounds_toArray,List.set_cons_zero,List.set_cons_succ,i64_w,i32_w]
         rfl
        refine take_ (i:=1) (N:=some 24) (v:=?_) (a':=?_) #[true,true,true,false,false] rfl rfl (by kernel_rfl) (fun _ _ _ h=>h) (Or.inl ⟨by rfl,?_⟩) hHeld ?_ ?_
        rotate_left
        ·rintro w' ⟨s0,s1⟩
         go_simp
         with_reducible rfl
        rotate_left
        ·simp only [Act.put,List.setIfInBounds_toArray,List.set_cons_zero,List.set_cons_succ,i64_w,i32_w]
         rfl
        refine one_ (i:=3) (N:=some 26) #[true,true,true,true,false] rfl rfl (by kernel_rfl) (by decide) (fun K hK=>?_)
        refine goes_ Try.func63 (by kernel_rfl) rfl #[.agg #[.slice A0_0 l0_0.length c0_0,.bool a0_1],.int .i64 x5_2] (by rfl) rfl rfl (by (try simp only [List.map_toArray,List.map_cons,List.map_nil]);first|done|rfl|(simp only [List.length_drop,List.length_take];rfl)) ?_
        with_reducible refine (spec_paCut.calls k2 _ _ l0_0 a0_1 x5_2 t630 _ ?side1 ?side2 A14.out).mono ?_
        (case side1=>repeat (first|exact (Kd.C_below HR0_0.out HB.out)|(with_reducible refine Kd.C_alloc ?_ _)|(with_reducible refine Kd.C_drewN ?_ _)|(with_reducible refine Kd.C_drew ?_)))
        (case side2=>exact HC0_0.out)
        rintro e w24 ⟨v631,rfl,ho0,hb⟩
        refine ⟨_,rfl,?_⟩
        have n0_:=Aside0.mk (Kd.S_lower ho0 (below_size (by repeat (first|(with_reducible first|exact HB.out|apply below_alloc|apply pw_below_drewN|apply below_drew1|refine below_set ?_ GE625.out)|exact HB.out))))
        have n1_:=Aside0.mk (blk_below (g:=gb625) (o:=.cells #[.slice A0_0 l0_0.length c0_0,.bool a0_1] 28 (0,0)) (by (with_reducible repeat (first|refine blk_drewN ?_ _|refine blk_drew ?_|refine blk_alloc ?_ _));exact BK625.out) hb)
        have n2_:=Aside0.mk (below_step (by repeat (first|(with_reducible first|exact HB.out|apply below_alloc|apply pw_below_drewN|apply below_drew1|refine below_set ?_ GE625.out)|exact HB.out)) hb)
        clear BK625;clear HB
        have HO632:=n0_
        have BK625:=n1_
        have HB:=n2_
        clear n0_ n1_ n2_;(try clear hb);(try clear hb2);(try clear hk);(try clear hi);(try clear ho0)
        obtain ⟨Ao25,co25,eo25⟩:=Kd.S_slice HO632.out
        (first|subst eo25|(injection eo25 with f1_ f2_ f3_;have f4_:=f1_.symm;have f5_:=f3_.symm;clear f1_ f2_ f3_;subst f4_;subst f5_))
        refine hK.out _ _ ⟨(blk_cell BK625.out 0).trans rfl,(blk_cell BK625.out 1).trans rfl⟩ (fun hHeld=>?_)
        clear hK K
        refine norm_ (a':=?_) ?_ ?_
        rotate_left
        ·show Act.put _ (some 26) _=_
         simp only [Act.put,List.setIfInBounds_toArray,List.set_cons_zero,List.set_cons_succ,i64_w,i32_w]
         rfl
        refine one_ (i:=4) (N:=some 27) #[true,true,true,true,true] rfl rfl (by kernel_rfl) (by decide) (fun K hK=>?_)
        refine goes_ Try.func62 (by kernel_rfl) rfl #[.agg #[.slice A0_0 l0_0.length c0_0,.bool a0_1],.slice Ao25 t630.length co25] (by rfl) rfl rfl (by (try simp only [List.map_toArray,List.map_cons,List.map_nil]);first|done|rfl|(simp only [List.length_drop,List.length_take];rfl)) ?_
        with_reducible refine (spec_paEven.calls k2 _ _ l0_0 a0_1 _ _ t630 false _ ?side1 ?side2 ?side3 ?side4 A15.out).mono ?_
        (case side1=>repeat (first|exact (Kd.C_below HR0_0.out HB.out)|(with_reducible refine Kd.C_alloc ?_ _)|(with_reducible refine Kd.C_drewN ?_ _)|(with_reducible refine Kd.C_drew ?_)))
        (case side2=>exact HC0_0.out)
        (case side3=>repeat (first|exact (Kd.S_reads' HO632.out).2.2|(with_reducible refine Kd.C_alloc ?_ _)|(with_reducible refine Kd.C_drewN ?_ _)|(with_reducible refine Kd.C_drew ?_)))
        (case side4=>exact (Kd.S_reads' HO632.out).2.1)
        rintro e w26 ⟨rfl,hb⟩
        refine ⟨_,rfl,?_⟩
        have n0_:=Aside0.mk (Kd.S_below (by (with_reducible repeat (first|apply Kd.S_alloc|apply Kd.S_drewN|apply Kd.S_drew));exact HO632.out) hb)
        have n1_:=Aside0.mk (blk_below (g:=gb625) (o:=.cells #[.slice A0_0 l0_0.length c0_0,.bool a0_1] 28 (0,0)) (by (with_reducible repeat (first|refine blk_drewN ?_ _|refine blk_drew ?_|refine blk_alloc ?_ _));exact BK625.out) hb)
        have n2_:=Aside0.mk (below_step (by repeat (first|(with_reducible first|exact HB.out|apply below_alloc|apply pw_below_drewN|apply below_drew1|refine below_set ?_ GE625.out)|exact HB.out)) hb)
        clear HO632;clear BK625;clear HB
        have HO632:=n0_
        have BK625:=n1_
        have HB:=n2_
        clear n0_ n1_ n2_;(try clear hb);(try clear hb2);(try clear hk);(try clear hi)
        refine hK.out _ _ ⟨(blk_cell BK625.out 0).trans rfl,(blk_cell BK625.out 1).trans rfl⟩ (fun hHeld=>?_)
        clear hK K
        refine norm_ (a':=?_) ?_ ?_
        rotate_left
        ·show Act.put _ (some 27) _=_
         simp only [Act.put,List.setIfInBounds_toArray,List.set_cons_zero,List.set_cons_succ,i64_w,i32_w]
         rfl
        refine done_ (by kernel_rfl) ?_
        try go_wp2
        go_roundg k2
        case measure=>have:=HJ1.out;have:=HK2.out;omega
        case rel=>exact ⟨(x4_2),(wrap64 (x5_2+1)),(by first|rfl|(simp;done)|(simp [*];done)),(by first|rfl|(simp;done)|(simp [*];done)),H',⟨by have:=HJ1.out;have:=HK2.out;omega⟩,⟨by (with_reducible repeat (first|refine blk_drewN ?_ _|refine blk_drew ?_|refine blk_alloc ?_ _));exact BK625.out⟩,⟨by repeat (first|(with_reducible first|exact HB.out|apply below_alloc|apply pw_below_drewN|apply below_drew1|refine below_set ?_ GE625.out)|exact HB.out)⟩⟩
      ·rw [if_neg c13] at H
       have c13b0:decide (x5_2< (ji12))=false:=decide_eq_false c13
       clear c13
       replace H:=Option.bind_eq_some_iff.mp H
       obtain ⟨t627,A270,H⟩:=H
       replace H:(some (shr .i64 x4_2 (t627.length:Int),true))=some (r1,r2):=H
       have A27:=Aside0.mk A270
       clear A270
       obtain ⟨ji28,hji28⟩:∃ j_:Int,(shr .i64 x4_2 (t627.length:Int))=j_:=⟨_,rfl⟩
       replace H:(some (ji28,true))=some (r1,r2):=by first|(rw [hji28] at H;exact H)|(simp only [hji28] at H ⊢;exact H)
       (try rw [hji28] at A27)
       have hji28_:(x4_2 / 2 ^ min (t627.length:Int).toNat 64)=ji28:=hji28
       have hji28z:(t627.length:Int)≤64→(x4_2 / 2 ^ (t627.length:Int).toNat)=ji28:=shr_small hji28
       have hji28p:(x4_2 / 2 ^ min t627.length 64)=ji28:=hji28_
       have hji28q:(t627.length:Int)≤64→(x4_2 / 2 ^ t627.length)=ji28:=hji28z
       simp only [Option.some.injEq,Prod.mk.injEq] at H
       obtain ⟨rfl,rfl⟩:=H
       have hcz29_0:wr.cell? ⟨gb625,0,none⟩=some (.slice A0_0 l0_0.length c0_0):=(blk_cell BK625.out 0).trans rfl
       have hcz29_1:wr.cell? ⟨gb625,1,none⟩=some (.bool a0_1):=(blk_cell BK625.out 1).trans rfl
       have hfz29_0:=blk_frozen BK625.out 0
       have hfz29_1:=blk_frozen BK625.out 1
       go_wp2_with (first|((with_reducible refine gate_callee (f:=64) rfl ?_);refine goesL_ (some 32) rfl rfl Try.func64 (by kernel_rfl) rfl #[.agg #[.slice A0_0 l0_0.length c0_0,.bool a0_1]] rfl (by (try simp only [List.map_toArray,List.map_cons,List.map_nil]);first|done|rfl|(simp only [List.length_drop,List.length_take];rfl)) ?_;(with_reducible refine (spec_paParts.calls k2 _ _ l0_0 a0_1 t627 _ ?side1 ?side2 A27.out).mono ?_);(case side1=>repeat (first|exact (Kd.C_below HR0_0.out HB.out)|(with_reducible refine Kd.C_alloc ?_ _)|(with_reducible refine Kd.C_drewN ?_ _)|(with_reducible refine Kd.C_drew ?_)));(case side2=>exact HC0_0.out);rintro e w30 ⟨v628,rfl,ho0,hb⟩;refine ⟨_,rfl,?_⟩;have n0_:=Aside0.mk (Kd.R_lower ho0 (below_size (by repeat (first|(with_reducible first|exact HB.out|apply below_alloc|apply pw_below_drewN|apply below_drew1|refine below_set ?_ GE625.out)|exact HB.out))));have n1_:=Aside0.mk (blk_below (g:=gb625) (o:=.cells #[.slice A0_0 l0_0.length c0_0,.bool a0_1] 28 (0,0)) (by (with_reducible repeat (first|refine blk_drewN ?_ _|refine blk_drew ?_|refine blk_alloc ?_ _));exact BK625.out) hb);have n2_:=Aside0.mk (below_step (by repeat (first|(with_reducible first|exact HB.out|apply below_alloc|apply pw_below_drewN|apply below_drew1|refine below_set ?_ GE625.out)|exact HB.out)) hb);clear BK625;clear HB;have HO629:=n0_;have BK625:=n1_;have HB:=n2_;clear n0_ n1_ n2_;(try clear hb);(try clear hb2);(try clear hk);(try clear hi);(try clear ho0);obtain ⟨Ao31,co31,eo31⟩:=Kd.R_slice HO629.out;subst eo31))
       go_ret2
       exact ⟨by first|rfl|(simp [errW_none,errW_some]<;>rfl)|(simp only [← hji12,← hji28];first|rfl|(simp [errW_none,errW_some]<;>rfl))|(simp [*,errW_none,errW_some]<;>rfl),by repeat (first|(with_reducible first|exact HB.out|apply below_alloc|apply pw_below_drewN|apply below_drew1|refine below_set ?_ GE625.out)|exact HB.out)⟩
/-! ### impl_CountEvenCuts: function 34 -/
def impl_CountEvenCuts.f (k:Nat) (l0_0:List Int) (a0_1:Bool):Option (Int × Bool):=(impl_countSplits.f k l0_0 a0_1 0).bind fun bt635=>(if bt635.2=true then (if (l0_0.length:Int)>10 then (some (0,false)) else ((impl_Graph_parts.f k l0_0 a0_1).bind fun t637=>(some (shr .i64 bt635.1 (t637.length:Int),true)))) else (some (0,false)))
set_option maxHeartbeats 8000000 in
set_option maxRecDepth 100000 in
theorem impl_CountEvenCuts.calls (k:Nat) (A0_0:Option Addr) (c0_0:Nat) (l0_0:List Int) (a0_1:Bool) (r1:Int) (r2:Bool) (w:World) (hr0_0:Kd.C (Kd.int .i64) w A0_0 l0_0.length l0_0) (hc0_0:l0_0.length≤c0_0) (h:impl_CountEvenCuts.f k l0_0 a0_1=some (r1,r2)):
  Calls Try.prog 34 #[.agg #[.slice A0_0 l0_0.length c0_0,.bool a0_1]] w fun e w'=>e=.returned (.tuple #[.int .i64 r1,.bool r2])∧Below w.heap.size w w':=by
 have hu28:=Try.underlying28
 have HR0_0:=Aside0.mk hr0_0
 have HC0_0:=Aside0.mk hc0_0
 clear hr0_0 hc0_0
 have HB:=Aside0.mk (Below.refl w.heap.size w)
 have H:((impl_countSplits.f k l0_0 a0_1 0).bind fun bt635=>(if bt635.2=true then (if (l0_0.length:Int)>10 then (some (0,false)) else ((impl_Graph_parts.f k l0_0 a0_1).bind fun t637=>(some (shr .i64 bt635.1 (t637.length:Int),true)))) else (some (0,false))))=some (r1,r2):=h
 clear h
 replace H:=Option.bind_eq_some_iff.mp H
 obtain ⟨⟨t635,t636⟩,A20,H⟩:=H
 replace H:(if t636=true then (if (l0_0.length:Int)>10 then (some (0,false)) else ((impl_Graph_parts.f k l0_0 a0_1).bind fun t637=>(some (shr .i64 t635 (t637.length:Int),true)))) else (some (0,false)))=some (r1,r2):=H
 have A2:=Aside0.mk A20
 clear A20
 by_cases c3:t636=true
 ·subst c3
  have H1:(if (l0_0.length:Int)>10 then (some (0,false)) else ((impl_Graph_parts.f k l0_0 a0_1).bind fun t637=>(some (shr .i64 t635 (t637.length:Int),true))))=some (r1,r2):=by rw [if_pos rfl] at H;exact H
  clear H
  have H:=H1
  clear H1
  by_cases c4:(l0_0.length:Int)>10
  ·rw [if_pos c4] at H
   have c4b0:decide (10< (l0_0.length:Int))=true:=decide_eq_true c4
   have c4b1:decide (10< l0_0.length)=true:=decide_eq_true (by omega)
   clear c4
   simp only [Option.some.injEq,Prod.mk.injEq] at H
   obtain ⟨rfl,rfl⟩:=H
   go_enter Try.func34,Try.ntmps34
   go_wp2_with (first|((with_reducible refine gate_dst (N:=1) rfl ?_);(try (refine gate_guard (by rfl) ?_;dsimp only));refine box_event ?hg (N:=1) ?hd (cs:=#[.slice A0_0 l0_0.length c0_0,.bool a0_1]) (t:=28) ?hr ?_;(case hd=>rfl);(case hg=>rfl);(case hr=>first|(go_simp;done)|(go_simp;rfl));intro gb634 hg w5 hbox hb;have n0_:=Aside0.mk (below_step (by repeat (first|(with_reducible first|exact HB.out|apply below_alloc|apply pw_below_drewN|apply below_drew1)|exact HB.out)) hb);have n1_:=Aside0.mk (hbox);have n2_:=Aside0.mk ((by rw [hg];exact (below_size (by repeat (first|(with_reducible first|exact HB.out|apply below_alloc|apply pw_below_drewN|apply below_drew1)|exact HB.out))):w.heap.size≤gb634));have n3_:=Aside0.mk ((by rw [hg];exact (below_size (by repeat (first|(with_reducible first|exact HB.out|apply below_alloc|apply pw_below_drewN|apply below_drew1)|exact HB.out))):w.heap.size≤gb634));clear HB;have HB:=n0_;have BK634:=n1_;have GW634:=n2_;have GE634:=n3_;clear n0_ n1_ n2_ n3_;clear hb hbox hg;have hcz6_0:w5.cell? ⟨gb634,0,none⟩=some (.slice A0_0 l0_0.length c0_0):=(blk_cell BK634.out 0).trans rfl;have hcz6_1:w5.cell? ⟨gb634,1,none⟩=some (.bool a0_1):=(blk_cell BK634.out 1).trans rfl;have hfz6_0:=blk_frozen BK634.out 0;have hfz6_1:=blk_frozen BK634.out 1)|((with_reducible refine gate_callee (f:=49) rfl ?_);refine goesL_ (some 8) rfl rfl Try.func49 (by kernel_rfl) rfl #[.agg #[.slice A0_0 l0_0.length c0_0,.bool a0_1],.int .i64 0] rfl (by (try simp only [List.map_toArray,List.map_cons,List.map_nil]);first|done|rfl|(simp only [List.length_drop,List.length_take];rfl)) ?_;(with_reducible refine (impl_countSplits.calls k _ _ l0_0 a0_1 0 t635 true _ ?side1 ?side2 A2.out).mono ?_);(case side1=>repeat (first|exact (Kd.C_below HR0_0.out HB.out)|(with_reducible refine Kd.C_alloc ?_ _)|(with_reducible refine Kd.C_drewN ?_ _)|(with_reducible refine Kd.C_drew ?_)));(case side2=>exact HC0_0.out);rintro e w7 ⟨rfl,hb⟩;refine ⟨_,rfl,?_⟩;have n0_:=Aside0.mk (blk_below (g:=gb634) (o:=.cells #[.slice A0_0 l0_0.length c0_0,.bool a0_1] 28 (0,0)) (by (with_reducible repeat (first|refine blk_drewN ?_ _|refine blk_drew ?_|refine blk_alloc ?_ _));exact BK634.out) hb);have n1_:=Aside0.mk (below_step (by repeat (first|(with_reducible first|exact HB.out|apply below_alloc|apply pw_below_drewN|apply below_drew1|refine below_set ?_ GE634.out)|exact HB.out)) hb);clear BK634;clear HB;have BK634:=n0_;have HB:=n1_;clear n0_ n1_;(try clear hb);(try clear hb2);(try clear hk);(try clear hi);have hcz8_0:w7.cell? ⟨gb634,0,none⟩=some (.slice A0_0 l0_0.length c0_0):=(blk_cell BK634.out 0).trans rfl;have hcz8_1:w7.cell? ⟨gb634,1,none⟩=some (.bool a0_1):=(blk_cell BK634.out 1).trans rfl;have hfz8_0:=blk_frozen BK634.out 0;have hfz8_1:=blk_frozen BK634.out 1))
   go_ret2
   exact ⟨by first|rfl|(simp [errW_none,errW_some]<;>rfl)|(simp [*,errW_none,errW_some]<;>rfl),by repeat (first|(with_reducible first|exact HB.out|apply below_alloc|apply pw_below_drewN|apply below_drew1|refine below_set ?_ GE634.out)|exact HB.out)⟩
  ·rw [if_neg c4] at H
   have c4b0:decide (10< (l0_0.length:Int))=false:=decide_eq_false c4
   have c4b1:decide (10< l0_0.length)=false:=decide_eq_false (by omega)
   clear c4
   replace H:=Option.bind_eq_some_iff.mp H
   obtain ⟨t637,A90,H⟩:=H
   replace H:(some (shr .i64 t635 (t637.length:Int),true))=some (r1,r2):=H
   have A9:=Aside0.mk A90
   clear A90
   obtain ⟨ji10,hji10⟩:∃ j_:Int,(shr .i64 t635 (t637.length:Int))=j_:=⟨_,rfl⟩
   replace H:(some (ji10,true))=some (r1,r2):=by first|(rw [hji10] at H;exact H)|(simp only [hji10] at H ⊢;exact H)
   (try rw [hji10] at A2)
   (try rw [hji10] at A9)
   have hji10_:(t635 / 2 ^ min (t637.length:Int).toNat 64)=ji10:=hji10
   have hji10z:(t637.length:Int)≤64→(t635 / 2 ^ (t637.length:Int).toNat)=ji10:=shr_small hji10
   have hji10p:(t635 / 2 ^ min t637.length 64)=ji10:=hji10_
   have hji10q:(t637.length:Int)≤64→(t635 / 2 ^ t637.length)=ji10:=hji10z
   simp only [Option.some.injEq,Prod.mk.injEq] at H
   obtain ⟨rfl,rfl⟩:=H
   go_enter Try.func34,Try.ntmps34
   go_wp2_with (first|((with_reducible refine gate_dst (N:=1) rfl ?_);(try (refine gate_guard (by rfl) ?_;dsimp only));refine box_event ?hg (N:=1) ?hd (cs:=#[.slice A0_0 l0_0.length c0_0,.bool a0_1]) (t:=28) ?hr ?_;(case hd=>rfl);(case hg=>rfl);(case hr=>first|(go_simp;done)|(go_simp;rfl));intro gb634 hg w11 hbox hb;have n0_:=Aside0.mk (below_step (by repeat (first|(with_reducible first|exact HB.out|apply below_alloc|apply pw_below_drewN|apply below_drew1)|exact HB.out)) hb);have n1_:=Aside0.mk (hbox);have n2_:=Aside0.mk ((by rw [hg];exact (below_size (by repeat (first|(with_reducible first|exact HB.out|apply below_alloc|apply pw_below_drewN|apply below_drew1)|exact HB.out))):w.heap.size≤gb634));have n3_:=Aside0.mk ((by rw [hg];exact (below_size (by repeat (first|(with_reducible first|exact HB.out|apply below_alloc|apply pw_below_drewN|apply below_drew1)|exact HB.out))):w.heap.size≤gb634));clear HB;have HB:=n0_;have BK634:=n1_;have GW634:=n2_;have GE634:=n3_;clear n0_ n1_ n2_ n3_;clear hb hbox hg;have hcz12_0:w11.cell? ⟨gb634,0,none⟩=some (.slice A0_0 l0_0.length c0_0):=(blk_cell BK634.out 0).trans rfl;have hcz12_1:w11.cell? ⟨gb634,1,none⟩=some (.bool a0_1):=(blk_cell BK634.out 1).trans rfl;have hfz12_0:=blk_frozen BK634.out 0;have hfz12_1:=blk_frozen BK634.out 1)|((with_reducible refine gate_callee (f:=49) rfl ?_);refine goesL_ (some 8) rfl rfl Try.func49 (by kernel_rfl) rfl #[.agg #[.slice A0_0 l0_0.length c0_0,.bool a0_1],.int .i64 0] rfl (by (try simp only [List.map_toArray,List.map_cons,List.map_nil]);first|done|rfl|(simp only [List.length_drop,List.length_take];rfl)) ?_;(with_reducible refine (impl_countSplits.calls k _ _ l0_0 a0_1 0 t635 true _ ?side1 ?side2 A2.out).mono ?_);(case side1=>repeat (first|exact (Kd.C_below HR0_0.out HB.out)|(with_reducible refine Kd.C_alloc ?_ _)|(with_reducible refine Kd.C_drewN ?_ _)|(with_reducible refine Kd.C_drew ?_)));(case side2=>exact HC0_0.out);rintro e w13 ⟨rfl,hb⟩;refine ⟨_,rfl,?_⟩;have n0_:=Aside0.mk (blk_below (g:=gb634) (o:=.cells #[.slice A0_0 l0_0.length c0_0,.bool a0_1] 28 (0,0)) (by (with_reducible repeat (first|refine blk_drewN ?_ _|refine blk_drew ?_|refine blk_alloc ?_ _));exact BK634.out) hb);have n1_:=Aside0.mk (below_step (by repeat (first|(with_reducible first|exact HB.out|apply below_alloc|apply pw_below_drewN|apply below_drew1|refine below_set ?_ GE634.out)|exact HB.out)) hb);clear BK634;clear HB;have BK634:=n0_;have HB:=n1_;clear n0_ n1_;(try clear hb);(try clear hb2);(try clear hk);(try clear hi);have hcz14_0:w13.cell? ⟨gb634,0,none⟩=some (.slice A0_0 l0_0.length c0_0):=(blk_cell BK634.out 0).trans rfl;have hcz14_1:w13.cell? ⟨gb634,1,none⟩=some (.bool a0_1):=(blk_cell BK634.out 1).trans rfl;have hfz14_0:=blk_frozen BK634.out 0;have hfz14_1:=blk_frozen BK634.out 1)|((with_reducible refine gate_callee (f:=65) rfl ?_);refine goesL_ (some 21) rfl rfl Try.func65 (by kernel_rfl) rfl #[.agg #[.slice A0_0 l0_0.length c0_0,.bool a0_1]] rfl (by (try simp only [List.map_toArray,List.map_cons,List.map_nil]);first|done|rfl|(simp only [List.length_drop,List.length_take];rfl)) ?_;(with_reducible refine (impl_Graph_parts.calls k _ _ l0_0 a0_1 t637 _ ?side1 ?side2 A9.out).mono ?_);(case side1=>repeat (first|exact (Kd.C_below HR0_0.out HB.out)|(with_reducible refine Kd.C_alloc ?_ _)|(with_reducible refine Kd.C_drewN ?_ _)|(with_reducible refine Kd.C_drew ?_)));(case side2=>exact HC0_0.out);rintro e w15 ⟨v638,rfl,ho0,hb⟩;refine ⟨_,rfl,?_⟩;have n0_:=Aside0.mk (Kd.R_lower ho0 (below_size (by repeat (first|(with_reducible first|exact HB.out|apply below_alloc|apply pw_below_drewN|apply below_drew1|refine below_set ?_ GE634.out)|exact HB.out))));have n1_:=Aside0.mk (blk_below (g:=gb634) (o:=.cells #[.slice A0_0 l0_0.length c0_0,.bool a0_1] 28 (0,0)) (by (with_reducible repeat (first|refine blk_drewN ?_ _|refine blk_drew ?_|refine blk_alloc ?_ _));exact BK634.out) hb);have n2_:=Aside0.mk (below_step (by repeat (first|(with_reducible first|exact HB.out|apply below_alloc|apply pw_below_drewN|apply below_drew1|refine below_set ?_ GE634.out)|exact HB.out)) hb);clear BK634;clear HB;have HO639:=n0_;have BK634:=n1_;have HB:=n2_;clear n0_ n1_ n2_;(try clear hb);(try clear hb2);(try clear hk);(try clear hi);(try clear ho0);obtain ⟨Ao16,co16,eo16⟩:=Kd.R_slice HO639.out;subst eo16))
   go_ret2
   exact ⟨by first|rfl|(simp [errW_none,errW_some]<;>rfl)|(simp only [← hji10];first|rfl|(simp [errW_none,errW_some]<;>rfl))|(simp [*,errW_none,errW_some]<;>rfl),by repeat (first|(with_reducible first|exact HB.out|apply below_alloc|apply pw_below_drewN|apply below_drew1|refine below_set ?_ GE634.out)|exact HB.out)⟩
 ·replace c3:=Bool.eq_false_iff.mpr c3
  subst c3
  have H1:(some (0,false))=some (r1,r2):=by rw [if_neg (show ¬ (false=true) by decide)] at H;exact H
  clear H
  have H:=H1
  clear H1
  simp only [Option.some.injEq,Prod.mk.injEq] at H
  obtain ⟨rfl,rfl⟩:=H
  go_enter Try.func34,Try.ntmps34
  go_wp2_with (first|((with_reducible refine gate_dst (N:=1) rfl ?_);(try (refine gate_guard (by rfl) ?_;dsimp only));refine box_event ?hg (N:=1) ?hd (cs:=#[.slice A0_0 l0_0.length c0_0,.bool a0_1]) (t:=28) ?hr ?_;(case hd=>rfl);(case hg=>rfl);(case hr=>first|(go_simp;done)|(go_simp;rfl));intro gb634 hg w17 hbox hb;have n0_:=Aside0.mk (below_step (by repeat (first|(with_reducible first|exact HB.out|apply below_alloc|apply pw_below_drewN|apply below_drew1)|exact HB.out)) hb);have n1_:=Aside0.mk (hbox);have n2_:=Aside0.mk ((by rw [hg];exact (below_size (by repeat (first|(with_reducible first|exact HB.out|apply below_alloc|apply pw_below_drewN|apply below_drew1)|exact HB.out))):w.heap.size≤gb634));have n3_:=Aside0.mk ((by rw [hg];exact (below_size (by repeat (first|(with_reducible first|exact HB.out|apply below_alloc|apply pw_below_drewN|apply below_drew1)|exact HB.out))):w.heap.size≤gb634));clear HB;have HB:=n0_;have BK634:=n1_;have GW634:=n2_;have GE634:=n3_;clear n0_ n1_ n2_ n3_;clear hb hbox hg;have hcz18_0:w17.cell? ⟨gb634,0,none⟩=some (.slice A0_0 l0_0.length c0_0):=(blk_cell BK634.out 0).trans rfl;have hcz18_1:w17.cell? ⟨gb634,1,none⟩=some (.bool a0_1):=(blk_cell BK634.out 1).trans rfl;have hfz18_0:=blk_frozen BK634.out 0;have hfz18_1:=blk_frozen BK634.out 1)|((with_reducible refine gate_callee (f:=49) rfl ?_);refine goesL_ (some 8) rfl rfl Try.func49 (by kernel_rfl) rfl #[.agg #[.slice A0_0 l0_0.length c0_0,.bool a0_1],.int .i64 0] rfl (by (try simp only [List.map_toArray,List.map_cons,List.map_nil]);first|done|rfl|(simp only [List.length_drop,List.length_take];rfl)) ?_;(with_reducible refine (impl_countSplits.calls k _ _ l0_0 a0_1 0 t635 false _ ?side1 ?side2 A2.out).mono ?_);(case side1=>repeat (first|exact (Kd.C_below HR0_0.out HB.out)|(with_reducible refine Kd.C_alloc ?_ _)|(with_reducible refine Kd.C_drewN ?_ _)|(with_reducible refine Kd.C_drew ?_)));(case side2=>exact HC0_0.out);rintro e w19 ⟨rfl,hb⟩;refine ⟨_,rfl,?_⟩;have n0_:=Aside0.mk (blk_below (g:=gb634) (o:=.cells #[.slice A0_0 l0_0.length c0_0,.bool a0_1] 28 (0,0)) (by (with_reducible repeat (first|refine blk_drewN ?_ _|refine blk_drew ?_|refine blk_alloc ?_ _));exact BK634.out) hb);have n1_:=Aside0.mk (below_step (by repeat (first|(with_reducible first|exact HB.out|apply below_alloc|apply pw_below_drewN|apply below_drew1|refine below_set ?_ GE634.out)|exact HB.out)) hb);clear BK634;clear HB;have BK634:=n0_;have HB:=n1_;clear n0_ n1_;(try clear hb);(try clear hb2);(try clear hk);(try clear hi)))
  go_ret2
  exact ⟨by first|rfl|(simp [errW_none,errW_some]<;>rfl)|(simp [*,errW_none,errW_some]<;>rfl),by repeat (first|(with_reducible first|exact HB.out|apply below_alloc|apply pw_below_drewN|apply below_drew1|refine below_set ?_ GE634.out)|exact HB.out)⟩
/-! ### laws_FnExactCountEvenCuts: function 9 -/
def laws_FnExactCountEvenCuts.j0:Nat→Bool→List Int→Bool→List Int→Bool→Option (Bool)
 |0,_,_,_,_,_=>none
 |k+1,x34,x641000,x641001,x653000,x653001=>if x34=true then (some false) else ((laws_toGraph.f k x641000 x641001).bind fun bt655=>((laws_eqGraph.f k x653000 x653001 bt655.1 bt655.2).bind fun t659=>(if t659=true then (some true) else (some false))))
def laws_FnExactCountEvenCuts.f (k:Nat) (l0_0:List Int) (a0_1:Bool):Option (Bool):=(laws_szGraph.f l0_0 a0_1 1048576).bind fun t641=>(if t641< 0 then (some true) else ((laws_toGraph.f k l0_0 a0_1).bind fun bt642=>((spec_CountEvenCuts.f k bt642.1 bt642.2).bind fun bt646=>((laws_toGraph.f k l0_0 a0_1).bind fun bt648=>((impl_CountEvenCuts.f k bt648.1 bt648.2).bind fun bt653=>(if bt653.1=bt646.1 then (laws_FnExactCountEvenCuts.j0 k (bt653.2 !=bt646.2) l0_0 a0_1 bt648.1 bt648.2) else (laws_FnExactCountEvenCuts.j0 k true l0_0 a0_1 bt648.1 bt648.2)))))))
set_option maxHeartbeats 8000000 in
set_option maxRecDepth 100000 in
theorem laws_FnExactCountEvenCuts.calls (k:Nat) (A0_0:Option Addr) (c0_0:Nat) (l0_0:List Int) (a0_1:Bool) (r:Bool) (w:World) (hr0_0:Kd.C (Kd.int .i64) w A0_0 l0_0.length l0_0) (hc0_0:l0_0.length≤c0_0) (h:laws_FnExactCountEvenCuts.f k l0_0 a0_1=some r):
  Calls Try.prog 9 #[.agg #[.slice A0_0 l0_0.length c0_0,.bool a0_1]] w fun e w'=>e=.returned (.bool r)∧Below w.heap.size w w':=by
 have hu24:=Try.underlying24
 have hu28:=Try.underlying28
 have HR0_0:=Aside0.mk hr0_0
 have HC0_0:=Aside0.mk hc0_0
 clear hr0_0 hc0_0
 have HB:=Aside0.mk (Below.refl w.heap.size w)
 have H:((laws_szGraph.f l0_0 a0_1 1048576).bind fun t641=>(if t641< 0 then (some true) else ((laws_toGraph.f k l0_0 a0_1).bind fun bt642=>((spec_CountEvenCuts.f k bt642.1 bt642.2).bind fun bt646=>((laws_toGraph.f k l0_0 a0_1).bind fun bt648=>((impl_CountEvenCuts.f k bt648.1 bt648.2).bind fun bt653=>(if bt653.1=bt646.1 then (laws_FnExactCountEvenCuts.j0 k (bt653.2 !=bt646.2) l0_0 a0_1 bt648.1 bt648.2) else (laws_FnExactCountEvenCuts.j0 k true l0_0 a0_1 bt648.1 bt648.2))))))))=some r:=h
 clear h
 replace H:=Option.bind_eq_some_iff.mp H
 obtain ⟨t641,A20,H⟩:=H
 replace H:(if t641< 0 then (some true) else ((laws_toGraph.f k l0_0 a0_1).bind fun bt642=>((spec_CountEvenCuts.f k bt642.1 bt642.2).bind fun bt646=>((laws_toGraph.f k l0_0 a0_1).bind fun bt648=>((impl_CountEvenCuts.f k bt648.1 bt648.2).bind fun bt653=>(if bt653.1=bt646.1 then (laws_FnExactCountEvenCuts.j0 k (bt653.2 !=bt646.2) l0_0 a0_1 bt648.1 bt648.2) else (laws_FnExactCountEvenCuts.j0 k true l0_0 a0_1 bt648.1 bt648.2)))))))=some r:=H
 have A2:=Aside0.mk A20
 clear A20
 by_cases c3:t641< 0
 ·rw [if_pos c3] at H
  have c3b0:decide (t641< 0)=true:=decide_eq_true c3
  clear c3
  obtain rfl:=Option.some.inj H
  go_enter Try.func9,Try.ntmps9
  go_wp2_with (first|((with_reducible refine gate_dst (N:=1) rfl ?_);refine box_event ?hg (N:=1) ?hd (cs:=#[.slice A0_0 l0_0.length c0_0,.bool a0_1]) (t:=24) ?hr ?_;(case hd=>rfl);(case hg=>rfl);(case hr=>first|(go_simp;done)|(go_simp;rfl));intro gb640 hg w4 hbox hb;have n0_:=Aside0.mk (below_step (by repeat (first|(with_reducible first|exact HB.out|apply below_alloc|apply pw_below_drewN|apply below_drew1)|exact HB.out)) hb);have n1_:=Aside0.mk (hbox);have n2_:=Aside0.mk ((by rw [hg];exact (below_size (by repeat (first|(with_reducible first|exact HB.out|apply below_alloc|apply pw_below_drewN|apply below_drew1)|exact HB.out))):w.heap.size≤gb640));have n3_:=Aside0.mk ((by rw [hg];exact (below_size (by repeat (first|(with_reducible first|exact HB.out|apply below_alloc|apply pw_below_drewN|apply below_drew1)|exact HB.out))):w.heap.size≤gb640));clear HB;have HB:=n0_;have BK640:=n1_;have GW640:=n2_;have GE640:=n3_;clear n0_ n1_ n2_ n3_;clear hb hbox hg;have hcz5_0:w4.cell? ⟨gb640,0,none⟩=some (.slice A0_0 l0_0.length c0_0):=(blk_cell BK640.out 0).trans rfl;have hcz5_1:w4.cell? ⟨gb640,1,none⟩=some (.bool a0_1):=(blk_cell BK640.out 1).trans rfl;have hfz5_0:=blk_frozen BK640.out 0;have hfz5_1:=blk_frozen BK640.out 1)|((with_reducible refine gate_callee (f:=14) rfl ?_);refine goesL_ (some 11) rfl rfl Try.func14 (by kernel_rfl) rfl #[.agg #[.slice A0_0 l0_0.length c0_0,.bool a0_1],.int .i64 1048576] rfl (by (try simp only [List.map_toArray,List.map_cons,List.map_nil]);first|done|rfl|(simp only [List.length_drop,List.length_take];rfl)) ?_;(with_reducible refine (laws_szGraph.calls _ _ l0_0 a0_1 1048576 t641 _ ?side1 ?side2 A2.out).mono ?_);(case side1=>repeat (first|exact (Kd.C_below HR0_0.out HB.out)|(with_reducible refine Kd.C_alloc ?_ _)|(with_reducible refine Kd.C_drewN ?_ _)|(with_reducible refine Kd.C_drew ?_)));(case side2=>exact HC0_0.out);rintro e w6 ⟨rfl,hb⟩;refine ⟨_,rfl,?_⟩;have n0_:=Aside0.mk (blk_below (g:=gb640) (o:=.cells #[.slice A0_0 l0_0.length c0_0,.bool a0_1] 24 (0,0)) (by (with_reducible repeat (first|refine blk_drewN ?_ _|refine blk_drew ?_|refine blk_alloc ?_ _));exact BK640.out) hb);have n1_:=Aside0.mk (below_step (by repeat (first|(with_reducible first|exact HB.out|apply below_alloc|apply pw_below_drewN|apply below_drew1|refine below_set ?_ GE640.out)|exact HB.out)) hb);clear BK640;clear HB;have BK640:=n0_;have HB:=n1_;clear n0_ n1_;(try clear hb);(try clear hb2);(try clear hk);(try clear hi)))
  go_ret
  exact ⟨by first|rfl|(simp [errW_none,errW_some]<;>rfl)|(simp [*,errW_none,errW_some]<;>rfl),by repeat (first|(with_reducible first|exact HB.out|apply below_alloc|apply pw_below_drewN|apply below_drew1|refine below_set ?_ GE640.out)|exact HB.out)⟩
 ·rw [if_neg c3] at H
  have c3b0:decide (t641< 0)=false:=decide_eq_false c3
  clear c3
  replace H:=Option.bind_eq_some_iff.mp H
  obtain ⟨⟨t642,t645⟩,A70,H⟩:=H
  replace H:((spec_CountEvenCuts.f k t642 t645).bind fun bt646=>((laws_toGraph.f k l0_0 a0_1).bind fun bt648=>((impl_CountEvenCuts.f k bt648.1 bt648.2).bind fun bt653=>(if bt653.1=bt646.1 then (laws_FnExactCountEvenCuts.j0 k (bt653.2 !=bt646.2) l0_0 a0_1 bt648.1 bt648.2) else (laws_FnExactCountEvenCuts.j0 k true l0_0 a0_1 bt648.1 bt648.2)))))=some r:=H
  have A7:=Aside0.mk A70
  clear A70
  replace H:=Option.bind_eq_some_iff.mp H
  obtain ⟨⟨t646,t647⟩,A80,H⟩:=H
  replace H:((laws_toGraph.f k l0_0 a0_1).bind fun bt648=>((impl_CountEvenCuts.f k bt648.1 bt648.2).bind fun bt653=>(if bt653.1=t646 then (laws_FnExactCountEvenCuts.j0 k (bt653.2 !=t647) l0_0 a0_1 bt648.1 bt648.2) else (laws_FnExactCountEvenCuts.j0 k true l0_0 a0_1 bt648.1 bt648.2))))=some r:=H
  have A8:=Aside0.mk A80
  clear A80
  replace H:=Option.bind_eq_some_iff.mp H
  obtain ⟨⟨t648,t651⟩,A90,H⟩:=H
  replace H:((impl_CountEvenCuts.f k t648 t651).bind fun bt653=>(if bt653.1=t646 then (laws_FnExactCountEvenCuts.j0 k (bt653.2 !=t647) l0_0 a0_1 t648 t651) else (laws_FnExactCountEvenCuts.j0 k true l0_0 a0_1 t648 t651)))=some r:=H
  have A9:=Aside0.mk A90
  clear A90
  replace H:=Option.bind_eq_some_iff.mp H
  obtain ⟨⟨t653,t654⟩,A100,H⟩:=H
  replace H:(if t653=t646 then (laws_FnExactCountEvenCuts.j0 k (t654 !=t647) l0_0 a0_1 t648 t651) else (laws_FnExactCountEvenCuts.j0 k true l0_0 a0_1 t648 t651))=some r:=H
  have A10:=Aside0.mk A100
  clear A100
  have HC11:=Aside0.mk H
  clear H
  go_enter Try.func9,Try.ntmps9
  go_upto_region 8 with (first|((with_reducible refine gate_dst (N:=1) rfl ?_);refine box_event ?hg (N:=1) ?hd (cs:=#[.slice A0_0 l0_0.length c0_0,.bool a0_1]) (t:=24) ?hr ?_;(case hd=>rfl);(case hg=>rfl);(case hr=>first|(go_simp;done)|(go_simp;rfl));intro gb640 hg w12 hbox hb;have n0_:=Aside0.mk (below_step (by repeat (first|(with_reducible first|exact HB.out|apply below_alloc|apply pw_below_drewN|apply below_drew1)|exact HB.out)) hb);have n1_:=Aside0.mk (hbox);have n2_:=Aside0.mk ((by rw [hg];exact (below_size (by repeat (first|(with_reducible first|exact HB.out|apply below_alloc|apply pw_below_drewN|apply below_drew1)|exact HB.out))):w.heap.size≤gb640));have n3_:=Aside0.mk ((by rw [hg];exact (below_size (by repeat (first|(with_reducible first|exact HB.out|apply below_alloc|apply pw_below_drewN|apply below_drew1)|exact HB.out))):w.heap.size≤gb640));clear HB;have HB:=n0_;have BK640:=n1_;have GW640:=n2_;have GE640:=n3_;clear n0_ n1_ n2_ n3_;clear hb hbox hg;have hcz13_0:w12.cell? ⟨gb640,0,none⟩=some (.slice A0_0 l0_0.length c0_0):=(blk_cell BK640.out 0).trans rfl;have hcz13_1:w12.cell? ⟨gb640,1,none⟩=some (.bool a0_1):=(blk_cell BK640.out 1).trans rfl;have hfz13_0:=blk_frozen BK640.out 0;have hfz13_1:=blk_frozen BK640.out 1)|((with_reducible refine gate_callee (f:=14) rfl ?_);refine goesL_ (some 11) rfl rfl Try.func14 (by kernel_rfl) rfl #[.agg #[.slice A0_0 l0_0.length c0_0,.bool a0_1],.int .i64 1048576] rfl (by (try simp only [List.map_toArray,List.map_cons,List.map_nil]);first|done|rfl|(simp only [List.length_drop,List.length_take];rfl)) ?_;(with_reducible refine (laws_szGraph.calls _ _ l0_0 a0_1 1048576 t641 _ ?side1 ?side2 A2.out).mono ?_);(case side1=>repeat (first|exact (Kd.C_below HR0_0.out HB.out)|(with_reducible refine Kd.C_alloc ?_ _)|(with_reducible refine Kd.C_drewN ?_ _)|(with_reducible refine Kd.C_drew ?_)));(case side2=>exact HC0_0.out);rintro e w14 ⟨rfl,hb⟩;refine ⟨_,rfl,?_⟩;have n0_:=Aside0.mk (blk_below (g:=gb640) (o:=.cells #[.slice A0_0 l0_0.length c0_0,.bool a0_1] 24 (0,0)) (by (with_reducible repeat (first|refine blk_drewN ?_ _|refine blk_drew ?_|refine blk_alloc ?_ _));exact BK640.out) hb);have n1_:=Aside0.mk (below_step (by repeat (first|(with_reducible first|exact HB.out|apply below_alloc|apply pw_below_drewN|apply below_drew1|refine below_set ?_ GE640.out)|exact HB.out)) hb);clear BK640;clear HB;have BK640:=n0_;have HB:=n1_;clear n0_ n1_;(try clear hb);(try clear hb2);(try clear hk);(try clear hi);have hcz15_0:w14.cell? ⟨gb640,0,none⟩=some (.slice A0_0 l0_0.length c0_0):=(blk_cell BK640.out 0).trans rfl;have hcz15_1:w14.cell? ⟨gb640,1,none⟩=some (.bool a0_1):=(blk_cell BK640.out 1).trans rfl;have hfz15_0:=blk_frozen BK640.out 0;have hfz15_1:=blk_frozen BK640.out 1)|((with_reducible refine gate_callee (f:=16) rfl ?_);refine goesL_ (some 16) rfl rfl Try.func16 (by kernel_rfl) rfl #[.agg #[.slice A0_0 l0_0.length c0_0,.bool a0_1]] rfl (by (try simp only [List.map_toArray,List.map_cons,List.map_nil]);first|done|rfl|(simp only [List.length_drop,List.length_take];rfl)) ?_;(with_reducible refine (laws_toGraph.calls k _ _ l0_0 a0_1 t642 t645 _ ?side1 ?side2 A7.out).mono ?_);(case side1=>repeat (first|exact (Kd.C_below HR0_0.out HB.out)|(with_reducible refine Kd.C_alloc ?_ _)|(with_reducible refine Kd.C_drewN ?_ _)|(with_reducible refine Kd.C_drew ?_)));(case side2=>exact HC0_0.out);rintro e w16 ⟨v643,rfl,ho0,hb⟩;refine ⟨_,rfl,?_⟩;have n0_:=Aside0.mk (Kd.R_lower ho0 (below_size (by repeat (first|(with_reducible first|exact HB.out|apply below_alloc|apply pw_below_drewN|apply below_drew1|refine below_set ?_ GE640.out)|exact HB.out))));have n1_:=Aside0.mk (blk_below (g:=gb640) (o:=.cells #[.slice A0_0 l0_0.length c0_0,.bool a0_1] 24 (0,0)) (by (with_reducible repeat (first|refine blk_drewN ?_ _|refine blk_drew ?_|refine blk_alloc ?_ _));exact BK640.out) hb);have n2_:=Aside0.mk (below_step (by repeat (first|(with_reducible first|exact HB.out|apply below_alloc|apply pw_below_drewN|apply below_drew1|refine below_set ?_ GE640.out)|exact HB.out)) hb);clear BK640;clear HB;have HO644:=n0_;have BK640:=n1_;have HB:=n2_;clear n0_ n1_ n2_;(try clear hb);(try clear hb2);(try clear hk);(try clear hi);(try clear ho0);obtain ⟨Ao17,co17,eo17⟩:=Kd.R_slice HO644.out;subst eo17)|((with_reducible refine gate_callee (f:=33) rfl ?_);refine goesL_ (some 17) rfl rfl Try.func33 (by kernel_rfl) rfl #[.agg #[.slice Ao17 t642.length co17,.bool t645]] rfl (by (try simp only [List.map_toArray,List.map_cons,List.map_nil]);first|done|rfl|(simp only [List.length_drop,List.length_take];rfl)) ?_;(with_reducible refine (spec_CountEvenCuts.calls k _ _ t642 t645 t646 t647 _ ?side1 ?side2 A8.out).mono ?_);(case side1=>repeat (first|exact (Kd.R_reads' HO644.out).2.2|(with_reducible refine Kd.C_alloc ?_ _)|(with_reducible refine Kd.C_drewN ?_ _)|(with_reducible refine Kd.C_drew ?_)));(case side2=>exact (Kd.R_reads' HO644.out).2.1);rintro e w18 ⟨rfl,hb⟩;refine ⟨_,rfl,?_⟩;have n0_:=Aside0.mk (Kd.R_below (by (with_reducible repeat (first|apply Kd.R_alloc|apply Kd.R_drewN|apply Kd.R_drew));exact HO644.out) hb);have n1_:=Aside0.mk (blk_below (g:=gb640) (o:=.cells #[.slice A0_0 l0_0.length c0_0,.bool a0_1] 24 (0,0)) (by (with_reducible repeat (first|refine blk_drewN ?_ _|refine blk_drew ?_|refine blk_alloc ?_ _));exact BK640.out) hb);have n2_:=Aside0.mk (below_step (by repeat (first|(with_reducible first|exact HB.out|apply below_alloc|apply pw_below_drewN|apply below_drew1|refine below_set ?_ GE640.out)|exact HB.out)) hb);clear HO644;clear BK640;clear HB;have HO644:=n0_;have BK640:=n1_;have HB:=n2_;clear n0_ n1_ n2_;(try clear hb);(try clear hb2);(try clear hk);(try clear hi);have hcz19_0:w18.cell? ⟨gb640,0,none⟩=some (.slice A0_0 l0_0.length c0_0):=(blk_cell BK640.out 0).trans rfl;have hcz19_1:w18.cell? ⟨gb640,1,none⟩=some (.bool a0_1):=(blk_cell BK640.out 1).trans rfl;have hfz19_0:=blk_frozen BK640.out 0;have hfz19_1:=blk_frozen BK640.out 1)|((with_reducible refine gate_callee (f:=16) rfl ?_);refine goesL_ (some 21) rfl rfl Try.func16 (by kernel_rfl) rfl #[.agg #[.slice A0_0 l0_0.length c0_0,.bool a0_1]] rfl (by (try simp only [List.map_toArray,List.map_cons,List.map_nil]);first|done|rfl|(simp only [List.length_drop,List.length_take];rfl)) ?_;(with_reducible refine (laws_toGraph.calls k _ _ l0_0 a0_1 t648 t651 _ ?side1 ?side2 A9.out).mono ?_);(case side1=>repeat (first|exact (Kd.C_below HR0_0.out HB.out)|(with_reducible refine Kd.C_alloc ?_ _)|(with_reducible refine Kd.C_drewN ?_ _)|(with_reducible refine Kd.C_drew ?_)));(case side2=>exact HC0_0.out);rintro e w20 ⟨v649,rfl,ho0,hb⟩;refine ⟨_,rfl,?_⟩;have n0_:=Aside0.mk (Kd.R_elder' (by (with_reducible repeat (first|apply Kd.R_alloc|apply Kd.R_drewN|apply Kd.R_drew));exact HO644.out) (Kd.R_base ho0) hb);have n1_:=Aside0.mk (Kd.R_lower (Kd.R_new' ho0 (Kd.R_lt (by (with_reducible repeat (first|apply Kd.R_alloc|apply Kd.R_drewN|apply Kd.R_drew));exact HO644.out))) (below_size (by repeat (first|(with_reducible first|exact HB.out|apply below_alloc|apply pw_below_drewN|apply below_drew1|refine below_set ?_ GE640.out)|exact HB.out))));have n2_:=Aside0.mk (blk_below (g:=gb640) (o:=.cells #[.slice A0_0 l0_0.length c0_0,.bool a0_1] 24 (0,0)) (by (with_reducible repeat (first|refine blk_drewN ?_ _|refine blk_drew ?_|refine blk_alloc ?_ _));exact BK640.out) hb);have n3_:=Aside0.mk (below_step (by repeat (first|(with_reducible first|exact HB.out|apply below_alloc|apply pw_below_drewN|apply below_drew1|refine below_set ?_ GE640.out)|exact HB.out)) hb);clear HO644;clear BK640;clear HB;have HO644:=n0_;have HO650:=n1_;have BK640:=n2_;have HB:=n3_;clear n0_ n1_ n2_ n3_;(try clear hb);(try clear hb2);(try clear hk);(try clear hi);(try clear ho0))|((with_reducible refine gate_dst (N:=6) rfl ?_);refine box_event ?hg (N:=6) ?hd (cs:=#[.slice none 0 0,.bool false]) (t:=28) ?hr ?_;(case hd=>rfl);(case hg=>rfl);(case hr=>first|(go_simp;done)|(go_simp;rfl));intro gb652 hg w21 hbox hb;have n0_:=Aside0.mk (Kd.R_below (by (with_reducible repeat (first|apply Kd.R_alloc|apply Kd.R_drewN|apply Kd.R_drew));exact HO644.out) hb);have n1_:=Aside0.mk (Kd.R_below (by (with_reducible repeat (first|apply Kd.R_alloc|apply Kd.R_drewN|apply Kd.R_drew));exact HO650.out) hb);have n2_:=Aside0.mk (blk_below (g:=gb640) (o:=.cells #[.slice A0_0 l0_0.length c0_0,.bool a0_1] 24 (0,0)) (by (with_reducible repeat (first|refine blk_drewN ?_ _|refine blk_drew ?_|refine blk_alloc ?_ _));exact BK640.out) hb);have n3_:=Aside0.mk (below_step (by repeat (first|(with_reducible first|exact HB.out|apply below_alloc|apply pw_below_drewN|apply below_drew1|refine below_set ?_ GE640.out)|exact HB.out)) hb);have n4_:=Aside0.mk (hbox);have n5_:=Aside0.mk ((by rw [hg];exact (below_size (by repeat (first|(with_reducible first|exact HB.out|apply below_alloc|apply pw_below_drewN|apply below_drew1|refine below_set ?_ GE640.out)|exact HB.out))):w.heap.size≤gb652));have n6_:=Aside0.mk ((by rw [hg];exact (below_size (by repeat (first|(with_reducible first|exact HB.out|apply below_alloc|apply pw_below_drewN|apply below_drew1|refine below_set ?_ GE640.out)|exact HB.out))):w.heap.size≤gb652));have n7_:=Aside0.mk ((by rw [hg];exact Nat.ne_of_lt (blk_lt (g:=gb640) (o:=.cells #[.slice A0_0 l0_0.length c0_0,.bool a0_1] 24 (0,0)) (by (with_reducible repeat (first|refine blk_drewN ?_ _|refine blk_drew ?_|refine blk_alloc ?_ _));exact BK640.out)):gb640≠gb652));have n8_:=Aside0.mk ((by rw [hg];exact Nat.ne_of_gt (blk_lt (g:=gb640) (o:=.cells #[.slice A0_0 l0_0.length c0_0,.bool a0_1] 24 (0,0)) (by (with_reducible repeat (first|refine blk_drewN ?_ _|refine blk_drew ?_|refine blk_alloc ?_ _));exact BK640.out)):gb652≠gb640));clear HO644;clear HO650;clear BK640;clear HB;have HO644:=n0_;have HO650:=n1_;have BK640:=n2_;have HB:=n3_;have BK652:=n4_;have GW652:=n5_;have GE652:=n6_;have NB640_652:=n7_;have NB652_640:=n8_;clear n0_ n1_ n2_ n3_ n4_ n5_ n6_ n7_ n8_;clear hb hbox hg;obtain ⟨Ao22,co22,eo22⟩:=Kd.R_slice HO650.out;subst eo22;have hnb23:=NB652_640.out;have hnc23:=NB640_652.out;have hcz24_0:w21.cell? ⟨gb652,0,none⟩=some (.slice none 0 0):=(blk_cell BK652.out 0).trans rfl;have hcz24_1:w21.cell? ⟨gb652,1,none⟩=some (.bool false):=(blk_cell BK652.out 1).trans rfl;have hfz24_0:=blk_frozen BK652.out 0;have hfz24_1:=blk_frozen BK652.out 1)|((with_reducible refine gate_callee (f:=34) rfl ?_);refine goesL_ (some 24) rfl rfl Try.func34 (by kernel_rfl) rfl #[.agg #[.slice Ao22 t648.length co22,.bool t651]] rfl (by (try simp only [List.map_toArray,List.map_cons,List.map_nil]);first|done|rfl|(simp only [List.length_drop,List.length_take];rfl)) ?_;(with_reducible refine (impl_CountEvenCuts.calls k _ _ t648 t651 t653 t654 _ ?side1 ?side2 A10.out).mono ?_);(case side1=>refine (Kd.R_reads' (e:=3) (base:=w.heap.size) (ok:=fun k_=>(True∧some k_≠(.slice Ao17 t642.length co17:Value).ownBlock)) (n:=t648.length) (c:=co22) ?_).2.2;exact (by (with_reducible repeat (first|apply Kd.R_alloc|apply Kd.R_drewN|apply Kd.R_drew));exact (Kd.R_mono (Kd.R_far (p:=⟨gb652,1,none⟩) (Kd.R_far (p:=⟨gb652,0,none⟩) (Kd.R_types HO650.out BK652.out (by decide)) (fun _ hk=>hk.2) (.slice Ao22 t648.length co22)) (fun _ hk=>hk.2) (.bool t651)) (fun _ h_=>h_.1))));(case side2=>exact (Kd.R_reads' HO650.out).2.1);rintro e w25 ⟨rfl,hb⟩;refine ⟨_,rfl,?_⟩;have n0_:=Aside0.mk (Kd.R_below (by (with_reducible repeat (first|apply Kd.R_alloc|apply Kd.R_drewN|apply Kd.R_drew));exact (Kd.R_mono (Kd.R_far (p:=⟨gb652,1,none⟩) (Kd.R_far (p:=⟨gb652,0,none⟩) (Kd.R_types HO644.out BK652.out (by decide)) (fun _ hk=>hk.2) (.slice Ao22 t648.length co22)) (fun _ hk=>hk.2) (.bool t651)) (fun _ h_=>h_.1))) hb);have n1_:=Aside0.mk (Kd.R_below (by (with_reducible repeat (first|apply Kd.R_alloc|apply Kd.R_drewN|apply Kd.R_drew));exact (Kd.R_mono (Kd.R_far (p:=⟨gb652,1,none⟩) (Kd.R_far (p:=⟨gb652,0,none⟩) (Kd.R_types HO650.out BK652.out (by decide)) (fun _ hk=>hk.2) (.slice Ao22 t648.length co22)) (fun _ hk=>hk.2) (.bool t651)) (fun _ h_=>h_.1))) hb);have n2_:=Aside0.mk (blk_below (g:=gb640) (o:=.cells #[.slice A0_0 l0_0.length c0_0,.bool a0_1] 24 (0,0)) (by (with_reducible repeat (first|refine blk_drewN ?_ _|refine blk_drew ?_|refine blk_alloc ?_ _));refine blk_far ?_ NB640_652.out _;(with_reducible repeat (first|refine blk_drewN ?_ _|refine blk_drew ?_|refine blk_alloc ?_ _));refine blk_far ?_ NB640_652.out _;(with_reducible repeat (first|refine blk_drewN ?_ _|refine blk_drew ?_|refine blk_alloc ?_ _));exact BK640.out) hb);have n3_:=Aside0.mk (blk_below (g:=gb652) (o:=.cells #[.slice Ao22 t648.length co22,.bool t651] 28 (0,0)) (by (with_reducible repeat (first|refine blk_drewN ?_ _|refine blk_drew ?_|refine blk_alloc ?_ _));refine blk_put (cs:=#[.slice Ao22 t648.length co22,.bool false]) ?_ 1 _ rfl;(with_reducible repeat (first|refine blk_drewN ?_ _|refine blk_drew ?_|refine blk_alloc ?_ _));refine blk_put (cs:=#[.slice none 0 0,.bool false]) ?_ 0 _ rfl;(with_reducible repeat (first|refine blk_drewN ?_ _|refine blk_drew ?_|refine blk_alloc ?_ _));exact BK652.out) hb);have n4_:=Aside0.mk (below_step (by repeat (first|(with_reducible first|exact HB.out|apply below_alloc|apply pw_below_drewN|apply below_drew1|refine below_set ?_ GE640.out|refine below_set ?_ GE652.out)|exact HB.out)) hb);clear HO644;clear HO650;clear BK640;clear BK652;clear HB;have HO644:=n0_;have HO650:=n1_;have BK640:=n2_;have BK652:=n3_;have HB:=n4_;clear n0_ n1_ n2_ n3_ n4_;(try clear hb);(try clear hb2);(try clear hk);(try clear hi)))
  (try simp only [Act.put,List.setIfInBounds_toArray,List.set_cons_zero,List.set_cons_succ])
  go_cut [34] (fun v34 wc=>∃ (kq:Nat) (x34_10:Bool),v34=.bool x34_10∧Aside0 (laws_FnExactCountEvenCuts.j0 kq x34_10 l0_0 a0_1 t648 t651=some r)∧Aside0 (kq≤k)∧Aside0 (Kd.R (Kd.int .i64) 3 wc w.heap.size (fun _=>True) (.slice Ao22 t648.length co22) t648)∧Aside0 (wc.heap[gb640]?=some (.cells #[(.slice A0_0 l0_0.length c0_0),.bool a0_1] 24 (0,0)))∧Aside0 (wc.heap[gb652]?=some (.cells #[(.slice Ao22 t648.length co22),.bool t651] 28 (0,0)))∧Aside0 (Below w.heap.size w wc))
  case first=>
   have H:=HC11.out
   clear HC11
   by_cases c26:t653=t646
   ·rw [if_pos c26] at H
    have c26b0:(t653==t646)=true:=beq_iff_eq.mpr c26
    have c26b1:(t653 !=t646)=false:=bne_eq_false_iff_eq.mpr c26
    clear c26
    (first|rw [c26b0]|(simp only [i64_w,i32_w];rw [c26b0])|skip)
    have H':=Aside0.mk H
    clear H
    go_wp2
    go_meet
    case rel=>exact ⟨_,((t654 !=t647)),(by first|rfl|(simp;done)|(simp [*];done)),H',⟨by first|omega|exact Nat.le_refl _⟩,⟨by (with_reducible repeat (first|apply Kd.R_alloc|apply Kd.R_drewN|apply Kd.R_drew));exact Kd.R_mono HO650.out (fun _ hk=>trivial)⟩,⟨by (with_reducible repeat (first|refine blk_drewN ?_ _|refine blk_drew ?_|refine blk_alloc ?_ _));exact BK640.out⟩,⟨by (with_reducible repeat (first|refine blk_drewN ?_ _|refine blk_drew ?_|refine blk_alloc ?_ _));exact BK652.out⟩,⟨by repeat (first|(with_reducible first|exact HB.out|apply below_alloc|apply pw_below_drewN|apply below_drew1|refine below_set ?_ GE640.out|refine below_set ?_ GE652.out)|exact HB.out)⟩⟩
   ·rw [if_neg c26] at H
    have c26b0:(t653==t646)=false:=beq_eq_false_iff_ne.mpr c26
    have c26b1:(t653 !=t646)=true:=bne_iff_ne.mpr c26
    (first|rw [c26b0]|(simp only [i64_w,i32_w];rw [c26b0])|skip)
    have H':=Aside0.mk H
    clear H
    go_wp2
    go_meet
    case rel=>exact ⟨_,(true),(by first|rfl|(simp;done)|(simp [*];done)),H',⟨by first|omega|exact Nat.le_refl _⟩,⟨by (with_reducible repeat (first|apply Kd.R_alloc|apply Kd.R_drewN|apply Kd.R_drew));exact Kd.R_mono HO650.out (fun _ hk=>trivial)⟩,⟨by (with_reducible repeat (first|refine blk_drewN ?_ _|refine blk_drew ?_|refine blk_alloc ?_ _));exact BK640.out⟩,⟨by (with_reducible repeat (first|refine blk_drewN ?_ _|refine blk_drew ?_|refine blk_alloc ?_ _));exact BK652.out⟩,⟨by repeat (first|(with_reducible first|exact HB.out|apply below_alloc|apply pw_below_drewN|apply below_drew1|refine below_set ?_ GE640.out|refine below_set ?_ GE652.out)|exact HB.out)⟩⟩
  case rest=>
   clear HC11;(try clear c1);(try clear c2);(try clear p2);(try clear c3);(try clear c3b0);(try clear c9);(try clear c14);(try clear c16);(try clear c23);(try clear c26);(try clear c26b0);(try clear c26b1);(try clear hcz13_0);(try clear hcz13_1);(try clear hcz15_0);(try clear hcz15_1);(try clear hcz19_0);(try clear hcz19_1);(try clear hcz24_0);(try clear hcz24_1);(try clear hcz5_0);(try clear hcz5_1);(try clear hfz13_0);(try clear hfz13_1);(try clear hfz15_0);(try clear hfz15_1);(try clear hfz19_0);(try clear hfz19_1);(try clear hfz24_0);(try clear hfz24_1);(try clear hfz5_0);(try clear hfz5_1)
   obtain ⟨kq,x34_10,rfl,HA,HJ10,HO_653000,BK640,BK652,HB⟩:=hcut
   cases kq with
   |zero=>exact absurd HA.out (by simp [laws_FnExactCountEvenCuts.j0])
   |succ kj10=>
    have H:=HA.out
    clear HA
    simp only [laws_FnExactCountEvenCuts.j0] at H
    by_cases c27:x34_10=true
    ·subst c27
     have H1:(some false)=some r:=by rw [if_pos rfl] at H;exact H
     clear H
     have H:=H1
     clear H1
     obtain rfl:=Option.some.inj H
     go_wp2
     go_ret
     exact ⟨by first|rfl|(simp [errW_none,errW_some]<;>rfl)|(simp [*,errW_none,errW_some]<;>rfl),by repeat (first|(with_reducible first|exact HB.out|apply below_alloc|apply pw_below_drewN|apply below_drew1|refine below_set ?_ GE640.out|refine below_set ?_ GE652.out)|exact HB.out)⟩
    ·replace c27:=Bool.eq_false_iff.mpr c27
     subst c27
     have H1:((laws_toGraph.f kj10 l0_0 a0_1).bind fun bt655=>((laws_eqGraph.f kj10 t648 t651 bt655.1 bt655.2).bind fun t659=>(if t659=true then (some true) else (some false))))=some r:=by rw [if_neg (show ¬ (false=true) by decide)] at H;exact H
     clear H
     have H:=H1
     clear H1
     replace H:=Option.bind_eq_some_iff.mp H
     obtain ⟨⟨t655,t658⟩,A280,H⟩:=H
     replace H:((laws_eqGraph.f kj10 t648 t651 t655 t658).bind fun t659=>(if t659=true then (some true) else (some false)))=some r:=H
     have A28:=Aside0.mk A280
     clear A280
     replace H:=Option.bind_eq_some_iff.mp H
     obtain ⟨t659,A290,H⟩:=H
     replace H:(if t659=true then (some true) else (some false))=some r:=H
     have A29:=Aside0.mk A290
     clear A290
     by_cases c30:t659=true
     ·subst c30
      have H1:(some true)=some r:=by rw [if_pos rfl] at H;exact H
      clear H
      have H:=H1
      clear H1
      obtain rfl:=Option.some.inj H
      try go_wp2
      have n0_:=Aside0.mk (Kd.R_drew HO_653000.out)
      have n1_:=Aside0.mk (blk_drew BK640.out)
      have n2_:=Aside0.mk (blk_drew BK652.out)
      have n3_:=Aside0.mk (below_drew1 HB.out)
      clear HO_653000;clear BK640;clear BK652;clear HB
      have HO_653000:=n0_
      have BK640:=n1_
      have BK652:=n2_
      have HB:=n3_
      clear n0_ n1_ n2_ n3_
      refine start_ (n:=5) (S:=fun w'=>w'.cell? ⟨gb652,0,none⟩=some (.slice Ao22 t648.length co22)∧w'.cell? ⟨gb652,1,none⟩=some (.bool t651)∧w'.cell? ⟨gb640,0,none⟩=some (.slice A0_0 l0_0.length c0_0)∧w'.cell? ⟨gb640,1,none⟩=some (.bool a0_1)) (ds:=[]) #[false,false,false,false,false] (by kernel_rfl) rfl rfl ⟨(blk_cell BK652.out 0).trans rfl,(blk_cell BK652.out 1).trans rfl,(blk_cell BK640.out 0).trans rfl,(blk_cell BK640.out 1).trans rfl⟩ (fun hHeld=>?_)
      generalize wc.drew=w31 at HO_653000 BK640 BK652 HB hHeld ⊢
      refine take_ (i:=0) (N:=some 35) (v:=?_) (a':=?_) #[true,false,false,false,false] rfl rfl (by kernel_rfl) (fun _ _ _ h=>h) (Or.inl ⟨by rfl,?_⟩) hHeld ?_ ?_
      rotate_left
      ·rintro w' ⟨s0,s1,s2,s3⟩
       go_simp
       with_reducible rfl
      rotate_left
      ·simp only [Act.put,List.setIfInBounds_toArray,List.set_cons_zero,List.set_cons_succ,i64_w,i32_w]
       rfl
      refine take_ (i:=1) (N:=some 36) (v:=?_) (a':=?_) #[true,true,false,false,false] rfl rfl (by kernel_rfl) (fun _ _ _ h=>h) (Or.inl ⟨by rfl,?_⟩) hHeld ?_ ?_
      rotate_left
      ·rintro w' ⟨s0,s1,s2,s3⟩
       go_simp
       with_reducible rfl
      rotate_left
      ·simp only [Act.put,List.setIfInBounds_toArray,List.set_cons_zero,List.set_cons_succ,i64_w,i32_w]
       rfl
      refine one_ (i:=2) (N:=some 37) #[true,true,true,false,false] rfl rfl (by kernel_rfl) (by decide) (fun K hK=>?_)
      refine goes_ Try.func16 (by kernel_rfl) rfl #[.agg #[.slice A0_0 l0_0.length c0_0,.bool a0_1]] (by rfl) rfl rfl (by (try simp only [List.map_toArray,List.map_cons,List.map_nil]);first|done|rfl|(simp only [List.length_drop,List.length_take];rfl)) ?_
      with_reducible refine (laws_toGraph.calls kj10 _ _ l0_0 a0_1 t655 t658 _ ?side1 ?side2 A28.out).mono ?_
      (case side1=>repeat (first|exact (Kd.C_below HR0_0.out HB.out)|(with_reducible refine Kd.C_alloc ?_ _)|(with_reducible refine Kd.C_drewN ?_ _)|(with_reducible refine Kd.C_drew ?_)))
      (case side2=>exact HC0_0.out)
      rintro e w32 ⟨v656,rfl,ho0,hb⟩
      refine ⟨_,rfl,?_⟩
      have n0_:=Aside0.mk (Kd.R_elder' (by (with_reducible repeat (first|apply Kd.R_alloc|apply Kd.R_drewN|apply Kd.R_drew));exact HO_653000.out) (Kd.R_base ho0) hb)
      have n1_:=Aside0.mk (Kd.R_lower (Kd.R_new' ho0 (Kd.R_lt (by (with_reducible repeat (first|apply Kd.R_alloc|apply Kd.R_drewN|apply Kd.R_drew));exact HO_653000.out))) (below_size (by repeat (first|(with_reducible first|exact HB.out|apply below_alloc|apply pw_below_drewN|apply below_drew1|refine below_set ?_ GE640.out|refine below_set ?_ GE652.out)|exact HB.out))))
      have n2_:=Aside0.mk (blk_below (g:=gb640) (o:=.cells #[.slice A0_0 l0_0.length c0_0,.bool a0_1] 24 (0,0)) (by (with_reducible repeat (first|refine blk_drewN ?_ _|refine blk_drew ?_|refine blk_alloc ?_ _));exact BK640.out) hb)
      have n3_:=Aside0.mk (blk_below (g:=gb652) (o:=.cells #[.slice Ao22 t648.length co22,.bool t651] 28 (0,0)) (by (with_reducible repeat (first|refine blk_drewN ?_ _|refine blk_drew ?_|refine blk_alloc ?_ _));exact BK652.out) hb)
      have n4_:=Aside0.mk (below_step (by repeat (first|(with_reducible first|exact HB.out|apply below_alloc|apply pw_below_drewN|apply below_drew1|refine below_set ?_ GE640.out|refine below_set ?_ GE652.out)|exact HB.out)) hb)
      clear HO_653000;clear BK640;clear BK652;clear HB
      have HO_653000:=n0_
      have HO657:=n1_
      have BK640:=n2_
      have BK652:=n3_
      have HB:=n4_
      clear n0_ n1_ n2_ n3_ n4_;(try clear hb);(try clear hb2);(try clear hk);(try clear hi);(try clear ho0)
      obtain ⟨Ao33,co33,eo33⟩:=Kd.R_slice HO657.out
      (first|subst eo33|(injection eo33 with f1_ f2_ f3_;have f4_:=f1_.symm;have f5_:=f3_.symm;clear f1_ f2_ f3_;subst f4_;subst f5_))
      refine hK.out _ _ ⟨(blk_cell BK652.out 0).trans rfl,(blk_cell BK652.out 1).trans rfl,(blk_cell BK640.out 0).trans rfl,(blk_cell BK640.out 1).trans rfl⟩ (fun hHeld=>?_)
      clear hK K
      refine norm_ (a':=?_) ?_ ?_
      rotate_left
      ·show Act.put _ (some 37) _=_
       simp only [Act.put,List.setIfInBounds_toArray,List.set_cons_zero,List.set_cons_succ,i64_w,i32_w]
       rfl
      refine one_ (i:=3) (N:=some 38) #[true,true,true,true,false] rfl rfl (by kernel_rfl) (by decide) (fun K hK=>?_)
      refine goes_ Try.func19 (by kernel_rfl) rfl #[.agg #[.slice Ao22 t648.length co22,.bool t651],.agg #[.slice Ao33 t655.length co33,.bool t658]] (by rfl) rfl rfl (by (try simp only [List.map_toArray,List.map_cons,List.map_nil]);first|done|rfl|(simp only [List.length_drop,List.length_take];rfl)) ?_
      with_reducible refine (laws_eqGraph.calls kj10 _ _ t648 t651 _ _ t655 t658 true _ ?side1 ?side2 ?side3 ?side4 A29.out).mono ?_
      (case side1=>repeat (first|exact (Kd.R_reads' HO_653000.out).2.2|(with_reducible refine Kd.C_alloc ?_ _)|(with_reducible refine Kd.C_drewN ?_ _)|(with_reducible refine Kd.C_drew ?_)))
      (case side2=>exact (Kd.R_reads' HO_653000.out).2.1)
      (case side3=>repeat (first|exact (Kd.R_reads' HO657.out).2.2|(with_reducible refine Kd.C_alloc ?_ _)|(with_reducible refine Kd.C_drewN ?_ _)|(with_reducible refine Kd.C_drew ?_)))
      (case side4=>exact (Kd.R_reads' HO657.out).2.1)
      rintro e w34 ⟨rfl,hb⟩
      refine ⟨_,rfl,?_⟩
      have n0_:=Aside0.mk (Kd.R_below (by (with_reducible repeat (first|apply Kd.R_alloc|apply Kd.R_drewN|apply Kd.R_drew));exact HO_653000.out) hb)
      have n1_:=Aside0.mk (Kd.R_below (by (with_reducible repeat (first|apply Kd.R_alloc|apply Kd.R_drewN|apply Kd.R_drew));exact HO657.out) hb)
      have n2_:=Aside0.mk (blk_below (g:=gb640) (o:=.cells #[.slice A0_0 l0_0.length c0_0,.bool a0_1] 24 (0,0)) (by (with_reducible repeat (first|refine blk_drewN ?_ _|refine blk_drew ?_|refine blk_alloc ?_ _));exact BK640.out) hb)
      have n3_:=Aside0.mk (blk_below (g:=gb652) (o:=.cells #[.slice Ao22 t648.length co22,.bool t651] 28 (0,0)) (by (with_reducible repeat (first|refine blk_drewN ?_ _|refine blk_drew ?_|refine blk_alloc ?_ _));exact BK652.out) hb)
      have n4_:=Aside0.mk (below_step (by repeat (first|(with_reducible first|exact HB.out|apply below_alloc|apply pw_below_drewN|apply below_drew1|refine below_set ?_ GE640.out|refine below_set ?_ GE652.out)|exact HB.out)) hb)
      clear HO_653000;clear HO657;clear BK640;clear BK652;clear HB
      have HO_653000:=n0_
      have HO657:=n1_
      have BK640:=n2_
      have BK652:=n3_
      have HB:=n4_
      clear n0_ n1_ n2_ n3_ n4_;(try clear hb);(try clear hb2);(try clear hk);(try clear hi)
      refine hK.out _ _ ⟨(blk_cell BK652.out 0).trans rfl,(blk_cell BK652.out 1).trans rfl,(blk_cell BK640.out 0).trans rfl,(blk_cell BK640.out 1).trans rfl⟩ (fun hHeld=>?_)
      clear hK K
      refine norm_ (a':=?_) ?_ ?_
      rotate_left
      ·show Act.put _ (some 38) _=_
       simp only [Act.put,List.setIfInBounds_toArray,List.set_cons_zero,List.set_cons_succ,i64_w,i32_w]
       rfl
      refine pure_ (i:=4) (N:=some 39) (v:=?_) (a':=?_) #[true,true,true,true,true] rfl rfl (by kernel_rfl) (fun _ _ _ h=>h) (Or.inl ⟨by rfl,?_⟩) ?_ ?_
      rotate_left
      ·intro w'
       go_simp
       with_reducible rfl
      rotate_left
      ·simp only [Act.put,List.setIfInBounds_toArray,List.set_cons_zero,List.set_cons_succ,i64_w,i32_w]
       rfl
      refine done_ (by kernel_rfl) ?_
      try go_wp2
      go_ret
      exact ⟨by first|rfl|(simp [errW_none,errW_some]<;>rfl)|(simp [*,errW_none,errW_some]<;>rfl),by repeat (first|(with_reducible first|exact HB.out|apply below_alloc|apply pw_below_drewN|apply below_drew1|refine below_set ?_ GE640.out|refine below_set ?_ GE652.out)|exact HB.out)⟩
     ·replace c30:=Bool.eq_false_iff.mpr c30
      subst c30
      have H1:(some false)=some r:=by rw [if_neg (show ¬ (false=true) by decide)] at H;exact H
      clear H
      have H:=H1
      clear H1
      obtain rfl:=Option.some.inj H
      try go_wp2
      have n0_:=Aside0.mk (Kd.R_drew HO_653000.out)
      have n1_:=Aside0.mk (blk_drew BK640.out)
      have n2_:=Aside0.mk (blk_drew BK652.out)
      have n3_:=Aside0.mk (below_drew1 HB.out)
      clear HO_653000;clear BK640;clear BK652;clear HB
      have HO_653000:=n0_
      have BK640:=n1_
      have BK652:=n2_
      have HB:=n3_
      clear n0_ n1_ n2_ n3_
      refine start_ (n:=5) (S:=fun w'=>w'.cell? ⟨gb652,0,none⟩=some (.slice Ao22 t648.length co22)∧w'.cell? ⟨gb652,1,none⟩=some (.bool t651)∧w'.cell? ⟨gb640,0,none⟩=some (.slice A0_0 l0_0.length c0_0)∧w'.cell? ⟨gb640,1,none⟩=some (.bool a0_1)) (ds:=[]) #[false,false,false,false,false] (by kernel_rfl) rfl rfl ⟨(blk_cell BK652.out 0).trans rfl,(blk_cell BK652.out 1).trans rfl,(blk_cell BK640.out 0).trans rfl,(blk_cell BK640.out 1).trans rfl⟩ (fun hHeld=>?_)
      generalize wc.drew=w35 at HO_653000 BK640 BK652 HB hHeld ⊢
      refine take_ (i:=0) (N:=some 35) (v:=?_) (a':=?_) #[true,false,false,false,false] rfl rfl (by kernel_rfl) (fun _ _ _ h=>h) (Or.inl ⟨by rfl,?_⟩) hHeld ?_ ?_
      rotate_left
      ·rintro w' ⟨s0,s1,s2,s3⟩
       go_simp
       with_reducible rfl
      rotate_left
      ·simp only [Act.put,List.setIfInBounds_toArray,List.set_cons_zero,List.set_cons_succ,i64_w,i32_w]
       rfl
      refine take_ (i:=1) (N:=some 36) (v:=?_) (a':=?_) #[true,true,false,false,false] rfl rfl (by kernel_rfl) (fun _ _ _ h=>h) (Or.inl ⟨by rfl,?_⟩) hHeld ?_ ?_
      rotate_left
      ·rintro w' ⟨s0,s1,s2,s3⟩
       go_simp
       with_reducible rfl
      rotate_left
      ·simp only [Act.put,List.setIfInBounds_toArray,List.set_cons_zero,List.set_cons_succ,i64_w,i32_w]
       rfl
      refine one_ (i:=2) (N:=some 37) #[true,true,true,false,false] rfl rfl (by kernel_rfl) (by decide) (fun K hK=>?_)
      refine goes_ Try.func16 (by kernel_rfl) rfl #[.agg #[.slice A0_0 l0_0.length c0_0,.bool a0_1]] (by rfl) rfl rfl (by (try simp only [List.map_toArray,List.map_cons,List.map_nil]);first|done|rfl|(simp only [List.length_drop,List.length_take];rfl)) ?_
      with_reducible refine (laws_toGraph.calls kj10 _ _ l0_0 a0_1 t655 t658 _ ?side1 ?side2 A28.out).mono ?_
      (case side1=>repeat (first|exact (Kd.C_below HR0_0.out HB.out)|(with_reducible refine Kd.C_alloc ?_ _)|(with_reducible refine Kd.C_drewN ?_ _)|(with_reducible refine Kd.C_drew ?_)))
      (case side2=>exact HC0_0.out)
      rintro e w36 ⟨v656,rfl,ho0,hb⟩
      refine ⟨_,rfl,?_⟩
      have n0_:=Aside0.mk (Kd.R_elder' (by (with_reducible repeat (first|apply Kd.R_alloc|apply Kd.R_drewN|apply Kd.R_drew));exact HO_653000.out) (Kd.R_base ho0) hb)
      have n1_:=Aside0.mk (Kd.R_lower (Kd.R_new' ho0 (Kd.R_lt (by (with_reducible repeat (first|apply Kd.R_alloc|apply Kd.R_drewN|apply Kd.R_drew));exact HO_653000.out))) (below_size (by repeat (first|(with_reducible first|exact HB.out|apply below_alloc|apply pw_below_drewN|apply below_drew1|refine below_set ?_ GE640.out|refine below_set ?_ GE652.out)|exact HB.out))))
      have n2_:=Aside0.mk (blk_below (g:=gb640) (o:=.cells #[.slice A0_0 l0_0.length c0_0,.bool a0_1] 24 (0,0)) (by (with_reducible repeat (first|refine blk_drewN ?_ _|refine blk_drew ?_|refine blk_alloc ?_ _));exact BK640.out) hb)
      have n3_:=Aside0.mk (blk_below (g:=gb652) (o:=.cells #[.slice Ao22 t648.length co22,.bool t651] 28 (0,0)) (by (with_reducible repeat (first|refine blk_drewN ?_ _|refine blk_drew ?_|refine blk_alloc ?_ _));exact BK652.out) hb)
      have n4_:=Aside0.mk (below_step (by repeat (first|(with_reducible first|exact HB.out|apply below_alloc|apply pw_below_drewN|apply below_drew1|refine below_set ?_ GE640.out|refine below_set ?_ GE652.out)|exact HB.out)) hb)
      clear HO_653000;clear BK640;clear BK652;clear HB
      have HO_653000:=n0_
      have HO657:=n1_
      have BK640:=n2_
      have BK652:=n3_
      have HB:=n4_
      clear n0_ n1_ n2_ n3_ n4_;(try clear hb);(try clear hb2);(try clear hk);(try clear hi);(try clear ho0)
      obtain ⟨Ao37,co37,eo37⟩:=Kd.R_slice HO657.out
      (first|subst eo37|(injection eo37 with f1_ f2_ f3_;have f4_:=f1_.symm;have f5_:=f3_.symm;clear f1_ f2_ f3_;subst f4_;subst f5_))
      refine hK.out _ _ ⟨(blk_cell BK652.out 0).trans rfl,(blk_cell BK652.out 1).trans rfl,(blk_cell BK640.out 0).trans rfl,(blk_cell BK640.out 1).trans rfl⟩ (fun hHeld=>?_)
      clear hK K
      refine norm_ (a':=?_) ?_ ?_
      rotate_left
      ·show Act.put _ (some 37) _=_
       simp only [Act.put,List.setIfInBounds_toArray,List.set_cons_zero,List.set_cons_succ,i64_w,i32_w]
       rfl
      refine one_ (i:=3) (N:=some 38) #[true,true,true,true,false] rfl rfl (by kernel_rfl) (by decide) (fun K hK=>?_)
      refine goes_ Try.func19 (by kernel_rfl) rfl #[.agg #[.slice Ao22 t648.length co22,.bool t651],.agg #[.slice Ao37 t655.length co37,.bool t658]] (by rfl) rfl rfl (by (try simp only [List.map_toArray,List.map_cons,List.map_nil]);first|done|rfl|(simp only [List.length_drop,List.length_take];rfl)) ?_
      with_reducible refine (laws_eqGraph.calls kj10 _ _ t648 t651 _ _ t655 t658 false _ ?side1 ?side2 ?side3 ?side4 A29.out).mono ?_
      (case side1=>repeat (first|exact (Kd.R_reads' HO_653000.out).2.2|(with_reducible refine Kd.C_alloc ?_ _)|(with_reducible refine Kd.C_drewN ?_ _)|(with_reducible refine Kd.C_drew ?_)))
      (case side2=>exact (Kd.R_reads' HO_653000.out).2.1)
      (case side3=>repeat (first|exact (Kd.R_reads' HO657.out).2.2|(with_reducible refine Kd.C_alloc ?_ _)|(with_reducible refine Kd.C_drewN ?_ _)|(with_reducible refine Kd.C_drew ?_)))
      (case side4=>exact (Kd.R_reads' HO657.out).2.1)
      rintro e w38 ⟨rfl,hb⟩
      refine ⟨_,rfl,?_⟩
      have n0_:=Aside0.mk (Kd.R_below (by (with_reducible repeat (first|apply Kd.R_alloc|apply Kd.R_drewN|apply Kd.R_drew));exact HO_653000.out) hb)
      have n1_:=Aside0.mk (Kd.R_below (by (with_reducible repeat (first|apply Kd.R_alloc|apply Kd.R_drewN|apply Kd.R_drew));exact HO657.out) hb)
      have n2_:=Aside0.mk (blk_below (g:=gb640) (o:=.cells #[.slice A0_0 l0_0.length c0_0,.bool a0_1] 24 (0,0)) (by (with_reducible repeat (first|refine blk_drewN ?_ _|refine blk_drew ?_|refine blk_alloc ?_ _));exact BK640.out) hb)
      have n3_:=Aside0.mk (blk_below (g:=gb652) (o:=.cells #[.slice Ao22 t648.length co22,.bool t651] 28 (0,0)) (by (with_reducible repeat (first|refine blk_drewN ?_ _|refine blk_drew ?_|refine blk_alloc ?_ _));exact BK652.out) hb)
      have n4_:=Aside0.mk (below_step (by repeat (first|(with_reducible first|exact HB.out|apply below_alloc|apply pw_below_drewN|apply below_drew1|refine below_set ?_ GE640.out|refine below_set ?_ GE652.out)|exact HB.out)) hb)
      clear HO_653000;clear HO657;clear BK640;clear BK652;clear HB
      have HO_653000:=n0_
      have HO657:=n1_
      have BK640:=n2_
      have BK652:=n3_
      have HB:=n4_
      clear n0_ n1_ n2_ n3_ n4_;(try clear hb);(try clear hb2);(try clear hk);(try clear hi)
      refine hK.out _ _ ⟨(blk_cell BK652.out 0).trans rfl,(blk_cell BK652.out 1).trans rfl,(blk_cell BK640.out 0).trans rfl,(blk_cell BK640.out 1).trans rfl⟩ (fun hHeld=>?_)
      clear hK K
      refine norm_ (a':=?_) ?_ ?_
      rotate_left
      ·show Act.put _ (some 38) _=_
       simp only [Act.put,List.setIfInBounds_toArray,List.set_cons_zero,List.set_cons_succ,i64_w,i32_w]
       rfl
      refine pure_ (i:=4) (N:=some 39) (v:=?_) (a':=?_) #[true,true,true,true,true] rfl rfl (by kernel_rfl) (fun _ _ _ h=>h) (Or.inl ⟨by rfl,?_⟩) ?_ ?_
      rotate_left
      ·intro w'
       go_simp
       with_reducible rfl
      rotate_left
      ·simp only [Act.put,List.setIfInBounds_toArray,List.set_cons_zero,List.set_cons_succ,i64_w,i32_w]
       rfl
      refine done_ (by kernel_rfl) ?_
      try go_wp2
      go_ret
      exact ⟨by first|rfl|(simp [errW_none,errW_some]<;>rfl)|(simp [*,errW_none,errW_some]<;>rfl),by repeat (first|(with_reducible first|exact HB.out|apply below_alloc|apply pw_below_drewN|apply below_drew1|refine below_set ?_ GE640.out|refine below_set ?_ GE652.out)|exact HB.out)⟩
end Go.Proofs.Ytoobofnpdiapgaa.P
