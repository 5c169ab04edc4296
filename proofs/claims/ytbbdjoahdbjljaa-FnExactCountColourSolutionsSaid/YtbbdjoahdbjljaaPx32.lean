-- Written by a program of this session (wip/mp.py), which runs the kit's print with contracts of the session's own.
import Derived.Test.YtbbdjoahdbjljaaPx0
import Derived.Test.YtbbdjoahdbjljaaPx1
import Derived.Test.YtbbdjoahdbjljaaPx2
import Derived.Test.YtbbdjoahdbjljaaPx3
import Derived.Test.YtbbdjoahdbjljaaPx7
import Derived.Test.YtbbdjoahdbjljaaPx25
import Derived.Test.YtbbdjoahdbjljaaPx27
import Derived.Test.YtbbdjoahdbjljaaPx31
import Derived.Test.YtbbdjoahdbjljaaPx35
namespace Go.Proofs.Ytbbdjoahdbjljaa.P
open Go.RowKit Go.Proofs.YtbbdjoahdbjljaaW.PrintWords Go.Proofs.YtbbdjoahdbjljaaW.PrintLast Go.Proofs.YtbbdjoahdbjljaaW.PrintMore
attribute [local go_sem] max2_int min2_int max_two min_two max_three min_three max_four min_four -- for this text's walks alone
set_option linter.unusedVariables false
set_option linter.unusedSimpArgs false
/-! ### spec_CountColourSolutions: function 44 -/
def spec_CountColourSolutions.l0:Nat→Int→Int→Int→Int→Option (Int × Bool)
 |0,_,_,_,_=>none
 |k+1,x1,x10,x28,x29=>if x29< x28 then (spec_CountColourSolutions.l0 k x1 (wrap64 (x10*x1)) x28 (wrap64 (x29+1))) else (some (x10,true))
def spec_CountColourSolutions.f (k:Nat) (l0_0:List Int) (a0_1:Bool) (a1:Int) (l2:List Int):Option (Int × Bool):=(spec_clList.f k l0_0 a0_1 a1 l2).bind fun t872=>(if t872=true then ((spec_clSolve.f k l0_0 a0_1 a1 l2).bind fun bt873=>(if bt873.2=true then ((spec_clQuiet.f k l0_0 a0_1 a1).bind fun t877=>(spec_CountColourSolutions.l0 k a1 1 (t877.length:Int) 0)) else (some (0,true)))) else (some (0,false)))
set_option maxHeartbeats 8000000 in
set_option maxRecDepth 100000 in
theorem spec_CountColourSolutions.calls (k:Nat) (A0_0:Option Addr) (c0_0:Nat) (l0_0:List Int) (a0_1:Bool) (a1:Int) (A2:Option Addr) (c2:Nat) (l2:List Int) (r1:Int) (r2:Bool) (w:World) (hr0_0:Kd.C (Kd.int .i64) w A0_0 l0_0.length l0_0) (hc0_0:l0_0.length≤c0_0) (hr2:Kd.C (Kd.int .i64) w A2 l2.length l2) (hc2:l2.length≤c2) (h:spec_CountColourSolutions.f k l0_0 a0_1 a1 l2=some (r1,r2)):
  Calls Try.prog 44 #[.agg #[.slice A0_0 l0_0.length c0_0,.bool a0_1],.int .i64 a1,.slice A2 l2.length c2] w fun e w'=>e=.returned (.tuple #[.int .i64 r1,.bool r2])∧Below w.heap.size w w':=by
 have hu28:=Try.underlying28
 have HR0_0:=Aside0.mk hr0_0
 have HC0_0:=Aside0.mk hc0_0
 clear hr0_0 hc0_0
 have HR2:=Aside0.mk hr2
 have HC2:=Aside0.mk hc2
 clear hr2 hc2
 have HB:=Aside0.mk (Below.refl w.heap.size w)
 have H:((spec_clList.f k l0_0 a0_1 a1 l2).bind fun t872=>(if t872=true then ((spec_clSolve.f k l0_0 a0_1 a1 l2).bind fun bt873=>(if bt873.2=true then ((spec_clQuiet.f k l0_0 a0_1 a1).bind fun t877=>(spec_CountColourSolutions.l0 k a1 1 (t877.length:Int) 0)) else (some (0,true)))) else (some (0,false))))=some (r1,r2):=h
 clear h
 replace H:=Option.bind_eq_some_iff.mp H
 obtain ⟨t872,A40,H⟩:=H
 replace H:(if t872=true then ((spec_clSolve.f k l0_0 a0_1 a1 l2).bind fun bt873=>(if bt873.2=true then ((spec_clQuiet.f k l0_0 a0_1 a1).bind fun t877=>(spec_CountColourSolutions.l0 k a1 1 (t877.length:Int) 0)) else (some (0,true)))) else (some (0,false)))=some (r1,r2):=H
 have A4:=Aside0.mk A40
 clear A40
 by_cases c5:t872=true
 ·subst c5
  have H1:((spec_clSolve.f k l0_0 a0_1 a1 l2).bind fun bt873=>(if bt873.2=true then ((spec_clQuiet.f k l0_0 a0_1 a1).bind fun t877=>(spec_CountColourSolutions.l0 k a1 1 (t877.length:Int) 0)) else (some (0,true))))=some (r1,r2):=by rw [if_pos rfl] at H;exact H
  clear H
  have H:=H1
  clear H1
  replace H:=Option.bind_eq_some_iff.mp H
  obtain ⟨⟨t873,t876⟩,A60,H⟩:=H
  replace H:(if t876=true then ((spec_clQuiet.f k l0_0 a0_1 a1).bind fun t877=>(spec_CountColourSolutions.l0 k a1 1 (t877.length:Int) 0)) else (some (0,true)))=some (r1,r2):=H
  have A6:=Aside0.mk A60
  clear A60
  by_cases c7:t876=true
  ·subst c7
   have H1:((spec_clQuiet.f k l0_0 a0_1 a1).bind fun t877=>(spec_CountColourSolutions.l0 k a1 1 (t877.length:Int) 0))=some (r1,r2):=by rw [if_pos rfl] at H;exact H
   clear H
   have H:=H1
   clear H1
   replace H:=Option.bind_eq_some_iff.mp H
   obtain ⟨t877,A80,H⟩:=H
   replace H:(spec_CountColourSolutions.l0 k a1 1 (t877.length:Int) 0)=some (r1,r2):=H
   have A8:=Aside0.mk A80
   clear A80
   have H':=Aside0.mk H
   clear H
   go_enter Try.func44,Try.ntmps44
   go_wp2_with (first|((with_reducible refine gate_dst (N:=3) rfl ?_);refine box_event ?hg (N:=3) ?hd (cs:=#[.slice A0_0 l0_0.length c0_0,.bool a0_1]) (t:=28) ?hr ?_;(case hd=>rfl);(case hg=>rfl);(case hr=>first|(go_simp;done)|(go_simp;rfl));intro gb871 hg w9 hbox hb;have n0_:=Aside0.mk (below_step (by repeat (first|(with_reducible first|exact HB.out|apply below_alloc|apply pw_below_drewN|apply below_drew1)|exact HB.out)) hb);have n1_:=Aside0.mk (hbox);have n2_:=Aside0.mk ((by rw [hg];exact (below_size (by repeat (first|(with_reducible first|exact HB.out|apply below_alloc|apply pw_below_drewN|apply below_drew1)|exact HB.out))):w.heap.size≤gb871));have n3_:=Aside0.mk ((by rw [hg];exact (below_size (by repeat (first|(with_reducible first|exact HB.out|apply below_alloc|apply pw_below_drewN|apply below_drew1)|exact HB.out))):w.heap.size≤gb871));clear HB;have HB:=n0_;have BK871:=n1_;have GW871:=n2_;have GE871:=n3_;clear n0_ n1_ n2_ n3_;clear hb hbox hg;have hcz10_0:w9.cell? ⟨gb871,0,none⟩=some (.slice A0_0 l0_0.length c0_0):=(blk_cell BK871.out 0).trans rfl;have hcz10_1:w9.cell? ⟨gb871,1,none⟩=some (.bool a0_1):=(blk_cell BK871.out 1).trans rfl;have hfz10_0:=blk_frozen BK871.out 0;have hfz10_1:=blk_frozen BK871.out 1)|((with_reducible refine gate_callee (f:=52) rfl ?_);refine goesL_ (some 14) rfl rfl Try.func52 (by kernel_rfl) rfl #[.agg #[.slice A0_0 l0_0.length c0_0,.bool a0_1],.int .i64 a1,.slice A2 l2.length c2] rfl (by (try simp only [List.map_toArray,List.map_cons,List.map_nil]);first|done|rfl|(simp only [List.length_drop,List.length_take];rfl)) ?_;(with_reducible refine (spec_clList.calls k _ _ l0_0 a0_1 a1 _ _ l2 true _ ?side1 ?side2 ?side3 ?side4 A4.out).mono ?_);(case side1=>repeat (first|exact (Kd.C_below HR0_0.out HB.out)|(with_reducible refine Kd.C_alloc ?_ _)|(with_reducible refine Kd.C_drewN ?_ _)|(with_reducible refine Kd.C_drew ?_)));(case side2=>exact HC0_0.out);(case side3=>repeat (first|exact (Kd.C_below HR2.out HB.out)|(with_reducible refine Kd.C_alloc ?_ _)|(with_reducible refine Kd.C_drewN ?_ _)|(with_reducible refine Kd.C_drew ?_)));(case side4=>exact HC2.out);rintro e w11 ⟨rfl,hb⟩;refine ⟨_,rfl,?_⟩;have n0_:=Aside0.mk (blk_below (g:=gb871) (o:=.cells #[.slice A0_0 l0_0.length c0_0,.bool a0_1] 28 (0,0)) (by (with_reducible repeat (first|refine blk_drewN ?_ _|refine blk_drew ?_|refine blk_alloc ?_ _));exact BK871.out) hb);have n1_:=Aside0.mk (below_step (by repeat (first|(with_reducible first|exact HB.out|apply below_alloc|apply pw_below_drewN|apply below_drew1|refine below_set ?_ GE871.out)|exact HB.out)) hb);clear BK871;clear HB;have BK871:=n0_;have HB:=n1_;clear n0_ n1_;(try clear hb);(try clear hb2);(try clear hk);(try clear hi);have hcz12_0:w11.cell? ⟨gb871,0,none⟩=some (.slice A0_0 l0_0.length c0_0):=(blk_cell BK871.out 0).trans rfl;have hcz12_1:w11.cell? ⟨gb871,1,none⟩=some (.bool a0_1):=(blk_cell BK871.out 1).trans rfl;have hfz12_0:=blk_frozen BK871.out 0;have hfz12_1:=blk_frozen BK871.out 1)|((with_reducible refine gate_callee (f:=66) rfl ?_);refine goesL_ (some 20) rfl rfl Try.func66 (by kernel_rfl) rfl #[.agg #[.slice A0_0 l0_0.length c0_0,.bool a0_1],.int .i64 a1,.slice A2 l2.length c2] rfl (by (try simp only [List.map_toArray,List.map_cons,List.map_nil]);first|done|rfl|(simp only [List.length_drop,List.length_take];rfl)) ?_;(with_reducible refine (spec_clSolve.calls k _ _ l0_0 a0_1 a1 _ _ l2 t873 true _ ?side1 ?side2 ?side3 ?side4 A6.out).mono ?_);(case side1=>repeat (first|exact (Kd.C_below HR0_0.out HB.out)|(with_reducible refine Kd.C_alloc ?_ _)|(with_reducible refine Kd.C_drewN ?_ _)|(with_reducible refine Kd.C_drew ?_)));(case side2=>exact HC0_0.out);(case side3=>repeat (first|exact (Kd.C_below HR2.out HB.out)|(with_reducible refine Kd.C_alloc ?_ _)|(with_reducible refine Kd.C_drewN ?_ _)|(with_reducible refine Kd.C_drew ?_)));(case side4=>exact HC2.out);rintro e w13 ⟨v874,rfl,ho0,hb⟩;refine ⟨_,rfl,?_⟩;have n0_:=Aside0.mk (Kd.R_lower ho0 (below_size (by repeat (first|(with_reducible first|exact HB.out|apply below_alloc|apply pw_below_drewN|apply below_drew1|refine below_set ?_ GE871.out)|exact HB.out))));have n1_:=Aside0.mk (blk_below (g:=gb871) (o:=.cells #[.slice A0_0 l0_0.length c0_0,.bool a0_1] 28 (0,0)) (by (with_reducible repeat (first|refine blk_drewN ?_ _|refine blk_drew ?_|refine blk_alloc ?_ _));exact BK871.out) hb);have n2_:=Aside0.mk (below_step (by repeat (first|(with_reducible first|exact HB.out|apply below_alloc|apply pw_below_drewN|apply below_drew1|refine below_set ?_ GE871.out)|exact HB.out)) hb);clear BK871;clear HB;have HO875:=n0_;have BK871:=n1_;have HB:=n2_;clear n0_ n1_ n2_;(try clear hb);(try clear hb2);(try clear hk);(try clear hi);(try clear ho0);have hcz14_0:w13.cell? ⟨gb871,0,none⟩=some (.slice A0_0 l0_0.length c0_0):=(blk_cell BK871.out 0).trans rfl;have hcz14_1:w13.cell? ⟨gb871,1,none⟩=some (.bool a0_1):=(blk_cell BK871.out 1).trans rfl;have hfz14_0:=blk_frozen BK871.out 0;have hfz14_1:=blk_frozen BK871.out 1)|((with_reducible refine gate_callee (f:=64) rfl ?_);refine goesL_ (some 27) rfl rfl Try.func64 (by kernel_rfl) rfl #[.agg #[.slice A0_0 l0_0.length c0_0,.bool a0_1],.int .i64 a1] rfl (by (try simp only [List.map_toArray,List.map_cons,List.map_nil]);first|done|rfl|(simp only [List.length_drop,List.length_take];rfl)) ?_;(with_reducible refine (spec_clQuiet.calls k _ _ l0_0 a0_1 a1 t877 _ ?side1 ?side2 A8.out).mono ?_);(case side1=>repeat (first|exact (Kd.C_below HR0_0.out HB.out)|(with_reducible refine Kd.C_alloc ?_ _)|(with_reducible refine Kd.C_drewN ?_ _)|(with_reducible refine Kd.C_drew ?_)));(case side2=>exact HC0_0.out);rintro e w15 ⟨v878,rfl,ho0,hb⟩;refine ⟨_,rfl,?_⟩;have n0_:=Aside0.mk (Kd.R_below (by (with_reducible repeat (first|apply Kd.R_alloc|apply Kd.R_drewN|apply Kd.R_drew));exact HO875.out) hb);have n1_:=Aside0.mk (Kd.S_lower (Kd.S_new' ho0 (Kd.R_lt (by (with_reducible repeat (first|apply Kd.R_alloc|apply Kd.R_drewN|apply Kd.R_drew));exact HO875.out))) (below_size (by repeat (first|(with_reducible first|exact HB.out|apply below_alloc|apply pw_below_drewN|apply below_drew1|refine below_set ?_ GE871.out)|exact HB.out))));have n2_:=Aside0.mk (blk_below (g:=gb871) (o:=.cells #[.slice A0_0 l0_0.length c0_0,.bool a0_1] 28 (0,0)) (by (with_reducible repeat (first|refine blk_drewN ?_ _|refine blk_drew ?_|refine blk_alloc ?_ _));exact BK871.out) hb);have n3_:=Aside0.mk (below_step (by repeat (first|(with_reducible first|exact HB.out|apply below_alloc|apply pw_below_drewN|apply below_drew1|refine below_set ?_ GE871.out)|exact HB.out)) hb);clear HO875;clear BK871;clear HB;have HO875:=n0_;have HO879:=n1_;have BK871:=n2_;have HB:=n3_;clear n0_ n1_ n2_ n3_;(try clear hb);(try clear hb2);(try clear hk);(try clear hi);(try clear ho0);obtain ⟨Ao16,co16,eo16⟩:=Kd.S_slice HO879.out;subst eo16))
   go_loopg [10,29] k (fun kq v10 v29 w'=>∃ (x10_1:Int) (x29_1:Int),v10=.int .i64 x10_1∧v29=.int .i64 x29_1∧Aside0 (spec_CountColourSolutions.l0 kq a1 x10_1 (t877.length:Int) x29_1=some (r1,r2))∧Aside0 (kq≤k)∧Aside0 (w'.heap[gb871]?=some (.cells #[(.slice A0_0 l0_0.length c0_0),.bool a0_1] 28 (0,0)))∧Aside0 (Below w.heap.size w w'))
   case atStart=>exact ⟨(1),(0),(by first|rfl|(simp;done)|(simp [*];done)),(by first|rfl|(simp;done)|(simp [*];done)),H',⟨Nat.le_refl _⟩,⟨by (with_reducible repeat (first|refine blk_drewN ?_ _|refine blk_drew ?_|refine blk_alloc ?_ _));exact BK871.out⟩,⟨by repeat (first|(with_reducible first|exact HB.out|apply below_alloc|apply pw_below_drewN|apply below_drew1|refine below_set ?_ GE871.out)|exact HB.out)⟩⟩
   case round=>
    clear H'
    (try clear c2);(try clear p2);(try clear c4);(try clear c5);(try clear c6);(try clear c7);(try clear hcz10_0);(try clear hcz10_1);(try clear hcz12_0);(try clear hcz12_1);(try clear hcz14_0);(try clear hcz14_1);(try clear hfz10_0);(try clear hfz10_1);(try clear hfz12_0);(try clear hfz12_1);(try clear hfz14_0);(try clear hfz14_1)
    obtain ⟨x10_1,x29_1,rfl,rfl,HA,HK1,BK871,HB⟩:=hrel
    cases gk with
    |zero=>exact absurd HA.out (by simp [spec_CountColourSolutions.l0])
    |succ k1=>
     have H:=HA.out
     clear HA
     simp only [spec_CountColourSolutions.l0] at H
     by_cases c17:x29_1< (t877.length:Int)
     ·rw [if_pos c17] at H
      have c17b0:decide (x29_1< (t877.length:Int))=true:=decide_eq_true c17
      clear c17
      have H':=Aside0.mk H
      clear H
      go_wp2
      go_roundg k1
      case measure=>have:=HK1.out;omega
      case rel=>exact ⟨(wrap64 (x10_1*a1)),(wrap64 (x29_1+1)),(by first|rfl|(simp;done)|(simp [*];done)),(by first|rfl|(simp;done)|(simp [*];done)),H',⟨by have:=HK1.out;omega⟩,⟨by (with_reducible repeat (first|refine blk_drewN ?_ _|refine blk_drew ?_|refine blk_alloc ?_ _));exact BK871.out⟩,⟨by repeat (first|(with_reducible first|exact HB.out|apply below_alloc|apply pw_below_drewN|apply below_drew1|refine below_set ?_ GE871.out)|exact HB.out)⟩⟩
     ·rw [if_neg c17] at H
      have c17b0:decide (x29_1< (t877.length:Int))=false:=decide_eq_false c17
      clear c17
      simp only [Option.some.injEq,Prod.mk.injEq] at H
      obtain ⟨rfl,rfl⟩:=H
      go_wp2
      go_ret2
      exact ⟨by first|rfl|(simp [errW_none,errW_some]<;>rfl)|(simp [*,errW_none,errW_some]<;>rfl),by repeat (first|(with_reducible first|exact HB.out|apply below_alloc|apply pw_below_drewN|apply below_drew1|refine below_set ?_ GE871.out)|exact HB.out)⟩
  ·replace c7:=Bool.eq_false_iff.mpr c7
   subst c7
   have H1:(some (0,true))=some (r1,r2):=by rw [if_neg (show ¬ (false=true) by decide)] at H;exact H
   clear H
   have H:=H1
   clear H1
   simp only [Option.some.injEq,Prod.mk.injEq] at H
   obtain ⟨rfl,rfl⟩:=H
   go_enter Try.func44,Try.ntmps44
   go_wp2_with (first|((with_reducible refine gate_dst (N:=3) rfl ?_);refine box_event ?hg (N:=3) ?hd (cs:=#[.slice A0_0 l0_0.length c0_0,.bool a0_1]) (t:=28) ?hr ?_;(case hd=>rfl);(case hg=>rfl);(case hr=>first|(go_simp;done)|(go_simp;rfl));intro gb871 hg w18 hbox hb;have n0_:=Aside0.mk (below_step (by repeat (first|(with_reducible first|exact HB.out|apply below_alloc|apply pw_below_drewN|apply below_drew1)|exact HB.out)) hb);have n1_:=Aside0.mk (hbox);have n2_:=Aside0.mk ((by rw [hg];exact (below_size (by repeat (first|(with_reducible first|exact HB.out|apply below_alloc|apply pw_below_drewN|apply below_drew1)|exact HB.out))):w.heap.size≤gb871));have n3_:=Aside0.mk ((by rw [hg];exact (below_size (by repeat (first|(with_reducible first|exact HB.out|apply below_alloc|apply pw_below_drewN|apply below_drew1)|exact HB.out))):w.heap.size≤gb871));clear HB;have HB:=n0_;have BK871:=n1_;have GW871:=n2_;have GE871:=n3_;clear n0_ n1_ n2_ n3_;clear hb hbox hg;have hcz19_0:w18.cell? ⟨gb871,0,none⟩=some (.slice A0_0 l0_0.length c0_0):=(blk_cell BK871.out 0).trans rfl;have hcz19_1:w18.cell? ⟨gb871,1,none⟩=some (.bool a0_1):=(blk_cell BK871.out 1).trans rfl;have hfz19_0:=blk_frozen BK871.out 0;have hfz19_1:=blk_frozen BK871.out 1)|((with_reducible refine gate_callee (f:=52) rfl ?_);refine goesL_ (some 14) rfl rfl Try.func52 (by kernel_rfl) rfl #[.agg #[.slice A0_0 l0_0.length c0_0,.bool a0_1],.int .i64 a1,.slice A2 l2.length c2] rfl (by (try simp only [List.map_toArray,List.map_cons,List.map_nil]);first|done|rfl|(simp only [List.length_drop,List.length_take];rfl)) ?_;(with_reducible refine (spec_clList.calls k _ _ l0_0 a0_1 a1 _ _ l2 true _ ?side1 ?side2 ?side3 ?side4 A4.out).mono ?_);(case side1=>repeat (first|exact (Kd.C_below HR0_0.out HB.out)|(with_reducible refine Kd.C_alloc ?_ _)|(with_reducible refine Kd.C_drewN ?_ _)|(with_reducible refine Kd.C_drew ?_)));(case side2=>exact HC0_0.out);(case side3=>repeat (first|exact (Kd.C_below HR2.out HB.out)|(with_reducible refine Kd.C_alloc ?_ _)|(with_reducible refine Kd.C_drewN ?_ _)|(with_reducible refine Kd.C_drew ?_)));(case side4=>exact HC2.out);rintro e w20 ⟨rfl,hb⟩;refine ⟨_,rfl,?_⟩;have n0_:=Aside0.mk (blk_below (g:=gb871) (o:=.cells #[.slice A0_0 l0_0.length c0_0,.bool a0_1] 28 (0,0)) (by (with_reducible repeat (first|refine blk_drewN ?_ _|refine blk_drew ?_|refine blk_alloc ?_ _));exact BK871.out) hb);have n1_:=Aside0.mk (below_step (by repeat (first|(with_reducible first|exact HB.out|apply below_alloc|apply pw_below_drewN|apply below_drew1|refine below_set ?_ GE871.out)|exact HB.out)) hb);clear BK871;clear HB;have BK871:=n0_;have HB:=n1_;clear n0_ n1_;(try clear hb);(try clear hb2);(try clear hk);(try clear hi);have hcz21_0:w20.cell? ⟨gb871,0,none⟩=some (.slice A0_0 l0_0.length c0_0):=(blk_cell BK871.out 0).trans rfl;have hcz21_1:w20.cell? ⟨gb871,1,none⟩=some (.bool a0_1):=(blk_cell BK871.out 1).trans rfl;have hfz21_0:=blk_frozen BK871.out 0;have hfz21_1:=blk_frozen BK871.out 1)|((with_reducible refine gate_callee (f:=66) rfl ?_);refine goesL_ (some 20) rfl rfl Try.func66 (by kernel_rfl) rfl #[.agg #[.slice A0_0 l0_0.length c0_0,.bool a0_1],.int .i64 a1,.slice A2 l2.length c2] rfl (by (try simp only [List.map_toArray,List.map_cons,List.map_nil]);first|done|rfl|(simp only [List.length_drop,List.length_take];rfl)) ?_;(with_reducible refine (spec_clSolve.calls k _ _ l0_0 a0_1 a1 _ _ l2 t873 false _ ?side1 ?side2 ?side3 ?side4 A6.out).mono ?_);(case side1=>repeat (first|exact (Kd.C_below HR0_0.out HB.out)|(with_reducible refine Kd.C_alloc ?_ _)|(with_reducible refine Kd.C_drewN ?_ _)|(with_reducible refine Kd.C_drew ?_)));(case side2=>exact HC0_0.out);(case side3=>repeat (first|exact (Kd.C_below HR2.out HB.out)|(with_reducible refine Kd.C_alloc ?_ _)|(with_reducible refine Kd.C_drewN ?_ _)|(with_reducible refine Kd.C_drew ?_)));(case side4=>exact HC2.out);rintro e w22 ⟨v874,rfl,ho0,hb⟩;refine ⟨_,rfl,?_⟩;have n0_:=Aside0.mk (Kd.R_lower ho0 (below_size (by repeat (first|(with_reducible first|exact HB.out|apply below_alloc|apply pw_below_drewN|apply below_drew1|refine below_set ?_ GE871.out)|exact HB.out))));have n1_:=Aside0.mk (blk_below (g:=gb871) (o:=.cells #[.slice A0_0 l0_0.length c0_0,.bool a0_1] 28 (0,0)) (by (with_reducible repeat (first|refine blk_drewN ?_ _|refine blk_drew ?_|refine blk_alloc ?_ _));exact BK871.out) hb);have n2_:=Aside0.mk (below_step (by repeat (first|(with_reducible first|exact HB.out|apply below_alloc|apply pw_below_drewN|apply below_drew1|refine below_set ?_ GE871.out)|exact HB.out)) hb);clear BK871;clear HB;have HO875:=n0_;have BK871:=n1_;have HB:=n2_;clear n0_ n1_ n2_;(try clear hb);(try clear hb2);(try clear hk);(try clear hi);(try clear ho0)))
   go_ret2
   exact ⟨by first|rfl|(simp [errW_none,errW_some]<;>rfl)|(simp [*,errW_none,errW_some]<;>rfl),by repeat (first|(with_reducible first|exact HB.out|apply below_alloc|apply pw_below_drewN|apply below_drew1|refine below_set ?_ GE871.out)|exact HB.out)⟩
 ·replace c5:=Bool.eq_false_iff.mpr c5
  subst c5
  have H1:(some (0,false))=some (r1,r2):=by rw [if_neg (show ¬ (false=true) by decide)] at H;exact H
  clear H
  have H:=H1
  clear H1
  simp only [Option.some.injEq,Prod.mk.injEq] at H
  obtain ⟨rfl,rfl⟩:=H
  go_enter Try.func44,Try.ntmps44
  go_wp2_with (first|((with_reducible refine gate_dst (N:=3) rfl ?_);refine box_event ?hg (N:=3) ?hd (cs:=#[.slice A0_0 l0_0.length c0_0,.bool a0_1]) (t:=28) ?hr ?_;(case hd=>rfl);(case hg=>rfl);(case hr=>first|(go_simp;done)|(go_simp;rfl));intro gb871 hg w23 hbox hb;have n0_:=Aside0.mk (below_step (by repeat (first|(with_reducible first|exact HB.out|apply below_alloc|apply pw_below_drewN|apply below_drew1)|exact HB.out)) hb);have n1_:=Aside0.mk (hbox);have n2_:=Aside0.mk ((by rw [hg];exact (below_size (by repeat (first|(with_reducible first|exact HB.out|apply below_alloc|apply pw_below_drewN|apply below_drew1)|exact HB.out))):w.heap.size≤gb871));have n3_:=Aside0.mk ((by rw [hg];exact (below_size (by repeat (first|(with_reducible first|exact HB.out|apply below_alloc|apply pw_below_drewN|apply below_drew1)|exact HB.out))):w.heap.size≤gb871));clear HB;have HB:=n0_;have BK871:=n1_;have GW871:=n2_;have GE871:=n3_;clear n0_ n1_ n2_ n3_;clear hb hbox hg;have hcz24_0:w23.cell? ⟨gb871,0,none⟩=some (.slice A0_0 l0_0.length c0_0):=(blk_cell BK871.out 0).trans rfl;have hcz24_1:w23.cell? ⟨gb871,1,none⟩=some (.bool a0_1):=(blk_cell BK871.out 1).trans rfl;have hfz24_0:=blk_frozen BK871.out 0;have hfz24_1:=blk_frozen BK871.out 1)|((with_reducible refine gate_callee (f:=52) rfl ?_);refine goesL_ (some 14) rfl rfl Try.func52 (by kernel_rfl) rfl #[.agg #[.slice A0_0 l0_0.length c0_0,.bool a0_1],.int .i64 a1,.slice A2 l2.length c2] rfl (by (try simp only [List.map_toArray,List.map_cons,List.map_nil]);first|done|rfl|(simp only [List.length_drop,List.length_take];rfl)) ?_;(with_reducible refine (spec_clList.calls k _ _ l0_0 a0_1 a1 _ _ l2 false _ ?side1 ?side2 ?side3 ?side4 A4.out).mono ?_);(case side1=>repeat (first|exact (Kd.C_below HR0_0.out HB.out)|(with_reducible refine Kd.C_alloc ?_ _)|(with_reducible refine Kd.C_drewN ?_ _)|(with_reducible refine Kd.C_drew ?_)));(case side2=>exact HC0_0.out);(case side3=>repeat (first|exact (Kd.C_below HR2.out HB.out)|(with_reducible refine Kd.C_alloc ?_ _)|(with_reducible refine Kd.C_drewN ?_ _)|(with_reducible refine Kd.C_drew ?_)));(case side4=>exact HC2.out);rintro e w25 ⟨rfl,hb⟩;refine ⟨_,rfl,?_⟩;have n0_:=Aside0.mk (blk_below (g:=gb871) (o:=.cells #[.slice A0_0 l0_0.length c0_0,.bool a0_1] 28 (0,0)) (by (with_reducible repeat (first|refine blk_drewN ?_ _|refine blk_drew ?_|refine blk_alloc ?_ _));exact BK871.out) hb);have n1_:=Aside0.mk (below_step (by repeat (first|(with_reducible first|exact HB.out|apply below_alloc|apply pw_below_drewN|apply below_drew1|refine below_set ?_ GE871.out)|exact HB.out)) hb);clear BK871;clear HB;have BK871:=n0_;have HB:=n1_;clear n0_ n1_;(try clear hb);(try clear hb2);(try clear hk);(try clear hi)))
  go_ret2
  exact ⟨by first|rfl|(simp [errW_none,errW_some]<;>rfl)|(simp [*,errW_none,errW_some]<;>rfl),by repeat (first|(with_reducible first|exact HB.out|apply below_alloc|apply pw_below_drewN|apply below_drew1|refine below_set ?_ GE871.out)|exact HB.out)⟩
/-! ### impl_CountColourSolutions: function 45 -/
def impl_CountColourSolutions.l0:Nat→Int→Int→Int→Int→Option (Int × Bool)
 |0,_,_,_,_=>none
 |k+1,x1,x10,x28,x29=>if x29< x28 then (impl_CountColourSolutions.l0 k x1 (wrap64 (x10*x1)) x28 (wrap64 (x29+1))) else (some (x10,true))
def impl_CountColourSolutions.f (k:Nat) (l0_0:List Int) (a0_1:Bool) (a1:Int) (l2:List Int):Option (Int × Bool):=(impl_areColours.f k l0_0 a0_1 a1 l2).bind fun t921=>(if t921=true then ((impl_Graph_solveColours.f k l0_0 a0_1 a1 l2).bind fun bt922=>(if bt922.2=true then ((impl_Graph_quietColours.f k l0_0 a0_1 a1).bind fun t926=>(impl_CountColourSolutions.l0 k a1 1 (t926.length:Int) 0)) else (some (0,true)))) else (some (0,false)))
set_option maxHeartbeats 8000000 in
set_option maxRecDepth 100000 in
theorem impl_CountColourSolutions.calls (k:Nat) (A0_0:Option Addr) (c0_0:Nat) (l0_0:List Int) (a0_1:Bool) (a1:Int) (A2:Option Addr) (c2:Nat) (l2:List Int) (r1:Int) (r2:Bool) (w:World) (hr0_0:Kd.C (Kd.int .i64) w A0_0 l0_0.length l0_0) (hc0_0:l0_0.length≤c0_0) (hr2:Kd.C (Kd.int .i64) w A2 l2.length l2) (hc2:l2.length≤c2) (h:impl_CountColourSolutions.f k l0_0 a0_1 a1 l2=some (r1,r2)):
  Calls Try.prog 45 #[.agg #[.slice A0_0 l0_0.length c0_0,.bool a0_1],.int .i64 a1,.slice A2 l2.length c2] w fun e w'=>e=.returned (.tuple #[.int .i64 r1,.bool r2])∧Below w.heap.size w w':=by
 have hu28:=Try.underlying28
 have HR0_0:=Aside0.mk hr0_0
 have HC0_0:=Aside0.mk hc0_0
 clear hr0_0 hc0_0
 have HR2:=Aside0.mk hr2
 have HC2:=Aside0.mk hc2
 clear hr2 hc2
 have HB:=Aside0.mk (Below.refl w.heap.size w)
 have H:((impl_areColours.f k l0_0 a0_1 a1 l2).bind fun t921=>(if t921=true then ((impl_Graph_solveColours.f k l0_0 a0_1 a1 l2).bind fun bt922=>(if bt922.2=true then ((impl_Graph_quietColours.f k l0_0 a0_1 a1).bind fun t926=>(impl_CountColourSolutions.l0 k a1 1 (t926.length:Int) 0)) else (some (0,true)))) else (some (0,false))))=some (r1,r2):=h
 clear h
 replace H:=Option.bind_eq_some_iff.mp H
 obtain ⟨t921,A40,H⟩:=H
 replace H:(if t921=true then ((impl_Graph_solveColours.f k l0_0 a0_1 a1 l2).bind fun bt922=>(if bt922.2=true then ((impl_Graph_quietColours.f k l0_0 a0_1 a1).bind fun t926=>(impl_CountColourSolutions.l0 k a1 1 (t926.length:Int) 0)) else (some (0,true)))) else (some (0,false)))=some (r1,r2):=H
 have A4:=Aside0.mk A40
 clear A40
 by_cases c5:t921=true
 ·subst c5
  have H1:((impl_Graph_solveColours.f k l0_0 a0_1 a1 l2).bind fun bt922=>(if bt922.2=true then ((impl_Graph_quietColours.f k l0_0 a0_1 a1).bind fun t926=>(impl_CountColourSolutions.l0 k a1 1 (t926.length:Int) 0)) else (some (0,true))))=some (r1,r2):=by rw [if_pos rfl] at H;exact H
  clear H
  have H:=H1
  clear H1
  replace H:=Option.bind_eq_some_iff.mp H
  obtain ⟨⟨t922,t925⟩,A60,H⟩:=H
  replace H:(if t925=true then ((impl_Graph_quietColours.f k l0_0 a0_1 a1).bind fun t926=>(impl_CountColourSolutions.l0 k a1 1 (t926.length:Int) 0)) else (some (0,true)))=some (r1,r2):=H
  have A6:=Aside0.mk A60
  clear A60
  by_cases c7:t925=true
  ·subst c7
   have H1:((impl_Graph_quietColours.f k l0_0 a0_1 a1).bind fun t926=>(impl_CountColourSolutions.l0 k a1 1 (t926.length:Int) 0))=some (r1,r2):=by rw [if_pos rfl] at H;exact H
   clear H
   have H:=H1
   clear H1
   replace H:=Option.bind_eq_some_iff.mp H
   obtain ⟨t926,A80,H⟩:=H
   replace H:(impl_CountColourSolutions.l0 k a1 1 (t926.length:Int) 0)=some (r1,r2):=H
   have A8:=Aside0.mk A80
   clear A80
   have H':=Aside0.mk H
   clear H
   go_enter Try.func45,Try.ntmps45
   go_wp2_with (first|((with_reducible refine gate_dst (N:=3) rfl ?_);refine box_event ?hg (N:=3) ?hd (cs:=#[.slice A0_0 l0_0.length c0_0,.bool a0_1]) (t:=28) ?hr ?_;(case hd=>rfl);(case hg=>rfl);(case hr=>first|(go_simp;done)|(go_simp;rfl));intro gb920 hg w9 hbox hb;have n0_:=Aside0.mk (below_step (by repeat (first|(with_reducible first|exact HB.out|apply below_alloc|apply pw_below_drewN|apply below_drew1)|exact HB.out)) hb);have n1_:=Aside0.mk (hbox);have n2_:=Aside0.mk ((by rw [hg];exact (below_size (by repeat (first|(with_reducible first|exact HB.out|apply below_alloc|apply pw_below_drewN|apply below_drew1)|exact HB.out))):w.heap.size≤gb920));have n3_:=Aside0.mk ((by rw [hg];exact (below_size (by repeat (first|(with_reducible first|exact HB.out|apply below_alloc|apply pw_below_drewN|apply below_drew1)|exact HB.out))):w.heap.size≤gb920));clear HB;have HB:=n0_;have BK920:=n1_;have GW920:=n2_;have GE920:=n3_;clear n0_ n1_ n2_ n3_;clear hb hbox hg;have hcz10_0:w9.cell? ⟨gb920,0,none⟩=some (.slice A0_0 l0_0.length c0_0):=(blk_cell BK920.out 0).trans rfl;have hcz10_1:w9.cell? ⟨gb920,1,none⟩=some (.bool a0_1):=(blk_cell BK920.out 1).trans rfl;have hfz10_0:=blk_frozen BK920.out 0;have hfz10_1:=blk_frozen BK920.out 1)|((with_reducible refine gate_callee (f:=54) rfl ?_);refine goesL_ (some 14) rfl rfl Try.func54 (by kernel_rfl) rfl #[.agg #[.slice A0_0 l0_0.length c0_0,.bool a0_1],.int .i64 a1,.slice A2 l2.length c2] rfl (by (try simp only [List.map_toArray,List.map_cons,List.map_nil]);first|done|rfl|(simp only [List.length_drop,List.length_take];rfl)) ?_;(with_reducible refine (impl_areColours.calls k _ _ l0_0 a0_1 a1 _ _ l2 true _ ?side1 ?side2 ?side3 ?side4 A4.out).mono ?_);(case side1=>repeat (first|exact (Kd.C_below HR0_0.out HB.out)|(with_reducible refine Kd.C_alloc ?_ _)|(with_reducible refine Kd.C_drewN ?_ _)|(with_reducible refine Kd.C_drew ?_)));(case side2=>exact HC0_0.out);(case side3=>repeat (first|exact (Kd.C_below HR2.out HB.out)|(with_reducible refine Kd.C_alloc ?_ _)|(with_reducible refine Kd.C_drewN ?_ _)|(with_reducible refine Kd.C_drew ?_)));(case side4=>exact HC2.out);rintro e w11 ⟨rfl,hb⟩;refine ⟨_,rfl,?_⟩;have n0_:=Aside0.mk (blk_below (g:=gb920) (o:=.cells #[.slice A0_0 l0_0.length c0_0,.bool a0_1] 28 (0,0)) (by (with_reducible repeat (first|refine blk_drewN ?_ _|refine blk_drew ?_|refine blk_alloc ?_ _));exact BK920.out) hb);have n1_:=Aside0.mk (below_step (by repeat (first|(with_reducible first|exact HB.out|apply below_alloc|apply pw_below_drewN|apply below_drew1|refine below_set ?_ GE920.out)|exact HB.out)) hb);clear BK920;clear HB;have BK920:=n0_;have HB:=n1_;clear n0_ n1_;(try clear hb);(try clear hb2);(try clear hk);(try clear hi);have hcz12_0:w11.cell? ⟨gb920,0,none⟩=some (.slice A0_0 l0_0.length c0_0):=(blk_cell BK920.out 0).trans rfl;have hcz12_1:w11.cell? ⟨gb920,1,none⟩=some (.bool a0_1):=(blk_cell BK920.out 1).trans rfl;have hfz12_0:=blk_frozen BK920.out 0;have hfz12_1:=blk_frozen BK920.out 1)|((with_reducible refine gate_callee (f:=67) rfl ?_);refine goesL_ (some 20) rfl rfl Try.func67 (by kernel_rfl) rfl #[.agg #[.slice A0_0 l0_0.length c0_0,.bool a0_1],.int .i64 a1,.slice A2 l2.length c2] rfl (by (try simp only [List.map_toArray,List.map_cons,List.map_nil]);first|done|rfl|(simp only [List.length_drop,List.length_take];rfl)) ?_;(with_reducible refine (impl_Graph_solveColours.calls k _ _ l0_0 a0_1 a1 _ _ l2 t922 true _ ?side1 ?side2 ?side3 ?side4 A6.out).mono ?_);(case side1=>repeat (first|exact (Kd.C_below HR0_0.out HB.out)|(with_reducible refine Kd.C_alloc ?_ _)|(with_reducible refine Kd.C_drewN ?_ _)|(with_reducible refine Kd.C_drew ?_)));(case side2=>exact HC0_0.out);(case side3=>repeat (first|exact (Kd.C_below HR2.out HB.out)|(with_reducible refine Kd.C_alloc ?_ _)|(with_reducible refine Kd.C_drewN ?_ _)|(with_reducible refine Kd.C_drew ?_)));(case side4=>exact HC2.out);rintro e w13 ⟨v923,rfl,ho0,hb⟩;refine ⟨_,rfl,?_⟩;have n0_:=Aside0.mk (Kd.R_lower ho0 (below_size (by repeat (first|(with_reducible first|exact HB.out|apply below_alloc|apply pw_below_drewN|apply below_drew1|refine below_set ?_ GE920.out)|exact HB.out))));have n1_:=Aside0.mk (blk_below (g:=gb920) (o:=.cells #[.slice A0_0 l0_0.length c0_0,.bool a0_1] 28 (0,0)) (by (with_reducible repeat (first|refine blk_drewN ?_ _|refine blk_drew ?_|refine blk_alloc ?_ _));exact BK920.out) hb);have n2_:=Aside0.mk (below_step (by repeat (first|(with_reducible first|exact HB.out|apply below_alloc|apply pw_below_drewN|apply below_drew1|refine below_set ?_ GE920.out)|exact HB.out)) hb);clear BK920;clear HB;have HO924:=n0_;have BK920:=n1_;have HB:=n2_;clear n0_ n1_ n2_;(try clear hb);(try clear hb2);(try clear hk);(try clear hi);(try clear ho0);have hcz14_0:w13.cell? ⟨gb920,0,none⟩=some (.slice A0_0 l0_0.length c0_0):=(blk_cell BK920.out 0).trans rfl;have hcz14_1:w13.cell? ⟨gb920,1,none⟩=some (.bool a0_1):=(blk_cell BK920.out 1).trans rfl;have hfz14_0:=blk_frozen BK920.out 0;have hfz14_1:=blk_frozen BK920.out 1)|((with_reducible refine gate_callee (f:=65) rfl ?_);refine goesL_ (some 27) rfl rfl Try.func65 (by kernel_rfl) rfl #[.agg #[.slice A0_0 l0_0.length c0_0,.bool a0_1],.int .i64 a1] rfl (by (try simp only [List.map_toArray,List.map_cons,List.map_nil]);first|done|rfl|(simp only [List.length_drop,List.length_take];rfl)) ?_;(with_reducible refine (impl_Graph_quietColours.calls k _ _ l0_0 a0_1 a1 t926 _ ?side1 ?side2 A8.out).mono ?_);(case side1=>repeat (first|exact (Kd.C_below HR0_0.out HB.out)|(with_reducible refine Kd.C_alloc ?_ _)|(with_reducible refine Kd.C_drewN ?_ _)|(with_reducible refine Kd.C_drew ?_)));(case side2=>exact HC0_0.out);rintro e w15 ⟨v927,rfl,ho0,hb⟩;refine ⟨_,rfl,?_⟩;have n0_:=Aside0.mk (Kd.R_below (by (with_reducible repeat (first|apply Kd.R_alloc|apply Kd.R_drewN|apply Kd.R_drew));exact HO924.out) hb);have n1_:=Aside0.mk (Kd.N_lower (Kd.N_mono (ok':=fun k_=>some k_≠(v923:Value).ownBlock∧k_≠gb920) ho0 (fun k_ hk_=>⟨(Kd.fresh' (Kd.R_lt (by (with_reducible repeat (first|apply Kd.R_alloc|apply Kd.R_drewN|apply Kd.R_drew));exact HO924.out)) k_ hk_),(Kd.freshB (g:=gb920) (o:=.cells #[.slice A0_0 l0_0.length c0_0,.bool a0_1] 28 (0,0)) (by (with_reducible repeat (first|refine blk_drewN ?_ _|refine blk_drew ?_|refine blk_alloc ?_ _));exact BK920.out) k_ hk_)⟩)) (below_size (by repeat (first|(with_reducible first|exact HB.out|apply below_alloc|apply pw_below_drewN|apply below_drew1|refine below_set ?_ GE920.out)|exact HB.out))));have n2_:=Aside0.mk (blk_below (g:=gb920) (o:=.cells #[.slice A0_0 l0_0.length c0_0,.bool a0_1] 28 (0,0)) (by (with_reducible repeat (first|refine blk_drewN ?_ _|refine blk_drew ?_|refine blk_alloc ?_ _));exact BK920.out) hb);have n3_:=Aside0.mk (below_step (by repeat (first|(with_reducible first|exact HB.out|apply below_alloc|apply pw_below_drewN|apply below_drew1|refine below_set ?_ GE920.out)|exact HB.out)) hb);clear HO924;clear BK920;clear HB;have HO924:=n0_;have HO928:=n1_;have BK920:=n2_;have HB:=n3_;clear n0_ n1_ n2_ n3_;(try clear hb);(try clear hb2);(try clear hk);(try clear hi);(try clear ho0);obtain ⟨Ao16,co16,eo16⟩:=Kd.N_slice HO928.out;subst eo16))
   go_loopg [10,29] k (fun kq v10 v29 w'=>∃ (x10_1:Int) (x29_1:Int),v10=.int .i64 x10_1∧v29=.int .i64 x29_1∧Aside0 (impl_CountColourSolutions.l0 kq a1 x10_1 (t926.length:Int) x29_1=some (r1,r2))∧Aside0 (kq≤k)∧Aside0 (w'.heap[gb920]?=some (.cells #[(.slice A0_0 l0_0.length c0_0),.bool a0_1] 28 (0,0)))∧Aside0 (Below w.heap.size w w'))
   case atStart=>exact ⟨(1),(0),(by first|rfl|(simp;done)|(simp [*];done)),(by first|rfl|(simp;done)|(simp [*];done)),H',⟨Nat.le_refl _⟩,⟨by (with_reducible repeat (first|refine blk_drewN ?_ _|refine blk_drew ?_|refine blk_alloc ?_ _));exact BK920.out⟩,⟨by repeat (first|(with_reducible first|exact HB.out|apply below_alloc|apply pw_below_drewN|apply below_drew1|refine below_set ?_ GE920.out)|exact HB.out)⟩⟩
   case round=>
    clear H'
    (try clear c2);(try clear p2);(try clear c4);(try clear c5);(try clear c6);(try clear c7);(try clear hcz10_0);(try clear hcz10_1);(try clear hcz12_0);(try clear hcz12_1);(try clear hcz14_0);(try clear hcz14_1);(try clear hfz10_0);(try clear hfz10_1);(try clear hfz12_0);(try clear hfz12_1);(try clear hfz14_0);(try clear hfz14_1)
    obtain ⟨x10_1,x29_1,rfl,rfl,HA,HK1,BK920,HB⟩:=hrel
    cases gk with
    |zero=>exact absurd HA.out (by simp [impl_CountColourSolutions.l0])
    |succ k1=>
     have H:=HA.out
     clear HA
     simp only [impl_CountColourSolutions.l0] at H
     by_cases c17:x29_1< (t926.length:Int)
     ·rw [if_pos c17] at H
      have c17b0:decide (x29_1< (t926.length:Int))=true:=decide_eq_true c17
      clear c17
      have H':=Aside0.mk H
      clear H
      go_wp2
      go_roundg k1
      case measure=>have:=HK1.out;omega
      case rel=>exact ⟨(wrap64 (x10_1*a1)),(wrap64 (x29_1+1)),(by first|rfl|(simp;done)|(simp [*];done)),(by first|rfl|(simp;done)|(simp [*];done)),H',⟨by have:=HK1.out;omega⟩,⟨by (with_reducible repeat (first|refine blk_drewN ?_ _|refine blk_drew ?_|refine blk_alloc ?_ _));exact BK920.out⟩,⟨by repeat (first|(with_reducible first|exact HB.out|apply below_alloc|apply pw_below_drewN|apply below_drew1|refine below_set ?_ GE920.out)|exact HB.out)⟩⟩
     ·rw [if_neg c17] at H
      have c17b0:decide (x29_1< (t926.length:Int))=false:=decide_eq_false c17
      clear c17
      simp only [Option.some.injEq,Prod.mk.injEq] at H
      obtain ⟨rfl,rfl⟩:=H
      go_wp2
      go_ret2
      exact ⟨by first|rfl|(simp [errW_none,errW_some]<;>rfl)|(simp [*,errW_none,errW_some]<;>rfl),by repeat (first|(with_reducible first|exact HB.out|apply below_alloc|apply pw_below_drewN|apply below_drew1|refine below_set ?_ GE920.out)|exact HB.out)⟩
  ·replace c7:=Bool.eq_false_iff.mpr c7
   subst c7
   have H1:(some (0,true))=some (r1,r2):=by rw [if_neg (show ¬ (false=true) by decide)] at H;exact H
   clear H
   have H:=H1
   clear H1
   simp only [Option.some.injEq,Prod.mk.injEq] at H
   obtain ⟨rfl,rfl⟩:=H
   go_enter Try.func45,Try.ntmps45
   go_wp2_with (first|((with_reducible refine gate_dst (N:=3) rfl ?_);refine box_event ?hg (N:=3) ?hd (cs:=#[.slice A0_0 l0_0.length c0_0,.bool a0_1]) (t:=28) ?hr ?_;(case hd=>rfl);(case hg=>rfl);(case hr=>first|(go_simp;done)|(go_simp;rfl));intro gb920 hg w18 hbox hb;have n0_:=Aside0.mk (below_step (by repeat (first|(with_reducible first|exact HB.out|apply below_alloc|apply pw_below_drewN|apply below_drew1)|exact HB.out)) hb);have n1_:=Aside0.mk (hbox);have n2_:=Aside0.mk ((by rw [hg];exact (below_size (by repeat (first|(with_reducible first|exact HB.out|apply below_alloc|apply pw_below_drewN|apply below_drew1)|exact HB.out))):w.heap.size≤gb920));have n3_:=Aside0.mk ((by rw [hg];exact (below_size (by repeat (first|(with_reducible first|exact HB.out|apply below_alloc|apply pw_below_drewN|apply below_drew1)|exact HB.out))):w.heap.size≤gb920));clear HB;have HB:=n0_;have BK920:=n1_;have GW920:=n2_;have GE920:=n3_;clear n0_ n1_ n2_ n3_;clear hb hbox hg;have hcz19_0:w18.cell? ⟨gb920,0,none⟩=some (.slice A0_0 l0_0.length c0_0):=(blk_cell BK920.out 0).trans rfl;have hcz19_1:w18.cell? ⟨gb920,1,none⟩=some (.bool a0_1):=(blk_cell BK920.out 1).trans rfl;have hfz19_0:=blk_frozen BK920.out 0;have hfz19_1:=blk_frozen BK920.out 1)|((with_reducible refine gate_callee (f:=54) rfl ?_);refine goesL_ (some 14) rfl rfl Try.func54 (by kernel_rfl) rfl #[.agg #[.slice A0_0 l0_0.length c0_0,.bool a0_1],.int .i64 a1,.slice A2 l2.length c2] rfl (by (try simp only [List.map_toArray,List.map_cons,List.map_nil]);first|done|rfl|(simp only [List.length_drop,List.length_take];rfl)) ?_;(with_reducible refine (impl_areColours.calls k _ _ l0_0 a0_1 a1 _ _ l2 true _ ?side1 ?side2 ?side3 ?side4 A4.out).mono ?_);(case side1=>repeat (first|exact (Kd.C_below HR0_0.out HB.out)|(with_reducible refine Kd.C_alloc ?_ _)|(with_reducible refine Kd.C_drewN ?_ _)|(with_reducible refine Kd.C_drew ?_)));(case side2=>exact HC0_0.out);(case side3=>repeat (first|exact (Kd.C_below HR2.out HB.out)|(with_reducible refine Kd.C_alloc ?_ _)|(with_reducible refine Kd.C_drewN ?_ _)|(with_reducible refine Kd.C_drew ?_)));(case side4=>exact HC2.out);rintro e w20 ⟨rfl,hb⟩;refine ⟨_,rfl,?_⟩;have n0_:=Aside0.mk (blk_below (g:=gb920) (o:=.cells #[.slice A0_0 l0_0.length c0_0,.bool a0_1] 28 (0,0)) (by (with_reducible repeat (first|refine blk_drewN ?_ _|refine blk_drew ?_|refine blk_alloc ?_ _));exact BK920.out) hb);have n1_:=Aside0.mk (below_step (by repeat (first|(with_reducible first|exact HB.out|apply below_alloc|apply pw_below_drewN|apply below_drew1|refine below_set ?_ GE920.out)|exact HB.out)) hb);clear BK920;clear HB;have BK920:=n0_;have HB:=n1_;clear n0_ n1_;(try clear hb);(try clear hb2);(try clear hk);(try clear hi);have hcz21_0:w20.cell? ⟨gb920,0,none⟩=some (.slice A0_0 l0_0.length c0_0):=(blk_cell BK920.out 0).trans rfl;have hcz21_1:w20.cell? ⟨gb920,1,none⟩=some (.bool a0_1):=(blk_cell BK920.out 1).trans rfl;have hfz21_0:=blk_frozen BK920.out 0;have hfz21_1:=blk_frozen BK920.out 1)|((with_reducible refine gate_callee (f:=67) rfl ?_);refine goesL_ (some 20) rfl rfl Try.func67 (by kernel_rfl) rfl #[.agg #[.slice A0_0 l0_0.length c0_0,.bool a0_1],.int .i64 a1,.slice A2 l2.length c2] rfl (by (try simp only [List.map_toArray,List.map_cons,List.map_nil]);first|done|rfl|(simp only [List.length_drop,List.length_take];rfl)) ?_;(with_reducible refine (impl_Graph_solveColours.calls k _ _ l0_0 a0_1 a1 _ _ l2 t922 false _ ?side1 ?side2 ?side3 ?side4 A6.out).mono ?_);(case side1=>repeat (first|exact (Kd.C_below HR0_0.out HB.out)|(with_reducible refine Kd.C_alloc ?_ _)|(with_reducible refine Kd.C_drewN ?_ _)|(with_reducible refine Kd.C_drew ?_)));(case side2=>exact HC0_0.out);(case side3=>repeat (first|exact (Kd.C_below HR2.out HB.out)|(with_reducible refine Kd.C_alloc ?_ _)|(with_reducible refine Kd.C_drewN ?_ _)|(with_reducible refine Kd.C_drew ?_)));(case side4=>exact HC2.out);rintro e w22 ⟨v923,rfl,ho0,hb⟩;refine ⟨_,rfl,?_⟩;have n0_:=Aside0.mk (Kd.R_lower ho0 (below_size (by repeat (first|(with_reducible first|exact HB.out|apply below_alloc|apply pw_below_drewN|apply below_drew1|refine below_set ?_ GE920.out)|exact HB.out))));have n1_:=Aside0.mk (blk_below (g:=gb920) (o:=.cells #[.slice A0_0 l0_0.length c0_0,.bool a0_1] 28 (0,0)) (by (with_reducible repeat (first|refine blk_drewN ?_ _|refine blk_drew ?_|refine blk_alloc ?_ _));exact BK920.out) hb);have n2_:=Aside0.mk (below_step (by repeat (first|(with_reducible first|exact HB.out|apply below_alloc|apply pw_below_drewN|apply below_drew1|refine below_set ?_ GE920.out)|exact HB.out)) hb);clear BK920;clear HB;have HO924:=n0_;have BK920:=n1_;have HB:=n2_;clear n0_ n1_ n2_;(try clear hb);(try clear hb2);(try clear hk);(try clear hi);(try clear ho0)))
   go_ret2
   exact ⟨by first|rfl|(simp [errW_none,errW_some]<;>rfl)|(simp [*,errW_none,errW_some]<;>rfl),by repeat (first|(with_reducible first|exact HB.out|apply below_alloc|apply pw_below_drewN|apply below_drew1|refine below_set ?_ GE920.out)|exact HB.out)⟩
 ·replace c5:=Bool.eq_false_iff.mpr c5
  subst c5
  have H1:(some (0,false))=some (r1,r2):=by rw [if_neg (show ¬ (false=true) by decide)] at H;exact H
  clear H
  have H:=H1
  clear H1
  simp only [Option.some.injEq,Prod.mk.injEq] at H
  obtain ⟨rfl,rfl⟩:=H
  go_enter Try.func45,Try.ntmps45
  go_wp2_with (first|((with_reducible refine gate_dst (N:=3) rfl ?_);refine box_event ?hg (N:=3) ?hd (cs:=#[.slice A0_0 l0_0.length c0_0,.bool a0_1]) (t:=28) ?hr ?_;(case hd=>rfl);(case hg=>rfl);(case hr=>first|(go_simp;done)|(go_simp;rfl));intro gb920 hg w23 hbox hb;have n0_:=Aside0.mk (below_step (by repeat (first|(with_reducible first|exact HB.out|apply below_alloc|apply pw_below_drewN|apply below_drew1)|exact HB.out)) hb);have n1_:=Aside0.mk (hbox);have n2_:=Aside0.mk ((by rw [hg];exact (below_size (by repeat (first|(with_reducible first|exact HB.out|apply below_alloc|apply pw_below_drewN|apply below_drew1)|exact HB.out))):w.heap.size≤gb920));have n3_:=Aside0.mk ((by rw [hg];exact (below_size (by repeat (first|(with_reducible first|exact HB.out|apply below_alloc|apply pw_below_drewN|apply below_drew1)|exact HB.out))):w.heap.size≤gb920));clear HB;have HB:=n0_;have BK920:=n1_;have GW920:=n2_;have GE920:=n3_;clear n0_ n1_ n2_ n3_;clear hb hbox hg;have hcz24_0:w23.cell? ⟨gb920,0,none⟩=some (.slice A0_0 l0_0.length c0_0):=(blk_cell BK920.out 0).trans rfl;have hcz24_1:w23.cell? ⟨gb920,1,none⟩=some (.bool a0_1):=(blk_cell BK920.out 1).trans rfl;have hfz24_0:=blk_frozen BK920.out 0;have hfz24_1:=blk_frozen BK920.out 1)|((with_reducible refine gate_callee (f:=54) rfl ?_);refine goesL_ (some 14) rfl rfl Try.func54 (by kernel_rfl) rfl #[.agg #[.slice A0_0 l0_0.length c0_0,.bool a0_1],.int .i64 a1,.slice A2 l2.length c2] rfl (by (try simp only [List.map_toArray,List.map_cons,List.map_nil]);first|done|rfl|(simp only [List.length_drop,List.length_take];rfl)) ?_;(with_reducible refine (impl_areColours.calls k _ _ l0_0 a0_1 a1 _ _ l2 false _ ?side1 ?side2 ?side3 ?side4 A4.out).mono ?_);(case side1=>repeat (first|exact (Kd.C_below HR0_0.out HB.out)|(with_reducible refine Kd.C_alloc ?_ _)|(with_reducible refine Kd.C_drewN ?_ _)|(with_reducible refine Kd.C_drew ?_)));(case side2=>exact HC0_0.out);(case side3=>repeat (first|exact (Kd.C_below HR2.out HB.out)|(with_reducible refine Kd.C_alloc ?_ _)|(with_reducible refine Kd.C_drewN ?_ _)|(with_reducible refine Kd.C_drew ?_)));(case side4=>exact HC2.out);rintro e w25 ⟨rfl,hb⟩;refine ⟨_,rfl,?_⟩;have n0_:=Aside0.mk (blk_below (g:=gb920) (o:=.cells #[.slice A0_0 l0_0.length c0_0,.bool a0_1] 28 (0,0)) (by (with_reducible repeat (first|refine blk_drewN ?_ _|refine blk_drew ?_|refine blk_alloc ?_ _));exact BK920.out) hb);have n1_:=Aside0.mk (below_step (by repeat (first|(with_reducible first|exact HB.out|apply below_alloc|apply pw_below_drewN|apply below_drew1|refine below_set ?_ GE920.out)|exact HB.out)) hb);clear BK920;clear HB;have BK920:=n0_;have HB:=n1_;clear n0_ n1_;(try clear hb);(try clear hb2);(try clear hk);(try clear hi)))
  go_ret2
  exact ⟨by first|rfl|(simp [errW_none,errW_some]<;>rfl)|(simp [*,errW_none,errW_some]<;>rfl),by repeat (first|(with_reducible first|exact HB.out|apply below_alloc|apply pw_below_drewN|apply below_drew1|refine below_set ?_ GE920.out)|exact HB.out)⟩
/-! ### laws_FnExactCountColourSolutions: function 12 -/
def laws_FnExactCountColourSolutions.j0:Nat→List Int→List Int→Bool→List Int→Bool→List Int→Bool→Option (Bool)
 |0,_,_,_,_,_,_,_=>none
 |k+1,x2,x11,x49,x930000,x930001,x945000,x945001=>if x49=true then (some false) else ((laws_toGraph.f k x930000 x930001).bind fun bt950=>((laws_eqGraph.f k x945000 x945001 bt950.1 bt950.2).bind fun t954=>(if t954=true then ((laws_toIntS.f k x2).bind fun t955=>((laws_eqIntS.f k x11 t955).bind fun t958=>(if t958=true then (some true) else (some false)))) else (some false))))
def laws_FnExactCountColourSolutions.f (k:Nat) (l0_0:List Int) (a0_1:Bool) (a1:Int) (l2:List Int):Option (Bool):=if (l2.length:Int)>1048576 then (some true) else ((laws_szGraph.f l0_0 a0_1 1048576).bind fun t930=>(if t930< 0 then (some true) else ((laws_toGraph.f k l0_0 a0_1).bind fun bt931=>((laws_toIntS.f k l2).bind fun t935=>((spec_CountColourSolutions.f k bt931.1 bt931.2 a1 t935).bind fun bt938=>((laws_toGraph.f k l0_0 a0_1).bind fun bt940=>((laws_toIntS.f k l2).bind fun t945=>((impl_CountColourSolutions.f k bt940.1 bt940.2 a1 t945).bind fun bt948=>(if bt948.1=bt938.1 then (laws_FnExactCountColourSolutions.j0 k l2 t945 (bt948.2 !=bt938.2) l0_0 a0_1 bt940.1 bt940.2) else (laws_FnExactCountColourSolutions.j0 k l2 t945 true l0_0 a0_1 bt940.1 bt940.2))))))))))
set_option maxHeartbeats 8000000 in
set_option maxRecDepth 100000 in
theorem laws_FnExactCountColourSolutions.calls (k:Nat) (A0_0:Option Addr) (c0_0:Nat) (l0_0:List Int) (a0_1:Bool) (a1:Int) (A2:Option Addr) (c2:Nat) (l2:List Int) (r:Bool) (w:World) (hr0_0:Kd.C (Kd.int .i64) w A0_0 l0_0.length l0_0) (hc0_0:l0_0.length≤c0_0) (hr2:Kd.C (Kd.int .i64) w A2 l2.length l2) (hc2:l2.length≤c2) (h:laws_FnExactCountColourSolutions.f k l0_0 a0_1 a1 l2=some r):
  Calls Try.prog 12 #[.agg #[.slice A0_0 l0_0.length c0_0,.bool a0_1],.int .i64 a1,.slice A2 l2.length c2] w fun e w'=>e=.returned (.bool r)∧Below w.heap.size w w':=by
 have hu24:=Try.underlying24
 have hu28:=Try.underlying28
 have HR0_0:=Aside0.mk hr0_0
 have HC0_0:=Aside0.mk hc0_0
 clear hr0_0 hc0_0
 have HR2:=Aside0.mk hr2
 have HC2:=Aside0.mk hc2
 clear hr2 hc2
 have HB:=Aside0.mk (Below.refl w.heap.size w)
 have H:(if (l2.length:Int)>1048576 then (some true) else ((laws_szGraph.f l0_0 a0_1 1048576).bind fun t930=>(if t930< 0 then (some true) else ((laws_toGraph.f k l0_0 a0_1).bind fun bt931=>((laws_toIntS.f k l2).bind fun t935=>((spec_CountColourSolutions.f k bt931.1 bt931.2 a1 t935).bind fun bt938=>((laws_toGraph.f k l0_0 a0_1).bind fun bt940=>((laws_toIntS.f k l2).bind fun t945=>((impl_CountColourSolutions.f k bt940.1 bt940.2 a1 t945).bind fun bt948=>(if bt948.1=bt938.1 then (laws_FnExactCountColourSolutions.j0 k l2 t945 (bt948.2 !=bt938.2) l0_0 a0_1 bt940.1 bt940.2) else (laws_FnExactCountColourSolutions.j0 k l2 t945 true l0_0 a0_1 bt940.1 bt940.2)))))))))))=some r:=h
 clear h
 by_cases c4:(l2.length:Int)>1048576
 ·rw [if_pos c4] at H
  have c4b0:decide (1048576< (l2.length:Int))=true:=decide_eq_true c4
  have c4b1:decide (1048576< l2.length)=true:=decide_eq_true (by omega)
  clear c4
  obtain rfl:=Option.some.inj H
  go_enter Try.func12,Try.ntmps12
  go_wp2_with (first|((with_reducible refine gate_dst (N:=3) rfl ?_);refine box_event ?hg (N:=3) ?hd (cs:=#[.slice A0_0 l0_0.length c0_0,.bool a0_1]) (t:=24) ?hr ?_;(case hd=>rfl);(case hg=>rfl);(case hr=>first|(go_simp;done)|(go_simp;rfl));intro gb929 hg w5 hbox hb;have n0_:=Aside0.mk (below_step (by repeat (first|(with_reducible first|exact HB.out|apply below_alloc|apply pw_below_drewN|apply below_drew1)|exact HB.out)) hb);have n1_:=Aside0.mk (hbox);have n2_:=Aside0.mk ((by rw [hg];exact (below_size (by repeat (first|(with_reducible first|exact HB.out|apply below_alloc|apply pw_below_drewN|apply below_drew1)|exact HB.out))):w.heap.size≤gb929));have n3_:=Aside0.mk ((by rw [hg];exact (below_size (by repeat (first|(with_reducible first|exact HB.out|apply below_alloc|apply pw_below_drewN|apply below_drew1)|exact HB.out))):w.heap.size≤gb929));clear HB;have HB:=n0_;have BK929:=n1_;have GW929:=n2_;have GE929:=n3_;clear n0_ n1_ n2_ n3_;clear hb hbox hg))
  go_ret
  exact ⟨by first|rfl|(simp [errW_none,errW_some]<;>rfl)|(simp [*,errW_none,errW_some]<;>rfl),by repeat (first|(with_reducible first|exact HB.out|apply below_alloc|apply pw_below_drewN|apply below_drew1|refine below_set ?_ GE929.out)|exact HB.out)⟩
 ·rw [if_neg c4] at H
  have c4b0:decide (1048576< (l2.length:Int))=false:=decide_eq_false c4
  have c4b1:decide (1048576< l2.length)=false:=decide_eq_false (by omega)
  clear c4
  replace H:=Option.bind_eq_some_iff.mp H
  obtain ⟨t930,A60,H⟩:=H
  replace H:(if t930< 0 then (some true) else ((laws_toGraph.f k l0_0 a0_1).bind fun bt931=>((laws_toIntS.f k l2).bind fun t935=>((spec_CountColourSolutions.f k bt931.1 bt931.2 a1 t935).bind fun bt938=>((laws_toGraph.f k l0_0 a0_1).bind fun bt940=>((laws_toIntS.f k l2).bind fun t945=>((impl_CountColourSolutions.f k bt940.1 bt940.2 a1 t945).bind fun bt948=>(if bt948.1=bt938.1 then (laws_FnExactCountColourSolutions.j0 k l2 t945 (bt948.2 !=bt938.2) l0_0 a0_1 bt940.1 bt940.2) else (laws_FnExactCountColourSolutions.j0 k l2 t945 true l0_0 a0_1 bt940.1 bt940.2)))))))))=some r:=H
  have A6:=Aside0.mk A60
  clear A60
  by_cases c7:t930< 0
  ·rw [if_pos c7] at H
   have c7b0:decide (t930< 0)=true:=decide_eq_true c7
   clear c7
   obtain rfl:=Option.some.inj H
   go_enter Try.func12,Try.ntmps12
   go_wp2_with (first|((with_reducible refine gate_dst (N:=3) rfl ?_);refine box_event ?hg (N:=3) ?hd (cs:=#[.slice A0_0 l0_0.length c0_0,.bool a0_1]) (t:=24) ?hr ?_;(case hd=>rfl);(case hg=>rfl);(case hr=>first|(go_simp;done)|(go_simp;rfl));intro gb929 hg w8 hbox hb;have n0_:=Aside0.mk (below_step (by repeat (first|(with_reducible first|exact HB.out|apply below_alloc|apply pw_below_drewN|apply below_drew1)|exact HB.out)) hb);have n1_:=Aside0.mk (hbox);have n2_:=Aside0.mk ((by rw [hg];exact (below_size (by repeat (first|(with_reducible first|exact HB.out|apply below_alloc|apply pw_below_drewN|apply below_drew1)|exact HB.out))):w.heap.size≤gb929));have n3_:=Aside0.mk ((by rw [hg];exact (below_size (by repeat (first|(with_reducible first|exact HB.out|apply below_alloc|apply pw_below_drewN|apply below_drew1)|exact HB.out))):w.heap.size≤gb929));clear HB;have HB:=n0_;have BK929:=n1_;have GW929:=n2_;have GE929:=n3_;clear n0_ n1_ n2_ n3_;clear hb hbox hg;have hcz9_0:w8.cell? ⟨gb929,0,none⟩=some (.slice A0_0 l0_0.length c0_0):=(blk_cell BK929.out 0).trans rfl;have hcz9_1:w8.cell? ⟨gb929,1,none⟩=some (.bool a0_1):=(blk_cell BK929.out 1).trans rfl;have hfz9_0:=blk_frozen BK929.out 0;have hfz9_1:=blk_frozen BK929.out 1)|((with_reducible refine gate_callee (f:=15) rfl ?_);refine goesL_ (some 19) rfl rfl Try.func15 (by kernel_rfl) rfl #[.agg #[.slice A0_0 l0_0.length c0_0,.bool a0_1],.int .i64 1048576] rfl (by (try simp only [List.map_toArray,List.map_cons,List.map_nil]);first|done|rfl|(simp only [List.length_drop,List.length_take];rfl)) ?_;(with_reducible refine (laws_szGraph.calls _ _ l0_0 a0_1 1048576 t930 _ ?side1 ?side2 A6.out).mono ?_);(case side1=>repeat (first|exact (Kd.C_below HR0_0.out HB.out)|(with_reducible refine Kd.C_alloc ?_ _)|(with_reducible refine Kd.C_drewN ?_ _)|(with_reducible refine Kd.C_drew ?_)));(case side2=>exact HC0_0.out);rintro e w10 ⟨rfl,hb⟩;refine ⟨_,rfl,?_⟩;have n0_:=Aside0.mk (blk_below (g:=gb929) (o:=.cells #[.slice A0_0 l0_0.length c0_0,.bool a0_1] 24 (0,0)) (by (with_reducible repeat (first|refine blk_drewN ?_ _|refine blk_drew ?_|refine blk_alloc ?_ _));exact BK929.out) hb);have n1_:=Aside0.mk (below_step (by repeat (first|(with_reducible first|exact HB.out|apply below_alloc|apply pw_below_drewN|apply below_drew1|refine below_set ?_ GE929.out)|exact HB.out)) hb);clear BK929;clear HB;have BK929:=n0_;have HB:=n1_;clear n0_ n1_;(try clear hb);(try clear hb2);(try clear hk);(try clear hi)))
   go_ret
   exact ⟨by first|rfl|(simp [errW_none,errW_some]<;>rfl)|(simp [*,errW_none,errW_some]<;>rfl),by repeat (first|(with_reducible first|exact HB.out|apply below_alloc|apply pw_below_drewN|apply below_drew1|refine below_set ?_ GE929.out)|exact HB.out)⟩
  ·rw [if_neg c7] at H
   have c7b0:decide (t930< 0)=false:=decide_eq_false c7
   clear c7
   replace H:=Option.bind_eq_some_iff.mp H
   obtain ⟨⟨t931,t934⟩,A110,H⟩:=H
   replace H:((laws_toIntS.f k l2).bind fun t935=>((spec_CountColourSolutions.f k t931 t934 a1 t935).bind fun bt938=>((laws_toGraph.f k l0_0 a0_1).bind fun bt940=>((laws_toIntS.f k l2).bind fun t945=>((impl_CountColourSolutions.f k bt940.1 bt940.2 a1 t945).bind fun bt948=>(if bt948.1=bt938.1 then (laws_FnExactCountColourSolutions.j0 k l2 t945 (bt948.2 !=bt938.2) l0_0 a0_1 bt940.1 bt940.2) else (laws_FnExactCountColourSolutions.j0 k l2 t945 true l0_0 a0_1 bt940.1 bt940.2)))))))=some r:=H
   have A11:=Aside0.mk A110
   clear A110
   replace H:=Option.bind_eq_some_iff.mp H
   obtain ⟨t935,A120,H⟩:=H
   replace H:((spec_CountColourSolutions.f k t931 t934 a1 t935).bind fun bt938=>((laws_toGraph.f k l0_0 a0_1).bind fun bt940=>((laws_toIntS.f k l2).bind fun t945=>((impl_CountColourSolutions.f k bt940.1 bt940.2 a1 t945).bind fun bt948=>(if bt948.1=bt938.1 then (laws_FnExactCountColourSolutions.j0 k l2 t945 (bt948.2 !=bt938.2) l0_0 a0_1 bt940.1 bt940.2) else (laws_FnExactCountColourSolutions.j0 k l2 t945 true l0_0 a0_1 bt940.1 bt940.2))))))=some r:=H
   have A12:=Aside0.mk A120
   clear A120
   replace H:=Option.bind_eq_some_iff.mp H
   obtain ⟨⟨t938,t939⟩,A130,H⟩:=H
   replace H:((laws_toGraph.f k l0_0 a0_1).bind fun bt940=>((laws_toIntS.f k l2).bind fun t945=>((impl_CountColourSolutions.f k bt940.1 bt940.2 a1 t945).bind fun bt948=>(if bt948.1=t938 then (laws_FnExactCountColourSolutions.j0 k l2 t945 (bt948.2 !=t939) l0_0 a0_1 bt940.1 bt940.2) else (laws_FnExactCountColourSolutions.j0 k l2 t945 true l0_0 a0_1 bt940.1 bt940.2)))))=some r:=H
   have A13:=Aside0.mk A130
   clear A130
   replace H:=Option.bind_eq_some_iff.mp H
   obtain ⟨⟨t940,t943⟩,A140,H⟩:=H
   replace H:((laws_toIntS.f k l2).bind fun t945=>((impl_CountColourSolutions.f k t940 t943 a1 t945).bind fun bt948=>(if bt948.1=t938 then (laws_FnExactCountColourSolutions.j0 k l2 t945 (bt948.2 !=t939) l0_0 a0_1 t940 t943) else (laws_FnExactCountColourSolutions.j0 k l2 t945 true l0_0 a0_1 t940 t943))))=some r:=H
   have A14:=Aside0.mk A140
   clear A140
   replace H:=Option.bind_eq_some_iff.mp H
   obtain ⟨t945,A150,H⟩:=H
   replace H:((impl_CountColourSolutions.f k t940 t943 a1 t945).bind fun bt948=>(if bt948.1=t938 then (laws_FnExactCountColourSolutions.j0 k l2 t945 (bt948.2 !=t939) l0_0 a0_1 t940 t943) else (laws_FnExactCountColourSolutions.j0 k l2 t945 true l0_0 a0_1 t940 t943)))=some r:=H
   have A15:=Aside0.mk A150
   clear A150
   replace H:=Option.bind_eq_some_iff.mp H
   obtain ⟨⟨t948,t949⟩,A160,H⟩:=H
   replace H:(if t948=t938 then (laws_FnExactCountColourSolutions.j0 k l2 t945 (t949 !=t939) l0_0 a0_1 t940 t943) else (laws_FnExactCountColourSolutions.j0 k l2 t945 true l0_0 a0_1 t940 t943))=some r:=H
   have A16:=Aside0.mk A160
   clear A160
   have HC17:=Aside0.mk H
   clear H
   go_enter Try.func12,Try.ntmps12
   go_upto_region 11 with (first|((with_reducible refine gate_dst (N:=3) rfl ?_);refine box_event ?hg (N:=3) ?hd (cs:=#[.slice A0_0 l0_0.length c0_0,.bool a0_1]) (t:=24) ?hr ?_;(case hd=>rfl);(case hg=>rfl);(case hr=>first|(go_simp;done)|(go_simp;rfl));intro gb929 hg w18 hbox hb;have n0_:=Aside0.mk (below_step (by repeat (first|(with_reducible first|exact HB.out|apply below_alloc|apply pw_below_drewN|apply below_drew1)|exact HB.out)) hb);have n1_:=Aside0.mk (hbox);have n2_:=Aside0.mk ((by rw [hg];exact (below_size (by repeat (first|(with_reducible first|exact HB.out|apply below_alloc|apply pw_below_drewN|apply below_drew1)|exact HB.out))):w.heap.size≤gb929));have n3_:=Aside0.mk ((by rw [hg];exact (below_size (by repeat (first|(with_reducible first|exact HB.out|apply below_alloc|apply pw_below_drewN|apply below_drew1)|exact HB.out))):w.heap.size≤gb929));clear HB;have HB:=n0_;have BK929:=n1_;have GW929:=n2_;have GE929:=n3_;clear n0_ n1_ n2_ n3_;clear hb hbox hg;have hcz19_0:w18.cell? ⟨gb929,0,none⟩=some (.slice A0_0 l0_0.length c0_0):=(blk_cell BK929.out 0).trans rfl;have hcz19_1:w18.cell? ⟨gb929,1,none⟩=some (.bool a0_1):=(blk_cell BK929.out 1).trans rfl;have hfz19_0:=blk_frozen BK929.out 0;have hfz19_1:=blk_frozen BK929.out 1)|((with_reducible refine gate_callee (f:=15) rfl ?_);refine goesL_ (some 19) rfl rfl Try.func15 (by kernel_rfl) rfl #[.agg #[.slice A0_0 l0_0.length c0_0,.bool a0_1],.int .i64 1048576] rfl (by (try simp only [List.map_toArray,List.map_cons,List.map_nil]);first|done|rfl|(simp only [List.length_drop,List.length_take];rfl)) ?_;(with_reducible refine (laws_szGraph.calls _ _ l0_0 a0_1 1048576 t930 _ ?side1 ?side2 A6.out).mono ?_);(case side1=>repeat (first|exact (Kd.C_below HR0_0.out HB.out)|(with_reducible refine Kd.C_alloc ?_ _)|(with_reducible refine Kd.C_drewN ?_ _)|(with_reducible refine Kd.C_drew ?_)));(case side2=>exact HC0_0.out);rintro e w20 ⟨rfl,hb⟩;refine ⟨_,rfl,?_⟩;have n0_:=Aside0.mk (blk_below (g:=gb929) (o:=.cells #[.slice A0_0 l0_0.length c0_0,.bool a0_1] 24 (0,0)) (by (with_reducible repeat (first|refine blk_drewN ?_ _|refine blk_drew ?_|refine blk_alloc ?_ _));exact BK929.out) hb);have n1_:=Aside0.mk (below_step (by repeat (first|(with_reducible first|exact HB.out|apply below_alloc|apply pw_below_drewN|apply below_drew1|refine below_set ?_ GE929.out)|exact HB.out)) hb);clear BK929;clear HB;have BK929:=n0_;have HB:=n1_;clear n0_ n1_;(try clear hb);(try clear hb2);(try clear hk);(try clear hi);have hcz21_0:w20.cell? ⟨gb929,0,none⟩=some (.slice A0_0 l0_0.length c0_0):=(blk_cell BK929.out 0).trans rfl;have hcz21_1:w20.cell? ⟨gb929,1,none⟩=some (.bool a0_1):=(blk_cell BK929.out 1).trans rfl;have hfz21_0:=blk_frozen BK929.out 0;have hfz21_1:=blk_frozen BK929.out 1)|((with_reducible refine gate_callee (f:=17) rfl ?_);refine goesL_ (some 24) rfl rfl Try.func17 (by kernel_rfl) rfl #[.agg #[.slice A0_0 l0_0.length c0_0,.bool a0_1]] rfl (by (try simp only [List.map_toArray,List.map_cons,List.map_nil]);first|done|rfl|(simp only [List.length_drop,List.length_take];rfl)) ?_;(with_reducible refine (laws_toGraph.calls k _ _ l0_0 a0_1 t931 t934 _ ?side1 ?side2 A11.out).mono ?_);(case side1=>repeat (first|exact (Kd.C_below HR0_0.out HB.out)|(with_reducible refine Kd.C_alloc ?_ _)|(with_reducible refine Kd.C_drewN ?_ _)|(with_reducible refine Kd.C_drew ?_)));(case side2=>exact HC0_0.out);rintro e w22 ⟨v932,rfl,ho0,hb⟩;refine ⟨_,rfl,?_⟩;have n0_:=Aside0.mk (Kd.R_lower ho0 (below_size (by repeat (first|(with_reducible first|exact HB.out|apply below_alloc|apply pw_below_drewN|apply below_drew1|refine below_set ?_ GE929.out)|exact HB.out))));have n1_:=Aside0.mk (blk_below (g:=gb929) (o:=.cells #[.slice A0_0 l0_0.length c0_0,.bool a0_1] 24 (0,0)) (by (with_reducible repeat (first|refine blk_drewN ?_ _|refine blk_drew ?_|refine blk_alloc ?_ _));exact BK929.out) hb);have n2_:=Aside0.mk (below_step (by repeat (first|(with_reducible first|exact HB.out|apply below_alloc|apply pw_below_drewN|apply below_drew1|refine below_set ?_ GE929.out)|exact HB.out)) hb);clear BK929;clear HB;have HO933:=n0_;have BK929:=n1_;have HB:=n2_;clear n0_ n1_ n2_;(try clear hb);(try clear hb2);(try clear hk);(try clear hi);(try clear ho0))|((with_reducible refine gate_callee (f:=18) rfl ?_);refine goesL_ (some 27) rfl rfl Try.func18 (by kernel_rfl) rfl #[.slice A2 l2.length c2] rfl (by (try simp only [List.map_toArray,List.map_cons,List.map_nil]);first|done|rfl|(simp only [List.length_drop,List.length_take];rfl)) ?_;(with_reducible refine (laws_toIntS.calls k _ _ l2 t935 _ ?side1 ?side2 A12.out).mono ?_);(case side1=>repeat (first|exact (Kd.C_below HR2.out HB.out)|(with_reducible refine Kd.C_alloc ?_ _)|(with_reducible refine Kd.C_drewN ?_ _)|(with_reducible refine Kd.C_drew ?_)));(case side2=>exact HC2.out);rintro e w23 ⟨v936,rfl,ho0,hb⟩;refine ⟨_,rfl,?_⟩;have n0_:=Aside0.mk (Kd.R_elder' (by (with_reducible repeat (first|apply Kd.R_alloc|apply Kd.R_drewN|apply Kd.R_drew));exact HO933.out) (Kd.R_base ho0) hb);have n1_:=Aside0.mk (Kd.R_lower (Kd.R_new' ho0 (Kd.R_lt (by (with_reducible repeat (first|apply Kd.R_alloc|apply Kd.R_drewN|apply Kd.R_drew));exact HO933.out))) (below_size (by repeat (first|(with_reducible first|exact HB.out|apply below_alloc|apply pw_below_drewN|apply below_drew1|refine below_set ?_ GE929.out)|exact HB.out))));have n2_:=Aside0.mk (blk_below (g:=gb929) (o:=.cells #[.slice A0_0 l0_0.length c0_0,.bool a0_1] 24 (0,0)) (by (with_reducible repeat (first|refine blk_drewN ?_ _|refine blk_drew ?_|refine blk_alloc ?_ _));exact BK929.out) hb);have n3_:=Aside0.mk (below_step (by repeat (first|(with_reducible first|exact HB.out|apply below_alloc|apply pw_below_drewN|apply below_drew1|refine below_set ?_ GE929.out)|exact HB.out)) hb);clear HO933;clear BK929;clear HB;have HO933:=n0_;have HO937:=n1_;have BK929:=n2_;have HB:=n3_;clear n0_ n1_ n2_ n3_;(try clear hb);(try clear hb2);(try clear hk);(try clear hi);(try clear ho0);obtain ⟨Ao24,co24,eo24⟩:=Kd.R_slice HO933.out;subst eo24;obtain ⟨Ao25,co25,eo25⟩:=Kd.R_slice HO937.out;subst eo25)|((with_reducible refine gate_callee (f:=44) rfl ?_);refine goesL_ (some 28) rfl rfl Try.func44 (by kernel_rfl) rfl #[.agg #[.slice Ao24 t931.length co24,.bool t934],.int .i64 a1,.slice Ao25 t935.length co25] rfl (by (try simp only [List.map_toArray,List.map_cons,List.map_nil]);first|done|rfl|(simp only [List.length_drop,List.length_take];rfl)) ?_;(with_reducible refine (spec_CountColourSolutions.calls k _ _ t931 t934 a1 _ _ t935 t938 t939 _ ?side1 ?side2 ?side3 ?side4 A13.out).mono ?_);(case side1=>repeat (first|exact (Kd.R_reads' HO933.out).2.2|(with_reducible refine Kd.C_alloc ?_ _)|(with_reducible refine Kd.C_drewN ?_ _)|(with_reducible refine Kd.C_drew ?_)));(case side2=>exact (Kd.R_reads' HO933.out).2.1);(case side3=>repeat (first|exact (Kd.R_reads' HO937.out).2.2|(with_reducible refine Kd.C_alloc ?_ _)|(with_reducible refine Kd.C_drewN ?_ _)|(with_reducible refine Kd.C_drew ?_)));(case side4=>exact (Kd.R_reads' HO937.out).2.1);rintro e w26 ⟨rfl,hb⟩;refine ⟨_,rfl,?_⟩;have n0_:=Aside0.mk (Kd.R_below (by (with_reducible repeat (first|apply Kd.R_alloc|apply Kd.R_drewN|apply Kd.R_drew));exact HO933.out) hb);have n1_:=Aside0.mk (Kd.R_below (by (with_reducible repeat (first|apply Kd.R_alloc|apply Kd.R_drewN|apply Kd.R_drew));exact HO937.out) hb);have n2_:=Aside0.mk (blk_below (g:=gb929) (o:=.cells #[.slice A0_0 l0_0.length c0_0,.bool a0_1] 24 (0,0)) (by (with_reducible repeat (first|refine blk_drewN ?_ _|refine blk_drew ?_|refine blk_alloc ?_ _));exact BK929.out) hb);have n3_:=Aside0.mk (below_step (by repeat (first|(with_reducible first|exact HB.out|apply below_alloc|apply pw_below_drewN|apply below_drew1|refine below_set ?_ GE929.out)|exact HB.out)) hb);clear HO933;clear HO937;clear BK929;clear HB;have HO933:=n0_;have HO937:=n1_;have BK929:=n2_;have HB:=n3_;clear n0_ n1_ n2_ n3_;(try clear hb);(try clear hb2);(try clear hk);(try clear hi);have hcz27_0:w26.cell? ⟨gb929,0,none⟩=some (.slice A0_0 l0_0.length c0_0):=(blk_cell BK929.out 0).trans rfl;have hcz27_1:w26.cell? ⟨gb929,1,none⟩=some (.bool a0_1):=(blk_cell BK929.out 1).trans rfl;have hfz27_0:=blk_frozen BK929.out 0;have hfz27_1:=blk_frozen BK929.out 1)|((with_reducible refine gate_callee (f:=17) rfl ?_);refine goesL_ (some 32) rfl rfl Try.func17 (by kernel_rfl) rfl #[.agg #[.slice A0_0 l0_0.length c0_0,.bool a0_1]] rfl (by (try simp only [List.map_toArray,List.map_cons,List.map_nil]);first|done|rfl|(simp only [List.length_drop,List.length_take];rfl)) ?_;(with_reducible refine (laws_toGraph.calls k _ _ l0_0 a0_1 t940 t943 _ ?side1 ?side2 A14.out).mono ?_);(case side1=>repeat (first|exact (Kd.C_below HR0_0.out HB.out)|(with_reducible refine Kd.C_alloc ?_ _)|(with_reducible refine Kd.C_drewN ?_ _)|(with_reducible refine Kd.C_drew ?_)));(case side2=>exact HC0_0.out);rintro e w28 ⟨v941,rfl,ho0,hb⟩;refine ⟨_,rfl,?_⟩;have n0_:=Aside0.mk (Kd.R_elder' (by (with_reducible repeat (first|apply Kd.R_alloc|apply Kd.R_drewN|apply Kd.R_drew));exact HO933.out) (Kd.R_base ho0) hb);have n1_:=Aside0.mk (Kd.R_elder' (by (with_reducible repeat (first|apply Kd.R_alloc|apply Kd.R_drewN|apply Kd.R_drew));exact HO937.out) (Kd.R_base ho0) hb);have n2_:=Aside0.mk (Kd.R_lower (Kd.R_new' (Kd.R_new' ho0 (Kd.R_lt (by (with_reducible repeat (first|apply Kd.R_alloc|apply Kd.R_drewN|apply Kd.R_drew));exact HO933.out))) (Kd.R_lt (by (with_reducible repeat (first|apply Kd.R_alloc|apply Kd.R_drewN|apply Kd.R_drew));exact HO937.out))) (below_size (by repeat (first|(with_reducible first|exact HB.out|apply below_alloc|apply pw_below_drewN|apply below_drew1|refine below_set ?_ GE929.out)|exact HB.out))));have n3_:=Aside0.mk (blk_below (g:=gb929) (o:=.cells #[.slice A0_0 l0_0.length c0_0,.bool a0_1] 24 (0,0)) (by (with_reducible repeat (first|refine blk_drewN ?_ _|refine blk_drew ?_|refine blk_alloc ?_ _));exact BK929.out) hb);have n4_:=Aside0.mk (below_step (by repeat (first|(with_reducible first|exact HB.out|apply below_alloc|apply pw_below_drewN|apply below_drew1|refine below_set ?_ GE929.out)|exact HB.out)) hb);clear HO933;clear HO937;clear BK929;clear HB;have HO933:=n0_;have HO937:=n1_;have HO942:=n2_;have BK929:=n3_;have HB:=n4_;clear n0_ n1_ n2_ n3_ n4_;(try clear hb);(try clear hb2);(try clear hk);(try clear hi);(try clear ho0))|((with_reducible refine gate_dst (N:=10) rfl ?_);refine box_event ?hg (N:=10) ?hd (cs:=#[.slice none 0 0,.bool false]) (t:=28) ?hr ?_;(case hd=>rfl);(case hg=>rfl);(case hr=>first|(go_simp;done)|(go_simp;rfl));intro gb944 hg w29 hbox hb;have n0_:=Aside0.mk (Kd.R_below (by (with_reducible repeat (first|apply Kd.R_alloc|apply Kd.R_drewN|apply Kd.R_drew));exact HO933.out) hb);have n1_:=Aside0.mk (Kd.R_below (by (with_reducible repeat (first|apply Kd.R_alloc|apply Kd.R_drewN|apply Kd.R_drew));exact HO937.out) hb);have n2_:=Aside0.mk (Kd.R_below (by (with_reducible repeat (first|apply Kd.R_alloc|apply Kd.R_drewN|apply Kd.R_drew));exact HO942.out) hb);have n3_:=Aside0.mk (blk_below (g:=gb929) (o:=.cells #[.slice A0_0 l0_0.length c0_0,.bool a0_1] 24 (0,0)) (by (with_reducible repeat (first|refine blk_drewN ?_ _|refine blk_drew ?_|refine blk_alloc ?_ _));exact BK929.out) hb);have n4_:=Aside0.mk (below_step (by repeat (first|(with_reducible first|exact HB.out|apply below_alloc|apply pw_below_drewN|apply below_drew1|refine below_set ?_ GE929.out)|exact HB.out)) hb);have n5_:=Aside0.mk (hbox);have n6_:=Aside0.mk ((by rw [hg];exact (below_size (by repeat (first|(with_reducible first|exact HB.out|apply below_alloc|apply pw_below_drewN|apply below_drew1|refine below_set ?_ GE929.out)|exact HB.out))):w.heap.size≤gb944));have n7_:=Aside0.mk ((by rw [hg];exact (below_size (by repeat (first|(with_reducible first|exact HB.out|apply below_alloc|apply pw_below_drewN|apply below_drew1|refine below_set ?_ GE929.out)|exact HB.out))):w.heap.size≤gb944));have n8_:=Aside0.mk ((by rw [hg];exact Nat.ne_of_lt (blk_lt (g:=gb929) (o:=.cells #[.slice A0_0 l0_0.length c0_0,.bool a0_1] 24 (0,0)) (by (with_reducible repeat (first|refine blk_drewN ?_ _|refine blk_drew ?_|refine blk_alloc ?_ _));exact BK929.out)):gb929≠gb944));have n9_:=Aside0.mk ((by rw [hg];exact Nat.ne_of_gt (blk_lt (g:=gb929) (o:=.cells #[.slice A0_0 l0_0.length c0_0,.bool a0_1] 24 (0,0)) (by (with_reducible repeat (first|refine blk_drewN ?_ _|refine blk_drew ?_|refine blk_alloc ?_ _));exact BK929.out)):gb944≠gb929));clear HO933;clear HO937;clear HO942;clear BK929;clear HB;have HO933:=n0_;have HO937:=n1_;have HO942:=n2_;have BK929:=n3_;have HB:=n4_;have BK944:=n5_;have GW944:=n6_;have GE944:=n7_;have NB929_944:=n8_;have NB944_929:=n9_;clear n0_ n1_ n2_ n3_ n4_ n5_ n6_ n7_ n8_ n9_;clear hb hbox hg;obtain ⟨Ao30,co30,eo30⟩:=Kd.R_slice HO942.out;subst eo30;have hnb31:=NB944_929.out;have hnc31:=NB929_944.out;have hcz32_0:w29.cell? ⟨gb944,0,none⟩=some (.slice none 0 0):=(blk_cell BK944.out 0).trans rfl;have hcz32_1:w29.cell? ⟨gb944,1,none⟩=some (.bool false):=(blk_cell BK944.out 1).trans rfl;have hfz32_0:=blk_frozen BK944.out 0;have hfz32_1:=blk_frozen BK944.out 1)|((with_reducible refine gate_callee (f:=18) rfl ?_);refine goesL_ (some 34) rfl rfl Try.func18 (by kernel_rfl) rfl #[.slice A2 l2.length c2] rfl (by (try simp only [List.map_toArray,List.map_cons,List.map_nil]);first|done|rfl|(simp only [List.length_drop,List.length_take];rfl)) ?_;(with_reducible refine (laws_toIntS.calls k _ _ l2 t945 _ ?side1 ?side2 A15.out).mono ?_);(case side1=>exact Kd.C_below HR2.out (by repeat (first|(with_reducible first|exact HB.out|apply below_alloc|apply pw_below_drewN|apply below_drew1|refine below_set ?_ GE929.out|refine below_set ?_ GE944.out)|exact HB.out)));(case side2=>exact HC2.out);rintro e w33 ⟨v946,rfl,ho0,hb⟩;refine ⟨_,rfl,?_⟩;have n0_:=Aside0.mk (Kd.R_elder' (by (with_reducible repeat (first|apply Kd.R_alloc|apply Kd.R_drewN|apply Kd.R_drew));exact (Kd.R_mono (Kd.R_far (p:=⟨gb944,1,none⟩) (Kd.R_far (p:=⟨gb944,0,none⟩) (Kd.R_types HO933.out BK944.out (by decide)) (fun _ hk=>hk.2) (.slice Ao30 t940.length co30)) (fun _ hk=>hk.2) (.bool t943)) (fun _ h_=>h_.1))) (Kd.R_base ho0) hb);have n1_:=Aside0.mk (Kd.R_elder' (by (with_reducible repeat (first|apply Kd.R_alloc|apply Kd.R_drewN|apply Kd.R_drew));exact (Kd.R_mono (Kd.R_far (p:=⟨gb944,1,none⟩) (Kd.R_far (p:=⟨gb944,0,none⟩) (Kd.R_types HO937.out BK944.out (by decide)) (fun _ hk=>hk.2) (.slice Ao30 t940.length co30)) (fun _ hk=>hk.2) (.bool t943)) (fun _ h_=>h_.1))) (Kd.R_base ho0) hb);have n2_:=Aside0.mk (Kd.R_elder' (by (with_reducible repeat (first|apply Kd.R_alloc|apply Kd.R_drewN|apply Kd.R_drew));exact (Kd.R_mono (Kd.R_far (p:=⟨gb944,1,none⟩) (Kd.R_far (p:=⟨gb944,0,none⟩) (Kd.R_types HO942.out BK944.out (by decide)) (fun _ hk=>hk.2) (.slice Ao30 t940.length co30)) (fun _ hk=>hk.2) (.bool t943)) (fun _ h_=>h_.1))) (Kd.R_base ho0) hb);have n3_:=Aside0.mk (Kd.R_lower (Kd.R_new' (Kd.R_new' (Kd.R_new' ho0 (Kd.R_lt (by (with_reducible repeat (first|apply Kd.R_alloc|apply Kd.R_drewN|apply Kd.R_drew));exact (Kd.R_mono (Kd.R_far (p:=⟨gb944,1,none⟩) (Kd.R_far (p:=⟨gb944,0,none⟩) (Kd.R_types HO933.out BK944.out (by decide)) (fun _ hk=>hk.2) (.slice Ao30 t940.length co30)) (fun _ hk=>hk.2) (.bool t943)) (fun _ h_=>h_.1))))) (Kd.R_lt (by (with_reducible repeat (first|apply Kd.R_alloc|apply Kd.R_drewN|apply Kd.R_drew));exact (Kd.R_mono (Kd.R_far (p:=⟨gb944,1,none⟩) (Kd.R_far (p:=⟨gb944,0,none⟩) (Kd.R_types HO937.out BK944.out (by decide)) (fun _ hk=>hk.2) (.slice Ao30 t940.length co30)) (fun _ hk=>hk.2) (.bool t943)) (fun _ h_=>h_.1))))) (Kd.R_lt (by (with_reducible repeat (first|apply Kd.R_alloc|apply Kd.R_drewN|apply Kd.R_drew));exact (Kd.R_mono (Kd.R_far (p:=⟨gb944,1,none⟩) (Kd.R_far (p:=⟨gb944,0,none⟩) (Kd.R_types HO942.out BK944.out (by decide)) (fun _ hk=>hk.2) (.slice Ao30 t940.length co30)) (fun _ hk=>hk.2) (.bool t943)) (fun _ h_=>h_.1))))) (below_size (by repeat (first|(with_reducible first|exact HB.out|apply below_alloc|apply pw_below_drewN|apply below_drew1|refine below_set ?_ GE929.out|refine below_set ?_ GE944.out)|exact HB.out))));have n4_:=Aside0.mk (blk_below (g:=gb929) (o:=.cells #[.slice A0_0 l0_0.length c0_0,.bool a0_1] 24 (0,0)) (by (with_reducible repeat (first|refine blk_drewN ?_ _|refine blk_drew ?_|refine blk_alloc ?_ _));refine blk_far ?_ NB929_944.out _;(with_reducible repeat (first|refine blk_drewN ?_ _|refine blk_drew ?_|refine blk_alloc ?_ _));refine blk_far ?_ NB929_944.out _;(with_reducible repeat (first|refine blk_drewN ?_ _|refine blk_drew ?_|refine blk_alloc ?_ _));exact BK929.out) hb);have n5_:=Aside0.mk (blk_below (g:=gb944) (o:=.cells #[.slice Ao30 t940.length co30,.bool t943] 28 (0,0)) (by (with_reducible repeat (first|refine blk_drewN ?_ _|refine blk_drew ?_|refine blk_alloc ?_ _));refine blk_put (cs:=#[.slice Ao30 t940.length co30,.bool false]) ?_ 1 _ rfl;(with_reducible repeat (first|refine blk_drewN ?_ _|refine blk_drew ?_|refine blk_alloc ?_ _));refine blk_put (cs:=#[.slice none 0 0,.bool false]) ?_ 0 _ rfl;(with_reducible repeat (first|refine blk_drewN ?_ _|refine blk_drew ?_|refine blk_alloc ?_ _));exact BK944.out) hb);have n6_:=Aside0.mk (below_step (by repeat (first|(with_reducible first|exact HB.out|apply below_alloc|apply pw_below_drewN|apply below_drew1|refine below_set ?_ GE929.out|refine below_set ?_ GE944.out)|exact HB.out)) hb);clear HO933;clear HO937;clear HO942;clear BK929;clear BK944;clear HB;have HO933:=n0_;have HO937:=n1_;have HO942:=n2_;have HO947:=n3_;have BK929:=n4_;have BK944:=n5_;have HB:=n6_;clear n0_ n1_ n2_ n3_ n4_ n5_ n6_;(try clear hb);(try clear hb2);(try clear hk);(try clear hi);(try clear ho0);have hcz34_0:w33.cell? ⟨gb944,0,none⟩=some (.slice Ao30 t940.length co30):=(blk_cell BK944.out 0).trans rfl;have hcz34_1:w33.cell? ⟨gb944,1,none⟩=some (.bool t943):=(blk_cell BK944.out 1).trans rfl;have hfz34_0:=blk_frozen BK944.out 0;have hfz34_1:=blk_frozen BK944.out 1;obtain ⟨Ao35,co35,eo35⟩:=Kd.R_slice HO947.out;subst eo35)|((with_reducible refine gate_callee (f:=45) rfl ?_);refine goesL_ (some 39) rfl rfl Try.func45 (by kernel_rfl) rfl #[.agg #[.slice Ao30 t940.length co30,.bool t943],.int .i64 a1,.slice Ao35 t945.length co35] rfl (by (try simp only [List.map_toArray,List.map_cons,List.map_nil]);first|done|rfl|(simp only [List.length_drop,List.length_take];rfl)) ?_;(with_reducible refine (impl_CountColourSolutions.calls k _ _ t940 t943 a1 _ _ t945 t948 t949 _ ?side1 ?side2 ?side3 ?side4 A16.out).mono ?_);(case side1=>repeat (first|exact (Kd.R_reads' HO942.out).2.2|(with_reducible refine Kd.C_alloc ?_ _)|(with_reducible refine Kd.C_drewN ?_ _)|(with_reducible refine Kd.C_drew ?_)));(case side2=>exact (Kd.R_reads' HO942.out).2.1);(case side3=>repeat (first|exact (Kd.R_reads' HO947.out).2.2|(with_reducible refine Kd.C_alloc ?_ _)|(with_reducible refine Kd.C_drewN ?_ _)|(with_reducible refine Kd.C_drew ?_)));(case side4=>exact (Kd.R_reads' HO947.out).2.1);rintro e w36 ⟨rfl,hb⟩;refine ⟨_,rfl,?_⟩;have n0_:=Aside0.mk (Kd.R_below (by (with_reducible repeat (first|apply Kd.R_alloc|apply Kd.R_drewN|apply Kd.R_drew));exact HO933.out) hb);have n1_:=Aside0.mk (Kd.R_below (by (with_reducible repeat (first|apply Kd.R_alloc|apply Kd.R_drewN|apply Kd.R_drew));exact HO937.out) hb);have n2_:=Aside0.mk (Kd.R_below (by (with_reducible repeat (first|apply Kd.R_alloc|apply Kd.R_drewN|apply Kd.R_drew));exact HO942.out) hb);have n3_:=Aside0.mk (Kd.R_below (by (with_reducible repeat (first|apply Kd.R_alloc|apply Kd.R_drewN|apply Kd.R_drew));exact HO947.out) hb);have n4_:=Aside0.mk (blk_below (g:=gb929) (o:=.cells #[.slice A0_0 l0_0.length c0_0,.bool a0_1] 24 (0,0)) (by (with_reducible repeat (first|refine blk_drewN ?_ _|refine blk_drew ?_|refine blk_alloc ?_ _));exact BK929.out) hb);have n5_:=Aside0.mk (blk_below (g:=gb944) (o:=.cells #[.slice Ao30 t940.length co30,.bool t943] 28 (0,0)) (by (with_reducible repeat (first|refine blk_drewN ?_ _|refine blk_drew ?_|refine blk_alloc ?_ _));exact BK944.out) hb);have n6_:=Aside0.mk (below_step (by repeat (first|(with_reducible first|exact HB.out|apply below_alloc|apply pw_below_drewN|apply below_drew1|refine below_set ?_ GE929.out|refine below_set ?_ GE944.out)|exact HB.out)) hb);clear HO933;clear HO937;clear HO942;clear HO947;clear BK929;clear BK944;clear HB;have HO933:=n0_;have HO937:=n1_;have HO942:=n2_;have HO947:=n3_;have BK929:=n4_;have BK944:=n5_;have HB:=n6_;clear n0_ n1_ n2_ n3_ n4_ n5_ n6_;(try clear hb);(try clear hb2);(try clear hk);(try clear hi)))
   (try simp only [Act.put,List.setIfInBounds_toArray,List.set_cons_zero,List.set_cons_succ])
   go_cut [49] (fun v49 wc=>∃ (kq:Nat) (x49_16:Bool),v49=.bool x49_16∧Aside0 (laws_FnExactCountColourSolutions.j0 kq l2 t945 x49_16 l0_0 a0_1 t940 t943=some r)∧Aside0 (kq≤k)∧Aside0 (Kd.R (Kd.int .i64) 3 wc w.heap.size (fun k_=>some k_≠((.slice Ao30 t940.length co30):Value).ownBlock) (.slice Ao35 t945.length co35) t945)∧Aside0 (Kd.R (Kd.int .i64) 3 wc w.heap.size (fun k_=>some k_≠((.slice Ao35 t945.length co35):Value).ownBlock) (.slice Ao30 t940.length co30) t940)∧Aside0 (wc.heap[gb929]?=some (.cells #[(.slice A0_0 l0_0.length c0_0),.bool a0_1] 24 (0,0)))∧Aside0 (wc.heap[gb944]?=some (.cells #[(.slice Ao30 t940.length co30),.bool t943] 28 (0,0)))∧Aside0 (Below w.heap.size w wc))
   case first=>
    have H:=HC17.out
    clear HC17
    by_cases c37:t948=t938
    ·rw [if_pos c37] at H
     have c37b0:(t948==t938)=true:=beq_iff_eq.mpr c37
     have c37b1:(t948 !=t938)=false:=bne_eq_false_iff_eq.mpr c37
     clear c37
     (first|rw [c37b0]|(simp only [i64_w,i32_w];rw [c37b0])|skip)
     have H':=Aside0.mk H
     clear H
     go_wp2
     go_meet
     case rel=>exact ⟨_,((t949 !=t939)),(by first|rfl|(simp;done)|(simp [*];done)),H',⟨by first|omega|exact Nat.le_refl _⟩,⟨by (with_reducible repeat (first|apply Kd.R_alloc|apply Kd.R_drewN|apply Kd.R_drew));exact Kd.R_mono HO947.out (fun _ hk=>hk.2)⟩,⟨by (with_reducible repeat (first|apply Kd.R_alloc|apply Kd.R_drewN|apply Kd.R_drew));exact Kd.R_mono HO942.out (fun _ hk=>hk.2)⟩,⟨by (with_reducible repeat (first|refine blk_drewN ?_ _|refine blk_drew ?_|refine blk_alloc ?_ _));exact BK929.out⟩,⟨by (with_reducible repeat (first|refine blk_drewN ?_ _|refine blk_drew ?_|refine blk_alloc ?_ _));exact BK944.out⟩,⟨by repeat (first|(with_reducible first|exact HB.out|apply below_alloc|apply pw_below_drewN|apply below_drew1|refine below_set ?_ GE929.out|refine below_set ?_ GE944.out)|exact HB.out)⟩⟩
    ·rw [if_neg c37] at H
     have c37b0:(t948==t938)=false:=beq_eq_false_iff_ne.mpr c37
     have c37b1:(t948 !=t938)=true:=bne_iff_ne.mpr c37
     (first|rw [c37b0]|(simp only [i64_w,i32_w];rw [c37b0])|skip)
     have H':=Aside0.mk H
     clear H
     go_wp2
     go_meet
     case rel=>exact ⟨_,(true),(by first|rfl|(simp;done)|(simp [*];done)),H',⟨by first|omega|exact Nat.le_refl _⟩,⟨by (with_reducible repeat (first|apply Kd.R_alloc|apply Kd.R_drewN|apply Kd.R_drew));exact Kd.R_mono HO947.out (fun _ hk=>hk.2)⟩,⟨by (with_reducible repeat (first|apply Kd.R_alloc|apply Kd.R_drewN|apply Kd.R_drew));exact Kd.R_mono HO942.out (fun _ hk=>hk.2)⟩,⟨by (with_reducible repeat (first|refine blk_drewN ?_ _|refine blk_drew ?_|refine blk_alloc ?_ _));exact BK929.out⟩,⟨by (with_reducible repeat (first|refine blk_drewN ?_ _|refine blk_drew ?_|refine blk_alloc ?_ _));exact BK944.out⟩,⟨by repeat (first|(with_reducible first|exact HB.out|apply below_alloc|apply pw_below_drewN|apply below_drew1|refine below_set ?_ GE929.out|refine below_set ?_ GE944.out)|exact HB.out)⟩⟩
   case rest=>
    clear HC17;(try clear c1);(try clear c2);(try clear p2);(try clear c3);(try clear c4);(try clear c4b0);(try clear c4b1);(try clear c7);(try clear c7b0);(try clear c12);(try clear c15);(try clear c17);(try clear c18);(try clear c31);(try clear c37);(try clear c37b0);(try clear c37b1);(try clear hcz19_0);(try clear hcz19_1);(try clear hcz21_0);(try clear hcz21_1);(try clear hcz27_0);(try clear hcz27_1);(try clear hcz32_0);(try clear hcz32_1);(try clear hcz34_0);(try clear hcz34_1);(try clear hcz9_0);(try clear hcz9_1);(try clear hfz19_0);(try clear hfz19_1);(try clear hfz21_0);(try clear hfz21_1);(try clear hfz27_0);(try clear hfz27_1);(try clear hfz32_0);(try clear hfz32_1);(try clear hfz34_0);(try clear hfz34_1);(try clear hfz9_0);(try clear hfz9_1)
    obtain ⟨kq,x49_16,rfl,HA,HJ16,HO_11,HO_945000,BK929,BK944,HB⟩:=hcut
    cases kq with
    |zero=>exact absurd HA.out (by simp [laws_FnExactCountColourSolutions.j0])
    |succ kj16=>
     have H:=HA.out
     clear HA
     simp only [laws_FnExactCountColourSolutions.j0] at H
     by_cases c38:x49_16=true
     ·subst c38
      have H1:(some false)=some r:=by rw [if_pos rfl] at H;exact H
      clear H
      have H:=H1
      clear H1
      obtain rfl:=Option.some.inj H
      go_wp2
      go_ret
      exact ⟨by first|rfl|(simp [errW_none,errW_some]<;>rfl)|(simp [*,errW_none,errW_some]<;>rfl),by repeat (first|(with_reducible first|exact HB.out|apply below_alloc|apply pw_below_drewN|apply below_drew1|refine below_set ?_ GE929.out|refine below_set ?_ GE944.out)|exact HB.out)⟩
     ·replace c38:=Bool.eq_false_iff.mpr c38
      subst c38
      have H1:((laws_toGraph.f kj16 l0_0 a0_1).bind fun bt950=>((laws_eqGraph.f kj16 t940 t943 bt950.1 bt950.2).bind fun t954=>(if t954=true then ((laws_toIntS.f kj16 l2).bind fun t955=>((laws_eqIntS.f kj16 t945 t955).bind fun t958=>(if t958=true then (some true) else (some false)))) else (some false))))=some r:=by rw [if_neg (show ¬ (false=true) by decide)] at H;exact H
      clear H
      have H:=H1
      clear H1
      replace H:=Option.bind_eq_some_iff.mp H
      obtain ⟨⟨t950,t953⟩,A390,H⟩:=H
      replace H:((laws_eqGraph.f kj16 t940 t943 t950 t953).bind fun t954=>(if t954=true then ((laws_toIntS.f kj16 l2).bind fun t955=>((laws_eqIntS.f kj16 t945 t955).bind fun t958=>(if t958=true then (some true) else (some false)))) else (some false)))=some r:=H
      have A39:=Aside0.mk A390
      clear A390
      replace H:=Option.bind_eq_some_iff.mp H
      obtain ⟨t954,A400,H⟩:=H
      replace H:(if t954=true then ((laws_toIntS.f kj16 l2).bind fun t955=>((laws_eqIntS.f kj16 t945 t955).bind fun t958=>(if t958=true then (some true) else (some false)))) else (some false))=some r:=H
      have A40:=Aside0.mk A400
      clear A400
      by_cases c41:t954=true
      ·subst c41
       have H1:((laws_toIntS.f kj16 l2).bind fun t955=>((laws_eqIntS.f kj16 t945 t955).bind fun t958=>(if t958=true then (some true) else (some false))))=some r:=by rw [if_pos rfl] at H;exact H
       clear H
       have H:=H1
       clear H1
       replace H:=Option.bind_eq_some_iff.mp H
       obtain ⟨t955,A420,H⟩:=H
       replace H:((laws_eqIntS.f kj16 t945 t955).bind fun t958=>(if t958=true then (some true) else (some false)))=some r:=H
       have A42:=Aside0.mk A420
       clear A420
       replace H:=Option.bind_eq_some_iff.mp H
       obtain ⟨t958,A430,H⟩:=H
       replace H:(if t958=true then (some true) else (some false))=some r:=H
       have A43:=Aside0.mk A430
       clear A430
       by_cases c44:t958=true
       ·subst c44
        have H1:(some true)=some r:=by rw [if_pos rfl] at H;exact H
        clear H
        have H:=H1
        clear H1
        obtain rfl:=Option.some.inj H
        try go_wp2
        have n0_:=Aside0.mk (Kd.R_drew HO_11.out)
        have n1_:=Aside0.mk (Kd.R_drew HO_945000.out)
        have n2_:=Aside0.mk (blk_drew BK929.out)
        have n3_:=Aside0.mk (blk_drew BK944.out)
        have n4_:=Aside0.mk (below_drew1 HB.out)
        clear HO_11;clear HO_945000;clear BK929;clear BK944;clear HB
        have HO_11:=n0_
        have HO_945000:=n1_
        have BK929:=n2_
        have BK944:=n3_
        have HB:=n4_
        clear n0_ n1_ n2_ n3_ n4_
        refine start_ (n:=5) (S:=fun w'=>w'.cell? ⟨gb944,0,none⟩=some (.slice Ao30 t940.length co30)∧w'.cell? ⟨gb944,1,none⟩=some (.bool t943)∧w'.cell? ⟨gb929,0,none⟩=some (.slice A0_0 l0_0.length c0_0)∧w'.cell? ⟨gb929,1,none⟩=some (.bool a0_1)) (ds:=[]) #[false,false,false,false,false] (by kernel_rfl) rfl rfl ⟨(blk_cell BK944.out 0).trans rfl,(blk_cell BK944.out 1).trans rfl,(blk_cell BK929.out 0).trans rfl,(blk_cell BK929.out 1).trans rfl⟩ (fun hHeld=>?_)
        generalize wc.drew=w45 at HO_11 HO_945000 BK929 BK944 HB hHeld ⊢
        refine take_ (i:=0) (N:=some 50) (v:=?_) (a':=?_) #[true,false,false,false,false] rfl rfl (by kernel_rfl) (fun _ _ _ h=>h) (Or.inl ⟨by rfl,?_⟩) hHeld ?_ ?_
        rotate_left
        ·rintro w' ⟨s0,s1,s2,s3⟩
         go_simp
         with_reducible rfl
        rotate_left
        ·simp only [Act.put,List.setIfInBounds_toArray,List.set_cons_zero,List.set_cons_succ,i64_w,i32_w]
         rfl
        refine take_ (i:=1) (N:=some 51) (v:=?_) (a':=?_) #[true,true,false,false,false] rfl rfl (by kernel_rfl) (fun _ _ _ h=>h) (Or.inl ⟨by rfl,?_⟩) hHeld ?_ ?_
        rotate_left
        ·rintro w' ⟨s0,s1,s2,s3⟩
         go_simp
         with_reducible rfl
        rotate_left
        ·simp only [Act.put,List.setIfInBounds_toArray,List.set_cons_zero,List.set_cons_succ,i64_w,i32_w]
         rfl
        refine one_ (i:=2) (N:=some 52) #[true,true,true,false,false] rfl rfl (by kernel_rfl) (by decide) (fun K hK=>?_)
        refine goes_ Try.func17 (by kernel_rfl) rfl #[.agg #[.slice A0_0 l0_0.length c0_0,.bool a0_1]] (by rfl) rfl rfl (by (try simp only [List.map_toArray,List.map_cons,List.map_nil]);first|done|rfl|(simp only [List.length_drop,List.length_take];rfl)) ?_
        with_reducible refine (laws_toGraph.calls kj16 _ _ l0_0 a0_1 t950 t953 _ ?side1 ?side2 A39.out).mono ?_
        (case side1=>repeat (first|exact (Kd.C_below HR0_0.out HB.out)|(with_reducible refine Kd.C_alloc ?_ _)|(with_reducible refine Kd.C_drewN ?_ _)|(with_reducible refine Kd.C_drew ?_)))
        (case side2=>exact HC0_0.out)
        rintro e w46 ⟨v951,rfl,ho0,hb⟩
        refine ⟨_,rfl,?_⟩
        have n0_:=Aside0.mk (Kd.R_elder' (by (with_reducible repeat (first|apply Kd.R_alloc|apply Kd.R_drewN|apply Kd.R_drew));exact HO_11.out) (Kd.R_base ho0) hb)
        have n1_:=Aside0.mk (Kd.R_elder' (by (with_reducible repeat (first|apply Kd.R_alloc|apply Kd.R_drewN|apply Kd.R_drew));exact HO_945000.out) (Kd.R_base ho0) hb)
        have n2_:=Aside0.mk (Kd.R_lower (Kd.R_new' (Kd.R_new' ho0 (Kd.R_lt (by (with_reducible repeat (first|apply Kd.R_alloc|apply Kd.R_drewN|apply Kd.R_drew));exact HO_11.out))) (Kd.R_lt (by (with_reducible repeat (first|apply Kd.R_alloc|apply Kd.R_drewN|apply Kd.R_drew));exact HO_945000.out))) (below_size (by repeat (first|(with_reducible first|exact HB.out|apply below_alloc|apply pw_below_drewN|apply below_drew1|refine below_set ?_ GE929.out|refine below_set ?_ GE944.out)|exact HB.out))))
        have n3_:=Aside0.mk (blk_below (g:=gb929) (o:=.cells #[.slice A0_0 l0_0.length c0_0,.bool a0_1] 24 (0,0)) (by (with_reducible repeat (first|refine blk_drewN ?_ _|refine blk_drew ?_|refine blk_alloc ?_ _));exact BK929.out) hb)
        have n4_:=Aside0.mk (blk_below (g:=gb944) (o:=.cells #[.slice Ao30 t940.length co30,.bool t943] 28 (0,0)) (by (with_reducible repeat (first|refine blk_drewN ?_ _|refine blk_drew ?_|refine blk_alloc ?_ _));exact BK944.out) hb)
        have n5_:=Aside0.mk (below_step (by repeat (first|(with_reducible first|exact HB.out|apply below_alloc|apply pw_below_drewN|apply below_drew1|refine below_set ?_ GE929.out|refine below_set ?_ GE944.out)|exact HB.out)) hb)
        clear HO_11;clear HO_945000;clear BK929;clear BK944;clear HB
        have HO_11:=n0_
        have HO_945000:=n1_
        have HO952:=n2_
        have BK929:=n3_
        have BK944:=n4_
        have HB:=n5_
        clear n0_ n1_ n2_ n3_ n4_ n5_;(try clear hb);(try clear hb2);(try clear hk);(try clear hi);(try clear ho0)
        obtain ⟨Ao47,co47,eo47⟩:=Kd.R_slice HO952.out
        (first|subst eo47|(injection eo47 with f1_ f2_ f3_;have f4_:=f1_.symm;have f5_:=f3_.symm;clear f1_ f2_ f3_;subst f4_;subst f5_))
        refine hK.out _ _ ⟨(blk_cell BK944.out 0).trans rfl,(blk_cell BK944.out 1).trans rfl,(blk_cell BK929.out 0).trans rfl,(blk_cell BK929.out 1).trans rfl⟩ (fun hHeld=>?_)
        clear hK K
        refine norm_ (a':=?_) ?_ ?_
        rotate_left
        ·show Act.put _ (some 52) _=_
         simp only [Act.put,List.setIfInBounds_toArray,List.set_cons_zero,List.set_cons_succ,i64_w,i32_w]
         rfl
        refine one_ (i:=3) (N:=some 53) #[true,true,true,true,false] rfl rfl (by kernel_rfl) (by decide) (fun K hK=>?_)
        refine goes_ Try.func20 (by kernel_rfl) rfl #[.agg #[.slice Ao30 t940.length co30,.bool t943],.agg #[.slice Ao47 t950.length co47,.bool t953]] (by rfl) rfl rfl (by (try simp only [List.map_toArray,List.map_cons,List.map_nil]);first|done|rfl|(simp only [List.length_drop,List.length_take];rfl)) ?_
        with_reducible refine (laws_eqGraph.calls kj16 _ _ t940 t943 _ _ t950 t953 true _ ?side1 ?side2 ?side3 ?side4 A40.out).mono ?_
        (case side1=>repeat (first|exact (Kd.R_reads' HO_945000.out).2.2|(with_reducible refine Kd.C_alloc ?_ _)|(with_reducible refine Kd.C_drewN ?_ _)|(with_reducible refine Kd.C_drew ?_)))
        (case side2=>exact (Kd.R_reads' HO_945000.out).2.1)
        (case side3=>repeat (first|exact (Kd.R_reads' HO952.out).2.2|(with_reducible refine Kd.C_alloc ?_ _)|(with_reducible refine Kd.C_drewN ?_ _)|(with_reducible refine Kd.C_drew ?_)))
        (case side4=>exact (Kd.R_reads' HO952.out).2.1)
        rintro e w48 ⟨rfl,hb⟩
        refine ⟨_,rfl,?_⟩
        have n0_:=Aside0.mk (Kd.R_below (by (with_reducible repeat (first|apply Kd.R_alloc|apply Kd.R_drewN|apply Kd.R_drew));exact HO_11.out) hb)
        have n1_:=Aside0.mk (Kd.R_below (by (with_reducible repeat (first|apply Kd.R_alloc|apply Kd.R_drewN|apply Kd.R_drew));exact HO_945000.out) hb)
        have n2_:=Aside0.mk (Kd.R_below (by (with_reducible repeat (first|apply Kd.R_alloc|apply Kd.R_drewN|apply Kd.R_drew));exact HO952.out) hb)
        have n3_:=Aside0.mk (blk_below (g:=gb929) (o:=.cells #[.slice A0_0 l0_0.length c0_0,.bool a0_1] 24 (0,0)) (by (with_reducible repeat (first|refine blk_drewN ?_ _|refine blk_drew ?_|refine blk_alloc ?_ _));exact BK929.out) hb)
        have n4_:=Aside0.mk (blk_below (g:=gb944) (o:=.cells #[.slice Ao30 t940.length co30,.bool t943] 28 (0,0)) (by (with_reducible repeat (first|refine blk_drewN ?_ _|refine blk_drew ?_|refine blk_alloc ?_ _));exact BK944.out) hb)
        have n5_:=Aside0.mk (below_step (by repeat (first|(with_reducible first|exact HB.out|apply below_alloc|apply pw_below_drewN|apply below_drew1|refine below_set ?_ GE929.out|refine below_set ?_ GE944.out)|exact HB.out)) hb)
        clear HO_11;clear HO_945000;clear HO952;clear BK929;clear BK944;clear HB
        have HO_11:=n0_
        have HO_945000:=n1_
        have HO952:=n2_
        have BK929:=n3_
        have BK944:=n4_
        have HB:=n5_
        clear n0_ n1_ n2_ n3_ n4_ n5_;(try clear hb);(try clear hb2);(try clear hk);(try clear hi)
        refine hK.out _ _ ⟨(blk_cell BK944.out 0).trans rfl,(blk_cell BK944.out 1).trans rfl,(blk_cell BK929.out 0).trans rfl,(blk_cell BK929.out 1).trans rfl⟩ (fun hHeld=>?_)
        clear hK K
        refine norm_ (a':=?_) ?_ ?_
        rotate_left
        ·show Act.put _ (some 53) _=_
         simp only [Act.put,List.setIfInBounds_toArray,List.set_cons_zero,List.set_cons_succ,i64_w,i32_w]
         rfl
        refine pure_ (i:=4) (N:=some 54) (v:=?_) (a':=?_) #[true,true,true,true,true] rfl rfl (by kernel_rfl) (fun _ _ _ h=>h) (Or.inl ⟨by rfl,?_⟩) ?_ ?_
        rotate_left
        ·intro w'
         go_simp
         with_reducible rfl
        rotate_left
        ·simp only [Act.put,List.setIfInBounds_toArray,List.set_cons_zero,List.set_cons_succ,i64_w,i32_w]
         rfl
        refine done_ (by kernel_rfl) ?_
        try go_wp2_with (first|((with_reducible refine gate_callee (f:=18) rfl ?_);refine goesL_ (some 57) rfl rfl Try.func18 (by kernel_rfl) rfl #[.slice A2 l2.length c2] rfl (by (try simp only [List.map_toArray,List.map_cons,List.map_nil]);first|done|rfl|(simp only [List.length_drop,List.length_take];rfl)) ?_;(with_reducible refine (laws_toIntS.calls kj16 _ _ l2 t955 _ ?side1 ?side2 A42.out).mono ?_);(case side1=>repeat (first|exact (Kd.C_below HR2.out HB.out)|(with_reducible refine Kd.C_alloc ?_ _)|(with_reducible refine Kd.C_drewN ?_ _)|(with_reducible refine Kd.C_drew ?_)));(case side2=>exact HC2.out);rintro e w49 ⟨v956,rfl,ho0,hb⟩;refine ⟨_,rfl,?_⟩;have n0_:=Aside0.mk (Kd.R_elder' (by (with_reducible repeat (first|apply Kd.R_alloc|apply Kd.R_drewN|apply Kd.R_drew));exact HO_11.out) (Kd.R_base ho0) hb);have n1_:=Aside0.mk (Kd.R_elder' (by (with_reducible repeat (first|apply Kd.R_alloc|apply Kd.R_drewN|apply Kd.R_drew));exact HO_945000.out) (Kd.R_base ho0) hb);have n2_:=Aside0.mk (Kd.R_elder' (by (with_reducible repeat (first|apply Kd.R_alloc|apply Kd.R_drewN|apply Kd.R_drew));exact HO952.out) (Kd.R_base ho0) hb);have n3_:=Aside0.mk (Kd.R_lower (Kd.R_new' (Kd.R_new' (Kd.R_new' ho0 (Kd.R_lt (by (with_reducible repeat (first|apply Kd.R_alloc|apply Kd.R_drewN|apply Kd.R_drew));exact HO_11.out))) (Kd.R_lt (by (with_reducible repeat (first|apply Kd.R_alloc|apply Kd.R_drewN|apply Kd.R_drew));exact HO_945000.out))) (Kd.R_lt (by (with_reducible repeat (first|apply Kd.R_alloc|apply Kd.R_drewN|apply Kd.R_drew));exact HO952.out))) (below_size (by repeat (first|(with_reducible first|exact HB.out|apply below_alloc|apply pw_below_drewN|apply below_drew1|refine below_set ?_ GE929.out|refine below_set ?_ GE944.out)|exact HB.out))));have n4_:=Aside0.mk (blk_below (g:=gb929) (o:=.cells #[.slice A0_0 l0_0.length c0_0,.bool a0_1] 24 (0,0)) (by (with_reducible repeat (first|refine blk_drewN ?_ _|refine blk_drew ?_|refine blk_alloc ?_ _));exact BK929.out) hb);have n5_:=Aside0.mk (blk_below (g:=gb944) (o:=.cells #[.slice Ao30 t940.length co30,.bool t943] 28 (0,0)) (by (with_reducible repeat (first|refine blk_drewN ?_ _|refine blk_drew ?_|refine blk_alloc ?_ _));exact BK944.out) hb);have n6_:=Aside0.mk (below_step (by repeat (first|(with_reducible first|exact HB.out|apply below_alloc|apply pw_below_drewN|apply below_drew1|refine below_set ?_ GE929.out|refine below_set ?_ GE944.out)|exact HB.out)) hb);clear HO_11;clear HO_945000;clear HO952;clear BK929;clear BK944;clear HB;have HO_11:=n0_;have HO_945000:=n1_;have HO952:=n2_;have HO957:=n3_;have BK929:=n4_;have BK944:=n5_;have HB:=n6_;clear n0_ n1_ n2_ n3_ n4_ n5_ n6_;(try clear hb);(try clear hb2);(try clear hk);(try clear hi);(try clear ho0);obtain ⟨Ao50,co50,eo50⟩:=Kd.R_slice HO957.out;subst eo50)|((with_reducible refine gate_callee (f:=21) rfl ?_);refine goesL_ (some 58) rfl rfl Try.func21 (by kernel_rfl) rfl #[.slice Ao35 t945.length co35,.slice Ao50 t955.length co50] rfl (by (try simp only [List.map_toArray,List.map_cons,List.map_nil]);first|done|rfl|(simp only [List.length_drop,List.length_take];rfl)) ?_;(with_reducible refine (laws_eqIntS.calls kj16 _ _ t945 _ _ t955 true _ ?side1 ?side2 ?side3 ?side4 A43.out).mono ?_);(case side1=>repeat (first|exact (Kd.R_reads' HO_11.out).2.2|(with_reducible refine Kd.C_alloc ?_ _)|(with_reducible refine Kd.C_drewN ?_ _)|(with_reducible refine Kd.C_drew ?_)));(case side2=>exact (Kd.R_reads' HO_11.out).2.1);(case side3=>repeat (first|exact (Kd.R_reads' HO957.out).2.2|(with_reducible refine Kd.C_alloc ?_ _)|(with_reducible refine Kd.C_drewN ?_ _)|(with_reducible refine Kd.C_drew ?_)));(case side4=>exact (Kd.R_reads' HO957.out).2.1);rintro e w' ⟨rfl,⟨nd,rfl⟩⟩;refine ⟨_,rfl,?_⟩))
        go_ret
        exact ⟨by first|rfl|(simp [errW_none,errW_some]<;>rfl)|(simp [*,errW_none,errW_some]<;>rfl),by repeat (first|(with_reducible first|exact HB.out|apply below_alloc|apply pw_below_drewN|apply below_drew1|refine below_set ?_ GE929.out|refine below_set ?_ GE944.out)|exact HB.out)⟩
       ·replace c44:=Bool.eq_false_iff.mpr c44
        subst c44
        have H1:(some false)=some r:=by rw [if_neg (show ¬ (false=true) by decide)] at H;exact H
        clear H
        have H:=H1
        clear H1
        obtain rfl:=Option.some.inj H
        try go_wp2
        have n0_:=Aside0.mk (Kd.R_drew HO_11.out)
        have n1_:=Aside0.mk (Kd.R_drew HO_945000.out)
        have n2_:=Aside0.mk (blk_drew BK929.out)
        have n3_:=Aside0.mk (blk_drew BK944.out)
        have n4_:=Aside0.mk (below_drew1 HB.out)
        clear HO_11;clear HO_945000;clear BK929;clear BK944;clear HB
        have HO_11:=n0_
        have HO_945000:=n1_
        have BK929:=n2_
        have BK944:=n3_
        have HB:=n4_
        clear n0_ n1_ n2_ n3_ n4_
        refine start_ (n:=5) (S:=fun w'=>w'.cell? ⟨gb944,0,none⟩=some (.slice Ao30 t940.length co30)∧w'.cell? ⟨gb944,1,none⟩=some (.bool t943)∧w'.cell? ⟨gb929,0,none⟩=some (.slice A0_0 l0_0.length c0_0)∧w'.cell? ⟨gb929,1,none⟩=some (.bool a0_1)) (ds:=[]) #[false,false,false,false,false] (by kernel_rfl) rfl rfl ⟨(blk_cell BK944.out 0).trans rfl,(blk_cell BK944.out 1).trans rfl,(blk_cell BK929.out 0).trans rfl,(blk_cell BK929.out 1).trans rfl⟩ (fun hHeld=>?_)
        generalize wc.drew=w51 at HO_11 HO_945000 BK929 BK944 HB hHeld ⊢
        refine take_ (i:=0) (N:=some 50) (v:=?_) (a':=?_) #[true,false,false,false,false] rfl rfl (by kernel_rfl) (fun _ _ _ h=>h) (Or.inl ⟨by rfl,?_⟩) hHeld ?_ ?_
        rotate_left
        ·rintro w' ⟨s0,s1,s2,s3⟩
         go_simp
         with_reducible rfl
        rotate_left
        ·simp only [Act.put,List.setIfInBounds_toArray,List.set_cons_zero,List.set_cons_succ,i64_w,i32_w]
         rfl
        refine take_ (i:=1) (N:=some 51) (v:=?_) (a':=?_) #[true,true,false,false,false] rfl rfl (by kernel_rfl) (fun _ _ _ h=>h) (Or.inl ⟨by rfl,?_⟩) hHeld ?_ ?_
        rotate_left
        ·rintro w' ⟨s0,s1,s2,s3⟩
         go_simp
         with_reducible rfl
        rotate_left
        ·simp only [Act.put,List.setIfInBounds_toArray,List.set_cons_zero,List.set_cons_succ,i64_w,i32_w]
         rfl
        refine one_ (i:=2) (N:=some 52) #[true,true,true,false,false] rfl rfl (by kernel_rfl) (by decide) (fun K hK=>?_)
        refine goes_ Try.func17 (by kernel_rfl) rfl #[.agg #[.slice A0_0 l0_0.length c0_0,.bool a0_1]] (by rfl) rfl rfl (by (try simp only [List.map_toArray,List.map_cons,List.map_nil]);first|done|rfl|(simp only [List.length_drop,List.length_take];rfl)) ?_
        with_reducible refine (laws_toGraph.calls kj16 _ _ l0_0 a0_1 t950 t953 _ ?side1 ?side2 A39.out).mono ?_
        (case side1=>repeat (first|exact (Kd.C_below HR0_0.out HB.out)|(with_reducible refine Kd.C_alloc ?_ _)|(with_reducible refine Kd.C_drewN ?_ _)|(with_reducible refine Kd.C_drew ?_)))
        (case side2=>exact HC0_0.out)
        rintro e w52 ⟨v951,rfl,ho0,hb⟩
        refine ⟨_,rfl,?_⟩
        have n0_:=Aside0.mk (Kd.R_elder' (by (with_reducible repeat (first|apply Kd.R_alloc|apply Kd.R_drewN|apply Kd.R_drew));exact HO_11.out) (Kd.R_base ho0) hb)
        have n1_:=Aside0.mk (Kd.R_elder' (by (with_reducible repeat (first|apply Kd.R_alloc|apply Kd.R_drewN|apply Kd.R_drew));exact HO_945000.out) (Kd.R_base ho0) hb)
        have n2_:=Aside0.mk (Kd.R_lower (Kd.R_new' (Kd.R_new' ho0 (Kd.R_lt (by (with_reducible repeat (first|apply Kd.R_alloc|apply Kd.R_drewN|apply Kd.R_drew));exact HO_11.out))) (Kd.R_lt (by (with_reducible repeat (first|apply Kd.R_alloc|apply Kd.R_drewN|apply Kd.R_drew));exact HO_945000.out))) (below_size (by repeat (first|(with_reducible first|exact HB.out|apply below_alloc|apply pw_below_drewN|apply below_drew1|refine below_set ?_ GE929.out|refine below_set ?_ GE944.out)|exact HB.out))))
        have n3_:=Aside0.mk (blk_below (g:=gb929) (o:=.cells #[.slice A0_0 l0_0.length c0_0,.bool a0_1] 24 (0,0)) (by (with_reducible repeat (first|refine blk_drewN ?_ _|refine blk_drew ?_|refine blk_alloc ?_ _));exact BK929.out) hb)
        have n4_:=Aside0.mk (blk_below (g:=gb944) (o:=.cells #[.slice Ao30 t940.length co30,.bool t943] 28 (0,0)) (by (with_reducible repeat (first|refine blk_drewN ?_ _|refine blk_drew ?_|refine blk_alloc ?_ _));exact BK944.out) hb)
        have n5_:=Aside0.mk (below_step (by repeat (first|(with_reducible first|exact HB.out|apply below_alloc|apply pw_below_drewN|apply below_drew1|refine below_set ?_ GE929.out|refine below_set ?_ GE944.out)|exact HB.out)) hb)
        clear HO_11;clear HO_945000;clear BK929;clear BK944;clear HB
        have HO_11:=n0_
        have HO_945000:=n1_
        have HO952:=n2_
        have BK929:=n3_
        have BK944:=n4_
        have HB:=n5_
        clear n0_ n1_ n2_ n3_ n4_ n5_;(try clear hb);(try clear hb2);(try clear hk);(try clear hi);(try clear ho0)
        obtain ⟨Ao53,co53,eo53⟩:=Kd.R_slice HO952.out
        (first|subst eo53|(injection eo53 with f1_ f2_ f3_;have f4_:=f1_.symm;have f5_:=f3_.symm;clear f1_ f2_ f3_;subst f4_;subst f5_))
        refine hK.out _ _ ⟨(blk_cell BK944.out 0).trans rfl,(blk_cell BK944.out 1).trans rfl,(blk_cell BK929.out 0).trans rfl,(blk_cell BK929.out 1).trans rfl⟩ (fun hHeld=>?_)
        clear hK K
        refine norm_ (a':=?_) ?_ ?_
        rotate_left
        ·show Act.put _ (some 52) _=_
         simp only [Act.put,List.setIfInBounds_toArray,List.set_cons_zero,List.set_cons_succ,i64_w,i32_w]
         rfl
        refine one_ (i:=3) (N:=some 53) #[true,true,true,true,false] rfl rfl (by kernel_rfl) (by decide) (fun K hK=>?_)
        refine goes_ Try.func20 (by kernel_rfl) rfl #[.agg #[.slice Ao30 t940.length co30,.bool t943],.agg #[.slice Ao53 t950.length co53,.bool t953]] (by rfl) rfl rfl (by (try simp only [List.map_toArray,List.map_cons,List.map_nil]);first|done|rfl|(simp only [List.length_drop,List.length_take];rfl)) ?_
        with_reducible refine (laws_eqGraph.calls kj16 _ _ t940 t943 _ _ t950 t953 true _ ?side1 ?side2 ?side3 ?side4 A40.out).mono ?_
        (case side1=>repeat (first|exact (Kd.R_reads' HO_945000.out).2.2|(with_reducible refine Kd.C_alloc ?_ _)|(with_reducible refine Kd.C_drewN ?_ _)|(with_reducible refine Kd.C_drew ?_)))
        (case side2=>exact (Kd.R_reads' HO_945000.out).2.1)
        (case side3=>repeat (first|exact (Kd.R_reads' HO952.out).2.2|(with_reducible refine Kd.C_alloc ?_ _)|(with_reducible refine Kd.C_drewN ?_ _)|(with_reducible refine Kd.C_drew ?_)))
        (case side4=>exact (Kd.R_reads' HO952.out).2.1)
        rintro e w54 ⟨rfl,hb⟩
        refine ⟨_,rfl,?_⟩
        have n0_:=Aside0.mk (Kd.R_below (by (with_reducible repeat (first|apply Kd.R_alloc|apply Kd.R_drewN|apply Kd.R_drew));exact HO_11.out) hb)
        have n1_:=Aside0.mk (Kd.R_below (by (with_reducible repeat (first|apply Kd.R_alloc|apply Kd.R_drewN|apply Kd.R_drew));exact HO_945000.out) hb)
        have n2_:=Aside0.mk (Kd.R_below (by (with_reducible repeat (first|apply Kd.R_alloc|apply Kd.R_drewN|apply Kd.R_drew));exact HO952.out) hb)
        have n3_:=Aside0.mk (blk_below (g:=gb929) (o:=.cells #[.slice A0_0 l0_0.length c0_0,.bool a0_1] 24 (0,0)) (by (with_reducible repeat (first|refine blk_drewN ?_ _|refine blk_drew ?_|refine blk_alloc ?_ _));exact BK929.out) hb)
        have n4_:=Aside0.mk (blk_below (g:=gb944) (o:=.cells #[.slice Ao30 t940.length co30,.bool t943] 28 (0,0)) (by (with_reducible repeat (first|refine blk_drewN ?_ _|refine blk_drew ?_|refine blk_alloc ?_ _));exact BK944.out) hb)
        have n5_:=Aside0.mk (below_step (by repeat (first|(with_reducible first|exact HB.out|apply below_alloc|apply pw_below_drewN|apply below_drew1|refine below_set ?_ GE929.out|refine below_set ?_ GE944.out)|exact HB.out)) hb)
        clear HO_11;clear HO_945000;clear HO952;clear BK929;clear BK944;clear HB
        have HO_11:=n0_
        have HO_945000:=n1_
        have HO952:=n2_
        have BK929:=n3_
        have BK944:=n4_
        have HB:=n5_
        clear n0_ n1_ n2_ n3_ n4_ n5_;(try clear hb);(try clear hb2);(try clear hk);(try clear hi)
        refine hK.out _ _ ⟨(blk_cell BK944.out 0).trans rfl,(blk_cell BK944.out 1).trans rfl,(blk_cell BK929.out 0).trans rfl,(blk_cell BK929.out 1).trans rfl⟩ (fun hHeld=>?_)
        clear hK K
        refine norm_ (a':=?_) ?_ ?_
        rotate_left
        ·show Act.put _ (some 53) _=_
         simp only [Act.put,List.setIfInBounds_toArray,List.set_cons_zero,List.set_cons_succ,i64_w,i32_w]
         rfl
        refine pure_ (i:=4) (N:=some 54) (v:=?_) (a':=?_) #[true,true,true,true,true] rfl rfl (by kernel_rfl) (fun _ _ _ h=>h) (Or.inl ⟨by rfl,?_⟩) ?_ ?_
        rotate_left
        ·intro w'
         go_simp
         with_reducible rfl
        rotate_left
        ·simp only [Act.put,List.setIfInBounds_toArray,List.set_cons_zero,List.set_cons_succ,i64_w,i32_w]
         rfl
        refine done_ (by kernel_rfl) ?_
        try go_wp2_with (first|((with_reducible refine gate_callee (f:=18) rfl ?_);refine goesL_ (some 57) rfl rfl Try.func18 (by kernel_rfl) rfl #[.slice A2 l2.length c2] rfl (by (try simp only [List.map_toArray,List.map_cons,List.map_nil]);first|done|rfl|(simp only [List.length_drop,List.length_take];rfl)) ?_;(with_reducible refine (laws_toIntS.calls kj16 _ _ l2 t955 _ ?side1 ?side2 A42.out).mono ?_);(case side1=>repeat (first|exact (Kd.C_below HR2.out HB.out)|(with_reducible refine Kd.C_alloc ?_ _)|(with_reducible refine Kd.C_drewN ?_ _)|(with_reducible refine Kd.C_drew ?_)));(case side2=>exact HC2.out);rintro e w55 ⟨v956,rfl,ho0,hb⟩;refine ⟨_,rfl,?_⟩;have n0_:=Aside0.mk (Kd.R_elder' (by (with_reducible repeat (first|apply Kd.R_alloc|apply Kd.R_drewN|apply Kd.R_drew));exact HO_11.out) (Kd.R_base ho0) hb);have n1_:=Aside0.mk (Kd.R_elder' (by (with_reducible repeat (first|apply Kd.R_alloc|apply Kd.R_drewN|apply Kd.R_drew));exact HO_945000.out) (Kd.R_base ho0) hb);have n2_:=Aside0.mk (Kd.R_elder' (by (with_reducible repeat (first|apply Kd.R_alloc|apply Kd.R_drewN|apply Kd.R_drew));exact HO952.out) (Kd.R_base ho0) hb);have n3_:=Aside0.mk (Kd.R_lower (Kd.R_new' (Kd.R_new' (Kd.R_new' ho0 (Kd.R_lt (by (with_reducible repeat (first|apply Kd.R_alloc|apply Kd.R_drewN|apply Kd.R_drew));exact HO_11.out))) (Kd.R_lt (by (with_reducible repeat (first|apply Kd.R_alloc|apply Kd.R_drewN|apply Kd.R_drew));exact HO_945000.out))) (Kd.R_lt (by (with_reducible repeat (first|apply Kd.R_alloc|apply Kd.R_drewN|apply Kd.R_drew));exact HO952.out))) (below_size (by repeat (first|(with_reducible first|exact HB.out|apply below_alloc|apply pw_below_drewN|apply below_drew1|refine below_set ?_ GE929.out|refine below_set ?_ GE944.out)|exact HB.out))));have n4_:=Aside0.mk (blk_below (g:=gb929) (o:=.cells #[.slice A0_0 l0_0.length c0_0,.bool a0_1] 24 (0,0)) (by (with_reducible repeat (first|refine blk_drewN ?_ _|refine blk_drew ?_|refine blk_alloc ?_ _));exact BK929.out) hb);have n5_:=Aside0.mk (blk_below (g:=gb944) (o:=.cells #[.slice Ao30 t940.length co30,.bool t943] 28 (0,0)) (by (with_reducible repeat (first|refine blk_drewN ?_ _|refine blk_drew ?_|refine blk_alloc ?_ _));exact BK944.out) hb);have n6_:=Aside0.mk (below_step (by repeat (first|(with_reducible first|exact HB.out|apply below_alloc|apply pw_below_drewN|apply below_drew1|refine below_set ?_ GE929.out|refine below_set ?_ GE944.out)|exact HB.out)) hb);clear HO_11;clear HO_945000;clear HO952;clear BK929;clear BK944;clear HB;have HO_11:=n0_;have HO_945000:=n1_;have HO952:=n2_;have HO957:=n3_;have BK929:=n4_;have BK944:=n5_;have HB:=n6_;clear n0_ n1_ n2_ n3_ n4_ n5_ n6_;(try clear hb);(try clear hb2);(try clear hk);(try clear hi);(try clear ho0);obtain ⟨Ao56,co56,eo56⟩:=Kd.R_slice HO957.out;subst eo56)|((with_reducible refine gate_callee (f:=21) rfl ?_);refine goesL_ (some 58) rfl rfl Try.func21 (by kernel_rfl) rfl #[.slice Ao35 t945.length co35,.slice Ao56 t955.length co56] rfl (by (try simp only [List.map_toArray,List.map_cons,List.map_nil]);first|done|rfl|(simp only [List.length_drop,List.length_take];rfl)) ?_;(with_reducible refine (laws_eqIntS.calls kj16 _ _ t945 _ _ t955 false _ ?side1 ?side2 ?side3 ?side4 A43.out).mono ?_);(case side1=>repeat (first|exact (Kd.R_reads' HO_11.out).2.2|(with_reducible refine Kd.C_alloc ?_ _)|(with_reducible refine Kd.C_drewN ?_ _)|(with_reducible refine Kd.C_drew ?_)));(case side2=>exact (Kd.R_reads' HO_11.out).2.1);(case side3=>repeat (first|exact (Kd.R_reads' HO957.out).2.2|(with_reducible refine Kd.C_alloc ?_ _)|(with_reducible refine Kd.C_drewN ?_ _)|(with_reducible refine Kd.C_drew ?_)));(case side4=>exact (Kd.R_reads' HO957.out).2.1);rintro e w' ⟨rfl,⟨nd,rfl⟩⟩;refine ⟨_,rfl,?_⟩))
        go_ret
        exact ⟨by first|rfl|(simp [errW_none,errW_some]<;>rfl)|(simp [*,errW_none,errW_some]<;>rfl),by repeat (first|(with_reducible first|exact HB.out|apply below_alloc|apply pw_below_drewN|apply below_drew1|refine below_set ?_ GE929.out|refine below_set ?_ GE944.out)|exact HB.out)⟩
      ·replace c41:=Bool.eq_false_iff.mpr c41
       subst c41
       have H1:(some false)=some r:=by rw [if_neg (show ¬ (false=true) by decide)] at H;exact H
       clear H
       have H:=H1
       clear H1
       obtain rfl:=Option.some.inj H
       try go_wp2
       have n0_:=Aside0.mk (Kd.R_drew HO_11.out)
       have n1_:=Aside0.mk (Kd.R_drew HO_945000.out)
       have n2_:=Aside0.mk (blk_drew BK929.out)
       have n3_:=Aside0.mk (blk_drew BK944.out)
       have n4_:=Aside0.mk (below_drew1 HB.out)
       clear HO_11;clear HO_945000;clear BK929;clear BK944;clear HB
       have HO_11:=n0_
       have HO_945000:=n1_
       have BK929:=n2_
       have BK944:=n3_
       have HB:=n4_
       clear n0_ n1_ n2_ n3_ n4_
       refine start_ (n:=5) (S:=fun w'=>w'.cell? ⟨gb944,0,none⟩=some (.slice Ao30 t940.length co30)∧w'.cell? ⟨gb944,1,none⟩=some (.bool t943)∧w'.cell? ⟨gb929,0,none⟩=some (.slice A0_0 l0_0.length c0_0)∧w'.cell? ⟨gb929,1,none⟩=some (.bool a0_1)) (ds:=[]) #[false,false,false,false,false] (by kernel_rfl) rfl rfl ⟨(blk_cell BK944.out 0).trans rfl,(blk_cell BK944.out 1).trans rfl,(blk_cell BK929.out 0).trans rfl,(blk_cell BK929.out 1).trans rfl⟩ (fun hHeld=>?_)
       generalize wc.drew=w57 at HO_11 HO_945000 BK929 BK944 HB hHeld ⊢
       refine take_ (i:=0) (N:=some 50) (v:=?_) (a':=?_) #[true,false,false,false,false] rfl rfl (by kernel_rfl) (fun _ _ _ h=>h) (Or.inl ⟨by rfl,?_⟩) hHeld ?_ ?_
       rotate_left
       ·rintro w' ⟨s0,s1,s2,s3⟩
        go_simp
        with_reducible rfl
       rotate_left
       ·simp only [Act.put,List.setIfInBounds_toArray,List.set_cons_zero,List.set_cons_succ,i64_w,i32_w]
        rfl
       refine take_ (i:=1) (N:=some 51) (v:=?_) (a':=?_) #[true,true,false,false,false] rfl rfl (by kernel_rfl) (fun _ _ _ h=>h) (Or.inl ⟨by rfl,?_⟩) hHeld ?_ ?_
       rotate_left
       ·rintro w' ⟨s0,s1,s2,s3⟩
        go_simp
        with_reducible rfl
       rotate_left
       ·simp only [Act.put,List.setIfInBounds_toArray,List.set_cons_zero,List.set_cons_succ,i64_w,i32_w]
        rfl
       refine one_ (i:=2) (N:=some 52) #[true,true,true,false,false] rfl rfl (by kernel_rfl) (by decide) (fun K hK=>?_)
       refine goes_ Try.func17 (by kernel_rfl) rfl #[.agg #[.slice A0_0 l0_0.length c0_0,.bool a0_1]] (by rfl) rfl rfl (by (try simp only [List.map_toArray,List.map_cons,List.map_nil]);first|done|rfl|(simp only [List.length_drop,List.length_take];rfl)) ?_
       with_reducible refine (laws_toGraph.calls kj16 _ _ l0_0 a0_1 t950 t953 _ ?side1 ?side2 A39.out).mono ?_
       (case side1=>repeat (first|exact (Kd.C_below HR0_0.out HB.out)|(with_reducible refine Kd.C_alloc ?_ _)|(with_reducible refine Kd.C_drewN ?_ _)|(with_reducible refine Kd.C_drew ?_)))
       (case side2=>exact HC0_0.out)
       rintro e w58 ⟨v951,rfl,ho0,hb⟩
       refine ⟨_,rfl,?_⟩
       have n0_:=Aside0.mk (Kd.R_elder' (by (with_reducible repeat (first|apply Kd.R_alloc|apply Kd.R_drewN|apply Kd.R_drew));exact HO_11.out) (Kd.R_base ho0) hb)
       have n1_:=Aside0.mk (Kd.R_elder' (by (with_reducible repeat (first|apply Kd.R_alloc|apply Kd.R_drewN|apply Kd.R_drew));exact HO_945000.out) (Kd.R_base ho0) hb)
       have n2_:=Aside0.mk (Kd.R_lower (Kd.R_new' (Kd.R_new' ho0 (Kd.R_lt (by (with_reducible repeat (first|apply Kd.R_alloc|apply Kd.R_drewN|apply Kd.R_drew));exact HO_11.out))) (Kd.R_lt (by (with_reducible repeat (first|apply Kd.R_alloc|apply Kd.R_drewN|apply Kd.R_drew));exact HO_945000.out))) (below_size (by repeat (first|(with_reducible first|exact HB.out|apply below_alloc|apply pw_below_drewN|apply below_drew1|refine below_set ?_ GE929.out|refine below_set ?_ GE944.out)|exact HB.out))))
       have n3_:=Aside0.mk (blk_below (g:=gb929) (o:=.cells #[.slice A0_0 l0_0.length c0_0,.bool a0_1] 24 (0,0)) (by (with_reducible repeat (first|refine blk_drewN ?_ _|refine blk_drew ?_|refine blk_alloc ?_ _));exact BK929.out) hb)
       have n4_:=Aside0.mk (blk_below (g:=gb944) (o:=.cells #[.slice Ao30 t940.length co30,.bool t943] 28 (0,0)) (by (with_reducible repeat (first|refine blk_drewN ?_ _|refine blk_drew ?_|refine blk_alloc ?_ _));exact BK944.out) hb)
       have n5_:=Aside0.mk (below_step (by repeat (first|(with_reducible first|exact HB.out|apply below_alloc|apply pw_below_drewN|apply below_drew1|refine below_set ?_ GE929.out|refine below_set ?_ GE944.out)|exact HB.out)) hb)
       clear HO_11;clear HO_945000;clear BK929;clear BK944;clear HB
       have HO_11:=n0_
       have HO_945000:=n1_
       have HO952:=n2_
       have BK929:=n3_
       have BK944:=n4_
       have HB:=n5_
       clear n0_ n1_ n2_ n3_ n4_ n5_;(try clear hb);(try clear hb2);(try clear hk);(try clear hi);(try clear ho0)
       obtain ⟨Ao59,co59,eo59⟩:=Kd.R_slice HO952.out
       (first|subst eo59|(injection eo59 with f1_ f2_ f3_;have f4_:=f1_.symm;have f5_:=f3_.symm;clear f1_ f2_ f3_;subst f4_;subst f5_))
       refine hK.out _ _ ⟨(blk_cell BK944.out 0).trans rfl,(blk_cell BK944.out 1).trans rfl,(blk_cell BK929.out 0).trans rfl,(blk_cell BK929.out 1).trans rfl⟩ (fun hHeld=>?_)
       clear hK K
       refine norm_ (a':=?_) ?_ ?_
       rotate_left
       ·show Act.put _ (some 52) _=_
        simp only [Act.put,List.setIfInBounds_toArray,List.set_cons_zero,List.set_cons_succ,i64_w,i32_w]
        rfl
       refine one_ (i:=3) (N:=some 53) #[true,true,true,true,false] rfl rfl (by kernel_rfl) (by decide) (fun K hK=>?_)
       refine goes_ Try.func20 (by kernel_rfl) rfl #[.agg #[.slice Ao30 t940.length co30,.bool t943],.agg #[.slice Ao59 t950.length co59,.bool t953]] (by rfl) rfl rfl (by (try simp only [List.map_toArray,List.map_cons,List.map_nil]);first|done|rfl|(simp only [List.length_drop,List.length_take];rfl)) ?_
       with_reducible refine (laws_eqGraph.calls kj16 _ _ t940 t943 _ _ t950 t953 false _ ?side1 ?side2 ?side3 ?side4 A40.out).mono ?_
       (case side1=>repeat (first|exact (Kd.R_reads' HO_945000.out).2.2|(with_reducible refine Kd.C_alloc ?_ _)|(with_reducible refine Kd.C_drewN ?_ _)|(with_reducible refine Kd.C_drew ?_)))
       (case side2=>exact (Kd.R_reads' HO_945000.out).2.1)
       (case side3=>repeat (first|exact (Kd.R_reads' HO952.out).2.2|(with_reducible refine Kd.C_alloc ?_ _)|(with_reducible refine Kd.C_drewN ?_ _)|(with_reducible refine Kd.C_drew ?_)))
       (case side4=>exact (Kd.R_reads' HO952.out).2.1)
       rintro e w60 ⟨rfl,hb⟩
       refine ⟨_,rfl,?_⟩
       have n0_:=Aside0.mk (Kd.R_below (by (with_reducible repeat (first|apply Kd.R_alloc|apply Kd.R_drewN|apply Kd.R_drew));exact HO_11.out) hb)
       have n1_:=Aside0.mk (Kd.R_below (by (with_reducible repeat (first|apply Kd.R_alloc|apply Kd.R_drewN|apply Kd.R_drew));exact HO_945000.out) hb)
       have n2_:=Aside0.mk (Kd.R_below (by (with_reducible repeat (first|apply Kd.R_alloc|apply Kd.R_drewN|apply Kd.R_drew));exact HO952.out) hb)
       have n3_:=Aside0.mk (blk_below (g:=gb929) (o:=.cells #[.slice A0_0 l0_0.length c0_0,.bool a0_1] 24 (0,0)) (by (with_reducible repeat (first|refine blk_drewN ?_ _|refine blk_drew ?_|refine blk_alloc ?_ _));exact BK929.out) hb)
       have n4_:=Aside0.mk (blk_below (g:=gb944) (o:=.cells #[.slice Ao30 t940.length co30,.bool t943] 28 (0,0)) (by (with_reducible repeat (first|refine blk_drewN ?_ _|refine blk_drew ?_|refine blk_alloc ?_ _));exact BK944.out) hb)
       have n5_:=Aside0.mk (below_step (by repeat (first|(with_reducible first|exact HB.out|apply below_alloc|apply pw_below_drewN|apply below_drew1|refine below_set ?_ GE929.out|refine below_set ?_ GE944.out)|exact HB.out)) hb)
       clear HO_11;clear HO_945000;clear HO952;clear BK929;clear BK944;clear HB
       have HO_11:=n0_
       have HO_945000:=n1_
       have HO952:=n2_
       have BK929:=n3_
       have BK944:=n4_
       have HB:=n5_
       clear n0_ n1_ n2_ n3_ n4_ n5_;(try clear hb);(try clear hb2);(try clear hk);(try clear hi)
       refine hK.out _ _ ⟨(blk_cell BK944.out 0).trans rfl,(blk_cell BK944.out 1).trans rfl,(blk_cell BK929.out 0).trans rfl,(blk_cell BK929.out 1).trans rfl⟩ (fun hHeld=>?_)
       clear hK K
       refine norm_ (a':=?_) ?_ ?_
       rotate_left
       ·show Act.put _ (some 53) _=_
        simp only [Act.put,List.setIfInBounds_toArray,List.set_cons_zero,List.set_cons_succ,i64_w,i32_w]
        rfl
       refine pure_ (i:=4) (N:=some 54) (v:=?_) (a':=?_) #[true,true,true,true,true] rfl rfl (by kernel_rfl) (fun _ _ _ h=>h) (Or.inl ⟨by rfl,?_⟩) ?_ ?_
       rotate_left
       ·intro w'
        go_simp
        with_reducible rfl
       rotate_left
       ·simp only [Act.put,List.setIfInBounds_toArray,List.set_cons_zero,List.set_cons_succ,i64_w,i32_w]
        rfl
       refine done_ (by kernel_rfl) ?_
       try go_wp2
       go_ret
       exact ⟨by first|rfl|(simp [errW_none,errW_some]<;>rfl)|(simp [*,errW_none,errW_some]<;>rfl),by repeat (first|(with_reducible first|exact HB.out|apply below_alloc|apply pw_below_drewN|apply below_drew1|refine below_set ?_ GE929.out|refine below_set ?_ GE944.out)|exact HB.out)⟩
end Go.Proofs.Ytbbdjoahdbjljaa.P
