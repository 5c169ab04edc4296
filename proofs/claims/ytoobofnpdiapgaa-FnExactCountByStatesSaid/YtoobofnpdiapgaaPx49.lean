-- Written by a program of this session (wip/mp.py), which runs the kit's print with contracts of the session's own.
import Derived.Test.YtoobofnpdiapgaaPx0
import Derived.Test.YtoobofnpdiapgaaPx1
import Derived.Test.YtoobofnpdiapgaaPx2
import Derived.Test.YtoobofnpdiapgaaPx28
import Derived.Test.YtoobofnpdiapgaaPx46
import Derived.Test.YtoobofnpdiapgaaPx48
namespace Go.Proofs.Ytoobofnpdiapgaa.P
open Go.RowKit Go.Proofs.YtoobofnpdiapgaaW.PrintWords Go.Proofs.YtoobofnpdiapgaaW.PrintLast Go.Proofs.YtoobofnpdiapgaaW.PrintMore
attribute [local go_sem] max2_int min2_int max_two min_two max_three min_three max_four min_four -- for this text's walks alone
set_option linter.unusedVariables false
set_option linter.unusedSimpArgs false
/-! ### impl_CountByStates: function 42 -/
def impl_CountByStates.f (k:Nat) (l0_0:List Int) (a0_1:Bool) (a1:Int):Option (Int × Bool):=(impl_isForest.f k l0_0 a0_1).bind fun t770=>(if t770=true then ((impl_CountSolutions.f k l0_0 a0_1 a1).bind fun bt771=>(some (bt771.1,bt771.2))) else (some (0,false)))
set_option maxHeartbeats 8000000 in
set_option maxRecDepth 100000 in
theorem impl_CountByStates.calls (k:Nat) (A0_0:Option Addr) (c0_0:Nat) (l0_0:List Int) (a0_1:Bool) (a1:Int) (r1:Int) (r2:Bool) (w:World) (hr0_0:Kd.C (Kd.int .i64) w A0_0 l0_0.length l0_0) (hc0_0:l0_0.length≤c0_0) (h:impl_CountByStates.f k l0_0 a0_1 a1=some (r1,r2)):
  Calls Try.prog 42 #[.agg #[.slice A0_0 l0_0.length c0_0,.bool a0_1],.int .i64 a1] w fun e w'=>e=.returned (.tuple #[.int .i64 r1,.bool r2])∧Below w.heap.size w w':=by
 have hu28:=Try.underlying28
 have HR0_0:=Aside0.mk hr0_0
 have HC0_0:=Aside0.mk hc0_0
 clear hr0_0 hc0_0
 have HB:=Aside0.mk (Below.refl w.heap.size w)
 have H:((impl_isForest.f k l0_0 a0_1).bind fun t770=>(if t770=true then ((impl_CountSolutions.f k l0_0 a0_1 a1).bind fun bt771=>(some (bt771.1,bt771.2))) else (some (0,false))))=some (r1,r2):=h
 clear h
 replace H:=Option.bind_eq_some_iff.mp H
 obtain ⟨t770,A30,H⟩:=H
 replace H:(if t770=true then ((impl_CountSolutions.f k l0_0 a0_1 a1).bind fun bt771=>(some (bt771.1,bt771.2))) else (some (0,false)))=some (r1,r2):=H
 have A3:=Aside0.mk A30
 clear A30
 by_cases c4:t770=true
 ·subst c4
  have H1:((impl_CountSolutions.f k l0_0 a0_1 a1).bind fun bt771=>(some (bt771.1,bt771.2)))=some (r1,r2):=by rw [if_pos rfl] at H;exact H
  clear H
  have H:=H1
  clear H1
  replace H:=Option.bind_eq_some_iff.mp H
  obtain ⟨⟨t771,t772⟩,A50,H⟩:=H
  replace H:(some (t771,t772))=some (r1,r2):=H
  have A5:=Aside0.mk A50
  clear A50
  simp only [Option.some.injEq,Prod.mk.injEq] at H
  obtain ⟨rfl,rfl⟩:=H
  go_enter Try.func42,Try.ntmps42
  go_wp2_with (first|((with_reducible refine gate_dst (N:=2) rfl ?_);refine box_event ?hg (N:=2) ?hd (cs:=#[.slice A0_0 l0_0.length c0_0,.bool a0_1]) (t:=28) ?hr ?_;(case hd=>rfl);(case hg=>rfl);(case hr=>first|(go_simp;done)|(go_simp;rfl));intro gb769 hg w6 hbox hb;have n0_:=Aside0.mk (below_step (by repeat (first|(with_reducible first|exact HB.out|apply below_alloc|apply pw_below_drewN|apply below_drew1)|exact HB.out)) hb);have n1_:=Aside0.mk (hbox);have n2_:=Aside0.mk ((by rw [hg];exact (below_size (by repeat (first|(with_reducible first|exact HB.out|apply below_alloc|apply pw_below_drewN|apply below_drew1)|exact HB.out))):w.heap.size≤gb769));have n3_:=Aside0.mk ((by rw [hg];exact (below_size (by repeat (first|(with_reducible first|exact HB.out|apply below_alloc|apply pw_below_drewN|apply below_drew1)|exact HB.out))):w.heap.size≤gb769));clear HB;have HB:=n0_;have BK769:=n1_;have GW769:=n2_;have GE769:=n3_;clear n0_ n1_ n2_ n3_;clear hb hbox hg;have hcz7_0:w6.cell? ⟨gb769,0,none⟩=some (.slice A0_0 l0_0.length c0_0):=(blk_cell BK769.out 0).trans rfl;have hcz7_1:w6.cell? ⟨gb769,1,none⟩=some (.bool a0_1):=(blk_cell BK769.out 1).trans rfl;have hfz7_0:=blk_frozen BK769.out 0;have hfz7_1:=blk_frozen BK769.out 1)|((with_reducible refine gate_callee (f:=56) rfl ?_);refine goesL_ (some 7) rfl rfl Try.func56 (by kernel_rfl) rfl #[.agg #[.slice A0_0 l0_0.length c0_0,.bool a0_1]] rfl (by (try simp only [List.map_toArray,List.map_cons,List.map_nil]);first|done|rfl|(simp only [List.length_drop,List.length_take];rfl)) ?_;(with_reducible refine (impl_isForest.calls k _ _ l0_0 a0_1 true _ ?side1 ?side2 A3.out).mono ?_);(case side1=>repeat (first|exact (Kd.C_below HR0_0.out HB.out)|(with_reducible refine Kd.C_alloc ?_ _)|(with_reducible refine Kd.C_drewN ?_ _)|(with_reducible refine Kd.C_drew ?_)));(case side2=>exact HC0_0.out);rintro e w8 ⟨rfl,hb⟩;refine ⟨_,rfl,?_⟩;have n0_:=Aside0.mk (blk_below (g:=gb769) (o:=.cells #[.slice A0_0 l0_0.length c0_0,.bool a0_1] 28 (0,0)) (by (with_reducible repeat (first|refine blk_drewN ?_ _|refine blk_drew ?_|refine blk_alloc ?_ _));exact BK769.out) hb);have n1_:=Aside0.mk (below_step (by repeat (first|(with_reducible first|exact HB.out|apply below_alloc|apply pw_below_drewN|apply below_drew1|refine below_set ?_ GE769.out)|exact HB.out)) hb);clear BK769;clear HB;have BK769:=n0_;have HB:=n1_;clear n0_ n1_;(try clear hb);(try clear hb2);(try clear hk);(try clear hi);have hcz9_0:w8.cell? ⟨gb769,0,none⟩=some (.slice A0_0 l0_0.length c0_0):=(blk_cell BK769.out 0).trans rfl;have hcz9_1:w8.cell? ⟨gb769,1,none⟩=some (.bool a0_1):=(blk_cell BK769.out 1).trans rfl;have hfz9_0:=blk_frozen BK769.out 0;have hfz9_1:=blk_frozen BK769.out 1)|((with_reducible refine gate_callee (f:=67) rfl ?_);refine goesL_ (some 11) rfl rfl Try.func67 (by kernel_rfl) rfl #[.agg #[.slice A0_0 l0_0.length c0_0,.bool a0_1],.int .i64 a1] rfl (by (try simp only [List.map_toArray,List.map_cons,List.map_nil]);first|done|rfl|(simp only [List.length_drop,List.length_take];rfl)) ?_;(with_reducible refine (impl_CountSolutions.calls k _ _ l0_0 a0_1 a1 t771 t772 _ ?side1 ?side2 A5.out).mono ?_);(case side1=>repeat (first|exact (Kd.C_below HR0_0.out HB.out)|(with_reducible refine Kd.C_alloc ?_ _)|(with_reducible refine Kd.C_drewN ?_ _)|(with_reducible refine Kd.C_drew ?_)));(case side2=>exact HC0_0.out);rintro e w10 ⟨rfl,hb⟩;refine ⟨_,rfl,?_⟩;have n0_:=Aside0.mk (blk_below (g:=gb769) (o:=.cells #[.slice A0_0 l0_0.length c0_0,.bool a0_1] 28 (0,0)) (by (with_reducible repeat (first|refine blk_drewN ?_ _|refine blk_drew ?_|refine blk_alloc ?_ _));exact BK769.out) hb);have n1_:=Aside0.mk (below_step (by repeat (first|(with_reducible first|exact HB.out|apply below_alloc|apply pw_below_drewN|apply below_drew1|refine below_set ?_ GE769.out)|exact HB.out)) hb);clear BK769;clear HB;have BK769:=n0_;have HB:=n1_;clear n0_ n1_;(try clear hb);(try clear hb2);(try clear hk);(try clear hi)))
  go_ret2
  exact ⟨by first|rfl|(simp [errW_none,errW_some]<;>rfl)|(simp [*,errW_none,errW_some]<;>rfl),by repeat (first|(with_reducible first|exact HB.out|apply below_alloc|apply pw_below_drewN|apply below_drew1|refine below_set ?_ GE769.out)|exact HB.out)⟩
 ·replace c4:=Bool.eq_false_iff.mpr c4
  subst c4
  have H1:(some (0,false))=some (r1,r2):=by rw [if_neg (show ¬ (false=true) by decide)] at H;exact H
  clear H
  have H:=H1
  clear H1
  simp only [Option.some.injEq,Prod.mk.injEq] at H
  obtain ⟨rfl,rfl⟩:=H
  go_enter Try.func42,Try.ntmps42
  go_wp2_with (first|((with_reducible refine gate_dst (N:=2) rfl ?_);refine box_event ?hg (N:=2) ?hd (cs:=#[.slice A0_0 l0_0.length c0_0,.bool a0_1]) (t:=28) ?hr ?_;(case hd=>rfl);(case hg=>rfl);(case hr=>first|(go_simp;done)|(go_simp;rfl));intro gb769 hg w11 hbox hb;have n0_:=Aside0.mk (below_step (by repeat (first|(with_reducible first|exact HB.out|apply below_alloc|apply pw_below_drewN|apply below_drew1)|exact HB.out)) hb);have n1_:=Aside0.mk (hbox);have n2_:=Aside0.mk ((by rw [hg];exact (below_size (by repeat (first|(with_reducible first|exact HB.out|apply below_alloc|apply pw_below_drewN|apply below_drew1)|exact HB.out))):w.heap.size≤gb769));have n3_:=Aside0.mk ((by rw [hg];exact (below_size (by repeat (first|(with_reducible first|exact HB.out|apply below_alloc|apply pw_below_drewN|apply below_drew1)|exact HB.out))):w.heap.size≤gb769));clear HB;have HB:=n0_;have BK769:=n1_;have GW769:=n2_;have GE769:=n3_;clear n0_ n1_ n2_ n3_;clear hb hbox hg;have hcz12_0:w11.cell? ⟨gb769,0,none⟩=some (.slice A0_0 l0_0.length c0_0):=(blk_cell BK769.out 0).trans rfl;have hcz12_1:w11.cell? ⟨gb769,1,none⟩=some (.bool a0_1):=(blk_cell BK769.out 1).trans rfl;have hfz12_0:=blk_frozen BK769.out 0;have hfz12_1:=blk_frozen BK769.out 1)|((with_reducible refine gate_callee (f:=56) rfl ?_);refine goesL_ (some 7) rfl rfl Try.func56 (by kernel_rfl) rfl #[.agg #[.slice A0_0 l0_0.length c0_0,.bool a0_1]] rfl (by (try simp only [List.map_toArray,List.map_cons,List.map_nil]);first|done|rfl|(simp only [List.length_drop,List.length_take];rfl)) ?_;(with_reducible refine (impl_isForest.calls k _ _ l0_0 a0_1 false _ ?side1 ?side2 A3.out).mono ?_);(case side1=>repeat (first|exact (Kd.C_below HR0_0.out HB.out)|(with_reducible refine Kd.C_alloc ?_ _)|(with_reducible refine Kd.C_drewN ?_ _)|(with_reducible refine Kd.C_drew ?_)));(case side2=>exact HC0_0.out);rintro e w13 ⟨rfl,hb⟩;refine ⟨_,rfl,?_⟩;have n0_:=Aside0.mk (blk_below (g:=gb769) (o:=.cells #[.slice A0_0 l0_0.length c0_0,.bool a0_1] 28 (0,0)) (by (with_reducible repeat (first|refine blk_drewN ?_ _|refine blk_drew ?_|refine blk_alloc ?_ _));exact BK769.out) hb);have n1_:=Aside0.mk (below_step (by repeat (first|(with_reducible first|exact HB.out|apply below_alloc|apply pw_below_drewN|apply below_drew1|refine below_set ?_ GE769.out)|exact HB.out)) hb);clear BK769;clear HB;have BK769:=n0_;have HB:=n1_;clear n0_ n1_;(try clear hb);(try clear hb2);(try clear hk);(try clear hi)))
  go_ret2
  exact ⟨by first|rfl|(simp [errW_none,errW_some]<;>rfl)|(simp [*,errW_none,errW_some]<;>rfl),by repeat (first|(with_reducible first|exact HB.out|apply below_alloc|apply pw_below_drewN|apply below_drew1|refine below_set ?_ GE769.out)|exact HB.out)⟩
/-! ### laws_FnExactCountByStates: function 13 -/
def laws_FnExactCountByStates.j0:Nat→Bool→List Int→Bool→List Int→Bool→Option (Bool)
 |0,_,_,_,_,_=>none
 |k+1,x38,x774000,x774001,x786000,x786001=>if x38=true then (some false) else ((laws_toGraph.f k x774000 x774001).bind fun bt788=>((laws_eqGraph.f k x786000 x786001 bt788.1 bt788.2).bind fun t792=>(if t792=true then (some true) else (some false))))
def laws_FnExactCountByStates.f (k:Nat) (l0_0:List Int) (a0_1:Bool) (a1:Int):Option (Bool):=(laws_szGraph.f l0_0 a0_1 1048576).bind fun t774=>(if t774< 0 then (some true) else ((laws_toGraph.f k l0_0 a0_1).bind fun bt775=>((spec_CountByStates.f k bt775.1 bt775.2 a1).bind fun bt779=>((laws_toGraph.f k l0_0 a0_1).bind fun bt781=>((impl_CountByStates.f k bt781.1 bt781.2 a1).bind fun bt786=>(if bt786.1=bt779.1 then (laws_FnExactCountByStates.j0 k (bt786.2 !=bt779.2) l0_0 a0_1 bt781.1 bt781.2) else (laws_FnExactCountByStates.j0 k true l0_0 a0_1 bt781.1 bt781.2)))))))
set_option maxHeartbeats 8000000 in
set_option maxRecDepth 100000 in
theorem laws_FnExactCountByStates.calls (k:Nat) (A0_0:Option Addr) (c0_0:Nat) (l0_0:List Int) (a0_1:Bool) (a1:Int) (r:Bool) (w:World) (hr0_0:Kd.C (Kd.int .i64) w A0_0 l0_0.length l0_0) (hc0_0:l0_0.length≤c0_0) (h:laws_FnExactCountByStates.f k l0_0 a0_1 a1=some r):
  Calls Try.prog 13 #[.agg #[.slice A0_0 l0_0.length c0_0,.bool a0_1],.int .i64 a1] w fun e w'=>e=.returned (.bool r)∧Below w.heap.size w w':=by
 have hu24:=Try.underlying24
 have hu28:=Try.underlying28
 have HR0_0:=Aside0.mk hr0_0
 have HC0_0:=Aside0.mk hc0_0
 clear hr0_0 hc0_0
 have HB:=Aside0.mk (Below.refl w.heap.size w)
 have H:((laws_szGraph.f l0_0 a0_1 1048576).bind fun t774=>(if t774< 0 then (some true) else ((laws_toGraph.f k l0_0 a0_1).bind fun bt775=>((spec_CountByStates.f k bt775.1 bt775.2 a1).bind fun bt779=>((laws_toGraph.f k l0_0 a0_1).bind fun bt781=>((impl_CountByStates.f k bt781.1 bt781.2 a1).bind fun bt786=>(if bt786.1=bt779.1 then (laws_FnExactCountByStates.j0 k (bt786.2 !=bt779.2) l0_0 a0_1 bt781.1 bt781.2) else (laws_FnExactCountByStates.j0 k true l0_0 a0_1 bt781.1 bt781.2))))))))=some r:=h
 clear h
 replace H:=Option.bind_eq_some_iff.mp H
 obtain ⟨t774,A30,H⟩:=H
 replace H:(if t774< 0 then (some true) else ((laws_toGraph.f k l0_0 a0_1).bind fun bt775=>((spec_CountByStates.f k bt775.1 bt775.2 a1).bind fun bt779=>((laws_toGraph.f k l0_0 a0_1).bind fun bt781=>((impl_CountByStates.f k bt781.1 bt781.2 a1).bind fun bt786=>(if bt786.1=bt779.1 then (laws_FnExactCountByStates.j0 k (bt786.2 !=bt779.2) l0_0 a0_1 bt781.1 bt781.2) else (laws_FnExactCountByStates.j0 k true l0_0 a0_1 bt781.1 bt781.2)))))))=some r:=H
 have A3:=Aside0.mk A30
 clear A30
 by_cases c4:t774< 0
 ·rw [if_pos c4] at H
  have c4b0:decide (t774< 0)=true:=decide_eq_true c4
  clear c4
  obtain rfl:=Option.some.inj H
  go_enter Try.func13,Try.ntmps13
  go_wp2_with (first|((with_reducible refine gate_dst (N:=2) rfl ?_);refine box_event ?hg (N:=2) ?hd (cs:=#[.slice A0_0 l0_0.length c0_0,.bool a0_1]) (t:=24) ?hr ?_;(case hd=>rfl);(case hg=>rfl);(case hr=>first|(go_simp;done)|(go_simp;rfl));intro gb773 hg w5 hbox hb;have n0_:=Aside0.mk (below_step (by repeat (first|(with_reducible first|exact HB.out|apply below_alloc|apply pw_below_drewN|apply below_drew1)|exact HB.out)) hb);have n1_:=Aside0.mk (hbox);have n2_:=Aside0.mk ((by rw [hg];exact (below_size (by repeat (first|(with_reducible first|exact HB.out|apply below_alloc|apply pw_below_drewN|apply below_drew1)|exact HB.out))):w.heap.size≤gb773));have n3_:=Aside0.mk ((by rw [hg];exact (below_size (by repeat (first|(with_reducible first|exact HB.out|apply below_alloc|apply pw_below_drewN|apply below_drew1)|exact HB.out))):w.heap.size≤gb773));clear HB;have HB:=n0_;have BK773:=n1_;have GW773:=n2_;have GE773:=n3_;clear n0_ n1_ n2_ n3_;clear hb hbox hg;have hcz6_0:w5.cell? ⟨gb773,0,none⟩=some (.slice A0_0 l0_0.length c0_0):=(blk_cell BK773.out 0).trans rfl;have hcz6_1:w5.cell? ⟨gb773,1,none⟩=some (.bool a0_1):=(blk_cell BK773.out 1).trans rfl;have hfz6_0:=blk_frozen BK773.out 0;have hfz6_1:=blk_frozen BK773.out 1)|((with_reducible refine gate_callee (f:=14) rfl ?_);refine goesL_ (some 13) rfl rfl Try.func14 (by kernel_rfl) rfl #[.agg #[.slice A0_0 l0_0.length c0_0,.bool a0_1],.int .i64 1048576] rfl (by (try simp only [List.map_toArray,List.map_cons,List.map_nil]);first|done|rfl|(simp only [List.length_drop,List.length_take];rfl)) ?_;(with_reducible refine (laws_szGraph.calls _ _ l0_0 a0_1 1048576 t774 _ ?side1 ?side2 A3.out).mono ?_);(case side1=>repeat (first|exact (Kd.C_below HR0_0.out HB.out)|(with_reducible refine Kd.C_alloc ?_ _)|(with_reducible refine Kd.C_drewN ?_ _)|(with_reducible refine Kd.C_drew ?_)));(case side2=>exact HC0_0.out);rintro e w7 ⟨rfl,hb⟩;refine ⟨_,rfl,?_⟩;have n0_:=Aside0.mk (blk_below (g:=gb773) (o:=.cells #[.slice A0_0 l0_0.length c0_0,.bool a0_1] 24 (0,0)) (by (with_reducible repeat (first|refine blk_drewN ?_ _|refine blk_drew ?_|refine blk_alloc ?_ _));exact BK773.out) hb);have n1_:=Aside0.mk (below_step (by repeat (first|(with_reducible first|exact HB.out|apply below_alloc|apply pw_below_drewN|apply below_drew1|refine below_set ?_ GE773.out)|exact HB.out)) hb);clear BK773;clear HB;have BK773:=n0_;have HB:=n1_;clear n0_ n1_;(try clear hb);(try clear hb2);(try clear hk);(try clear hi)))
  go_ret
  exact ⟨by first|rfl|(simp [errW_none,errW_some]<;>rfl)|(simp [*,errW_none,errW_some]<;>rfl),by repeat (first|(with_reducible first|exact HB.out|apply below_alloc|apply pw_below_drewN|apply below_drew1|refine below_set ?_ GE773.out)|exact HB.out)⟩
 ·rw [if_neg c4] at H
  have c4b0:decide (t774< 0)=false:=decide_eq_false c4
  clear c4
  replace H:=Option.bind_eq_some_iff.mp H
  obtain ⟨⟨t775,t778⟩,A80,H⟩:=H
  replace H:((spec_CountByStates.f k t775 t778 a1).bind fun bt779=>((laws_toGraph.f k l0_0 a0_1).bind fun bt781=>((impl_CountByStates.f k bt781.1 bt781.2 a1).bind fun bt786=>(if bt786.1=bt779.1 then (laws_FnExactCountByStates.j0 k (bt786.2 !=bt779.2) l0_0 a0_1 bt781.1 bt781.2) else (laws_FnExactCountByStates.j0 k true l0_0 a0_1 bt781.1 bt781.2)))))=some r:=H
  have A8:=Aside0.mk A80
  clear A80
  replace H:=Option.bind_eq_some_iff.mp H
  obtain ⟨⟨t779,t780⟩,A90,H⟩:=H
  replace H:((laws_toGraph.f k l0_0 a0_1).bind fun bt781=>((impl_CountByStates.f k bt781.1 bt781.2 a1).bind fun bt786=>(if bt786.1=t779 then (laws_FnExactCountByStates.j0 k (bt786.2 !=t780) l0_0 a0_1 bt781.1 bt781.2) else (laws_FnExactCountByStates.j0 k true l0_0 a0_1 bt781.1 bt781.2))))=some r:=H
  have A9:=Aside0.mk A90
  clear A90
  replace H:=Option.bind_eq_some_iff.mp H
  obtain ⟨⟨t781,t784⟩,A100,H⟩:=H
  replace H:((impl_CountByStates.f k t781 t784 a1).bind fun bt786=>(if bt786.1=t779 then (laws_FnExactCountByStates.j0 k (bt786.2 !=t780) l0_0 a0_1 t781 t784) else (laws_FnExactCountByStates.j0 k true l0_0 a0_1 t781 t784)))=some r:=H
  have A10:=Aside0.mk A100
  clear A100
  replace H:=Option.bind_eq_some_iff.mp H
  obtain ⟨⟨t786,t787⟩,A110,H⟩:=H
  replace H:(if t786=t779 then (laws_FnExactCountByStates.j0 k (t787 !=t780) l0_0 a0_1 t781 t784) else (laws_FnExactCountByStates.j0 k true l0_0 a0_1 t781 t784))=some r:=H
  have A11:=Aside0.mk A110
  clear A110
  have HC12:=Aside0.mk H
  clear H
  go_enter Try.func13,Try.ntmps13
  go_upto_region 8 with (first|((with_reducible refine gate_dst (N:=2) rfl ?_);refine box_event ?hg (N:=2) ?hd (cs:=#[.slice A0_0 l0_0.length c0_0,.bool a0_1]) (t:=24) ?hr ?_;(case hd=>rfl);(case hg=>rfl);(case hr=>first|(go_simp;done)|(go_simp;rfl));intro gb773 hg w13 hbox hb;have n0_:=Aside0.mk (below_step (by repeat (first|(with_reducible first|exact HB.out|apply below_alloc|apply pw_below_drewN|apply below_drew1)|exact HB.out)) hb);have n1_:=Aside0.mk (hbox);have n2_:=Aside0.mk ((by rw [hg];exact (below_size (by repeat (first|(with_reducible first|exact HB.out|apply below_alloc|apply pw_below_drewN|apply below_drew1)|exact HB.out))):w.heap.size≤gb773));have n3_:=Aside0.mk ((by rw [hg];exact (below_size (by repeat (first|(with_reducible first|exact HB.out|apply below_alloc|apply pw_below_drewN|apply below_drew1)|exact HB.out))):w.heap.size≤gb773));clear HB;have HB:=n0_;have BK773:=n1_;have GW773:=n2_;have GE773:=n3_;clear n0_ n1_ n2_ n3_;clear hb hbox hg;have hcz14_0:w13.cell? ⟨gb773,0,none⟩=some (.slice A0_0 l0_0.length c0_0):=(blk_cell BK773.out 0).trans rfl;have hcz14_1:w13.cell? ⟨gb773,1,none⟩=some (.bool a0_1):=(blk_cell BK773.out 1).trans rfl;have hfz14_0:=blk_frozen BK773.out 0;have hfz14_1:=blk_frozen BK773.out 1)|((with_reducible refine gate_callee (f:=14) rfl ?_);refine goesL_ (some 13) rfl rfl Try.func14 (by kernel_rfl) rfl #[.agg #[.slice A0_0 l0_0.length c0_0,.bool a0_1],.int .i64 1048576] rfl (by (try simp only [List.map_toArray,List.map_cons,List.map_nil]);first|done|rfl|(simp only [List.length_drop,List.length_take];rfl)) ?_;(with_reducible refine (laws_szGraph.calls _ _ l0_0 a0_1 1048576 t774 _ ?side1 ?side2 A3.out).mono ?_);(case side1=>repeat (first|exact (Kd.C_below HR0_0.out HB.out)|(with_reducible refine Kd.C_alloc ?_ _)|(with_reducible refine Kd.C_drewN ?_ _)|(with_reducible refine Kd.C_drew ?_)));(case side2=>exact HC0_0.out);rintro e w15 ⟨rfl,hb⟩;refine ⟨_,rfl,?_⟩;have n0_:=Aside0.mk (blk_below (g:=gb773) (o:=.cells #[.slice A0_0 l0_0.length c0_0,.bool a0_1] 24 (0,0)) (by (with_reducible repeat (first|refine blk_drewN ?_ _|refine blk_drew ?_|refine blk_alloc ?_ _));exact BK773.out) hb);have n1_:=Aside0.mk (below_step (by repeat (first|(with_reducible first|exact HB.out|apply below_alloc|apply pw_below_drewN|apply below_drew1|refine below_set ?_ GE773.out)|exact HB.out)) hb);clear BK773;clear HB;have BK773:=n0_;have HB:=n1_;clear n0_ n1_;(try clear hb);(try clear hb2);(try clear hk);(try clear hi);have hcz16_0:w15.cell? ⟨gb773,0,none⟩=some (.slice A0_0 l0_0.length c0_0):=(blk_cell BK773.out 0).trans rfl;have hcz16_1:w15.cell? ⟨gb773,1,none⟩=some (.bool a0_1):=(blk_cell BK773.out 1).trans rfl;have hfz16_0:=blk_frozen BK773.out 0;have hfz16_1:=blk_frozen BK773.out 1)|((with_reducible refine gate_callee (f:=16) rfl ?_);refine goesL_ (some 18) rfl rfl Try.func16 (by kernel_rfl) rfl #[.agg #[.slice A0_0 l0_0.length c0_0,.bool a0_1]] rfl (by (try simp only [List.map_toArray,List.map_cons,List.map_nil]);first|done|rfl|(simp only [List.length_drop,List.length_take];rfl)) ?_;(with_reducible refine (laws_toGraph.calls k _ _ l0_0 a0_1 t775 t778 _ ?side1 ?side2 A8.out).mono ?_);(case side1=>repeat (first|exact (Kd.C_below HR0_0.out HB.out)|(with_reducible refine Kd.C_alloc ?_ _)|(with_reducible refine Kd.C_drewN ?_ _)|(with_reducible refine Kd.C_drew ?_)));(case side2=>exact HC0_0.out);rintro e w17 ⟨v776,rfl,ho0,hb⟩;refine ⟨_,rfl,?_⟩;have n0_:=Aside0.mk (Kd.R_lower ho0 (below_size (by repeat (first|(with_reducible first|exact HB.out|apply below_alloc|apply pw_below_drewN|apply below_drew1|refine below_set ?_ GE773.out)|exact HB.out))));have n1_:=Aside0.mk (blk_below (g:=gb773) (o:=.cells #[.slice A0_0 l0_0.length c0_0,.bool a0_1] 24 (0,0)) (by (with_reducible repeat (first|refine blk_drewN ?_ _|refine blk_drew ?_|refine blk_alloc ?_ _));exact BK773.out) hb);have n2_:=Aside0.mk (below_step (by repeat (first|(with_reducible first|exact HB.out|apply below_alloc|apply pw_below_drewN|apply below_drew1|refine below_set ?_ GE773.out)|exact HB.out)) hb);clear BK773;clear HB;have HO777:=n0_;have BK773:=n1_;have HB:=n2_;clear n0_ n1_ n2_;(try clear hb);(try clear hb2);(try clear hk);(try clear hi);(try clear ho0);obtain ⟨Ao18,co18,eo18⟩:=Kd.R_slice HO777.out;subst eo18)|((with_reducible refine gate_callee (f:=41) rfl ?_);refine goesL_ (some 20) rfl rfl Try.func41 (by kernel_rfl) rfl #[.agg #[.slice Ao18 t775.length co18,.bool t778],.int .i64 a1] rfl (by (try simp only [List.map_toArray,List.map_cons,List.map_nil]);first|done|rfl|(simp only [List.length_drop,List.length_take];rfl)) ?_;(with_reducible refine (spec_CountByStates.calls k _ _ t775 t778 a1 t779 t780 _ ?side1 ?side2 A9.out).mono ?_);(case side1=>repeat (first|exact (Kd.R_reads' HO777.out).2.2|(with_reducible refine Kd.C_alloc ?_ _)|(with_reducible refine Kd.C_drewN ?_ _)|(with_reducible refine Kd.C_drew ?_)));(case side2=>exact (Kd.R_reads' HO777.out).2.1);rintro e w19 ⟨rfl,hb⟩;refine ⟨_,rfl,?_⟩;have n0_:=Aside0.mk (Kd.R_below (by (with_reducible repeat (first|apply Kd.R_alloc|apply Kd.R_drewN|apply Kd.R_drew));exact HO777.out) hb);have n1_:=Aside0.mk (blk_below (g:=gb773) (o:=.cells #[.slice A0_0 l0_0.length c0_0,.bool a0_1] 24 (0,0)) (by (with_reducible repeat (first|refine blk_drewN ?_ _|refine blk_drew ?_|refine blk_alloc ?_ _));exact BK773.out) hb);have n2_:=Aside0.mk (below_step (by repeat (first|(with_reducible first|exact HB.out|apply below_alloc|apply pw_below_drewN|apply below_drew1|refine below_set ?_ GE773.out)|exact HB.out)) hb);clear HO777;clear BK773;clear HB;have HO777:=n0_;have BK773:=n1_;have HB:=n2_;clear n0_ n1_ n2_;(try clear hb);(try clear hb2);(try clear hk);(try clear hi);have hcz20_0:w19.cell? ⟨gb773,0,none⟩=some (.slice A0_0 l0_0.length c0_0):=(blk_cell BK773.out 0).trans rfl;have hcz20_1:w19.cell? ⟨gb773,1,none⟩=some (.bool a0_1):=(blk_cell BK773.out 1).trans rfl;have hfz20_0:=blk_frozen BK773.out 0;have hfz20_1:=blk_frozen BK773.out 1)|((with_reducible refine gate_callee (f:=16) rfl ?_);refine goesL_ (some 24) rfl rfl Try.func16 (by kernel_rfl) rfl #[.agg #[.slice A0_0 l0_0.length c0_0,.bool a0_1]] rfl (by (try simp only [List.map_toArray,List.map_cons,List.map_nil]);first|done|rfl|(simp only [List.length_drop,List.length_take];rfl)) ?_;(with_reducible refine (laws_toGraph.calls k _ _ l0_0 a0_1 t781 t784 _ ?side1 ?side2 A10.out).mono ?_);(case side1=>repeat (first|exact (Kd.C_below HR0_0.out HB.out)|(with_reducible refine Kd.C_alloc ?_ _)|(with_reducible refine Kd.C_drewN ?_ _)|(with_reducible refine Kd.C_drew ?_)));(case side2=>exact HC0_0.out);rintro e w21 ⟨v782,rfl,ho0,hb⟩;refine ⟨_,rfl,?_⟩;have n0_:=Aside0.mk (Kd.R_elder' (by (with_reducible repeat (first|apply Kd.R_alloc|apply Kd.R_drewN|apply Kd.R_drew));exact HO777.out) (Kd.R_base ho0) hb);have n1_:=Aside0.mk (Kd.R_lower (Kd.R_new' ho0 (Kd.R_lt (by (with_reducible repeat (first|apply Kd.R_alloc|apply Kd.R_drewN|apply Kd.R_drew));exact HO777.out))) (below_size (by repeat (first|(with_reducible first|exact HB.out|apply below_alloc|apply pw_below_drewN|apply below_drew1|refine below_set ?_ GE773.out)|exact HB.out))));have n2_:=Aside0.mk (blk_below (g:=gb773) (o:=.cells #[.slice A0_0 l0_0.length c0_0,.bool a0_1] 24 (0,0)) (by (with_reducible repeat (first|refine blk_drewN ?_ _|refine blk_drew ?_|refine blk_alloc ?_ _));exact BK773.out) hb);have n3_:=Aside0.mk (below_step (by repeat (first|(with_reducible first|exact HB.out|apply below_alloc|apply pw_below_drewN|apply below_drew1|refine below_set ?_ GE773.out)|exact HB.out)) hb);clear HO777;clear BK773;clear HB;have HO777:=n0_;have HO783:=n1_;have BK773:=n2_;have HB:=n3_;clear n0_ n1_ n2_ n3_;(try clear hb);(try clear hb2);(try clear hk);(try clear hi);(try clear ho0))|((with_reducible refine gate_dst (N:=8) rfl ?_);refine box_event ?hg (N:=8) ?hd (cs:=#[.slice none 0 0,.bool false]) (t:=28) ?hr ?_;(case hd=>rfl);(case hg=>rfl);(case hr=>first|(go_simp;done)|(go_simp;rfl));intro gb785 hg w22 hbox hb;have n0_:=Aside0.mk (Kd.R_below (by (with_reducible repeat (first|apply Kd.R_alloc|apply Kd.R_drewN|apply Kd.R_drew));exact HO777.out) hb);have n1_:=Aside0.mk (Kd.R_below (by (with_reducible repeat (first|apply Kd.R_alloc|apply Kd.R_drewN|apply Kd.R_drew));exact HO783.out) hb);have n2_:=Aside0.mk (blk_below (g:=gb773) (o:=.cells #[.slice A0_0 l0_0.length c0_0,.bool a0_1] 24 (0,0)) (by (with_reducible repeat (first|refine blk_drewN ?_ _|refine blk_drew ?_|refine blk_alloc ?_ _));exact BK773.out) hb);have n3_:=Aside0.mk (below_step (by repeat (first|(with_reducible first|exact HB.out|apply below_alloc|apply pw_below_drewN|apply below_drew1|refine below_set ?_ GE773.out)|exact HB.out)) hb);have n4_:=Aside0.mk (hbox);have n5_:=Aside0.mk ((by rw [hg];exact (below_size (by repeat (first|(with_reducible first|exact HB.out|apply below_alloc|apply pw_below_drewN|apply below_drew1|refine below_set ?_ GE773.out)|exact HB.out))):w.heap.size≤gb785));have n6_:=Aside0.mk ((by rw [hg];exact (below_size (by repeat (first|(with_reducible first|exact HB.out|apply below_alloc|apply pw_below_drewN|apply below_drew1|refine below_set ?_ GE773.out)|exact HB.out))):w.heap.size≤gb785));have n7_:=Aside0.mk ((by rw [hg];exact Nat.ne_of_lt (blk_lt (g:=gb773) (o:=.cells #[.slice A0_0 l0_0.length c0_0,.bool a0_1] 24 (0,0)) (by (with_reducible repeat (first|refine blk_drewN ?_ _|refine blk_drew ?_|refine blk_alloc ?_ _));exact BK773.out)):gb773≠gb785));have n8_:=Aside0.mk ((by rw [hg];exact Nat.ne_of_gt (blk_lt (g:=gb773) (o:=.cells #[.slice A0_0 l0_0.length c0_0,.bool a0_1] 24 (0,0)) (by (with_reducible repeat (first|refine blk_drewN ?_ _|refine blk_drew ?_|refine blk_alloc ?_ _));exact BK773.out)):gb785≠gb773));clear HO777;clear HO783;clear BK773;clear HB;have HO777:=n0_;have HO783:=n1_;have BK773:=n2_;have HB:=n3_;have BK785:=n4_;have GW785:=n5_;have GE785:=n6_;have NB773_785:=n7_;have NB785_773:=n8_;clear n0_ n1_ n2_ n3_ n4_ n5_ n6_ n7_ n8_;clear hb hbox hg;obtain ⟨Ao23,co23,eo23⟩:=Kd.R_slice HO783.out;subst eo23;have hnb24:=NB785_773.out;have hnc24:=NB773_785.out;have hcz25_0:w22.cell? ⟨gb785,0,none⟩=some (.slice none 0 0):=(blk_cell BK785.out 0).trans rfl;have hcz25_1:w22.cell? ⟨gb785,1,none⟩=some (.bool false):=(blk_cell BK785.out 1).trans rfl;have hfz25_0:=blk_frozen BK785.out 0;have hfz25_1:=blk_frozen BK785.out 1)|((with_reducible refine gate_callee (f:=42) rfl ?_);refine goesL_ (some 28) rfl rfl Try.func42 (by kernel_rfl) rfl #[.agg #[.slice Ao23 t781.length co23,.bool t784],.int .i64 a1] rfl (by (try simp only [List.map_toArray,List.map_cons,List.map_nil]);first|done|rfl|(simp only [List.length_drop,List.length_take];rfl)) ?_;(with_reducible refine (impl_CountByStates.calls k _ _ t781 t784 a1 t786 t787 _ ?side1 ?side2 A11.out).mono ?_);(case side1=>refine (Kd.R_reads' (e:=3) (base:=w.heap.size) (ok:=fun k_=>(True∧some k_≠(.slice Ao18 t775.length co18:Value).ownBlock)) (n:=t781.length) (c:=co23) ?_).2.2;exact (by (with_reducible repeat (first|apply Kd.R_alloc|apply Kd.R_drewN|apply Kd.R_drew));exact (Kd.R_mono (Kd.R_far (p:=⟨gb785,1,none⟩) (Kd.R_far (p:=⟨gb785,0,none⟩) (Kd.R_types HO783.out BK785.out (by decide)) (fun _ hk=>hk.2) (.slice Ao23 t781.length co23)) (fun _ hk=>hk.2) (.bool t784)) (fun _ h_=>h_.1))));(case side2=>exact (Kd.R_reads' HO783.out).2.1);rintro e w26 ⟨rfl,hb⟩;refine ⟨_,rfl,?_⟩;have n0_:=Aside0.mk (Kd.R_below (by (with_reducible repeat (first|apply Kd.R_alloc|apply Kd.R_drewN|apply Kd.R_drew));exact (Kd.R_mono (Kd.R_far (p:=⟨gb785,1,none⟩) (Kd.R_far (p:=⟨gb785,0,none⟩) (Kd.R_types HO777.out BK785.out (by decide)) (fun _ hk=>hk.2) (.slice Ao23 t781.length co23)) (fun _ hk=>hk.2) (.bool t784)) (fun _ h_=>h_.1))) hb);have n1_:=Aside0.mk (Kd.R_below (by (with_reducible repeat (first|apply Kd.R_alloc|apply Kd.R_drewN|apply Kd.R_drew));exact (Kd.R_mono (Kd.R_far (p:=⟨gb785,1,none⟩) (Kd.R_far (p:=⟨gb785,0,none⟩) (Kd.R_types HO783.out BK785.out (by decide)) (fun _ hk=>hk.2) (.slice Ao23 t781.length co23)) (fun _ hk=>hk.2) (.bool t784)) (fun _ h_=>h_.1))) hb);have n2_:=Aside0.mk (blk_below (g:=gb773) (o:=.cells #[.slice A0_0 l0_0.length c0_0,.bool a0_1] 24 (0,0)) (by (with_reducible repeat (first|refine blk_drewN ?_ _|refine blk_drew ?_|refine blk_alloc ?_ _));refine blk_far ?_ NB773_785.out _;(with_reducible repeat (first|refine blk_drewN ?_ _|refine blk_drew ?_|refine blk_alloc ?_ _));refine blk_far ?_ NB773_785.out _;(with_reducible repeat (first|refine blk_drewN ?_ _|refine blk_drew ?_|refine blk_alloc ?_ _));exact BK773.out) hb);have n3_:=Aside0.mk (blk_below (g:=gb785) (o:=.cells #[.slice Ao23 t781.length co23,.bool t784] 28 (0,0)) (by (with_reducible repeat (first|refine blk_drewN ?_ _|refine blk_drew ?_|refine blk_alloc ?_ _));refine blk_put (cs:=#[.slice Ao23 t781.length co23,.bool false]) ?_ 1 _ rfl;(with_reducible repeat (first|refine blk_drewN ?_ _|refine blk_drew ?_|refine blk_alloc ?_ _));refine blk_put (cs:=#[.slice none 0 0,.bool false]) ?_ 0 _ rfl;(with_reducible repeat (first|refine blk_drewN ?_ _|refine blk_drew ?_|refine blk_alloc ?_ _));exact BK785.out) hb);have n4_:=Aside0.mk (below_step (by repeat (first|(with_reducible first|exact HB.out|apply below_alloc|apply pw_below_drewN|apply below_drew1|refine below_set ?_ GE773.out|refine below_set ?_ GE785.out)|exact HB.out)) hb);clear HO777;clear HO783;clear BK773;clear BK785;clear HB;have HO777:=n0_;have HO783:=n1_;have BK773:=n2_;have BK785:=n3_;have HB:=n4_;clear n0_ n1_ n2_ n3_ n4_;(try clear hb);(try clear hb2);(try clear hk);(try clear hi)))
  (try simp only [Act.put,List.setIfInBounds_toArray,List.set_cons_zero,List.set_cons_succ])
  go_cut [38] (fun v38 wc=>∃ (kq:Nat) (x38_11:Bool),v38=.bool x38_11∧Aside0 (laws_FnExactCountByStates.j0 kq x38_11 l0_0 a0_1 t781 t784=some r)∧Aside0 (kq≤k)∧Aside0 (Kd.R (Kd.int .i64) 3 wc w.heap.size (fun _=>True) (.slice Ao23 t781.length co23) t781)∧Aside0 (wc.heap[gb773]?=some (.cells #[(.slice A0_0 l0_0.length c0_0),.bool a0_1] 24 (0,0)))∧Aside0 (wc.heap[gb785]?=some (.cells #[(.slice Ao23 t781.length co23),.bool t784] 28 (0,0)))∧Aside0 (Below w.heap.size w wc))
  case first=>
   have H:=HC12.out
   clear HC12
   by_cases c27:t786=t779
   ·rw [if_pos c27] at H
    have c27b0:(t786==t779)=true:=beq_iff_eq.mpr c27
    have c27b1:(t786 !=t779)=false:=bne_eq_false_iff_eq.mpr c27
    clear c27
    (first|rw [c27b0]|(simp only [i64_w,i32_w];rw [c27b0])|skip)
    have H':=Aside0.mk H
    clear H
    go_wp2
    go_meet
    case rel=>exact ⟨_,((t787 !=t780)),(by first|rfl|(simp;done)|(simp [*];done)),H',⟨by first|omega|exact Nat.le_refl _⟩,⟨by (with_reducible repeat (first|apply Kd.R_alloc|apply Kd.R_drewN|apply Kd.R_drew));exact Kd.R_mono HO783.out (fun _ hk=>trivial)⟩,⟨by (with_reducible repeat (first|refine blk_drewN ?_ _|refine blk_drew ?_|refine blk_alloc ?_ _));exact BK773.out⟩,⟨by (with_reducible repeat (first|refine blk_drewN ?_ _|refine blk_drew ?_|refine blk_alloc ?_ _));exact BK785.out⟩,⟨by repeat (first|(with_reducible first|exact HB.out|apply below_alloc|apply pw_below_drewN|apply below_drew1|refine below_set ?_ GE773.out|refine below_set ?_ GE785.out)|exact HB.out)⟩⟩
   ·rw [if_neg c27] at H
    have c27b0:(t786==t779)=false:=beq_eq_false_iff_ne.mpr c27
    have c27b1:(t786 !=t779)=true:=bne_iff_ne.mpr c27
    (first|rw [c27b0]|(simp only [i64_w,i32_w];rw [c27b0])|skip)
    have H':=Aside0.mk H
    clear H
    go_wp2
    go_meet
    case rel=>exact ⟨_,(true),(by first|rfl|(simp;done)|(simp [*];done)),H',⟨by first|omega|exact Nat.le_refl _⟩,⟨by (with_reducible repeat (first|apply Kd.R_alloc|apply Kd.R_drewN|apply Kd.R_drew));exact Kd.R_mono HO783.out (fun _ hk=>trivial)⟩,⟨by (with_reducible repeat (first|refine blk_drewN ?_ _|refine blk_drew ?_|refine blk_alloc ?_ _));exact BK773.out⟩,⟨by (with_reducible repeat (first|refine blk_drewN ?_ _|refine blk_drew ?_|refine blk_alloc ?_ _));exact BK785.out⟩,⟨by repeat (first|(with_reducible first|exact HB.out|apply below_alloc|apply pw_below_drewN|apply below_drew1|refine below_set ?_ GE773.out|refine below_set ?_ GE785.out)|exact HB.out)⟩⟩
  case rest=>
   clear HC12;(try clear c1);(try clear c2);(try clear p2);(try clear c4);(try clear c4b0);(try clear c13);(try clear c14);(try clear c16);(try clear c24);(try clear c27);(try clear c27b0);(try clear c27b1);(try clear hcz14_0);(try clear hcz14_1);(try clear hcz16_0);(try clear hcz16_1);(try clear hcz20_0);(try clear hcz20_1);(try clear hcz25_0);(try clear hcz25_1);(try clear hcz6_0);(try clear hcz6_1);(try clear hfz14_0);(try clear hfz14_1);(try clear hfz16_0);(try clear hfz16_1);(try clear hfz20_0);(try clear hfz20_1);(try clear hfz25_0);(try clear hfz25_1);(try clear hfz6_0);(try clear hfz6_1)
   obtain ⟨kq,x38_11,rfl,HA,HJ11,HO_786000,BK773,BK785,HB⟩:=hcut
   cases kq with
   |zero=>exact absurd HA.out (by simp [laws_FnExactCountByStates.j0])
   |succ kj11=>
    have H:=HA.out
    clear HA
    simp only [laws_FnExactCountByStates.j0] at H
    by_cases c28:x38_11=true
    ·subst c28
     have H1:(some false)=some r:=by rw [if_pos rfl] at H;exact H
     clear H
     have H:=H1
     clear H1
     obtain rfl:=Option.some.inj H
     go_wp2
     go_ret
     exact ⟨by first|rfl|(simp [errW_none,errW_some]<;>rfl)|(simp [*,errW_none,errW_some]<;>rfl),by repeat (first|(with_reducible first|exact HB.out|apply below_alloc|apply pw_below_drewN|apply below_drew1|refine below_set ?_ GE773.out|refine below_set ?_ GE785.out)|exact HB.out)⟩
    ·replace c28:=Bool.eq_false_iff.mpr c28
     subst c28
     have H1:((laws_toGraph.f kj11 l0_0 a0_1).bind fun bt788=>((laws_eqGraph.f kj11 t781 t784 bt788.1 bt788.2).bind fun t792=>(if t792=true then (some true) else (some false))))=some r:=by rw [if_neg (show ¬ (false=true) by decide)] at H;exact H
     clear H
     have H:=H1
     clear H1
     replace H:=Option.bind_eq_some_iff.mp H
     obtain ⟨⟨t788,t791⟩,A290,H⟩:=H
     replace H:((laws_eqGraph.f kj11 t781 t784 t788 t791).bind fun t792=>(if t792=true then (some true) else (some false)))=some r:=H
     have A29:=Aside0.mk A290
     clear A290
     replace H:=Option.bind_eq_some_iff.mp H
     obtain ⟨t792,A300,H⟩:=H
     replace H:(if t792=true then (some true) else (some false))=some r:=H
     have A30:=Aside0.mk A300
     clear A300
     by_cases c31:t792=true
     ·subst c31
      have H1:(some true)=some r:=by rw [if_pos rfl] at H;exact H
      clear H
      have H:=H1
      clear H1
      obtain rfl:=Option.some.inj H
      try go_wp2
      have n0_:=Aside0.mk (Kd.R_drew HO_786000.out)
      have n1_:=Aside0.mk (blk_drew BK773.out)
      have n2_:=Aside0.mk (blk_drew BK785.out)
      have n3_:=Aside0.mk (below_drew1 HB.out)
      clear HO_786000;clear BK773;clear BK785;clear HB
      have HO_786000:=n0_
      have BK773:=n1_
      have BK785:=n2_
      have HB:=n3_
      clear n0_ n1_ n2_ n3_
      refine start_ (n:=5) (S:=fun w'=>w'.cell? ⟨gb785,0,none⟩=some (.slice Ao23 t781.length co23)∧w'.cell? ⟨gb785,1,none⟩=some (.bool t784)∧w'.cell? ⟨gb773,0,none⟩=some (.slice A0_0 l0_0.length c0_0)∧w'.cell? ⟨gb773,1,none⟩=some (.bool a0_1)) (ds:=[]) #[false,false,false,false,false] (by kernel_rfl) rfl rfl ⟨(blk_cell BK785.out 0).trans rfl,(blk_cell BK785.out 1).trans rfl,(blk_cell BK773.out 0).trans rfl,(blk_cell BK773.out 1).trans rfl⟩ (fun hHeld=>?_)
      generalize wc.drew=w32 at HO_786000 BK773 BK785 HB hHeld ⊢
      refine take_ (i:=0) (N:=some 39) (v:=?_) (a':=?_) #[true,false,false,false,false] rfl rfl (by kernel_rfl) (fun _ _ _ h=>h) (Or.inl ⟨by rfl,?_⟩) hHeld ?_ ?_
      rotate_left
      ·rintro w' ⟨s0,s1,s2,s3⟩
       go_simp
       with_reducible rfl
      rotate_left
      ·simp only [Act.put,List.setIfInBounds_toArray,List.set_cons_zero,List.set_cons_succ,i64_w,i32_w]
       rfl
      refine take_ (i:=1) (N:=some 40) (v:=?_) (a':=?_) #[true,true,false,false,false] rfl rfl (by kernel_rfl) (fun _ _ _ h=>h) (Or.inl ⟨by rfl,?_⟩) hHeld ?_ ?_
      rotate_left
      ·rintro w' ⟨s0,s1,s2,s3⟩
       go_simp
       with_reducible rfl
      rotate_left
      ·simp only [Act.put,List.setIfInBounds_toArray,List.set_cons_zero,List.set_cons_succ,i64_w,i32_w]
       rfl
      refine one_ (i:=2) (N:=some 41) #[true,true,true,false,false] rfl rfl (by kernel_rfl) (by decide) (fun K hK=>?_)
      refine goes_ Try.func16 (by kernel_rfl) rfl #[.agg #[.slice A0_0 l0_0.length c0_0,.bool a0_1]] (by rfl) rfl rfl (by (try simp only [List.map_toArray,List.map_cons,List.map_nil]);first|done|rfl|(simp only [List.length_drop,List.length_take];rfl)) ?_
      with_reducible refine (laws_toGraph.calls kj11 _ _ l0_0 a0_1 t788 t791 _ ?side1 ?side2 A29.out).mono ?_
      (case side1=>repeat (first|exact (Kd.C_below HR0_0.out HB.out)|(with_reducible refine Kd.C_alloc ?_ _)|(with_reducible refine Kd.C_drewN ?_ _)|(with_reducible refine Kd.C_drew ?_)))
      (case side2=>exact HC0_0.out)
      rintro e w33 ⟨v789,rfl,ho0,hb⟩
      refine ⟨_,rfl,?_⟩
      have n0_:=Aside0.mk (Kd.R_elder' (by (with_reducible repeat (first|apply Kd.R_alloc|apply Kd.R_drewN|apply Kd.R_drew));exact HO_786000.out) (Kd.R_base ho0) hb)
      have n1_:=Aside0.mk (Kd.R_lower (Kd.R_new' ho0 (Kd.R_lt (by (with_reducible repeat (first|apply Kd.R_alloc|apply Kd.R_drewN|apply Kd.R_drew));exact HO_786000.out))) (below_size (by repeat (first|(with_reducible first|exact HB.out|apply below_alloc|apply pw_below_drewN|apply below_drew1|refine below_set ?_ GE773.out|refine below_set ?_ GE785.out)|exact HB.out))))
      have n2_:=Aside0.mk (blk_below (g:=gb773) (o:=.cells #[.slice A0_0 l0_0.length c0_0,.bool a0_1] 24 (0,0)) (by (with_reducible repeat (first|refine blk_drewN ?_ _|refine blk_drew ?_|refine blk_alloc ?_ _));exact BK773.out) hb)
      have n3_:=Aside0.mk (blk_below (g:=gb785) (o:=.cells #[.slice Ao23 t781.length co23,.bool t784] 28 (0,0)) (by (with_reducible repeat (first|refine blk_drewN ?_ _|refine blk_drew ?_|refine blk_alloc ?_ _));exact BK785.out) hb)
      have n4_:=Aside0.mk (below_step (by repeat (first|(with_reducible first|exact HB.out|apply below_alloc|apply pw_below_drewN|apply below_drew1|refine below_set ?_ GE773.out|refine below_set ?_ GE785.out)|exact HB.out)) hb)
      clear HO_786000;clear BK773;clear BK785;clear HB
      have HO_786000:=n0_
      have HO790:=n1_
      have BK773:=n2_
      have BK785:=n3_
      have HB:=n4_
      clear n0_ n1_ n2_ n3_ n4_;(try clear hb);(try clear hb2);(try clear hk);(try clear hi);(try clear ho0)
      obtain ⟨Ao34,co34,eo34⟩:=Kd.R_slice HO790.out
      (first|subst eo34|(injection eo34 with f1_ f2_ f3_;have f4_:=f1_.symm;have f5_:=f3_.symm;clear f1_ f2_ f3_;subst f4_;subst f5_))
      refine hK.out _ _ ⟨(blk_cell BK785.out 0).trans rfl,(blk_cell BK785.out 1).trans rfl,(blk_cell BK773.out 0).trans rfl,(blk_cell BK773.out 1).trans rfl⟩ (fun hHeld=>?_)
      clear hK K
      refine norm_ (a':=?_) ?_ ?_
      rotate_left
      ·show Act.put _ (some 41) _=_
       simp only [Act.put,List.setIfInBounds_toArray,List.set_cons_zero,List.set_cons_succ,i64_w,i32_w]
       rfl
      refine one_ (i:=3) (N:=some 42) #[true,true,true,true,false] rfl rfl (by kernel_rfl) (by decide) (fun K hK=>?_)
      refine goes_ Try.func19 (by kernel_rfl) rfl #[.agg #[.slice Ao23 t781.length co23,.bool t784],.agg #[.slice Ao34 t788.length co34,.bool t791]] (by rfl) rfl rfl (by (try simp only [List.map_toArray,List.map_cons,List.map_nil]);first|done|rfl|(simp only [List.length_drop,List.length_take];rfl)) ?_
      with_reducible refine (laws_eqGraph.calls kj11 _ _ t781 t784 _ _ t788 t791 true _ ?side1 ?side2 ?side3 ?side4 A30.out).mono ?_
      (case side1=>repeat (first|exact (Kd.R_reads' HO_786000.out).2.2|(with_reducible refine Kd.C_alloc ?_ _)|(with_reducible refine Kd.C_drewN ?_ _)|(with_reducible refine Kd.C_drew ?_)))
      (case side2=>exact (Kd.R_reads' HO_786000.out).2.1)
      (case side3=>repeat (first|exact (Kd.R_reads' HO790.out).2.2|(with_reducible refine Kd.C_alloc ?_ _)|(with_reducible refine Kd.C_drewN ?_ _)|(with_reducible refine Kd.C_drew ?_)))
      (case side4=>exact (Kd.R_reads' HO790.out).2.1)
      rintro e w35 ⟨rfl,hb⟩
      refine ⟨_,rfl,?_⟩
      have n0_:=Aside0.mk (Kd.R_below (by (with_reducible repeat (first|apply Kd.R_alloc|apply Kd.R_drewN|apply Kd.R_drew));exact HO_786000.out) hb)
      have n1_:=Aside0.mk (Kd.R_below (by (with_reducible repeat (first|apply Kd.R_alloc|apply Kd.R_drewN|apply Kd.R_drew));exact HO790.out) hb)
      have n2_:=Aside0.mk (blk_below (g:=gb773) (o:=.cells #[.slice A0_0 l0_0.length c0_0,.bool a0_1] 24 (0,0)) (by (with_reducible repeat (first|refine blk_drewN ?_ _|refine blk_drew ?_|refine blk_alloc ?_ _));exact BK773.out) hb)
      have n3_:=Aside0.mk (blk_below (g:=gb785) (o:=.cells #[.slice Ao23 t781.length co23,.bool t784] 28 (0,0)) (by (with_reducible repeat (first|refine blk_drewN ?_ _|refine blk_drew ?_|refine blk_alloc ?_ _));exact BK785.out) hb)
      have n4_:=Aside0.mk (below_step (by repeat (first|(with_reducible first|exact HB.out|apply below_alloc|apply pw_below_drewN|apply below_drew1|refine below_set ?_ GE773.out|refine below_set ?_ GE785.out)|exact HB.out)) hb)
      clear HO_786000;clear HO790;clear BK773;clear BK785;clear HB
      have HO_786000:=n0_
      have HO790:=n1_
      have BK773:=n2_
      have BK785:=n3_
      have HB:=n4_
      clear n0_ n1_ n2_ n3_ n4_;(try clear hb);(try clear hb2);(try clear hk);(try clear hi)
      refine hK.out _ _ ⟨(blk_cell BK785.out 0).trans rfl,(blk_cell BK785.out 1).trans rfl,(blk_cell BK773.out 0).trans rfl,(blk_cell BK773.out 1).trans rfl⟩ (fun hHeld=>?_)
      clear hK K
      refine norm_ (a':=?_) ?_ ?_
      rotate_left
      ·show Act.put _ (some 42) _=_
       simp only [Act.put,List.setIfInBounds_toArray,List.set_cons_zero,List.set_cons_succ,i64_w,i32_w]
       rfl
      refine pure_ (i:=4) (N:=some 43) (v:=?_) (a':=?_) #[true,true,true,true,true] rfl rfl (by kernel_rfl) (fun _ _ _ h=>h) (Or.inl ⟨by rfl,?_⟩) ?_ ?_
      rotate_left
      ·intro w'
       go_simp
       with_reducible rfl
      rotate_left
      ·simp only [Act.put,List.setIfInBounds_toArray,List.set_cons_zero,List.set_cons_succ,i64_w,i32_w]
       rfl
      refine done_ (by kernel_rfl) ?_
      try go_wp2
      go_ret
      exact ⟨by first|rfl|(simp [errW_none,errW_some]<;>rfl)|(simp [*,errW_none,errW_some]<;>rfl),by repeat (first|(with_reducible first|exact HB.out|apply below_alloc|apply pw_below_drewN|apply below_drew1|refine below_set ?_ GE773.out|refine below_set ?_ GE785.out)|exact HB.out)⟩
     ·replace c31:=Bool.eq_false_iff.mpr c31
      subst c31
      have H1:(some false)=some r:=by rw [if_neg (show ¬ (false=true) by decide)] at H;exact H
      clear H
      have H:=H1
      clear H1
      obtain rfl:=Option.some.inj H
      try go_wp2
      have n0_:=Aside0.mk (Kd.R_drew HO_786000.out)
      have n1_:=Aside0.mk (blk_drew BK773.out)
      have n2_:=Aside0.mk (blk_drew BK785.out)
      have n3_:=Aside0.mk (below_drew1 HB.out)
      clear HO_786000;clear BK773;clear BK785;clear HB
      have HO_786000:=n0_
      have BK773:=n1_
      have BK785:=n2_
      have HB:=n3_
      clear n0_ n1_ n2_ n3_
      refine start_ (n:=5) (S:=fun w'=>w'.cell? ⟨gb785,0,none⟩=some (.slice Ao23 t781.length co23)∧w'.cell? ⟨gb785,1,none⟩=some (.bool t784)∧w'.cell? ⟨gb773,0,none⟩=some (.slice A0_0 l0_0.length c0_0)∧w'.cell? ⟨gb773,1,none⟩=some (.bool a0_1)) (ds:=[]) #[false,false,false,false,false] (by kernel_rfl) rfl rfl ⟨(blk_cell BK785.out 0).trans rfl,(blk_cell BK785.out 1).trans rfl,(blk_cell BK773.out 0).trans rfl,(blk_cell BK773.out 1).trans rfl⟩ (fun hHeld=>?_)
      generalize wc.drew=w36 at HO_786000 BK773 BK785 HB hHeld ⊢
      refine take_ (i:=0) (N:=some 39) (v:=?_) (a':=?_) #[true,false,false,false,false] rfl rfl (by kernel_rfl) (fun _ _ _ h=>h) (Or.inl ⟨by rfl,?_⟩) hHeld ?_ ?_
      rotate_left
      ·rintro w' ⟨s0,s1,s2,s3⟩
       go_simp
       with_reducible rfl
      rotate_left
      ·simp only [Act.put,List.setIfInBounds_toArray,List.set_cons_zero,List.set_cons_succ,i64_w,i32_w]
       rfl
      refine take_ (i:=1) (N:=some 40) (v:=?_) (a':=?_) #[true,true,false,false,false] rfl rfl (by kernel_rfl) (fun _ _ _ h=>h) (Or.inl ⟨by rfl,?_⟩) hHeld ?_ ?_
      rotate_left
      ·rintro w' ⟨s0,s1,s2,s3⟩
       go_simp
       with_reducible rfl
      rotate_left
      ·simp only [Act.put,List.setIfInBounds_toArray,List.set_cons_zero,List.set_cons_succ,i64_w,i32_w]
       rfl
      refine one_ (i:=2) (N:=some 41) #[true,true,true,false,false] rfl rfl (by kernel_rfl) (by decide) (fun K hK=>?_)
      refine goes_ Try.func16 (by kernel_rfl) rfl #[.agg #[.slice A0_0 l0_0.length c0_0,.bool a0_1]] (by rfl) rfl rfl (by (try simp only [List.map_toArray,List.map_cons,List.map_nil]);first|done|rfl|(simp only [List.length_drop,List.length_take];rfl)) ?_
      with_reducible refine (laws_toGraph.calls kj11 _ _ l0_0 a0_1 t788 t791 _ ?side1 ?side2 A29.out).mono ?_
      (case side1=>repeat (first|exact (Kd.C_below HR0_0.out HB.out)|(with_reducible refine Kd.C_alloc ?_ _)|(with_reducible refine Kd.C_drewN ?_ _)|(with_reducible refine Kd.C_drew ?_)))
      (case side2=>exact HC0_0.out)
      rintro e w37 ⟨v789,rfl,ho0,hb⟩
      refine ⟨_,rfl,?_⟩
      have n0_:=Aside0.mk (Kd.R_elder' (by (with_reducible repeat (first|apply Kd.R_alloc|apply Kd.R_drewN|apply Kd.R_drew));exact HO_786000.out) (Kd.R_base ho0) hb)
      have n1_:=Aside0.mk (Kd.R_lower (Kd.R_new' ho0 (Kd.R_lt (by (with_reducible repeat (first|apply Kd.R_alloc|apply Kd.R_drewN|apply Kd.R_drew));exact HO_786000.out))) (below_size (by repeat (first|(with_reducible first|exact HB.out|apply below_alloc|apply pw_below_drewN|apply below_drew1|refine below_set ?_ GE773.out|refine below_set ?_ GE785.out)|exact HB.out))))
      have n2_:=Aside0.mk (blk_below (g:=gb773) (o:=.cells #[.slice A0_0 l0_0.length c0_0,.bool a0_1] 24 (0,0)) (by (with_reducible repeat (first|refine blk_drewN ?_ _|refine blk_drew ?_|refine blk_alloc ?_ _));exact BK773.out) hb)
      have n3_:=Aside0.mk (blk_below (g:=gb785) (o:=.cells #[.slice Ao23 t781.length co23,.bool t784] 28 (0,0)) (by (with_reducible repeat (first|refine blk_drewN ?_ _|refine blk_drew ?_|refine blk_alloc ?_ _));exact BK785.out) hb)
      have n4_:=Aside0.mk (below_step (by repeat (first|(with_reducible first|exact HB.out|apply below_alloc|apply pw_below_drewN|apply below_drew1|refine below_set ?_ GE773.out|refine below_set ?_ GE785.out)|exact HB.out)) hb)
      clear HO_786000;clear BK773;clear BK785;clear HB
      have HO_786000:=n0_
      have HO790:=n1_
      have BK773:=n2_
      have BK785:=n3_
      have HB:=n4_
      clear n0_ n1_ n2_ n3_ n4_;(try clear hb);(try clear hb2);(try clear hk);(try clear hi);(try clear ho0)
      obtain ⟨Ao38,co38,eo38⟩:=Kd.R_slice HO790.out
      (first|subst eo38|(injection eo38 with f1_ f2_ f3_;have f4_:=f1_.symm;have f5_:=f3_.symm;clear f1_ f2_ f3_;subst f4_;subst f5_))
      refine hK.out _ _ ⟨(blk_cell BK785.out 0).trans rfl,(blk_cell BK785.out 1).trans rfl,(blk_cell BK773.out 0).trans rfl,(blk_cell BK773.out 1).trans rfl⟩ (fun hHeld=>?_)
      clear hK K
      refine norm_ (a':=?_) ?_ ?_
      rotate_left
      ·show Act.put _ (some 41) _=_
       simp only [Act.put,List.setIfInBounds_toArray,List.set_cons_zero,List.set_cons_succ,i64_w,i32_w]
       rfl
      refine one_ (i:=3) (N:=some 42) #[true,true,true,true,false] rfl rfl (by kernel_rfl) (by decide) (fun K hK=>?_)
      refine goes_ Try.func19 (by kernel_rfl) rfl #[.agg #[.slice Ao23 t781.length co23,.bool t784],.agg #[.slice Ao38 t788.length co38,.bool t791]] (by rfl) rfl rfl (by (try simp only [List.map_toArray,List.map_cons,List.map_nil]);first|done|rfl|(simp only [List.length_drop,List.length_take];rfl)) ?_
      with_reducible refine (laws_eqGraph.calls kj11 _ _ t781 t784 _ _ t788 t791 false _ ?side1 ?side2 ?side3 ?side4 A30.out).mono ?_
      (case side1=>repeat (first|exact (Kd.R_reads' HO_786000.out).2.2|(with_reducible refine Kd.C_alloc ?_ _)|(with_reducible refine Kd.C_drewN ?_ _)|(with_reducible refine Kd.C_drew ?_)))
      (case side2=>exact (Kd.R_reads' HO_786000.out).2.1)
      (case side3=>repeat (first|exact (Kd.R_reads' HO790.out).2.2|(with_reducible refine Kd.C_alloc ?_ _)|(with_reducible refine Kd.C_drewN ?_ _)|(with_reducible refine Kd.C_drew ?_)))
      (case side4=>exact (Kd.R_reads' HO790.out).2.1)
      rintro e w39 ⟨rfl,hb⟩
      refine ⟨_,rfl,?_⟩
      have n0_:=Aside0.mk (Kd.R_below (by (with_reducible repeat (first|apply Kd.R_alloc|apply Kd.R_drewN|apply Kd.R_drew));exact HO_786000.out) hb)
      have n1_:=Aside0.mk (Kd.R_below (by (with_reducible repeat (first|apply Kd.R_alloc|apply Kd.R_drewN|apply Kd.R_drew));exact HO790.out) hb)
      have n2_:=Aside0.mk (blk_below (g:=gb773) (o:=.cells #[.slice A0_0 l0_0.length c0_0,.bool a0_1] 24 (0,0)) (by (with_reducible repeat (first|refine blk_drewN ?_ _|refine blk_drew ?_|refine blk_alloc ?_ _));exact BK773.out) hb)
      have n3_:=Aside0.mk (blk_below (g:=gb785) (o:=.cells #[.slice Ao23 t781.length co23,.bool t784] 28 (0,0)) (by (with_reducible repeat (first|refine blk_drewN ?_ _|refine blk_drew ?_|refine blk_alloc ?_ _));exact BK785.out) hb)
      have n4_:=Aside0.mk (below_step (by repeat (first|(with_reducible first|exact HB.out|apply below_alloc|apply pw_below_drewN|apply below_drew1|refine below_set ?_ GE773.out|refine below_set ?_ GE785.out)|exact HB.out)) hb)
      clear HO_786000;clear HO790;clear BK773;clear BK785;clear HB
      have HO_786000:=n0_
      have HO790:=n1_
      have BK773:=n2_
      have BK785:=n3_
      have HB:=n4_
      clear n0_ n1_ n2_ n3_ n4_;(try clear hb);(try clear hb2);(try clear hk);(try clear hi)
      refine hK.out _ _ ⟨(blk_cell BK785.out 0).trans rfl,(blk_cell BK785.out 1).trans rfl,(blk_cell BK773.out 0).trans rfl,(blk_cell BK773.out 1).trans rfl⟩ (fun hHeld=>?_)
      clear hK K
      refine norm_ (a':=?_) ?_ ?_
      rotate_left
      ·show Act.put _ (some 42) _=_
       simp only [Act.put,List.setIfInBounds_toArray,List.set_cons_zero,List.set_cons_succ,i64_w,i32_w]
       rfl
      refine pure_ (i:=4) (N:=some 43) (v:=?_) (a':=?_) #[true,true,true,true,true] rfl rfl (by kernel_rfl) (fun _ _ _ h=>h) (Or.inl ⟨by rfl,?_⟩) ?_ ?_
      rotate_left
      ·intro w'
       go_simp
       with_reducible rfl
      rotate_left
      ·simp only [Act.put,List.setIfInBounds_toArray,List.set_cons_zero,List.set_cons_succ,i64_w,i32_w]
       rfl
      refine done_ (by kernel_rfl) ?_
      try go_wp2
      go_ret
      exact ⟨by first|rfl|(simp [errW_none,errW_some]<;>rfl)|(simp [*,errW_none,errW_some]<;>rfl),by repeat (first|(with_reducible first|exact HB.out|apply below_alloc|apply pw_below_drewN|apply below_drew1|refine below_set ?_ GE773.out|refine below_set ?_ GE785.out)|exact HB.out)⟩
end Go.Proofs.Ytoobofnpdiapgaa.P
