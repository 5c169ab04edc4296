-- Written by a program of this session (wip/mp.py), which runs the kit's print with contracts of the session's own.
import Derived.Test.YtbbdjoahdbjljaaPx0
import Derived.Test.YtbbdjoahdbjljaaPx1
import Derived.Test.YtbbdjoahdbjljaaPx2
import Derived.Test.YtbbdjoahdbjljaaPx11
import Derived.Test.YtbbdjoahdbjljaaPx32
namespace Go.Proofs.Ytbbdjoahdbjljaa.P
open Go.RowKit Go.Proofs.YtbbdjoahdbjljaaW.PrintWords Go.Proofs.YtbbdjoahdbjljaaW.PrintLast Go.Proofs.YtbbdjoahdbjljaaW.PrintMore
attribute [local go_sem] max2_int min2_int max_two min_two max_three min_three max_four min_four -- for this text's walks alone
set_option linter.unusedVariables false
set_option linter.unusedSimpArgs false
/-! ### laws_FnExactWitnessColours: function 11 -/
mutual
def laws_FnExactWitnessColours.j0:Nat→Int→List Int→List Int→Bool→List Int→List Int→Bool→Bool→List Int→Bool→List Int→Bool→Option (Bool)
 |0,_,_,_,_,_,_,_,_,_,_,_,_=>none
 |k+1,x1,x2,x8,x9,x11,x12,x13,x55,x747000,x747001,x764000,x764001=>if x55=true then (some false) else ((laws_toGraph.f k x747000 x747001).bind fun bt772=>((laws_eqGraph.f k x764000 x764001 bt772.1 bt772.2).bind fun t776=>(if t776=true then ((laws_toIntS.f k x2).bind fun t777=>((laws_eqIntS.f k x11 t777).bind fun t780=>(if t780=true then ((laws_markGraph.f k x764000 x764001 1).bind fun bt781=>((laws_markIntS.f k x11 bt781.1).bind fun bt783=>(if bt783.1< 0 then (laws_FnExactWitnessColours.j1 k x1 x2 x8 x9 x12 true x747000 x747001) else ((laws_eqIntS.f k x12 x8).bind fun t785=>(if t785=true then (laws_FnExactWitnessColours.j1 k x1 x2 x8 x9 x12 (x13 !=x9) x747000 x747001) else (laws_FnExactWitnessColours.j1 k x1 x2 x8 x9 x12 true x747000 x747001)))))) else (some false)))) else (some false))))
def laws_FnExactWitnessColours.j1:Nat→Int→List Int→List Int→Bool→List Int→Bool→List Int→Bool→Option (Bool)
 |0,_,_,_,_,_,_,_,_=>none
 |k+1,x1,x2,x8,x9,x12,x84,x747000,x747001=>if x84=true then (some false) else ((laws_markIntS.f k x12 1).bind fun bt786=>((laws_heldIntS.f k bt786.2 1).bind fun t788=>(if t788< 0 then (some false) else (if t788=bt786.1 then ((laws_toGraph.f k x747000 x747001).bind fun bt789=>((laws_toIntS.f k x2).bind fun t793=>((impl_WitnessColours.f k bt789.1 bt789.2 x1 t793).bind fun bt796=>((laws_eqIntS.f k bt796.1 x8).bind fun t800=>(if t800=true then (laws_FnExactWitnessColours.j2 k bt786.2 bt786.1 (bt796.2 !=x9)) else (laws_FnExactWitnessColours.j2 k bt786.2 bt786.1 true)))))) else (some false)))))
def laws_FnExactWitnessColours.j2:Nat→List Int→Int→Bool→Option (Bool)
 |0,_,_,_=>none
 |k+1,x12,x15,x113=>if x113=true then (some false) else ((laws_heldIntS.f k x12 1).bind fun t801=>(if t801< 0 then (some false) else (if t801=x15 then (some true) else (some false))))
end
def laws_FnExactWitnessColours.f (k:Nat) (l0_0:List Int) (a0_1:Bool) (a1:Int) (l2:List Int):Option (Bool):=if (l2.length:Int)>1048576 then (some true) else ((laws_szGraph.f l0_0 a0_1 1048576).bind fun t747=>(if t747< 0 then (some true) else ((laws_toGraph.f k l0_0 a0_1).bind fun bt748=>((laws_toIntS.f k l2).bind fun t752=>((spec_WitnessColours.f k bt748.1 bt748.2 a1 t752).bind fun bt755=>((laws_toGraph.f k l0_0 a0_1).bind fun bt759=>((laws_toIntS.f k l2).bind fun t764=>((impl_WitnessColours.f k bt759.1 bt759.2 a1 t764).bind fun bt767=>((laws_eqIntS.f k bt767.1 bt755.1).bind fun t771=>(if t771=true then (laws_FnExactWitnessColours.j0 k a1 l2 bt755.1 bt755.2 t764 bt767.1 bt767.2 (bt767.2 !=bt755.2) l0_0 a0_1 bt759.1 bt759.2) else (laws_FnExactWitnessColours.j0 k a1 l2 bt755.1 bt755.2 t764 bt767.1 bt767.2 true l0_0 a0_1 bt759.1 bt759.2)))))))))))
set_option maxHeartbeats 8000000 in
set_option maxRecDepth 100000 in
theorem laws_FnExactWitnessColours.calls (k:Nat) (A0_0:Option Addr) (c0_0:Nat) (l0_0:List Int) (a0_1:Bool) (a1:Int) (A2:Option Addr) (c2:Nat) (l2:List Int) (r:Bool) (w:World) (hr0_0:Kd.C (Kd.int .i64) w A0_0 l0_0.length l0_0) (hc0_0:l0_0.length≤c0_0) (hr2:Kd.C (Kd.int .i64) w A2 l2.length l2) (hc2:l2.length≤c2) (h:laws_FnExactWitnessColours.f k l0_0 a0_1 a1 l2=some r):
  Calls Try.prog 11 #[.agg #[.slice A0_0 l0_0.length c0_0,.bool a0_1],.int .i64 a1,.slice A2 l2.length c2] w fun e w'=>e=.returned (.bool r)∧Below w.heap.size w w':=by
 have hu24:=Try.underlying24
 have hu28:=Try.underlying28
 have HR0_0:=Aside0.mk hr0_0
 have HC0_0:=Aside0.mk hc0_0
 clear hr0_0 hc0_0
 have HR2:=Aside0.mk hr2
 have HC2:=Aside0.mk hc2
 clear hr2 hc2
 have HB:=Aside0.mk (Below.refl w.heap.size w)
 have H:(if (l2.length:Int)>1048576 then (some true) else ((laws_szGraph.f l0_0 a0_1 1048576).bind fun t747=>(if t747< 0 then (some true) else ((laws_toGraph.f k l0_0 a0_1).bind fun bt748=>((laws_toIntS.f k l2).bind fun t752=>((spec_WitnessColours.f k bt748.1 bt748.2 a1 t752).bind fun bt755=>((laws_toGraph.f k l0_0 a0_1).bind fun bt759=>((laws_toIntS.f k l2).bind fun t764=>((impl_WitnessColours.f k bt759.1 bt759.2 a1 t764).bind fun bt767=>((laws_eqIntS.f k bt767.1 bt755.1).bind fun t771=>(if t771=true then (laws_FnExactWitnessColours.j0 k a1 l2 bt755.1 bt755.2 t764 bt767.1 bt767.2 (bt767.2 !=bt755.2) l0_0 a0_1 bt759.1 bt759.2) else (laws_FnExactWitnessColours.j0 k a1 l2 bt755.1 bt755.2 t764 bt767.1 bt767.2 true l0_0 a0_1 bt759.1 bt759.2))))))))))))=some r:=h
 clear h
 by_cases c4:(l2.length:Int)>1048576
 ·rw [if_pos c4] at H
  have c4b0:decide (1048576< (l2.length:Int))=true:=decide_eq_true c4
  have c4b1:decide (1048576< l2.length)=true:=decide_eq_true (by omega)
  clear c4
  obtain rfl:=Option.some.inj H
  go_enter Try.func11,Try.ntmps11
  go_wp2_with (first|((with_reducible refine gate_dst (N:=3) rfl ?_);refine box_event ?hg (N:=3) ?hd (cs:=#[.slice A0_0 l0_0.length c0_0,.bool a0_1]) (t:=24) ?hr ?_;(case hd=>rfl);(case hg=>rfl);(case hr=>first|(go_simp;done)|(go_simp;rfl));intro gb746 hg w5 hbox hb;have n0_:=Aside0.mk (below_step (by repeat (first|(with_reducible first|exact HB.out|apply below_alloc|apply pw_below_drewN|apply below_drew1)|exact HB.out)) hb);have n1_:=Aside0.mk (hbox);have n2_:=Aside0.mk ((by rw [hg];exact (below_size (by repeat (first|(with_reducible first|exact HB.out|apply below_alloc|apply pw_below_drewN|apply below_drew1)|exact HB.out))):w.heap.size≤gb746));have n3_:=Aside0.mk ((by rw [hg];exact (below_size (by repeat (first|(with_reducible first|exact HB.out|apply below_alloc|apply pw_below_drewN|apply below_drew1)|exact HB.out))):w.heap.size≤gb746));clear HB;have HB:=n0_;have BK746:=n1_;have GW746:=n2_;have GE746:=n3_;clear n0_ n1_ n2_ n3_;clear hb hbox hg))
  go_ret
  exact ⟨by first|rfl|(simp [errW_none,errW_some]<;>rfl)|(simp [*,errW_none,errW_some]<;>rfl),by repeat (first|(with_reducible first|exact HB.out|apply below_alloc|apply pw_below_drewN|apply below_drew1|refine below_set ?_ GE746.out)|exact HB.out)⟩
 ·rw [if_neg c4] at H
  have c4b0:decide (1048576< (l2.length:Int))=false:=decide_eq_false c4
  have c4b1:decide (1048576< l2.length)=false:=decide_eq_false (by omega)
  clear c4
  replace H:=Option.bind_eq_some_iff.mp H
  obtain ⟨t747,A60,H⟩:=H
  replace H:(if t747< 0 then (some true) else ((laws_toGraph.f k l0_0 a0_1).bind fun bt748=>((laws_toIntS.f k l2).bind fun t752=>((spec_WitnessColours.f k bt748.1 bt748.2 a1 t752).bind fun bt755=>((laws_toGraph.f k l0_0 a0_1).bind fun bt759=>((laws_toIntS.f k l2).bind fun t764=>((impl_WitnessColours.f k bt759.1 bt759.2 a1 t764).bind fun bt767=>((laws_eqIntS.f k bt767.1 bt755.1).bind fun t771=>(if t771=true then (laws_FnExactWitnessColours.j0 k a1 l2 bt755.1 bt755.2 t764 bt767.1 bt767.2 (bt767.2 !=bt755.2) l0_0 a0_1 bt759.1 bt759.2) else (laws_FnExactWitnessColours.j0 k a1 l2 bt755.1 bt755.2 t764 bt767.1 bt767.2 true l0_0 a0_1 bt759.1 bt759.2))))))))))=some r:=H
  have A6:=Aside0.mk A60
  clear A60
  by_cases c7:t747< 0
  ·rw [if_pos c7] at H
   have c7b0:decide (t747< 0)=true:=decide_eq_true c7
   clear c7
   obtain rfl:=Option.some.inj H
   go_enter Try.func11,Try.ntmps11
   go_wp2_with (first|((with_reducible refine gate_dst (N:=3) rfl ?_);refine box_event ?hg (N:=3) ?hd (cs:=#[.slice A0_0 l0_0.length c0_0,.bool a0_1]) (t:=24) ?hr ?_;(case hd=>rfl);(case hg=>rfl);(case hr=>first|(go_simp;done)|(go_simp;rfl));intro gb746 hg w8 hbox hb;have n0_:=Aside0.mk (below_step (by repeat (first|(with_reducible first|exact HB.out|apply below_alloc|apply pw_below_drewN|apply below_drew1)|exact HB.out)) hb);have n1_:=Aside0.mk (hbox);have n2_:=Aside0.mk ((by rw [hg];exact (below_size (by repeat (first|(with_reducible first|exact HB.out|apply below_alloc|apply pw_below_drewN|apply below_drew1)|exact HB.out))):w.heap.size≤gb746));have n3_:=Aside0.mk ((by rw [hg];exact (below_size (by repeat (first|(with_reducible first|exact HB.out|apply below_alloc|apply pw_below_drewN|apply below_drew1)|exact HB.out))):w.heap.size≤gb746));clear HB;have HB:=n0_;have BK746:=n1_;have GW746:=n2_;have GE746:=n3_;clear n0_ n1_ n2_ n3_;clear hb hbox hg;have hcz9_0:w8.cell? ⟨gb746,0,none⟩=some (.slice A0_0 l0_0.length c0_0):=(blk_cell BK746.out 0).trans rfl;have hcz9_1:w8.cell? ⟨gb746,1,none⟩=some (.bool a0_1):=(blk_cell BK746.out 1).trans rfl;have hfz9_0:=blk_frozen BK746.out 0;have hfz9_1:=blk_frozen BK746.out 1)|((with_reducible refine gate_callee (f:=15) rfl ?_);refine goesL_ (some 24) rfl rfl Try.func15 (by kernel_rfl) rfl #[.agg #[.slice A0_0 l0_0.length c0_0,.bool a0_1],.int .i64 1048576] rfl (by (try simp only [List.map_toArray,List.map_cons,List.map_nil]);first|done|rfl|(simp only [List.length_drop,List.length_take];rfl)) ?_;(with_reducible refine (laws_szGraph.calls _ _ l0_0 a0_1 1048576 t747 _ ?side1 ?side2 A6.out).mono ?_);(case side1=>repeat (first|exact (Kd.C_below HR0_0.out HB.out)|(with_reducible refine Kd.C_alloc ?_ _)|(with_reducible refine Kd.C_drewN ?_ _)|(with_reducible refine Kd.C_drew ?_)));(case side2=>exact HC0_0.out);rintro e w10 ⟨rfl,hb⟩;refine ⟨_,rfl,?_⟩;have n0_:=Aside0.mk (blk_below (g:=gb746) (o:=.cells #[.slice A0_0 l0_0.length c0_0,.bool a0_1] 24 (0,0)) (by (with_reducible repeat (first|refine blk_drewN ?_ _|refine blk_drew ?_|refine blk_alloc ?_ _));exact BK746.out) hb);have n1_:=Aside0.mk (below_step (by repeat (first|(with_reducible first|exact HB.out|apply below_alloc|apply pw_below_drewN|apply below_drew1|refine below_set ?_ GE746.out)|exact HB.out)) hb);clear BK746;clear HB;have BK746:=n0_;have HB:=n1_;clear n0_ n1_;(try clear hb);(try clear hb2);(try clear hk);(try clear hi)))
   go_ret
   exact ⟨by first|rfl|(simp [errW_none,errW_some]<;>rfl)|(simp [*,errW_none,errW_some]<;>rfl),by repeat (first|(with_reducible first|exact HB.out|apply below_alloc|apply pw_below_drewN|apply below_drew1|refine below_set ?_ GE746.out)|exact HB.out)⟩
  ·rw [if_neg c7] at H
   have c7b0:decide (t747< 0)=false:=decide_eq_false c7
   clear c7
   replace H:=Option.bind_eq_some_iff.mp H
   obtain ⟨⟨t748,t751⟩,A110,H⟩:=H
   replace H:((laws_toIntS.f k l2).bind fun t752=>((spec_WitnessColours.f k t748 t751 a1 t752).bind fun bt755=>((laws_toGraph.f k l0_0 a0_1).bind fun bt759=>((laws_toIntS.f k l2).bind fun t764=>((impl_WitnessColours.f k bt759.1 bt759.2 a1 t764).bind fun bt767=>((laws_eqIntS.f k bt767.1 bt755.1).bind fun t771=>(if t771=true then (laws_FnExactWitnessColours.j0 k a1 l2 bt755.1 bt755.2 t764 bt767.1 bt767.2 (bt767.2 !=bt755.2) l0_0 a0_1 bt759.1 bt759.2) else (laws_FnExactWitnessColours.j0 k a1 l2 bt755.1 bt755.2 t764 bt767.1 bt767.2 true l0_0 a0_1 bt759.1 bt759.2))))))))=some r:=H
   have A11:=Aside0.mk A110
   clear A110
   replace H:=Option.bind_eq_some_iff.mp H
   obtain ⟨t752,A120,H⟩:=H
   replace H:((spec_WitnessColours.f k t748 t751 a1 t752).bind fun bt755=>((laws_toGraph.f k l0_0 a0_1).bind fun bt759=>((laws_toIntS.f k l2).bind fun t764=>((impl_WitnessColours.f k bt759.1 bt759.2 a1 t764).bind fun bt767=>((laws_eqIntS.f k bt767.1 bt755.1).bind fun t771=>(if t771=true then (laws_FnExactWitnessColours.j0 k a1 l2 bt755.1 bt755.2 t764 bt767.1 bt767.2 (bt767.2 !=bt755.2) l0_0 a0_1 bt759.1 bt759.2) else (laws_FnExactWitnessColours.j0 k a1 l2 bt755.1 bt755.2 t764 bt767.1 bt767.2 true l0_0 a0_1 bt759.1 bt759.2)))))))=some r:=H
   have A12:=Aside0.mk A120
   clear A120
   replace H:=Option.bind_eq_some_iff.mp H
   obtain ⟨⟨t755,t758⟩,A130,H⟩:=H
   replace H:((laws_toGraph.f k l0_0 a0_1).bind fun bt759=>((laws_toIntS.f k l2).bind fun t764=>((impl_WitnessColours.f k bt759.1 bt759.2 a1 t764).bind fun bt767=>((laws_eqIntS.f k bt767.1 t755).bind fun t771=>(if t771=true then (laws_FnExactWitnessColours.j0 k a1 l2 t755 t758 t764 bt767.1 bt767.2 (bt767.2 !=t758) l0_0 a0_1 bt759.1 bt759.2) else (laws_FnExactWitnessColours.j0 k a1 l2 t755 t758 t764 bt767.1 bt767.2 true l0_0 a0_1 bt759.1 bt759.2))))))=some r:=H
   have A13:=Aside0.mk A130
   clear A130
   replace H:=Option.bind_eq_some_iff.mp H
   obtain ⟨⟨t759,t762⟩,A140,H⟩:=H
   replace H:((laws_toIntS.f k l2).bind fun t764=>((impl_WitnessColours.f k t759 t762 a1 t764).bind fun bt767=>((laws_eqIntS.f k bt767.1 t755).bind fun t771=>(if t771=true then (laws_FnExactWitnessColours.j0 k a1 l2 t755 t758 t764 bt767.1 bt767.2 (bt767.2 !=t758) l0_0 a0_1 t759 t762) else (laws_FnExactWitnessColours.j0 k a1 l2 t755 t758 t764 bt767.1 bt767.2 true l0_0 a0_1 t759 t762)))))=some r:=H
   have A14:=Aside0.mk A140
   clear A140
   replace H:=Option.bind_eq_some_iff.mp H
   obtain ⟨t764,A150,H⟩:=H
   replace H:((impl_WitnessColours.f k t759 t762 a1 t764).bind fun bt767=>((laws_eqIntS.f k bt767.1 t755).bind fun t771=>(if t771=true then (laws_FnExactWitnessColours.j0 k a1 l2 t755 t758 t764 bt767.1 bt767.2 (bt767.2 !=t758) l0_0 a0_1 t759 t762) else (laws_FnExactWitnessColours.j0 k a1 l2 t755 t758 t764 bt767.1 bt767.2 true l0_0 a0_1 t759 t762))))=some r:=H
   have A15:=Aside0.mk A150
   clear A150
   replace H:=Option.bind_eq_some_iff.mp H
   obtain ⟨⟨t767,t770⟩,A160,H⟩:=H
   replace H:((laws_eqIntS.f k t767 t755).bind fun t771=>(if t771=true then (laws_FnExactWitnessColours.j0 k a1 l2 t755 t758 t764 t767 t770 (t770 !=t758) l0_0 a0_1 t759 t762) else (laws_FnExactWitnessColours.j0 k a1 l2 t755 t758 t764 t767 t770 true l0_0 a0_1 t759 t762)))=some r:=H
   have A16:=Aside0.mk A160
   clear A160
   have HC17:=Aside0.mk H
   clear H
   go_enter Try.func11,Try.ntmps11
   go_upto_region 11 with (first|((with_reducible refine gate_dst (N:=3) rfl ?_);refine box_event ?hg (N:=3) ?hd (cs:=#[.slice A0_0 l0_0.length c0_0,.bool a0_1]) (t:=24) ?hr ?_;(case hd=>rfl);(case hg=>rfl);(case hr=>first|(go_simp;done)|(go_simp;rfl));intro gb746 hg w18 hbox hb;have n0_:=Aside0.mk (below_step (by repeat (first|(with_reducible first|exact HB.out|apply below_alloc|apply pw_below_drewN|apply below_drew1)|exact HB.out)) hb);have n1_:=Aside0.mk (hbox);have n2_:=Aside0.mk ((by rw [hg];exact (below_size (by repeat (first|(with_reducible first|exact HB.out|apply below_alloc|apply pw_below_drewN|apply below_drew1)|exact HB.out))):w.heap.size≤gb746));have n3_:=Aside0.mk ((by rw [hg];exact (below_size (by repeat (first|(with_reducible first|exact HB.out|apply below_alloc|apply pw_below_drewN|apply below_drew1)|exact HB.out))):w.heap.size≤gb746));clear HB;have HB:=n0_;have BK746:=n1_;have GW746:=n2_;have GE746:=n3_;clear n0_ n1_ n2_ n3_;clear hb hbox hg;have hcz19_0:w18.cell? ⟨gb746,0,none⟩=some (.slice A0_0 l0_0.length c0_0):=(blk_cell BK746.out 0).trans rfl;have hcz19_1:w18.cell? ⟨gb746,1,none⟩=some (.bool a0_1):=(blk_cell BK746.out 1).trans rfl;have hfz19_0:=blk_frozen BK746.out 0;have hfz19_1:=blk_frozen BK746.out 1)|((with_reducible refine gate_callee (f:=15) rfl ?_);refine goesL_ (some 24) rfl rfl Try.func15 (by kernel_rfl) rfl #[.agg #[.slice A0_0 l0_0.length c0_0,.bool a0_1],.int .i64 1048576] rfl (by (try simp only [List.map_toArray,List.map_cons,List.map_nil]);first|done|rfl|(simp only [List.length_drop,List.length_take];rfl)) ?_;(with_reducible refine (laws_szGraph.calls _ _ l0_0 a0_1 1048576 t747 _ ?side1 ?side2 A6.out).mono ?_);(case side1=>repeat (first|exact (Kd.C_below HR0_0.out HB.out)|(with_reducible refine Kd.C_alloc ?_ _)|(with_reducible refine Kd.C_drewN ?_ _)|(with_reducible refine Kd.C_drew ?_)));(case side2=>exact HC0_0.out);rintro e w20 ⟨rfl,hb⟩;refine ⟨_,rfl,?_⟩;have n0_:=Aside0.mk (blk_below (g:=gb746) (o:=.cells #[.slice A0_0 l0_0.length c0_0,.bool a0_1] 24 (0,0)) (by (with_reducible repeat (first|refine blk_drewN ?_ _|refine blk_drew ?_|refine blk_alloc ?_ _));exact BK746.out) hb);have n1_:=Aside0.mk (below_step (by repeat (first|(with_reducible first|exact HB.out|apply below_alloc|apply pw_below_drewN|apply below_drew1|refine below_set ?_ GE746.out)|exact HB.out)) hb);clear BK746;clear HB;have BK746:=n0_;have HB:=n1_;clear n0_ n1_;(try clear hb);(try clear hb2);(try clear hk);(try clear hi);have hcz21_0:w20.cell? ⟨gb746,0,none⟩=some (.slice A0_0 l0_0.length c0_0):=(blk_cell BK746.out 0).trans rfl;have hcz21_1:w20.cell? ⟨gb746,1,none⟩=some (.bool a0_1):=(blk_cell BK746.out 1).trans rfl;have hfz21_0:=blk_frozen BK746.out 0;have hfz21_1:=blk_frozen BK746.out 1)|((with_reducible refine gate_callee (f:=17) rfl ?_);refine goesL_ (some 29) rfl rfl Try.func17 (by kernel_rfl) rfl #[.agg #[.slice A0_0 l0_0.length c0_0,.bool a0_1]] rfl (by (try simp only [List.map_toArray,List.map_cons,List.map_nil]);first|done|rfl|(simp only [List.length_drop,List.length_take];rfl)) ?_;(with_reducible refine (laws_toGraph.calls k _ _ l0_0 a0_1 t748 t751 _ ?side1 ?side2 A11.out).mono ?_);(case side1=>repeat (first|exact (Kd.C_below HR0_0.out HB.out)|(with_reducible refine Kd.C_alloc ?_ _)|(with_reducible refine Kd.C_drewN ?_ _)|(with_reducible refine Kd.C_drew ?_)));(case side2=>exact HC0_0.out);rintro e w22 ⟨v749,rfl,ho0,hb⟩;refine ⟨_,rfl,?_⟩;have n0_:=Aside0.mk (Kd.R_lower ho0 (below_size (by repeat (first|(with_reducible first|exact HB.out|apply below_alloc|apply pw_below_drewN|apply below_drew1|refine below_set ?_ GE746.out)|exact HB.out))));have n1_:=Aside0.mk (blk_below (g:=gb746) (o:=.cells #[.slice A0_0 l0_0.length c0_0,.bool a0_1] 24 (0,0)) (by (with_reducible repeat (first|refine blk_drewN ?_ _|refine blk_drew ?_|refine blk_alloc ?_ _));exact BK746.out) hb);have n2_:=Aside0.mk (below_step (by repeat (first|(with_reducible first|exact HB.out|apply below_alloc|apply pw_below_drewN|apply below_drew1|refine below_set ?_ GE746.out)|exact HB.out)) hb);clear BK746;clear HB;have HO750:=n0_;have BK746:=n1_;have HB:=n2_;clear n0_ n1_ n2_;(try clear hb);(try clear hb2);(try clear hk);(try clear hi);(try clear ho0))|((with_reducible refine gate_callee (f:=18) rfl ?_);refine goesL_ (some 32) rfl rfl Try.func18 (by kernel_rfl) rfl #[.slice A2 l2.length c2] rfl (by (try simp only [List.map_toArray,List.map_cons,List.map_nil]);first|done|rfl|(simp only [List.length_drop,List.length_take];rfl)) ?_;(with_reducible refine (laws_toIntS.calls k _ _ l2 t752 _ ?side1 ?side2 A12.out).mono ?_);(case side1=>repeat (first|exact (Kd.C_below HR2.out HB.out)|(with_reducible refine Kd.C_alloc ?_ _)|(with_reducible refine Kd.C_drewN ?_ _)|(with_reducible refine Kd.C_drew ?_)));(case side2=>exact HC2.out);rintro e w23 ⟨v753,rfl,ho0,hb⟩;refine ⟨_,rfl,?_⟩;have n0_:=Aside0.mk (Kd.R_elder' (by (with_reducible repeat (first|apply Kd.R_alloc|apply Kd.R_drewN|apply Kd.R_drew));exact HO750.out) (Kd.R_base ho0) hb);have n1_:=Aside0.mk (Kd.R_lower (Kd.R_new' ho0 (Kd.R_lt (by (with_reducible repeat (first|apply Kd.R_alloc|apply Kd.R_drewN|apply Kd.R_drew));exact HO750.out))) (below_size (by repeat (first|(with_reducible first|exact HB.out|apply below_alloc|apply pw_below_drewN|apply below_drew1|refine below_set ?_ GE746.out)|exact HB.out))));have n2_:=Aside0.mk (blk_below (g:=gb746) (o:=.cells #[.slice A0_0 l0_0.length c0_0,.bool a0_1] 24 (0,0)) (by (with_reducible repeat (first|refine blk_drewN ?_ _|refine blk_drew ?_|refine blk_alloc ?_ _));exact BK746.out) hb);have n3_:=Aside0.mk (below_step (by repeat (first|(with_reducible first|exact HB.out|apply below_alloc|apply pw_below_drewN|apply below_drew1|refine below_set ?_ GE746.out)|exact HB.out)) hb);clear HO750;clear BK746;clear HB;have HO750:=n0_;have HO754:=n1_;have BK746:=n2_;have HB:=n3_;clear n0_ n1_ n2_ n3_;(try clear hb);(try clear hb2);(try clear hk);(try clear hi);(try clear ho0);obtain ⟨Ao24,co24,eo24⟩:=Kd.R_slice HO750.out;subst eo24;obtain ⟨Ao25,co25,eo25⟩:=Kd.R_slice HO754.out;subst eo25)|((with_reducible refine gate_callee (f:=42) rfl ?_);refine goesL_ (some 33) rfl rfl Try.func42 (by kernel_rfl) rfl #[.agg #[.slice Ao24 t748.length co24,.bool t751],.int .i64 a1,.slice Ao25 t752.length co25] rfl (by (try simp only [List.map_toArray,List.map_cons,List.map_nil]);first|done|rfl|(simp only [List.length_drop,List.length_take];rfl)) ?_;(with_reducible refine (spec_WitnessColours.calls k _ _ t748 t751 a1 _ _ t752 t755 t758 _ ?side1 ?side2 ?side3 ?side4 A13.out).mono ?_);(case side1=>repeat (first|exact (Kd.R_reads' HO750.out).2.2|(with_reducible refine Kd.C_alloc ?_ _)|(with_reducible refine Kd.C_drewN ?_ _)|(with_reducible refine Kd.C_drew ?_)));(case side2=>exact (Kd.R_reads' HO750.out).2.1);(case side3=>repeat (first|exact (Kd.R_reads' HO754.out).2.2|(with_reducible refine Kd.C_alloc ?_ _)|(with_reducible refine Kd.C_drewN ?_ _)|(with_reducible refine Kd.C_drew ?_)));(case side4=>exact (Kd.R_reads' HO754.out).2.1);rintro e w26 ⟨v756,rfl,ho0,hb⟩;refine ⟨_,rfl,?_⟩;have n0_:=Aside0.mk (Kd.R_elder' (by (with_reducible repeat (first|apply Kd.R_alloc|apply Kd.R_drewN|apply Kd.R_drew));exact HO750.out) (Kd.R_base ho0) hb);have n1_:=Aside0.mk (Kd.R_elder' (by (with_reducible repeat (first|apply Kd.R_alloc|apply Kd.R_drewN|apply Kd.R_drew));exact HO754.out) (Kd.R_base ho0) hb);have n2_:=Aside0.mk (Kd.R_lower (Kd.R_new' (Kd.R_new' ho0 (Kd.R_lt (by (with_reducible repeat (first|apply Kd.R_alloc|apply Kd.R_drewN|apply Kd.R_drew));exact HO750.out))) (Kd.R_lt (by (with_reducible repeat (first|apply Kd.R_alloc|apply Kd.R_drewN|apply Kd.R_drew));exact HO754.out))) (below_size (by repeat (first|(with_reducible first|exact HB.out|apply below_alloc|apply pw_below_drewN|apply below_drew1|refine below_set ?_ GE746.out)|exact HB.out))));have n3_:=Aside0.mk (blk_below (g:=gb746) (o:=.cells #[.slice A0_0 l0_0.length c0_0,.bool a0_1] 24 (0,0)) (by (with_reducible repeat (first|refine blk_drewN ?_ _|refine blk_drew ?_|refine blk_alloc ?_ _));exact BK746.out) hb);have n4_:=Aside0.mk (below_step (by repeat (first|(with_reducible first|exact HB.out|apply below_alloc|apply pw_below_drewN|apply below_drew1|refine below_set ?_ GE746.out)|exact HB.out)) hb);clear HO750;clear HO754;clear BK746;clear HB;have HO750:=n0_;have HO754:=n1_;have HO757:=n2_;have BK746:=n3_;have HB:=n4_;clear n0_ n1_ n2_ n3_ n4_;(try clear hb);(try clear hb2);(try clear hk);(try clear hi);(try clear ho0);have hcz27_0:w26.cell? ⟨gb746,0,none⟩=some (.slice A0_0 l0_0.length c0_0):=(blk_cell BK746.out 0).trans rfl;have hcz27_1:w26.cell? ⟨gb746,1,none⟩=some (.bool a0_1):=(blk_cell BK746.out 1).trans rfl;have hfz27_0:=blk_frozen BK746.out 0;have hfz27_1:=blk_frozen BK746.out 1)|((with_reducible refine gate_callee (f:=17) rfl ?_);refine goesL_ (some 37) rfl rfl Try.func17 (by kernel_rfl) rfl #[.agg #[.slice A0_0 l0_0.length c0_0,.bool a0_1]] rfl (by (try simp only [List.map_toArray,List.map_cons,List.map_nil]);first|done|rfl|(simp only [List.length_drop,List.length_take];rfl)) ?_;(with_reducible refine (laws_toGraph.calls k _ _ l0_0 a0_1 t759 t762 _ ?side1 ?side2 A14.out).mono ?_);(case side1=>repeat (first|exact (Kd.C_below HR0_0.out HB.out)|(with_reducible refine Kd.C_alloc ?_ _)|(with_reducible refine Kd.C_drewN ?_ _)|(with_reducible refine Kd.C_drew ?_)));(case side2=>exact HC0_0.out);rintro e w28 ⟨v760,rfl,ho0,hb⟩;refine ⟨_,rfl,?_⟩;have n0_:=Aside0.mk (Kd.R_elder' (by (with_reducible repeat (first|apply Kd.R_alloc|apply Kd.R_drewN|apply Kd.R_drew));exact HO750.out) (Kd.R_base ho0) hb);have n1_:=Aside0.mk (Kd.R_elder' (by (with_reducible repeat (first|apply Kd.R_alloc|apply Kd.R_drewN|apply Kd.R_drew));exact HO754.out) (Kd.R_base ho0) hb);have n2_:=Aside0.mk (Kd.R_elder' (by (with_reducible repeat (first|apply Kd.R_alloc|apply Kd.R_drewN|apply Kd.R_drew));exact HO757.out) (Kd.R_base ho0) hb);have n3_:=Aside0.mk (Kd.R_lower (Kd.R_new' (Kd.R_new' (Kd.R_new' ho0 (Kd.R_lt (by (with_reducible repeat (first|apply Kd.R_alloc|apply Kd.R_drewN|apply Kd.R_drew));exact HO750.out))) (Kd.R_lt (by (with_reducible repeat (first|apply Kd.R_alloc|apply Kd.R_drewN|apply Kd.R_drew));exact HO754.out))) (Kd.R_lt (by (with_reducible repeat (first|apply Kd.R_alloc|apply Kd.R_drewN|apply Kd.R_drew));exact HO757.out))) (below_size (by repeat (first|(with_reducible first|exact HB.out|apply below_alloc|apply pw_below_drewN|apply below_drew1|refine below_set ?_ GE746.out)|exact HB.out))));have n4_:=Aside0.mk (blk_below (g:=gb746) (o:=.cells #[.slice A0_0 l0_0.length c0_0,.bool a0_1] 24 (0,0)) (by (with_reducible repeat (first|refine blk_drewN ?_ _|refine blk_drew ?_|refine blk_alloc ?_ _));exact BK746.out) hb);have n5_:=Aside0.mk (below_step (by repeat (first|(with_reducible first|exact HB.out|apply below_alloc|apply pw_below_drewN|apply below_drew1|refine below_set ?_ GE746.out)|exact HB.out)) hb);clear HO750;clear HO754;clear HO757;clear BK746;clear HB;have HO750:=n0_;have HO754:=n1_;have HO757:=n2_;have HO761:=n3_;have BK746:=n4_;have HB:=n5_;clear n0_ n1_ n2_ n3_ n4_ n5_;(try clear hb);(try clear hb2);(try clear hk);(try clear hi);(try clear ho0))|((with_reducible refine gate_dst (N:=10) rfl ?_);refine box_event ?hg (N:=10) ?hd (cs:=#[.slice none 0 0,.bool false]) (t:=28) ?hr ?_;(case hd=>rfl);(case hg=>rfl);(case hr=>first|(go_simp;done)|(go_simp;rfl));intro gb763 hg w29 hbox hb;have n0_:=Aside0.mk (Kd.R_below (by (with_reducible repeat (first|apply Kd.R_alloc|apply Kd.R_drewN|apply Kd.R_drew));exact HO750.out) hb);have n1_:=Aside0.mk (Kd.R_below (by (with_reducible repeat (first|apply Kd.R_alloc|apply Kd.R_drewN|apply Kd.R_drew));exact HO754.out) hb);have n2_:=Aside0.mk (Kd.R_below (by (with_reducible repeat (first|apply Kd.R_alloc|apply Kd.R_drewN|apply Kd.R_drew));exact HO757.out) hb);have n3_:=Aside0.mk (Kd.R_below (by (with_reducible repeat (first|apply Kd.R_alloc|apply Kd.R_drewN|apply Kd.R_drew));exact HO761.out) hb);have n4_:=Aside0.mk (blk_below (g:=gb746) (o:=.cells #[.slice A0_0 l0_0.length c0_0,.bool a0_1] 24 (0,0)) (by (with_reducible repeat (first|refine blk_drewN ?_ _|refine blk_drew ?_|refine blk_alloc ?_ _));exact BK746.out) hb);have n5_:=Aside0.mk (below_step (by repeat (first|(with_reducible first|exact HB.out|apply below_alloc|apply pw_below_drewN|apply below_drew1|refine below_set ?_ GE746.out)|exact HB.out)) hb);have n6_:=Aside0.mk (hbox);have n7_:=Aside0.mk ((by rw [hg];exact (below_size (by repeat (first|(with_reducible first|exact HB.out|apply below_alloc|apply pw_below_drewN|apply below_drew1|refine below_set ?_ GE746.out)|exact HB.out))):w.heap.size≤gb763));have n8_:=Aside0.mk ((by rw [hg];exact (below_size (by repeat (first|(with_reducible first|exact HB.out|apply below_alloc|apply pw_below_drewN|apply below_drew1|refine below_set ?_ GE746.out)|exact HB.out))):w.heap.size≤gb763));have n9_:=Aside0.mk ((by rw [hg];exact Nat.ne_of_lt (blk_lt (g:=gb746) (o:=.cells #[.slice A0_0 l0_0.length c0_0,.bool a0_1] 24 (0,0)) (by (with_reducible repeat (first|refine blk_drewN ?_ _|refine blk_drew ?_|refine blk_alloc ?_ _));exact BK746.out)):gb746≠gb763));have n10_:=Aside0.mk ((by rw [hg];exact Nat.ne_of_gt (blk_lt (g:=gb746) (o:=.cells #[.slice A0_0 l0_0.length c0_0,.bool a0_1] 24 (0,0)) (by (with_reducible repeat (first|refine blk_drewN ?_ _|refine blk_drew ?_|refine blk_alloc ?_ _));exact BK746.out)):gb763≠gb746));clear HO750;clear HO754;clear HO757;clear HO761;clear BK746;clear HB;have HO750:=n0_;have HO754:=n1_;have HO757:=n2_;have HO761:=n3_;have BK746:=n4_;have HB:=n5_;have BK763:=n6_;have GW763:=n7_;have GE763:=n8_;have NB746_763:=n9_;have NB763_746:=n10_;clear n0_ n1_ n2_ n3_ n4_ n5_ n6_ n7_ n8_ n9_ n10_;clear hb hbox hg;obtain ⟨Ao30,co30,eo30⟩:=Kd.R_slice HO761.out;subst eo30;have hnb31:=NB763_746.out;have hnc31:=NB746_763.out;have hcz32_0:w29.cell? ⟨gb763,0,none⟩=some (.slice none 0 0):=(blk_cell BK763.out 0).trans rfl;have hcz32_1:w29.cell? ⟨gb763,1,none⟩=some (.bool false):=(blk_cell BK763.out 1).trans rfl;have hfz32_0:=blk_frozen BK763.out 0;have hfz32_1:=blk_frozen BK763.out 1)|((with_reducible refine gate_callee (f:=18) rfl ?_);refine goesL_ (some 39) rfl rfl Try.func18 (by kernel_rfl) rfl #[.slice A2 l2.length c2] rfl (by (try simp only [List.map_toArray,List.map_cons,List.map_nil]);first|done|rfl|(simp only [List.length_drop,List.length_take];rfl)) ?_;(with_reducible refine (laws_toIntS.calls k _ _ l2 t764 _ ?side1 ?side2 A15.out).mono ?_);(case side1=>exact Kd.C_below HR2.out (by repeat (first|(with_reducible first|exact HB.out|apply below_alloc|apply pw_below_drewN|apply below_drew1|refine below_set ?_ GE746.out|refine below_set ?_ GE763.out)|exact HB.out)));(case side2=>exact HC2.out);rintro e w33 ⟨v765,rfl,ho0,hb⟩;refine ⟨_,rfl,?_⟩;have n0_:=Aside0.mk (Kd.R_elder' (by (with_reducible repeat (first|apply Kd.R_alloc|apply Kd.R_drewN|apply Kd.R_drew));exact (Kd.R_mono (Kd.R_far (p:=⟨gb763,1,none⟩) (Kd.R_far (p:=⟨gb763,0,none⟩) (Kd.R_types HO750.out BK763.out (by decide)) (fun _ hk=>hk.2) (.slice Ao30 t759.length co30)) (fun _ hk=>hk.2) (.bool t762)) (fun _ h_=>h_.1))) (Kd.R_base ho0) hb);have n1_:=Aside0.mk (Kd.R_elder' (by (with_reducible repeat (first|apply Kd.R_alloc|apply Kd.R_drewN|apply Kd.R_drew));exact (Kd.R_mono (Kd.R_far (p:=⟨gb763,1,none⟩) (Kd.R_far (p:=⟨gb763,0,none⟩) (Kd.R_types HO754.out BK763.out (by decide)) (fun _ hk=>hk.2) (.slice Ao30 t759.length co30)) (fun _ hk=>hk.2) (.bool t762)) (fun _ h_=>h_.1))) (Kd.R_base ho0) hb);have n2_:=Aside0.mk (Kd.R_elder' (by (with_reducible repeat (first|apply Kd.R_alloc|apply Kd.R_drewN|apply Kd.R_drew));exact (Kd.R_mono (Kd.R_far (p:=⟨gb763,1,none⟩) (Kd.R_far (p:=⟨gb763,0,none⟩) (Kd.R_types HO757.out BK763.out (by decide)) (fun _ hk=>hk.2) (.slice Ao30 t759.length co30)) (fun _ hk=>hk.2) (.bool t762)) (fun _ h_=>h_.1))) (Kd.R_base ho0) hb);have n3_:=Aside0.mk (Kd.R_elder' (by (with_reducible repeat (first|apply Kd.R_alloc|apply Kd.R_drewN|apply Kd.R_drew));exact (Kd.R_mono (Kd.R_far (p:=⟨gb763,1,none⟩) (Kd.R_far (p:=⟨gb763,0,none⟩) (Kd.R_types HO761.out BK763.out (by decide)) (fun _ hk=>hk.2) (.slice Ao30 t759.length co30)) (fun _ hk=>hk.2) (.bool t762)) (fun _ h_=>h_.1))) (Kd.R_base ho0) hb);have n4_:=Aside0.mk (Kd.R_lower (Kd.R_new' (Kd.R_new' (Kd.R_new' (Kd.R_new' ho0 (Kd.R_lt (by (with_reducible repeat (first|apply Kd.R_alloc|apply Kd.R_drewN|apply Kd.R_drew));exact (Kd.R_mono (Kd.R_far (p:=⟨gb763,1,none⟩) (Kd.R_far (p:=⟨gb763,0,none⟩) (Kd.R_types HO750.out BK763.out (by decide)) (fun _ hk=>hk.2) (.slice Ao30 t759.length co30)) (fun _ hk=>hk.2) (.bool t762)) (fun _ h_=>h_.1))))) (Kd.R_lt (by (with_reducible repeat (first|apply Kd.R_alloc|apply Kd.R_drewN|apply Kd.R_drew));exact (Kd.R_mono (Kd.R_far (p:=⟨gb763,1,none⟩) (Kd.R_far (p:=⟨gb763,0,none⟩) (Kd.R_types HO754.out BK763.out (by decide)) (fun _ hk=>hk.2) (.slice Ao30 t759.length co30)) (fun _ hk=>hk.2) (.bool t762)) (fun _ h_=>h_.1))))) (Kd.R_lt (by (with_reducible repeat (first|apply Kd.R_alloc|apply Kd.R_drewN|apply Kd.R_drew));exact (Kd.R_mono (Kd.R_far (p:=⟨gb763,1,none⟩) (Kd.R_far (p:=⟨gb763,0,none⟩) (Kd.R_types HO757.out BK763.out (by decide)) (fun _ hk=>hk.2) (.slice Ao30 t759.length co30)) (fun _ hk=>hk.2) (.bool t762)) (fun _ h_=>h_.1))))) (Kd.R_lt (by (with_reducible repeat (first|apply Kd.R_alloc|apply Kd.R_drewN|apply Kd.R_drew));exact (Kd.R_mono (Kd.R_far (p:=⟨gb763,1,none⟩) (Kd.R_far (p:=⟨gb763,0,none⟩) (Kd.R_types HO761.out BK763.out (by decide)) (fun _ hk=>hk.2) (.slice Ao30 t759.length co30)) (fun _ hk=>hk.2) (.bool t762)) (fun _ h_=>h_.1))))) (below_size (by repeat (first|(with_reducible first|exact HB.out|apply below_alloc|apply pw_below_drewN|apply below_drew1|refine below_set ?_ GE746.out|refine below_set ?_ GE763.out)|exact HB.out))));have n5_:=Aside0.mk (blk_below (g:=gb746) (o:=.cells #[.slice A0_0 l0_0.length c0_0,.bool a0_1] 24 (0,0)) (by (with_reducible repeat (first|refine blk_drewN ?_ _|refine blk_drew ?_|refine blk_alloc ?_ _));refine blk_far ?_ NB746_763.out _;(with_reducible repeat (first|refine blk_drewN ?_ _|refine blk_drew ?_|refine blk_alloc ?_ _));refine blk_far ?_ NB746_763.out _;(with_reducible repeat (first|refine blk_drewN ?_ _|refine blk_drew ?_|refine blk_alloc ?_ _));exact BK746.out) hb);have n6_:=Aside0.mk (blk_below (g:=gb763) (o:=.cells #[.slice Ao30 t759.length co30,.bool t762] 28 (0,0)) (by (with_reducible repeat (first|refine blk_drewN ?_ _|refine blk_drew ?_|refine blk_alloc ?_ _));refine blk_put (cs:=#[.slice Ao30 t759.length co30,.bool false]) ?_ 1 _ rfl;(with_reducible repeat (first|refine blk_drewN ?_ _|refine blk_drew ?_|refine blk_alloc ?_ _));refine blk_put (cs:=#[.slice none 0 0,.bool false]) ?_ 0 _ rfl;(with_reducible repeat (first|refine blk_drewN ?_ _|refine blk_drew ?_|refine blk_alloc ?_ _));exact BK763.out) hb);have n7_:=Aside0.mk (below_step (by repeat (first|(with_reducible first|exact HB.out|apply below_alloc|apply pw_below_drewN|apply below_drew1|refine below_set ?_ GE746.out|refine below_set ?_ GE763.out)|exact HB.out)) hb);clear HO750;clear HO754;clear HO757;clear HO761;clear BK746;clear BK763;clear HB;have HO750:=n0_;have HO754:=n1_;have HO757:=n2_;have HO761:=n3_;have HO766:=n4_;have BK746:=n5_;have BK763:=n6_;have HB:=n7_;clear n0_ n1_ n2_ n3_ n4_ n5_ n6_ n7_;(try clear hb);(try clear hb2);(try clear hk);(try clear hi);(try clear ho0);have hcz34_0:w33.cell? ⟨gb763,0,none⟩=some (.slice Ao30 t759.length co30):=(blk_cell BK763.out 0).trans rfl;have hcz34_1:w33.cell? ⟨gb763,1,none⟩=some (.bool t762):=(blk_cell BK763.out 1).trans rfl;have hfz34_0:=blk_frozen BK763.out 0;have hfz34_1:=blk_frozen BK763.out 1;obtain ⟨Ao35,co35,eo35⟩:=Kd.R_slice HO766.out;subst eo35)|((with_reducible refine gate_callee (f:=43) rfl ?_);refine goesL_ (some 44) rfl rfl Try.func43 (by kernel_rfl) rfl #[.agg #[.slice Ao30 t759.length co30,.bool t762],.int .i64 a1,.slice Ao35 t764.length co35] rfl (by (try simp only [List.map_toArray,List.map_cons,List.map_nil]);first|done|rfl|(simp only [List.length_drop,List.length_take];rfl)) ?_;(with_reducible refine (impl_WitnessColours.calls k _ _ t759 t762 a1 _ _ t764 t767 t770 _ ?side1 ?side2 ?side3 ?side4 A16.out).mono ?_);(case side1=>repeat (first|exact (Kd.R_reads' HO761.out).2.2|(with_reducible refine Kd.C_alloc ?_ _)|(with_reducible refine Kd.C_drewN ?_ _)|(with_reducible refine Kd.C_drew ?_)));(case side2=>exact (Kd.R_reads' HO761.out).2.1);(case side3=>repeat (first|exact (Kd.R_reads' HO766.out).2.2|(with_reducible refine Kd.C_alloc ?_ _)|(with_reducible refine Kd.C_drewN ?_ _)|(with_reducible refine Kd.C_drew ?_)));(case side4=>exact (Kd.R_reads' HO766.out).2.1);rintro e w36 ⟨v768,rfl,ho0,hb⟩;refine ⟨_,rfl,?_⟩;have n0_:=Aside0.mk (Kd.R_elder' (by (with_reducible repeat (first|apply Kd.R_alloc|apply Kd.R_drewN|apply Kd.R_drew));exact HO750.out) (Kd.R_base ho0) hb);have n1_:=Aside0.mk (Kd.R_elder' (by (with_reducible repeat (first|apply Kd.R_alloc|apply Kd.R_drewN|apply Kd.R_drew));exact HO754.out) (Kd.R_base ho0) hb);have n2_:=Aside0.mk (Kd.R_elder' (by (with_reducible repeat (first|apply Kd.R_alloc|apply Kd.R_drewN|apply Kd.R_drew));exact HO757.out) (Kd.R_base ho0) hb);have n3_:=Aside0.mk (Kd.R_elder' (by (with_reducible repeat (first|apply Kd.R_alloc|apply Kd.R_drewN|apply Kd.R_drew));exact HO761.out) (Kd.R_base ho0) hb);have n4_:=Aside0.mk (Kd.R_elder' (by (with_reducible repeat (first|apply Kd.R_alloc|apply Kd.R_drewN|apply Kd.R_drew));exact HO766.out) (Kd.R_base ho0) hb);have n5_:=Aside0.mk (Kd.R_lower (Kd.R_new' (Kd.R_new' (Kd.R_new' (Kd.R_new' (Kd.R_new' ho0 (Kd.R_lt (by (with_reducible repeat (first|apply Kd.R_alloc|apply Kd.R_drewN|apply Kd.R_drew));exact HO750.out))) (Kd.R_lt (by (with_reducible repeat (first|apply Kd.R_alloc|apply Kd.R_drewN|apply Kd.R_drew));exact HO754.out))) (Kd.R_lt (by (with_reducible repeat (first|apply Kd.R_alloc|apply Kd.R_drewN|apply Kd.R_drew));exact HO757.out))) (Kd.R_lt (by (with_reducible repeat (first|apply Kd.R_alloc|apply Kd.R_drewN|apply Kd.R_drew));exact HO761.out))) (Kd.R_lt (by (with_reducible repeat (first|apply Kd.R_alloc|apply Kd.R_drewN|apply Kd.R_drew));exact HO766.out))) (below_size (by repeat (first|(with_reducible first|exact HB.out|apply below_alloc|apply pw_below_drewN|apply below_drew1|refine below_set ?_ GE746.out|refine below_set ?_ GE763.out)|exact HB.out))));have n6_:=Aside0.mk (blk_below (g:=gb746) (o:=.cells #[.slice A0_0 l0_0.length c0_0,.bool a0_1] 24 (0,0)) (by (with_reducible repeat (first|refine blk_drewN ?_ _|refine blk_drew ?_|refine blk_alloc ?_ _));exact BK746.out) hb);have n7_:=Aside0.mk (blk_below (g:=gb763) (o:=.cells #[.slice Ao30 t759.length co30,.bool t762] 28 (0,0)) (by (with_reducible repeat (first|refine blk_drewN ?_ _|refine blk_drew ?_|refine blk_alloc ?_ _));exact BK763.out) hb);have n8_:=Aside0.mk (below_step (by repeat (first|(with_reducible first|exact HB.out|apply below_alloc|apply pw_below_drewN|apply below_drew1|refine below_set ?_ GE746.out|refine below_set ?_ GE763.out)|exact HB.out)) hb);clear HO750;clear HO754;clear HO757;clear HO761;clear HO766;clear BK746;clear BK763;clear HB;have HO750:=n0_;have HO754:=n1_;have HO757:=n2_;have HO761:=n3_;have HO766:=n4_;have HO769:=n5_;have BK746:=n6_;have BK763:=n7_;have HB:=n8_;clear n0_ n1_ n2_ n3_ n4_ n5_ n6_ n7_ n8_;(try clear hb);(try clear hb2);(try clear hk);(try clear hi);(try clear ho0)))
   (try simp only [Act.put,List.setIfInBounds_toArray,List.set_cons_zero,List.set_cons_succ])
   go_cut [55] (fun v55 wc=>∃ (kq:Nat) (x55_16:Bool),v55=.bool x55_16∧Aside0 (laws_FnExactWitnessColours.j0 kq a1 l2 t755 t758 t764 t767 t770 x55_16 l0_0 a0_1 t759 t762=some r)∧Aside0 (kq≤k)∧Aside0 (Kd.R (Kd.int .i64) 3 wc w.heap.size (fun k_=>some k_≠((.slice Ao35 t764.length co35):Value).ownBlock∧some k_≠(v768:Value).ownBlock∧some k_≠((.slice Ao30 t759.length co30):Value).ownBlock) v756 t755)∧Aside0 (Kd.R (Kd.int .i64) 3 wc w.heap.size (fun k_=>some k_≠(v756:Value).ownBlock∧some k_≠(v768:Value).ownBlock∧some k_≠((.slice Ao30 t759.length co30):Value).ownBlock) (.slice Ao35 t764.length co35) t764)∧Aside0 (Kd.R (Kd.int .i64) 3 wc w.heap.size (fun k_=>some k_≠(v756:Value).ownBlock∧some k_≠((.slice Ao35 t764.length co35):Value).ownBlock∧some k_≠((.slice Ao30 t759.length co30):Value).ownBlock) v768 t767)∧Aside0 (Kd.R (Kd.int .i64) 3 wc w.heap.size (fun k_=>some k_≠(v756:Value).ownBlock∧some k_≠((.slice Ao35 t764.length co35):Value).ownBlock∧some k_≠(v768:Value).ownBlock) (.slice Ao30 t759.length co30) t759)∧Aside0 (wc.heap[gb746]?=some (.cells #[(.slice A0_0 l0_0.length c0_0),.bool a0_1] 24 (0,0)))∧Aside0 (wc.heap[gb763]?=some (.cells #[(.slice Ao30 t759.length co30),.bool t762] 28 (0,0)))∧Aside0 (Below w.heap.size w wc))
   case first=>
    have H:=HC17.out
    clear HC17
    replace H:=Option.bind_eq_some_iff.mp H
    obtain ⟨t771,A370,H⟩:=H
    replace H:(if t771=true then (laws_FnExactWitnessColours.j0 k a1 l2 t755 t758 t764 t767 t770 (t770 !=t758) l0_0 a0_1 t759 t762) else (laws_FnExactWitnessColours.j0 k a1 l2 t755 t758 t764 t767 t770 true l0_0 a0_1 t759 t762))=some r:=H
    have A37:=Aside0.mk A370
    clear A370
    by_cases c38:t771=true
    ·subst c38
     have H1:(laws_FnExactWitnessColours.j0 k a1 l2 t755 t758 t764 t767 t770 (t770 !=t758) l0_0 a0_1 t759 t762)=some r:=by rw [if_pos rfl] at H;exact H
     clear H
     have H:=H1
     clear H1
     have H':=Aside0.mk H
     clear H
     obtain ⟨Ao39,co39,eo39⟩:=Kd.R_slice HO769.out
     subst eo39
     obtain ⟨Ao40,co40,eo40⟩:=Kd.R_slice HO757.out
     subst eo40
     go_wp2_with (first|((with_reducible refine gate_callee (f:=21) rfl ?_);refine goesL_ (some 49) rfl rfl Try.func21 (by kernel_rfl) rfl #[.slice Ao39 t767.length co39,.slice Ao40 t755.length co40] rfl (by (try simp only [List.map_toArray,List.map_cons,List.map_nil]);first|done|rfl|(simp only [List.length_drop,List.length_take];rfl)) ?_;(with_reducible refine (laws_eqIntS.calls k _ _ t767 _ _ t755 true _ ?side1 ?side2 ?side3 ?side4 A37.out).mono ?_);(case side1=>repeat (first|exact (Kd.R_reads' HO769.out).2.2|(with_reducible refine Kd.C_alloc ?_ _)|(with_reducible refine Kd.C_drewN ?_ _)|(with_reducible refine Kd.C_drew ?_)));(case side2=>exact (Kd.R_reads' HO769.out).2.1);(case side3=>repeat (first|exact (Kd.R_reads' HO757.out).2.2|(with_reducible refine Kd.C_alloc ?_ _)|(with_reducible refine Kd.C_drewN ?_ _)|(with_reducible refine Kd.C_drew ?_)));(case side4=>exact (Kd.R_reads' HO757.out).2.1);rintro e w' ⟨rfl,⟨nd,rfl⟩⟩;refine ⟨_,rfl,?_⟩))
     go_meet
     case rel=>exact ⟨_,((t770 !=t758)),(by first|rfl|(simp;done)|(simp [*];done)),H',⟨by first|omega|exact Nat.le_refl _⟩,⟨by (with_reducible repeat (first|apply Kd.R_alloc|apply Kd.R_drewN|apply Kd.R_drew));exact Kd.R_mono HO757.out (fun _ hk=>⟨hk.1.2,⟨hk.2,hk.1.1.2⟩⟩)⟩,⟨by (with_reducible repeat (first|apply Kd.R_alloc|apply Kd.R_drewN|apply Kd.R_drew));exact Kd.R_mono HO766.out (fun _ hk=>⟨hk.1.1.2,⟨hk.2,hk.1.2⟩⟩)⟩,⟨by (with_reducible repeat (first|apply Kd.R_alloc|apply Kd.R_drewN|apply Kd.R_drew));exact Kd.R_mono HO769.out (fun _ hk=>⟨hk.1.1.2,⟨hk.2,hk.1.2⟩⟩)⟩,⟨by (with_reducible repeat (first|apply Kd.R_alloc|apply Kd.R_drewN|apply Kd.R_drew));exact Kd.R_mono HO761.out (fun _ hk=>⟨hk.1.1.2,⟨hk.1.2,hk.2⟩⟩)⟩,⟨by (with_reducible repeat (first|refine blk_drewN ?_ _|refine blk_drew ?_|refine blk_alloc ?_ _));exact BK746.out⟩,⟨by (with_reducible repeat (first|refine blk_drewN ?_ _|refine blk_drew ?_|refine blk_alloc ?_ _));exact BK763.out⟩,⟨by repeat (first|(with_reducible first|exact HB.out|apply below_alloc|apply pw_below_drewN|apply below_drew1|refine below_set ?_ GE746.out|refine below_set ?_ GE763.out)|exact HB.out)⟩⟩
    ·replace c38:=Bool.eq_false_iff.mpr c38
     subst c38
     have H1:(laws_FnExactWitnessColours.j0 k a1 l2 t755 t758 t764 t767 t770 true l0_0 a0_1 t759 t762)=some r:=by rw [if_neg (show ¬ (false=true) by decide)] at H;exact H
     clear H
     have H:=H1
     clear H1
     have H':=Aside0.mk H
     clear H
     obtain ⟨Ao41,co41,eo41⟩:=Kd.R_slice HO769.out
     subst eo41
     obtain ⟨Ao42,co42,eo42⟩:=Kd.R_slice HO757.out
     subst eo42
     go_wp2_with (first|((with_reducible refine gate_callee (f:=21) rfl ?_);refine goesL_ (some 49) rfl rfl Try.func21 (by kernel_rfl) rfl #[.slice Ao41 t767.length co41,.slice Ao42 t755.length co42] rfl (by (try simp only [List.map_toArray,List.map_cons,List.map_nil]);first|done|rfl|(simp only [List.length_drop,List.length_take];rfl)) ?_;(with_reducible refine (laws_eqIntS.calls k _ _ t767 _ _ t755 false _ ?side1 ?side2 ?side3 ?side4 A37.out).mono ?_);(case side1=>repeat (first|exact (Kd.R_reads' HO769.out).2.2|(with_reducible refine Kd.C_alloc ?_ _)|(with_reducible refine Kd.C_drewN ?_ _)|(with_reducible refine Kd.C_drew ?_)));(case side2=>exact (Kd.R_reads' HO769.out).2.1);(case side3=>repeat (first|exact (Kd.R_reads' HO757.out).2.2|(with_reducible refine Kd.C_alloc ?_ _)|(with_reducible refine Kd.C_drewN ?_ _)|(with_reducible refine Kd.C_drew ?_)));(case side4=>exact (Kd.R_reads' HO757.out).2.1);rintro e w' ⟨rfl,⟨nd,rfl⟩⟩;refine ⟨_,rfl,?_⟩))
     go_meet
     case rel=>exact ⟨_,(true),(by first|rfl|(simp;done)|(simp [*];done)),H',⟨by first|omega|exact Nat.le_refl _⟩,⟨by (with_reducible repeat (first|apply Kd.R_alloc|apply Kd.R_drewN|apply Kd.R_drew));exact Kd.R_mono HO757.out (fun _ hk=>⟨hk.1.2,⟨hk.2,hk.1.1.2⟩⟩)⟩,⟨by (with_reducible repeat (first|apply Kd.R_alloc|apply Kd.R_drewN|apply Kd.R_drew));exact Kd.R_mono HO766.out (fun _ hk=>⟨hk.1.1.2,⟨hk.2,hk.1.2⟩⟩)⟩,⟨by (with_reducible repeat (first|apply Kd.R_alloc|apply Kd.R_drewN|apply Kd.R_drew));exact Kd.R_mono HO769.out (fun _ hk=>⟨hk.1.1.2,⟨hk.2,hk.1.2⟩⟩)⟩,⟨by (with_reducible repeat (first|apply Kd.R_alloc|apply Kd.R_drewN|apply Kd.R_drew));exact Kd.R_mono HO761.out (fun _ hk=>⟨hk.1.1.2,⟨hk.1.2,hk.2⟩⟩)⟩,⟨by (with_reducible repeat (first|refine blk_drewN ?_ _|refine blk_drew ?_|refine blk_alloc ?_ _));exact BK746.out⟩,⟨by (with_reducible repeat (first|refine blk_drewN ?_ _|refine blk_drew ?_|refine blk_alloc ?_ _));exact BK763.out⟩,⟨by repeat (first|(with_reducible first|exact HB.out|apply below_alloc|apply pw_below_drewN|apply below_drew1|refine below_set ?_ GE746.out|refine below_set ?_ GE763.out)|exact HB.out)⟩⟩
   case rest=>
    clear HC17;(try clear c1);(try clear c2);(try clear p2);(try clear c3);(try clear c4);(try clear c4b0);(try clear c4b1);(try clear c7);(try clear c7b0);(try clear c11);(try clear c15);(try clear c17);(try clear c18);(try clear c21);(try clear c31);(try clear c38);(try clear c42);(try clear hcz19_0);(try clear hcz19_1);(try clear hcz21_0);(try clear hcz21_1);(try clear hcz27_0);(try clear hcz27_1);(try clear hcz32_0);(try clear hcz32_1);(try clear hcz34_0);(try clear hcz34_1);(try clear hcz9_0);(try clear hcz9_1);(try clear hfz19_0);(try clear hfz19_1);(try clear hfz21_0);(try clear hfz21_1);(try clear hfz27_0);(try clear hfz27_1);(try clear hfz32_0);(try clear hfz32_1);(try clear hfz34_0);(try clear hfz34_1);(try clear hfz9_0);(try clear hfz9_1)
    obtain ⟨kq,x55_16,rfl,HA,HJ16,HO_8,HO_11,HO_12,HO_764000,BK746,BK763,HB⟩:=hcut
    cases kq with
    |zero=>exact absurd HA.out (by simp [laws_FnExactWitnessColours.j0])
    |succ kj16=>
     have H:=HA.out
     clear HA
     simp only [laws_FnExactWitnessColours.j0] at H
     by_cases c43:x55_16=true
     ·subst c43
      have H1:(some false)=some r:=by rw [if_pos rfl] at H;exact H
      clear H
      have H:=H1
      clear H1
      obtain rfl:=Option.some.inj H
      go_wp2
      go_ret
      exact ⟨by first|rfl|(simp [errW_none,errW_some]<;>rfl)|(simp [*,errW_none,errW_some]<;>rfl),by repeat (first|(with_reducible first|exact HB.out|apply below_alloc|apply pw_below_drewN|apply below_drew1|refine below_set ?_ GE746.out|refine below_set ?_ GE763.out)|exact HB.out)⟩
     ·replace c43:=Bool.eq_false_iff.mpr c43
      subst c43
      have H1:((laws_toGraph.f kj16 l0_0 a0_1).bind fun bt772=>((laws_eqGraph.f kj16 t759 t762 bt772.1 bt772.2).bind fun t776=>(if t776=true then ((laws_toIntS.f kj16 l2).bind fun t777=>((laws_eqIntS.f kj16 t764 t777).bind fun t780=>(if t780=true then ((laws_markGraph.f kj16 t759 t762 1).bind fun bt781=>((laws_markIntS.f kj16 t764 bt781.1).bind fun bt783=>(if bt783.1< 0 then (laws_FnExactWitnessColours.j1 kj16 a1 l2 t755 t758 t767 true l0_0 a0_1) else ((laws_eqIntS.f kj16 t767 t755).bind fun t785=>(if t785=true then (laws_FnExactWitnessColours.j1 kj16 a1 l2 t755 t758 t767 (t770 !=t758) l0_0 a0_1) else (laws_FnExactWitnessColours.j1 kj16 a1 l2 t755 t758 t767 true l0_0 a0_1)))))) else (some false)))) else (some false))))=some r:=by rw [if_neg (show ¬ (false=true) by decide)] at H;exact H
      clear H
      have H:=H1
      clear H1
      replace H:=Option.bind_eq_some_iff.mp H
      obtain ⟨⟨t772,t775⟩,A440,H⟩:=H
      replace H:((laws_eqGraph.f kj16 t759 t762 t772 t775).bind fun t776=>(if t776=true then ((laws_toIntS.f kj16 l2).bind fun t777=>((laws_eqIntS.f kj16 t764 t777).bind fun t780=>(if t780=true then ((laws_markGraph.f kj16 t759 t762 1).bind fun bt781=>((laws_markIntS.f kj16 t764 bt781.1).bind fun bt783=>(if bt783.1< 0 then (laws_FnExactWitnessColours.j1 kj16 a1 l2 t755 t758 t767 true l0_0 a0_1) else ((laws_eqIntS.f kj16 t767 t755).bind fun t785=>(if t785=true then (laws_FnExactWitnessColours.j1 kj16 a1 l2 t755 t758 t767 (t770 !=t758) l0_0 a0_1) else (laws_FnExactWitnessColours.j1 kj16 a1 l2 t755 t758 t767 true l0_0 a0_1)))))) else (some false)))) else (some false)))=some r:=H
      have A44:=Aside0.mk A440
      clear A440
      replace H:=Option.bind_eq_some_iff.mp H
      obtain ⟨t776,A450,H⟩:=H
      replace H:(if t776=true then ((laws_toIntS.f kj16 l2).bind fun t777=>((laws_eqIntS.f kj16 t764 t777).bind fun t780=>(if t780=true then ((laws_markGraph.f kj16 t759 t762 1).bind fun bt781=>((laws_markIntS.f kj16 t764 bt781.1).bind fun bt783=>(if bt783.1< 0 then (laws_FnExactWitnessColours.j1 kj16 a1 l2 t755 t758 t767 true l0_0 a0_1) else ((laws_eqIntS.f kj16 t767 t755).bind fun t785=>(if t785=true then (laws_FnExactWitnessColours.j1 kj16 a1 l2 t755 t758 t767 (t770 !=t758) l0_0 a0_1) else (laws_FnExactWitnessColours.j1 kj16 a1 l2 t755 t758 t767 true l0_0 a0_1)))))) else (some false)))) else (some false))=some r:=H
      have A45:=Aside0.mk A450
      clear A450
      by_cases c46:t776=true
      ·subst c46
       have H1:((laws_toIntS.f kj16 l2).bind fun t777=>((laws_eqIntS.f kj16 t764 t777).bind fun t780=>(if t780=true then ((laws_markGraph.f kj16 t759 t762 1).bind fun bt781=>((laws_markIntS.f kj16 t764 bt781.1).bind fun bt783=>(if bt783.1< 0 then (laws_FnExactWitnessColours.j1 kj16 a1 l2 t755 t758 t767 true l0_0 a0_1) else ((laws_eqIntS.f kj16 t767 t755).bind fun t785=>(if t785=true then (laws_FnExactWitnessColours.j1 kj16 a1 l2 t755 t758 t767 (t770 !=t758) l0_0 a0_1) else (laws_FnExactWitnessColours.j1 kj16 a1 l2 t755 t758 t767 true l0_0 a0_1)))))) else (some false))))=some r:=by rw [if_pos rfl] at H;exact H
       clear H
       have H:=H1
       clear H1
       replace H:=Option.bind_eq_some_iff.mp H
       obtain ⟨t777,A470,H⟩:=H
       replace H:((laws_eqIntS.f kj16 t764 t777).bind fun t780=>(if t780=true then ((laws_markGraph.f kj16 t759 t762 1).bind fun bt781=>((laws_markIntS.f kj16 t764 bt781.1).bind fun bt783=>(if bt783.1< 0 then (laws_FnExactWitnessColours.j1 kj16 a1 l2 t755 t758 t767 true l0_0 a0_1) else ((laws_eqIntS.f kj16 t767 t755).bind fun t785=>(if t785=true then (laws_FnExactWitnessColours.j1 kj16 a1 l2 t755 t758 t767 (t770 !=t758) l0_0 a0_1) else (laws_FnExactWitnessColours.j1 kj16 a1 l2 t755 t758 t767 true l0_0 a0_1)))))) else (some false)))=some r:=H
       have A47:=Aside0.mk A470
       clear A470
       replace H:=Option.bind_eq_some_iff.mp H
       obtain ⟨t780,A480,H⟩:=H
       replace H:(if t780=true then ((laws_markGraph.f kj16 t759 t762 1).bind fun bt781=>((laws_markIntS.f kj16 t764 bt781.1).bind fun bt783=>(if bt783.1< 0 then (laws_FnExactWitnessColours.j1 kj16 a1 l2 t755 t758 t767 true l0_0 a0_1) else ((laws_eqIntS.f kj16 t767 t755).bind fun t785=>(if t785=true then (laws_FnExactWitnessColours.j1 kj16 a1 l2 t755 t758 t767 (t770 !=t758) l0_0 a0_1) else (laws_FnExactWitnessColours.j1 kj16 a1 l2 t755 t758 t767 true l0_0 a0_1)))))) else (some false))=some r:=H
       have A48:=Aside0.mk A480
       clear A480
       by_cases c49:t780=true
       ·subst c49
        have H1:((laws_markGraph.f kj16 t759 t762 1).bind fun bt781=>((laws_markIntS.f kj16 t764 bt781.1).bind fun bt783=>(if bt783.1< 0 then (laws_FnExactWitnessColours.j1 kj16 a1 l2 t755 t758 t767 true l0_0 a0_1) else ((laws_eqIntS.f kj16 t767 t755).bind fun t785=>(if t785=true then (laws_FnExactWitnessColours.j1 kj16 a1 l2 t755 t758 t767 (t770 !=t758) l0_0 a0_1) else (laws_FnExactWitnessColours.j1 kj16 a1 l2 t755 t758 t767 true l0_0 a0_1))))))=some r:=by rw [if_pos rfl] at H;exact H
        clear H
        have H:=H1
        clear H1
        replace H:=Option.bind_eq_some_iff.mp H
        obtain ⟨⟨t781,t782⟩,A500,H⟩:=H
        replace H:((laws_markIntS.f kj16 t764 t781).bind fun bt783=>(if bt783.1< 0 then (laws_FnExactWitnessColours.j1 kj16 a1 l2 t755 t758 t767 true l0_0 a0_1) else ((laws_eqIntS.f kj16 t767 t755).bind fun t785=>(if t785=true then (laws_FnExactWitnessColours.j1 kj16 a1 l2 t755 t758 t767 (t770 !=t758) l0_0 a0_1) else (laws_FnExactWitnessColours.j1 kj16 a1 l2 t755 t758 t767 true l0_0 a0_1)))))=some r:=H
        have A50:=Aside0.mk A500
        clear A500
        replace H:=Option.bind_eq_some_iff.mp H
        obtain ⟨⟨t783,t784⟩,A510,H⟩:=H
        replace H:(if t783< 0 then (laws_FnExactWitnessColours.j1 kj16 a1 l2 t755 t758 t767 true l0_0 a0_1) else ((laws_eqIntS.f kj16 t767 t755).bind fun t785=>(if t785=true then (laws_FnExactWitnessColours.j1 kj16 a1 l2 t755 t758 t767 (t770 !=t758) l0_0 a0_1) else (laws_FnExactWitnessColours.j1 kj16 a1 l2 t755 t758 t767 true l0_0 a0_1))))=some r:=H
        have A51:=Aside0.mk A510
        clear A510
        have HC52:=Aside0.mk H
        clear H
        try go_wp2
        have n0_:=Aside0.mk (Kd.R_drew HO_8.out)
        have n1_:=Aside0.mk (Kd.R_drew HO_11.out)
        have n2_:=Aside0.mk (Kd.R_drew HO_12.out)
        have n3_:=Aside0.mk (Kd.R_drew HO_764000.out)
        have n4_:=Aside0.mk (blk_drew BK746.out)
        have n5_:=Aside0.mk (blk_drew BK763.out)
        have n6_:=Aside0.mk (below_drew1 HB.out)
        clear HO_8;clear HO_11;clear HO_12;clear HO_764000;clear BK746;clear BK763;clear HB
        have HO_8:=n0_
        have HO_11:=n1_
        have HO_12:=n2_
        have HO_764000:=n3_
        have BK746:=n4_
        have BK763:=n5_
        have HB:=n6_
        clear n0_ n1_ n2_ n3_ n4_ n5_ n6_
        refine start_ (n:=5) (S:=fun w'=>w'.cell? ⟨gb763,0,none⟩=some (.slice Ao30 t759.length co30)∧w'.cell? ⟨gb763,1,none⟩=some (.bool t762)∧w'.cell? ⟨gb746,0,none⟩=some (.slice A0_0 l0_0.length c0_0)∧w'.cell? ⟨gb746,1,none⟩=some (.bool a0_1)) (ds:=[]) #[false,false,false,false,false] (by kernel_rfl) rfl rfl ⟨(blk_cell BK763.out 0).trans rfl,(blk_cell BK763.out 1).trans rfl,(blk_cell BK746.out 0).trans rfl,(blk_cell BK746.out 1).trans rfl⟩ (fun hHeld=>?_)
        generalize wc.drew=w53 at HO_8 HO_11 HO_12 HO_764000 BK746 BK763 HB hHeld ⊢
        refine take_ (i:=0) (N:=some 56) (v:=?_) (a':=?_) #[true,false,false,false,false] rfl rfl (by kernel_rfl) (fun _ _ _ h=>h) (Or.inl ⟨by rfl,?_⟩) hHeld ?_ ?_
        rotate_left
        ·rintro w' ⟨s0,s1,s2,s3⟩
         go_simp
         with_reducible rfl
        rotate_left
        ·simp only [Act.put,List.setIfInBounds_toArray,List.set_cons_zero,List.set_cons_succ,i64_w,i32_w]
         rfl
        refine take_ (i:=1) (N:=some 57) (v:=?_) (a':=?_) #[true,true,false,false,false] rfl rfl (by kernel_rfl) (fun _ _ _ h=>h) (Or.inl ⟨by rfl,?_⟩) hHeld ?_ ?_
        rotate_left
        ·rintro w' ⟨s0,s1,s2,s3⟩
         go_simp
         with_reducible rfl
        rotate_left
        ·simp only [Act.put,List.setIfInBounds_toArray,List.set_cons_zero,List.set_cons_succ,i64_w,i32_w]
         rfl
        refine one_ (i:=2) (N:=some 58) #[true,true,true,false,false] rfl rfl (by kernel_rfl) (by decide) (fun K hK=>?_)
        refine goes_ Try.func17 (by kernel_rfl) rfl #[.agg #[.slice A0_0 l0_0.length c0_0,.bool a0_1]] (by rfl) rfl rfl (by (try simp only [List.map_toArray,List.map_cons,List.map_nil]);first|done|rfl|(simp only [List.length_drop,List.length_take];rfl)) ?_
        with_reducible refine (laws_toGraph.calls kj16 _ _ l0_0 a0_1 t772 t775 _ ?side1 ?side2 A44.out).mono ?_
        (case side1=>repeat (first|exact (Kd.C_below HR0_0.out HB.out)|(with_reducible refine Kd.C_alloc ?_ _)|(with_reducible refine Kd.C_drewN ?_ _)|(with_reducible refine Kd.C_drew ?_)))
        (case side2=>exact HC0_0.out)
        rintro e w54 ⟨v773,rfl,ho0,hb⟩
        refine ⟨_,rfl,?_⟩
        have n0_:=Aside0.mk (Kd.R_elder' (by (with_reducible repeat (first|apply Kd.R_alloc|apply Kd.R_drewN|apply Kd.R_drew));exact HO_8.out) (Kd.R_base ho0) hb)
        have n1_:=Aside0.mk (Kd.R_elder' (by (with_reducible repeat (first|apply Kd.R_alloc|apply Kd.R_drewN|apply Kd.R_drew));exact HO_11.out) (Kd.R_base ho0) hb)
        have n2_:=Aside0.mk (Kd.R_elder' (by (with_reducible repeat (first|apply Kd.R_alloc|apply Kd.R_drewN|apply Kd.R_drew));exact HO_12.out) (Kd.R_base ho0) hb)
        have n3_:=Aside0.mk (Kd.R_elder' (by (with_reducible repeat (first|apply Kd.R_alloc|apply Kd.R_drewN|apply Kd.R_drew));exact HO_764000.out) (Kd.R_base ho0) hb)
        have n4_:=Aside0.mk (Kd.R_lower (Kd.R_new' (Kd.R_new' (Kd.R_new' (Kd.R_new' ho0 (Kd.R_lt (by (with_reducible repeat (first|apply Kd.R_alloc|apply Kd.R_drewN|apply Kd.R_drew));exact HO_8.out))) (Kd.R_lt (by (with_reducible repeat (first|apply Kd.R_alloc|apply Kd.R_drewN|apply Kd.R_drew));exact HO_11.out))) (Kd.R_lt (by (with_reducible repeat (first|apply Kd.R_alloc|apply Kd.R_drewN|apply Kd.R_drew));exact HO_12.out))) (Kd.R_lt (by (with_reducible repeat (first|apply Kd.R_alloc|apply Kd.R_drewN|apply Kd.R_drew));exact HO_764000.out))) (below_size (by repeat (first|(with_reducible first|exact HB.out|apply below_alloc|apply pw_below_drewN|apply below_drew1|refine below_set ?_ GE746.out|refine below_set ?_ GE763.out)|exact HB.out))))
        have n5_:=Aside0.mk (blk_below (g:=gb746) (o:=.cells #[.slice A0_0 l0_0.length c0_0,.bool a0_1] 24 (0,0)) (by (with_reducible repeat (first|refine blk_drewN ?_ _|refine blk_drew ?_|refine blk_alloc ?_ _));exact BK746.out) hb)
        have n6_:=Aside0.mk (blk_below (g:=gb763) (o:=.cells #[.slice Ao30 t759.length co30,.bool t762] 28 (0,0)) (by (with_reducible repeat (first|refine blk_drewN ?_ _|refine blk_drew ?_|refine blk_alloc ?_ _));exact BK763.out) hb)
        have n7_:=Aside0.mk (below_step (by repeat (first|(with_reducible first|exact HB.out|apply below_alloc|apply pw_below_drewN|apply below_drew1|refine below_set ?_ GE746.out|refine below_set ?_ GE763.out)|exact HB.out)) hb)
        clear HO_8;clear HO_11;clear HO_12;clear HO_764000;clear BK746;clear BK763;clear HB
        have HO_8:=n0_
        have HO_11:=n1_
        have HO_12:=n2_
        have HO_764000:=n3_
        have HO774:=n4_
        have BK746:=n5_
        have BK763:=n6_
        have HB:=n7_
        clear n0_ n1_ n2_ n3_ n4_ n5_ n6_ n7_;(try clear hb);(try clear hb2);(try clear hk);(try clear hi);(try clear ho0)
        obtain ⟨Ao55,co55,eo55⟩:=Kd.R_slice HO774.out
        (first|subst eo55|(injection eo55 with f1_ f2_ f3_;have f4_:=f1_.symm;have f5_:=f3_.symm;clear f1_ f2_ f3_;subst f4_;subst f5_))
        refine hK.out _ _ ⟨(blk_cell BK763.out 0).trans rfl,(blk_cell BK763.out 1).trans rfl,(blk_cell BK746.out 0).trans rfl,(blk_cell BK746.out 1).trans rfl⟩ (fun hHeld=>?_)
        clear hK K
        refine norm_ (a':=?_) ?_ ?_
        rotate_left
        ·show Act.put _ (some 58) _=_
         simp only [Act.put,List.setIfInBounds_toArray,List.set_cons_zero,List.set_cons_succ,i64_w,i32_w]
         rfl
        refine one_ (i:=3) (N:=some 59) #[true,true,true,true,false] rfl rfl (by kernel_rfl) (by decide) (fun K hK=>?_)
        refine goes_ Try.func20 (by kernel_rfl) rfl #[.agg #[.slice Ao30 t759.length co30,.bool t762],.agg #[.slice Ao55 t772.length co55,.bool t775]] (by rfl) rfl rfl (by (try simp only [List.map_toArray,List.map_cons,List.map_nil]);first|done|rfl|(simp only [List.length_drop,List.length_take];rfl)) ?_
        with_reducible refine (laws_eqGraph.calls kj16 _ _ t759 t762 _ _ t772 t775 true _ ?side1 ?side2 ?side3 ?side4 A45.out).mono ?_
        (case side1=>repeat (first|exact (Kd.R_reads' HO_764000.out).2.2|(with_reducible refine Kd.C_alloc ?_ _)|(with_reducible refine Kd.C_drewN ?_ _)|(with_reducible refine Kd.C_drew ?_)))
        (case side2=>exact (Kd.R_reads' HO_764000.out).2.1)
        (case side3=>repeat (first|exact (Kd.R_reads' HO774.out).2.2|(with_reducible refine Kd.C_alloc ?_ _)|(with_reducible refine Kd.C_drewN ?_ _)|(with_reducible refine Kd.C_drew ?_)))
        (case side4=>exact (Kd.R_reads' HO774.out).2.1)
        rintro e w56 ⟨rfl,hb⟩
        refine ⟨_,rfl,?_⟩
        have n0_:=Aside0.mk (Kd.R_below (by (with_reducible repeat (first|apply Kd.R_alloc|apply Kd.R_drewN|apply Kd.R_drew));exact HO_8.out) hb)
        have n1_:=Aside0.mk (Kd.R_below (by (with_reducible repeat (first|apply Kd.R_alloc|apply Kd.R_drewN|apply Kd.R_drew));exact HO_11.out) hb)
        have n2_:=Aside0.mk (Kd.R_below (by (with_reducible repeat (first|apply Kd.R_alloc|apply Kd.R_drewN|apply Kd.R_drew));exact HO_12.out) hb)
        have n3_:=Aside0.mk (Kd.R_below (by (with_reducible repeat (first|apply Kd.R_alloc|apply Kd.R_drewN|apply Kd.R_drew));exact HO_764000.out) hb)
        have n4_:=Aside0.mk (Kd.R_below (by (with_reducible repeat (first|apply Kd.R_alloc|apply Kd.R_drewN|apply Kd.R_drew));exact HO774.out) hb)
        have n5_:=Aside0.mk (blk_below (g:=gb746) (o:=.cells #[.slice A0_0 l0_0.length c0_0,.bool a0_1] 24 (0,0)) (by (with_reducible repeat (first|refine blk_drewN ?_ _|refine blk_drew ?_|refine blk_alloc ?_ _));exact BK746.out) hb)
        have n6_:=Aside0.mk (blk_below (g:=gb763) (o:=.cells #[.slice Ao30 t759.length co30,.bool t762] 28 (0,0)) (by (with_reducible repeat (first|refine blk_drewN ?_ _|refine blk_drew ?_|refine blk_alloc ?_ _));exact BK763.out) hb)
        have n7_:=Aside0.mk (below_step (by repeat (first|(with_reducible first|exact HB.out|apply below_alloc|apply pw_below_drewN|apply below_drew1|refine below_set ?_ GE746.out|refine below_set ?_ GE763.out)|exact HB.out)) hb)
        clear HO_8;clear HO_11;clear HO_12;clear HO_764000;clear HO774;clear BK746;clear BK763;clear HB
        have HO_8:=n0_
        have HO_11:=n1_
        have HO_12:=n2_
        have HO_764000:=n3_
        have HO774:=n4_
        have BK746:=n5_
        have BK763:=n6_
        have HB:=n7_
        clear n0_ n1_ n2_ n3_ n4_ n5_ n6_ n7_;(try clear hb);(try clear hb2);(try clear hk);(try clear hi)
        refine hK.out _ _ ⟨(blk_cell BK763.out 0).trans rfl,(blk_cell BK763.out 1).trans rfl,(blk_cell BK746.out 0).trans rfl,(blk_cell BK746.out 1).trans rfl⟩ (fun hHeld=>?_)
        clear hK K
        refine norm_ (a':=?_) ?_ ?_
        rotate_left
        ·show Act.put _ (some 59) _=_
         simp only [Act.put,List.setIfInBounds_toArray,List.set_cons_zero,List.set_cons_succ,i64_w,i32_w]
         rfl
        refine pure_ (i:=4) (N:=some 60) (v:=?_) (a':=?_) #[true,true,true,true,true] rfl rfl (by kernel_rfl) (fun _ _ _ h=>h) (Or.inl ⟨by rfl,?_⟩) ?_ ?_
        rotate_left
        ·intro w'
         go_simp
         with_reducible rfl
        rotate_left
        ·simp only [Act.put,List.setIfInBounds_toArray,List.set_cons_zero,List.set_cons_succ,i64_w,i32_w]
         rfl
        refine done_ (by kernel_rfl) ?_
        go_upto_region 20 with (first|((with_reducible refine gate_callee (f:=18) rfl ?_);refine goesL_ (some 63) rfl rfl Try.func18 (by kernel_rfl) rfl #[.slice A2 l2.length c2] rfl (by (try simp only [List.map_toArray,List.map_cons,List.map_nil]);first|done|rfl|(simp only [List.length_drop,List.length_take];rfl)) ?_;(with_reducible refine (laws_toIntS.calls kj16 _ _ l2 t777 _ ?side1 ?side2 A47.out).mono ?_);(case side1=>repeat (first|exact (Kd.C_below HR2.out HB.out)|(with_reducible refine Kd.C_alloc ?_ _)|(with_reducible refine Kd.C_drewN ?_ _)|(with_reducible refine Kd.C_drew ?_)));(case side2=>exact HC2.out);rintro e w57 ⟨v778,rfl,ho0,hb⟩;refine ⟨_,rfl,?_⟩;have n0_:=Aside0.mk (Kd.R_elder' (by (with_reducible repeat (first|apply Kd.R_alloc|apply Kd.R_drewN|apply Kd.R_drew));exact HO_8.out) (Kd.R_base ho0) hb);have n1_:=Aside0.mk (Kd.R_elder' (by (with_reducible repeat (first|apply Kd.R_alloc|apply Kd.R_drewN|apply Kd.R_drew));exact HO_11.out) (Kd.R_base ho0) hb);have n2_:=Aside0.mk (Kd.R_elder' (by (with_reducible repeat (first|apply Kd.R_alloc|apply Kd.R_drewN|apply Kd.R_drew));exact HO_12.out) (Kd.R_base ho0) hb);have n3_:=Aside0.mk (Kd.R_elder' (by (with_reducible repeat (first|apply Kd.R_alloc|apply Kd.R_drewN|apply Kd.R_drew));exact HO_764000.out) (Kd.R_base ho0) hb);have n4_:=Aside0.mk (Kd.R_elder' (by (with_reducible repeat (first|apply Kd.R_alloc|apply Kd.R_drewN|apply Kd.R_drew));exact HO774.out) (Kd.R_base ho0) hb);have n5_:=Aside0.mk (Kd.R_lower (Kd.R_new' (Kd.R_new' (Kd.R_new' (Kd.R_new' (Kd.R_new' ho0 (Kd.R_lt (by (with_reducible repeat (first|apply Kd.R_alloc|apply Kd.R_drewN|apply Kd.R_drew));exact HO_8.out))) (Kd.R_lt (by (with_reducible repeat (first|apply Kd.R_alloc|apply Kd.R_drewN|apply Kd.R_drew));exact HO_11.out))) (Kd.R_lt (by (with_reducible repeat (first|apply Kd.R_alloc|apply Kd.R_drewN|apply Kd.R_drew));exact HO_12.out))) (Kd.R_lt (by (with_reducible repeat (first|apply Kd.R_alloc|apply Kd.R_drewN|apply Kd.R_drew));exact HO_764000.out))) (Kd.R_lt (by (with_reducible repeat (first|apply Kd.R_alloc|apply Kd.R_drewN|apply Kd.R_drew));exact HO774.out))) (below_size (by repeat (first|(with_reducible first|exact HB.out|apply below_alloc|apply pw_below_drewN|apply below_drew1|refine below_set ?_ GE746.out|refine below_set ?_ GE763.out)|exact HB.out))));have n6_:=Aside0.mk (blk_below (g:=gb746) (o:=.cells #[.slice A0_0 l0_0.length c0_0,.bool a0_1] 24 (0,0)) (by (with_reducible repeat (first|refine blk_drewN ?_ _|refine blk_drew ?_|refine blk_alloc ?_ _));exact BK746.out) hb);have n7_:=Aside0.mk (blk_below (g:=gb763) (o:=.cells #[.slice Ao30 t759.length co30,.bool t762] 28 (0,0)) (by (with_reducible repeat (first|refine blk_drewN ?_ _|refine blk_drew ?_|refine blk_alloc ?_ _));exact BK763.out) hb);have n8_:=Aside0.mk (below_step (by repeat (first|(with_reducible first|exact HB.out|apply below_alloc|apply pw_below_drewN|apply below_drew1|refine below_set ?_ GE746.out|refine below_set ?_ GE763.out)|exact HB.out)) hb);clear HO_8;clear HO_11;clear HO_12;clear HO_764000;clear HO774;clear BK746;clear BK763;clear HB;have HO_8:=n0_;have HO_11:=n1_;have HO_12:=n2_;have HO_764000:=n3_;have HO774:=n4_;have HO779:=n5_;have BK746:=n6_;have BK763:=n7_;have HB:=n8_;clear n0_ n1_ n2_ n3_ n4_ n5_ n6_ n7_ n8_;(try clear hb);(try clear hb2);(try clear hk);(try clear hi);(try clear ho0);obtain ⟨Ao58,co58,eo58⟩:=Kd.R_slice HO779.out;subst eo58)|((with_reducible refine gate_callee (f:=21) rfl ?_);refine goesL_ (some 64) rfl rfl Try.func21 (by kernel_rfl) rfl #[.slice Ao35 t764.length co35,.slice Ao58 t777.length co58] rfl (by (try simp only [List.map_toArray,List.map_cons,List.map_nil]);first|done|rfl|(simp only [List.length_drop,List.length_take];rfl)) ?_;(with_reducible refine (laws_eqIntS.calls kj16 _ _ t764 _ _ t777 true _ ?side1 ?side2 ?side3 ?side4 A48.out).mono ?_);(case side1=>repeat (first|exact (Kd.R_reads' HO_11.out).2.2|(with_reducible refine Kd.C_alloc ?_ _)|(with_reducible refine Kd.C_drewN ?_ _)|(with_reducible refine Kd.C_drew ?_)));(case side2=>exact (Kd.R_reads' HO_11.out).2.1);(case side3=>repeat (first|exact (Kd.R_reads' HO779.out).2.2|(with_reducible refine Kd.C_alloc ?_ _)|(with_reducible refine Kd.C_drewN ?_ _)|(with_reducible refine Kd.C_drew ?_)));(case side4=>exact (Kd.R_reads' HO779.out).2.1);rintro e w' ⟨rfl,⟨nd,rfl⟩⟩;refine ⟨_,rfl,?_⟩;have hnb59:=NB763_746.out;have hnc59:=NB746_763.out;have hcz60_0:w57.cell? ⟨gb763,0,none⟩=some (.slice Ao30 t759.length co30):=(blk_cell BK763.out 0).trans rfl;have hcz60_1:w57.cell? ⟨gb763,1,none⟩=some (.bool t762):=(blk_cell BK763.out 1).trans rfl;have hfz60_0:=blk_frozen BK763.out 0;have hfz60_1:=blk_frozen BK763.out 1)|((with_reducible refine gate_callee (f:=24) rfl ?_);refine goesL_ (some 68) rfl rfl Try.func24 (by kernel_rfl) rfl #[.agg #[.slice Ao30 t759.length co30,.bool t762],.int .i64 1] rfl (by (try simp only [List.map_toArray,List.map_cons,List.map_nil]);first|done|rfl|(simp only [List.length_drop,List.length_take];rfl)) ?_;(with_reducible refine (laws_markGraph.calls kj16 (fun k_=>some k_=(.slice Ao30 t759.length co30:Value).ownBlock) (.slice Ao30 t759.length co30) t759 t762 1 t781 t782 w _ ?side1 ?side2 A50.out).mono ?_);(case side1=>repeat (first|(with_reducible first|exact HB.out|apply below_alloc|apply pw_below_drewN|apply below_drew1|refine below_set ?_ GE746.out|refine below_set ?_ GE763.out)|exact HB.out));(case side2=>exact Kd.R_tight rfl HO_764000.out);rintro e w61 ⟨rfl,hy0,hb,hkp⟩;refine ⟨_,rfl,?_⟩;have n0_:=Aside0.mk (Kd.R_mono (ok':=fun k_=>some k_≠(.slice Ao35 t764.length co35:Value).ownBlock∧some k_≠(v768:Value).ownBlock∧some k_≠(.slice Ao30 t759.length co30:Value).ownBlock∧some k_≠(.slice Ao55 t772.length co55:Value).ownBlock∧some k_≠(.slice Ao58 t777.length co58:Value).ownBlock) (Kd.R_keptB (HO_8.out) hkp (fun k_ hk_ hs_=>(hk_.1.1.2.2) hs_)) (fun k_ hk_=>⟨hk_.1.1.1.1,hk_.1.1.1.2.1,hk_.1.1.1.2.2,hk_.1.1.2,hk_.1.2⟩));have n1_:=Aside0.mk (Kd.R_mono (ok':=fun k_=>some k_≠(v756:Value).ownBlock∧some k_≠(v768:Value).ownBlock∧some k_≠(.slice Ao30 t759.length co30:Value).ownBlock∧some k_≠(.slice Ao55 t772.length co55:Value).ownBlock∧some k_≠(.slice Ao58 t777.length co58:Value).ownBlock) (Kd.R_keptB (HO_11.out) hkp (fun k_ hk_ hs_=>(hk_.1.1.2.2) hs_)) (fun k_ hk_=>⟨hk_.1.1.1.1,hk_.1.1.1.2.1,hk_.1.1.1.2.2,hk_.1.1.2,hk_.1.2⟩));have n2_:=Aside0.mk (Kd.R_mono (ok':=fun k_=>some k_≠(v756:Value).ownBlock∧some k_≠(.slice Ao35 t764.length co35:Value).ownBlock∧some k_≠(.slice Ao30 t759.length co30:Value).ownBlock∧some k_≠(.slice Ao55 t772.length co55:Value).ownBlock∧some k_≠(.slice Ao58 t777.length co58:Value).ownBlock) (Kd.R_keptB (HO_12.out) hkp (fun k_ hk_ hs_=>(hk_.1.1.2.2) hs_)) (fun k_ hk_=>⟨hk_.1.1.1.1,hk_.1.1.1.2.1,hk_.1.1.1.2.2,hk_.1.1.2,hk_.1.2⟩));have n3_:=Aside0.mk (Kd.R_reok rfl hy0 (fun k_ e_=>HO_764000.out.1 k_ e_));have n4_:=Aside0.mk (blk_kept (by (with_reducible repeat (first|refine blk_drewN ?_ _|refine blk_drew ?_|refine blk_alloc ?_ _));exact BK746.out) hkp (fun hs_=>(fun e_=>(Kd.R_ne HO_764000.out BK746.out (by decide)) e_) hs_));have n5_:=Aside0.mk (blk_kept (by (with_reducible repeat (first|refine blk_drewN ?_ _|refine blk_drew ?_|refine blk_alloc ?_ _));exact BK763.out) hkp (fun hs_=>(fun e_=>(Kd.R_ne HO_764000.out BK763.out (by decide)) e_) hs_));have n6_:=Aside0.mk (Kd.R_mono (ok':=fun k_=>some k_≠(v756:Value).ownBlock∧some k_≠(.slice Ao35 t764.length co35:Value).ownBlock∧some k_≠(v768:Value).ownBlock∧some k_≠(.slice Ao30 t759.length co30:Value).ownBlock∧some k_≠(.slice Ao58 t777.length co58:Value).ownBlock) (Kd.R_keptB (HO774.out) hkp (fun k_ hk_ hs_=>(hk_.1.2) hs_)) (fun k_ hk_=>⟨hk_.1.1.1.1.1.2,hk_.1.1.1.1.2,hk_.1.1.1.2,hk_.1.1.2,hk_.1.2⟩));have n7_:=Aside0.mk (Kd.R_mono (ok':=fun k_=>some k_≠(v756:Value).ownBlock∧some k_≠(.slice Ao35 t764.length co35:Value).ownBlock∧some k_≠(v768:Value).ownBlock∧some k_≠(.slice Ao30 t759.length co30:Value).ownBlock∧some k_≠(.slice Ao55 t772.length co55:Value).ownBlock) (Kd.R_keptB (HO779.out) hkp (fun k_ hk_ hs_=>(hk_.1.2) hs_)) (fun k_ hk_=>⟨hk_.1.1.1.1.1.2,hk_.1.1.1.1.2,hk_.1.1.1.2,hk_.1.1.2,hk_.1.2⟩));have n8_:=Aside0.mk (hb);clear HO_8;clear HO_11;clear HO_12;clear HO_764000;clear BK746;clear BK763;clear HO774;clear HO779;clear HB;have HO_8:=n0_;have HO_11:=n1_;have HO_12:=n2_;have HO_764000:=n3_;have BK746:=n4_;have BK763:=n5_;have HO774:=n6_;have HO779:=n7_;have HB:=n8_;clear n0_ n1_ n2_ n3_ n4_ n5_ n6_ n7_ n8_;(try clear hb);(try clear hkp);(try clear hy0))|((with_reducible refine gate_callee (f:=25) rfl ?_);refine goesL_ (some 71) rfl rfl Try.func25 (by kernel_rfl) rfl #[.slice Ao35 t764.length co35,.int .i64 t781] rfl (by (try simp only [List.map_toArray,List.map_cons,List.map_nil]);first|done|rfl|(simp only [List.length_drop,List.length_take];rfl)) ?_;(with_reducible refine (laws_markIntS.calls kj16 (fun k_=>some k_=(.slice Ao35 t764.length co35:Value).ownBlock) (.slice Ao35 t764.length co35) t764 t781 t783 t784 w _ ?side1 ?side2 A51.out).mono ?_);(case side1=>repeat (first|(with_reducible first|exact HB.out|apply below_alloc|apply pw_below_drewN|apply below_drew1|refine below_set ?_ GE746.out|refine below_set ?_ GE763.out)|exact HB.out));(case side2=>exact Kd.R_tight rfl HO_11.out);rintro e w62 ⟨rfl,hy0,hb,hkp⟩;refine ⟨_,rfl,?_⟩;have n0_:=Aside0.mk (Kd.R_mono (ok':=fun k_=>some k_≠(.slice Ao35 t764.length co35:Value).ownBlock∧some k_≠(v768:Value).ownBlock∧some k_≠(.slice Ao30 t759.length co30:Value).ownBlock∧some k_≠(.slice Ao55 t772.length co55:Value).ownBlock∧some k_≠(.slice Ao58 t777.length co58:Value).ownBlock) (Kd.R_keptB (HO_8.out) hkp (fun k_ hk_ hs_=>(hk_.1) hs_)) (fun k_ hk_=>⟨hk_.1.1,hk_.1.2.1,hk_.1.2.2.1,hk_.1.2.2.2.1,hk_.1.2.2.2.2⟩));have n1_:=Aside0.mk (Kd.R_reok rfl hy0 (fun k_ e_=>HO_11.out.1 k_ e_));have n2_:=Aside0.mk (Kd.R_mono (ok':=fun k_=>some k_≠(v756:Value).ownBlock∧some k_≠(.slice Ao35 t764.length co35:Value).ownBlock∧some k_≠(.slice Ao30 t759.length co30:Value).ownBlock∧some k_≠(.slice Ao55 t772.length co55:Value).ownBlock∧some k_≠(.slice Ao58 t777.length co58:Value).ownBlock) (Kd.R_keptB (HO_12.out) hkp (fun k_ hk_ hs_=>(hk_.2.1) hs_)) (fun k_ hk_=>⟨hk_.1.1,hk_.1.2.1,hk_.1.2.2.1,hk_.1.2.2.2.1,hk_.1.2.2.2.2⟩));have n3_:=Aside0.mk (Kd.R_mono (ok':=fun k_=>some k_≠(v756:Value).ownBlock∧some k_≠(.slice Ao35 t764.length co35:Value).ownBlock∧some k_≠(v768:Value).ownBlock∧some k_≠(.slice Ao55 t772.length co55:Value).ownBlock∧some k_≠(.slice Ao58 t777.length co58:Value).ownBlock) (Kd.R_keptB (HO_764000.out) hkp (fun k_ hk_ hs_=>(hk_.1.1.2.1) hs_)) (fun k_ hk_=>⟨hk_.1.1.1.1,hk_.1.1.1.2.1,hk_.1.1.1.2.2,hk_.1.1.2,hk_.1.2⟩));have n4_:=Aside0.mk (blk_kept (by (with_reducible repeat (first|refine blk_drewN ?_ _|refine blk_drew ?_|refine blk_alloc ?_ _));exact BK746.out) hkp (fun hs_=>(fun e_=>(Kd.R_ne HO_11.out BK746.out (by decide)) e_) hs_));have n5_:=Aside0.mk (blk_kept (by (with_reducible repeat (first|refine blk_drewN ?_ _|refine blk_drew ?_|refine blk_alloc ?_ _));exact BK763.out) hkp (fun hs_=>(fun e_=>(Kd.R_ne HO_11.out BK763.out (by decide)) e_) hs_));have n6_:=Aside0.mk (Kd.R_mono (ok':=fun k_=>some k_≠(v756:Value).ownBlock∧some k_≠(.slice Ao35 t764.length co35:Value).ownBlock∧some k_≠(v768:Value).ownBlock∧some k_≠(.slice Ao30 t759.length co30:Value).ownBlock∧some k_≠(.slice Ao58 t777.length co58:Value).ownBlock) (Kd.R_keptB (HO774.out) hkp (fun k_ hk_ hs_=>(hk_.2.1) hs_)) (fun k_ hk_=>⟨hk_.1.1,hk_.1.2.1,hk_.1.2.2.1,hk_.1.2.2.2.1,hk_.1.2.2.2.2⟩));have n7_:=Aside0.mk (Kd.R_mono (ok':=fun k_=>some k_≠(v756:Value).ownBlock∧some k_≠(.slice Ao35 t764.length co35:Value).ownBlock∧some k_≠(v768:Value).ownBlock∧some k_≠(.slice Ao30 t759.length co30:Value).ownBlock∧some k_≠(.slice Ao55 t772.length co55:Value).ownBlock) (Kd.R_keptB (HO779.out) hkp (fun k_ hk_ hs_=>(hk_.2.1) hs_)) (fun k_ hk_=>⟨hk_.1.1,hk_.1.2.1,hk_.1.2.2.1,hk_.1.2.2.2.1,hk_.1.2.2.2.2⟩));have n8_:=Aside0.mk (hb);clear HO_8;clear HO_11;clear HO_12;clear HO_764000;clear BK746;clear BK763;clear HO774;clear HO779;clear HB;have HO_8:=n0_;have HO_11:=n1_;have HO_12:=n2_;have HO_764000:=n3_;have BK746:=n4_;have BK763:=n5_;have HO774:=n6_;have HO779:=n7_;have HB:=n8_;clear n0_ n1_ n2_ n3_ n4_ n5_ n6_ n7_ n8_;(try clear hb);(try clear hkp);(try clear hy0)))
        (try simp only [Act.put,List.setIfInBounds_toArray,List.set_cons_zero,List.set_cons_succ])
        go_cut [84] (fun v84 wc=>∃ (kq:Nat) (x84_51:Bool),v84=.bool x84_51∧Aside0 (laws_FnExactWitnessColours.j1 kq a1 l2 t755 t758 t767 x84_51 l0_0 a0_1=some r)∧Aside0 (kq≤kj16)∧Aside0 (Kd.R (Kd.int .i64) 3 wc w.heap.size (fun k_=>some k_≠(v768:Value).ownBlock∧some k_≠((.slice Ao30 t759.length co30):Value).ownBlock) v756 t755)∧Aside0 (Kd.R (Kd.int .i64) 3 wc w.heap.size (fun k_=>some k_≠(v756:Value).ownBlock∧some k_≠((.slice Ao30 t759.length co30):Value).ownBlock) v768 t767)∧Aside0 (Kd.R (Kd.int .i64) 3 wc w.heap.size (fun k_=>some k_≠(v756:Value).ownBlock∧some k_≠(v768:Value).ownBlock) (.slice Ao30 t759.length co30) t782)∧Aside0 (wc.heap[gb746]?=some (.cells #[(.slice A0_0 l0_0.length c0_0),.bool a0_1] 24 (0,0)))∧Aside0 (wc.heap[gb763]?=some (.cells #[(.slice Ao30 t759.length co30),.bool t762] 28 (0,0)))∧Aside0 (Below w.heap.size w wc))
        case first=>
         have H:=HC52.out
         clear HC52
         by_cases c63:t783< 0
         ·rw [if_pos c63] at H
          have c63b0:decide (t783< 0)=true:=decide_eq_true c63
          clear c63
          (first|rw [c63b0]|(simp only [i64_w,i32_w];rw [c63b0])|skip)
          have H':=Aside0.mk H
          clear H
          go_wp2
          go_meet
          case rel=>exact ⟨_,(true),(by first|rfl|(simp;done)|(simp [*];done)),H',⟨by have:=HJ16.out;first|omega|exact Nat.le_refl _⟩,⟨by (with_reducible repeat (first|apply Kd.R_alloc|apply Kd.R_drewN|apply Kd.R_drew));exact Kd.R_mono HO_8.out (fun _ hk=>⟨hk.2.1,hk.2.2.1⟩)⟩,⟨by (with_reducible repeat (first|apply Kd.R_alloc|apply Kd.R_drewN|apply Kd.R_drew));exact Kd.R_mono HO_12.out (fun _ hk=>⟨hk.1,hk.2.2.1⟩)⟩,⟨by (with_reducible repeat (first|apply Kd.R_alloc|apply Kd.R_drewN|apply Kd.R_drew));exact Kd.R_mono HO_764000.out (fun _ hk=>⟨hk.1,hk.2.2.1⟩)⟩,⟨by (with_reducible repeat (first|refine blk_drewN ?_ _|refine blk_drew ?_|refine blk_alloc ?_ _));exact BK746.out⟩,⟨by (with_reducible repeat (first|refine blk_drewN ?_ _|refine blk_drew ?_|refine blk_alloc ?_ _));exact BK763.out⟩,⟨by repeat (first|(with_reducible first|exact HB.out|apply below_alloc|apply pw_below_drewN|apply below_drew1|refine below_set ?_ GE746.out|refine below_set ?_ GE763.out)|exact HB.out)⟩⟩
         ·rw [if_neg c63] at H
          have c63b0:decide (t783< 0)=false:=decide_eq_false c63
          clear c63
          (first|rw [c63b0]|(simp only [i64_w,i32_w];rw [c63b0])|skip)
          replace H:=Option.bind_eq_some_iff.mp H
          obtain ⟨t785,A640,H⟩:=H
          replace H:(if t785=true then (laws_FnExactWitnessColours.j1 kj16 a1 l2 t755 t758 t767 (t770 !=t758) l0_0 a0_1) else (laws_FnExactWitnessColours.j1 kj16 a1 l2 t755 t758 t767 true l0_0 a0_1))=some r:=H
          have A64:=Aside0.mk A640
          clear A640
          by_cases c65:t785=true
          ·subst c65
           have H1:(laws_FnExactWitnessColours.j1 kj16 a1 l2 t755 t758 t767 (t770 !=t758) l0_0 a0_1)=some r:=by rw [if_pos rfl] at H;exact H
           clear H
           have H:=H1
           clear H1
           have H':=Aside0.mk H
           clear H
           obtain ⟨Ao66,co66,eo66⟩:=Kd.R_slice HO_12.out
           subst eo66
           obtain ⟨Ao67,co67,eo67⟩:=Kd.R_slice HO_8.out
           subst eo67
           go_wp2_with (first|(go_at_call 21;(with_reducible refine (laws_eqIntS.calls kj16 _ _ t767 _ _ t755 true _ ?side1 ?side2 ?side3 ?side4 A64.out).mono ?_);(case side1=>repeat (first|exact (Kd.R_reads' HO_12.out).2.2|(with_reducible refine Kd.C_alloc ?_ _)|(with_reducible refine Kd.C_drewN ?_ _)|(with_reducible refine Kd.C_drew ?_)));(case side2=>exact (Kd.R_reads' HO_12.out).2.1);(case side3=>repeat (first|exact (Kd.R_reads' HO_8.out).2.2|(with_reducible refine Kd.C_alloc ?_ _)|(with_reducible refine Kd.C_drewN ?_ _)|(with_reducible refine Kd.C_drew ?_)));(case side4=>exact (Kd.R_reads' HO_8.out).2.1);rintro e w' ⟨rfl,⟨nd,rfl⟩⟩))
           go_meet
           case rel=>exact ⟨_,((t770 !=t758)),(by first|rfl|(simp;done)|(simp [*];done)),H',⟨by have:=HJ16.out;first|omega|exact Nat.le_refl _⟩,⟨by (with_reducible repeat (first|apply Kd.R_alloc|apply Kd.R_drewN|apply Kd.R_drew));exact Kd.R_mono HO_8.out (fun _ hk=>⟨hk.2.1,hk.2.2.1⟩)⟩,⟨by (with_reducible repeat (first|apply Kd.R_alloc|apply Kd.R_drewN|apply Kd.R_drew));exact Kd.R_mono HO_12.out (fun _ hk=>⟨hk.1,hk.2.2.1⟩)⟩,⟨by (with_reducible repeat (first|apply Kd.R_alloc|apply Kd.R_drewN|apply Kd.R_drew));exact Kd.R_mono HO_764000.out (fun _ hk=>⟨hk.1,hk.2.2.1⟩)⟩,⟨by (with_reducible repeat (first|refine blk_drewN ?_ _|refine blk_drew ?_|refine blk_alloc ?_ _));exact BK746.out⟩,⟨by (with_reducible repeat (first|refine blk_drewN ?_ _|refine blk_drew ?_|refine blk_alloc ?_ _));exact BK763.out⟩,⟨by repeat (first|(with_reducible first|exact HB.out|apply below_alloc|apply pw_below_drewN|apply below_drew1|refine below_set ?_ GE746.out|refine below_set ?_ GE763.out)|exact HB.out)⟩⟩
          ·replace c65:=Bool.eq_false_iff.mpr c65
           subst c65
           have H1:(laws_FnExactWitnessColours.j1 kj16 a1 l2 t755 t758 t767 true l0_0 a0_1)=some r:=by rw [if_neg (show ¬ (false=true) by decide)] at H;exact H
           clear H
           have H:=H1
           clear H1
           have H':=Aside0.mk H
           clear H
           obtain ⟨Ao68,co68,eo68⟩:=Kd.R_slice HO_12.out
           subst eo68
           obtain ⟨Ao69,co69,eo69⟩:=Kd.R_slice HO_8.out
           subst eo69
           go_wp2_with (first|(go_at_call 21;(with_reducible refine (laws_eqIntS.calls kj16 _ _ t767 _ _ t755 false _ ?side1 ?side2 ?side3 ?side4 A64.out).mono ?_);(case side1=>repeat (first|exact (Kd.R_reads' HO_12.out).2.2|(with_reducible refine Kd.C_alloc ?_ _)|(with_reducible refine Kd.C_drewN ?_ _)|(with_reducible refine Kd.C_drew ?_)));(case side2=>exact (Kd.R_reads' HO_12.out).2.1);(case side3=>repeat (first|exact (Kd.R_reads' HO_8.out).2.2|(with_reducible refine Kd.C_alloc ?_ _)|(with_reducible refine Kd.C_drewN ?_ _)|(with_reducible refine Kd.C_drew ?_)));(case side4=>exact (Kd.R_reads' HO_8.out).2.1);rintro e w' ⟨rfl,⟨nd,rfl⟩⟩))
           go_meet
           case rel=>exact ⟨_,(true),(by first|rfl|(simp;done)|(simp [*];done)),H',⟨by have:=HJ16.out;first|omega|exact Nat.le_refl _⟩,⟨by (with_reducible repeat (first|apply Kd.R_alloc|apply Kd.R_drewN|apply Kd.R_drew));exact Kd.R_mono HO_8.out (fun _ hk=>⟨hk.2.1,hk.2.2.1⟩)⟩,⟨by (with_reducible repeat (first|apply Kd.R_alloc|apply Kd.R_drewN|apply Kd.R_drew));exact Kd.R_mono HO_12.out (fun _ hk=>⟨hk.1,hk.2.2.1⟩)⟩,⟨by (with_reducible repeat (first|apply Kd.R_alloc|apply Kd.R_drewN|apply Kd.R_drew));exact Kd.R_mono HO_764000.out (fun _ hk=>⟨hk.1,hk.2.2.1⟩)⟩,⟨by (with_reducible repeat (first|refine blk_drewN ?_ _|refine blk_drew ?_|refine blk_alloc ?_ _));exact BK746.out⟩,⟨by (with_reducible repeat (first|refine blk_drewN ?_ _|refine blk_drew ?_|refine blk_alloc ?_ _));exact BK763.out⟩,⟨by repeat (first|(with_reducible first|exact HB.out|apply below_alloc|apply pw_below_drewN|apply below_drew1|refine below_set ?_ GE746.out|refine below_set ?_ GE763.out)|exact HB.out)⟩⟩
        case rest=>
         clear HC52;(try clear c1);(try clear c2);(try clear p2);(try clear c3);(try clear c4);(try clear c4b0);(try clear c4b1);(try clear c5);(try clear c6);(try clear c7);(try clear c7b0);(try clear c11);(try clear c15);(try clear c17);(try clear c18);(try clear c20);(try clear c21);(try clear c24);(try clear c25);(try clear c31);(try clear c38);(try clear c42);(try clear c43);(try clear c46);(try clear c49);(try clear c59);(try clear c63);(try clear c63b0);(try clear c65);(try clear hcz19_0);(try clear hcz19_1);(try clear hcz21_0);(try clear hcz21_1);(try clear hcz27_0);(try clear hcz27_1);(try clear hcz32_0);(try clear hcz32_1);(try clear hcz34_0);(try clear hcz34_1);(try clear hcz60_0);(try clear hcz60_1);(try clear hcz9_0);(try clear hcz9_1);(try clear hfz19_0);(try clear hfz19_1);(try clear hfz21_0);(try clear hfz21_1);(try clear hfz27_0);(try clear hfz27_1);(try clear hfz32_0);(try clear hfz32_1);(try clear hfz34_0);(try clear hfz34_1);(try clear hfz60_0);(try clear hfz60_1);(try clear hfz9_0);(try clear hfz9_1);(try clear p2)
         obtain ⟨kq,x84_51,rfl,HA,HJ51,HO_8,HO_12,HO_764000,BK746,BK763,HB⟩:=hcut
         have hl764000_51:=(Kd.R_reads' HO_764000.out).1
         rw [hl764000_51] at HO_764000
         (try simp only [hl764000_51])
         (try simp only [hl764000_51] at BK746)
         (try simp only [hl764000_51] at BK763)
         (try simp only [hl764000_51] at HO_8)
         (try simp only [hl764000_51] at HO_12)
         cases kq with
         |zero=>exact absurd HA.out (by simp [laws_FnExactWitnessColours.j1])
         |succ kj51=>
          have H:=HA.out
          clear HA
          simp only [laws_FnExactWitnessColours.j1] at H
          by_cases c70:x84_51=true
          ·subst c70
           have H1:(some false)=some r:=by rw [if_pos rfl] at H;exact H
           clear H
           have H:=H1
           clear H1
           obtain rfl:=Option.some.inj H
           go_wp2
           go_ret
           exact ⟨by first|rfl|(simp [errW_none,errW_some]<;>rfl)|(simp [*,errW_none,errW_some]<;>rfl),by repeat (first|(with_reducible first|exact HB.out|apply below_alloc|apply pw_below_drewN|apply below_drew1|refine below_set ?_ GE746.out|refine below_set ?_ GE763.out)|exact HB.out)⟩
          ·replace c70:=Bool.eq_false_iff.mpr c70
           subst c70
           have H1:((laws_markIntS.f kj51 t767 1).bind fun bt786=>((laws_heldIntS.f kj51 bt786.2 1).bind fun t788=>(if t788< 0 then (some false) else (if t788=bt786.1 then ((laws_toGraph.f kj51 l0_0 a0_1).bind fun bt789=>((laws_toIntS.f kj51 l2).bind fun t793=>((impl_WitnessColours.f kj51 bt789.1 bt789.2 a1 t793).bind fun bt796=>((laws_eqIntS.f kj51 bt796.1 t755).bind fun t800=>(if t800=true then (laws_FnExactWitnessColours.j2 kj51 bt786.2 bt786.1 (bt796.2 !=t758)) else (laws_FnExactWitnessColours.j2 kj51 bt786.2 bt786.1 true)))))) else (some false)))))=some r:=by rw [if_neg (show ¬ (false=true) by decide)] at H;exact H
           clear H
           have H:=H1
           clear H1
           replace H:=Option.bind_eq_some_iff.mp H
           obtain ⟨⟨t786,t787⟩,A710,H⟩:=H
           replace H:((laws_heldIntS.f kj51 t787 1).bind fun t788=>(if t788< 0 then (some false) else (if t788=t786 then ((laws_toGraph.f kj51 l0_0 a0_1).bind fun bt789=>((laws_toIntS.f kj51 l2).bind fun t793=>((impl_WitnessColours.f kj51 bt789.1 bt789.2 a1 t793).bind fun bt796=>((laws_eqIntS.f kj51 bt796.1 t755).bind fun t800=>(if t800=true then (laws_FnExactWitnessColours.j2 kj51 t787 t786 (bt796.2 !=t758)) else (laws_FnExactWitnessColours.j2 kj51 t787 t786 true)))))) else (some false))))=some r:=H
           have A71:=Aside0.mk A710
           clear A710
           replace H:=Option.bind_eq_some_iff.mp H
           obtain ⟨t788,A720,H⟩:=H
           replace H:(if t788< 0 then (some false) else (if t788=t786 then ((laws_toGraph.f kj51 l0_0 a0_1).bind fun bt789=>((laws_toIntS.f kj51 l2).bind fun t793=>((impl_WitnessColours.f kj51 bt789.1 bt789.2 a1 t793).bind fun bt796=>((laws_eqIntS.f kj51 bt796.1 t755).bind fun t800=>(if t800=true then (laws_FnExactWitnessColours.j2 kj51 t787 t786 (bt796.2 !=t758)) else (laws_FnExactWitnessColours.j2 kj51 t787 t786 true)))))) else (some false)))=some r:=H
           have A72:=Aside0.mk A720
           clear A720
           by_cases c73:t788< 0
           ·rw [if_pos c73] at H
            have c73b0:decide (t788< 0)=true:=decide_eq_true c73
            clear c73
            obtain rfl:=Option.some.inj H
            obtain ⟨Ao74,co74,eo74⟩:=Kd.R_slice HO_12.out
            subst eo74
            go_wp2_with (first|((with_reducible refine gate_callee (f:=25) rfl ?_);refine goesL_ (some 87) rfl rfl Try.func25 (by kernel_rfl) rfl #[.slice Ao74 t767.length co74,.int .i64 1] rfl (by (try simp only [List.map_toArray,List.map_cons,List.map_nil]);first|done|rfl|(simp only [List.length_drop,List.length_take];rfl)) ?_;(with_reducible refine (laws_markIntS.calls kj51 (fun k_=>some k_=(.slice Ao74 t767.length co74:Value).ownBlock) (.slice Ao74 t767.length co74) t767 1 t786 t787 w _ ?side1 ?side2 A71.out).mono ?_);(case side1=>repeat (first|(with_reducible first|exact HB.out|apply below_alloc|apply pw_below_drewN|apply below_drew1|refine below_set ?_ GE746.out|refine below_set ?_ GE763.out)|exact HB.out));(case side2=>exact Kd.R_tight rfl HO_12.out);rintro e w75 ⟨rfl,hy0,hb,hkp⟩;refine ⟨_,rfl,?_⟩;have n0_:=Aside0.mk (Kd.R_mono (ok':=fun k_=>some k_≠(.slice Ao74 t767.length co74:Value).ownBlock∧some k_≠(.slice Ao30 t782.length co30:Value).ownBlock) (Kd.R_keptB (HO_8.out) hkp (fun k_ hk_ hs_=>(hk_.1) hs_)) (fun k_ hk_=>⟨hk_.1.1,hk_.1.2⟩));have n1_:=Aside0.mk (Kd.R_reok rfl hy0 (fun k_ e_=>HO_12.out.1 k_ e_));have n2_:=Aside0.mk (Kd.R_mono (ok':=fun k_=>some k_≠(v756:Value).ownBlock∧some k_≠(.slice Ao74 t767.length co74:Value).ownBlock) (Kd.R_keptB (HO_764000.out) hkp (fun k_ hk_ hs_=>(hk_.2) hs_)) (fun k_ hk_=>⟨hk_.1.1,hk_.1.2⟩));have n3_:=Aside0.mk (blk_kept (by (with_reducible repeat (first|refine blk_drewN ?_ _|refine blk_drew ?_|refine blk_alloc ?_ _));exact BK746.out) hkp (fun hs_=>(fun e_=>(Kd.R_ne HO_12.out BK746.out (by decide)) e_) hs_));have n4_:=Aside0.mk (blk_kept (by (with_reducible repeat (first|refine blk_drewN ?_ _|refine blk_drew ?_|refine blk_alloc ?_ _));exact BK763.out) hkp (fun hs_=>(fun e_=>(Kd.R_ne HO_12.out BK763.out (by decide)) e_) hs_));have n5_:=Aside0.mk (hb);clear HO_8;clear HO_12;clear HO_764000;clear BK746;clear BK763;clear HB;have HO_8:=n0_;have HO_12:=n1_;have HO_764000:=n2_;have BK746:=n3_;have BK763:=n4_;have HB:=n5_;clear n0_ n1_ n2_ n3_ n4_ n5_;(try clear hb);(try clear hkp);(try clear hy0))|((with_reducible refine gate_callee (f:=26) rfl ?_);refine goesL_ (some 90) rfl rfl Try.func26 (by kernel_rfl) rfl #[.slice Ao74 t787.length co74,.int .i64 1] rfl (by (try simp only [List.map_toArray,List.map_cons,List.map_nil]);first|done|(rw [show t787.length=t767.length from (Kd.R_reads' HO_12.out).1.symm]<;>rfl)|rfl|(simp only [List.length_drop,List.length_take];rfl)) ?_;(with_reducible refine (laws_heldIntS.calls kj51 _ _ t787 1 t788 _ ?side1 ?side2 A72.out).mono ?_);(case side1=>repeat (first|exact (Kd.R_reads' HO_12.out).2.2|(with_reducible refine Kd.C_alloc ?_ _)|(with_reducible refine Kd.C_drewN ?_ _)|(with_reducible refine Kd.C_drew ?_)));(case side2=>rw [show t787.length=t767.length from (Kd.R_reads' HO_12.out).1.symm];exact (Kd.R_reads' HO_12.out).2.1);rintro e w' ⟨rfl,⟨nd,rfl⟩⟩;refine ⟨_,rfl,?_⟩))
            go_ret
            exact ⟨by first|rfl|(simp [errW_none,errW_some]<;>rfl)|(simp [*,errW_none,errW_some]<;>rfl),by repeat (first|(with_reducible first|exact HB.out|apply below_alloc|apply pw_below_drewN|apply below_drew1|refine below_set ?_ GE746.out|refine below_set ?_ GE763.out)|exact HB.out)⟩
           ·rw [if_neg c73] at H
            have c73b0:decide (t788< 0)=false:=decide_eq_false c73
            clear c73
            by_cases c76:t788=t786
            ·rw [if_pos c76] at H
             have c76b0:(t788==t786)=true:=beq_iff_eq.mpr c76
             have c76b1:(t788 !=t786)=false:=bne_eq_false_iff_eq.mpr c76
             clear c76
             replace H:=Option.bind_eq_some_iff.mp H
             obtain ⟨⟨t789,t792⟩,A770,H⟩:=H
             replace H:((laws_toIntS.f kj51 l2).bind fun t793=>((impl_WitnessColours.f kj51 t789 t792 a1 t793).bind fun bt796=>((laws_eqIntS.f kj51 bt796.1 t755).bind fun t800=>(if t800=true then (laws_FnExactWitnessColours.j2 kj51 t787 t786 (bt796.2 !=t758)) else (laws_FnExactWitnessColours.j2 kj51 t787 t786 true)))))=some r:=H
             have A77:=Aside0.mk A770
             clear A770
             replace H:=Option.bind_eq_some_iff.mp H
             obtain ⟨t793,A780,H⟩:=H
             replace H:((impl_WitnessColours.f kj51 t789 t792 a1 t793).bind fun bt796=>((laws_eqIntS.f kj51 bt796.1 t755).bind fun t800=>(if t800=true then (laws_FnExactWitnessColours.j2 kj51 t787 t786 (bt796.2 !=t758)) else (laws_FnExactWitnessColours.j2 kj51 t787 t786 true))))=some r:=H
             have A78:=Aside0.mk A780
             clear A780
             replace H:=Option.bind_eq_some_iff.mp H
             obtain ⟨⟨t796,t799⟩,A790,H⟩:=H
             replace H:((laws_eqIntS.f kj51 t796 t755).bind fun t800=>(if t800=true then (laws_FnExactWitnessColours.j2 kj51 t787 t786 (t799 !=t758)) else (laws_FnExactWitnessColours.j2 kj51 t787 t786 true)))=some r:=H
             have A79:=Aside0.mk A790
             clear A790
             have HC80:=Aside0.mk H
             clear H
             obtain ⟨Ao81,co81,eo81⟩:=Kd.R_slice HO_12.out
             subst eo81
             go_upto_region 31 with (first|((with_reducible refine gate_callee (f:=25) rfl ?_);refine goesL_ (some 87) rfl rfl Try.func25 (by kernel_rfl) rfl #[.slice Ao81 t767.length co81,.int .i64 1] rfl (by (try simp only [List.map_toArray,List.map_cons,List.map_nil]);first|done|rfl|(simp only [List.length_drop,List.length_take];rfl)) ?_;(with_reducible refine (laws_markIntS.calls kj51 (fun k_=>some k_=(.slice Ao81 t767.length co81:Value).ownBlock) (.slice Ao81 t767.length co81) t767 1 t786 t787 w _ ?side1 ?side2 A71.out).mono ?_);(case side1=>repeat (first|(with_reducible first|exact HB.out|apply below_alloc|apply pw_below_drewN|apply below_drew1|refine below_set ?_ GE746.out|refine below_set ?_ GE763.out)|exact HB.out));(case side2=>exact Kd.R_tight rfl HO_12.out);rintro e w82 ⟨rfl,hy0,hb,hkp⟩;refine ⟨_,rfl,?_⟩;have n0_:=Aside0.mk (Kd.R_mono (ok':=fun k_=>some k_≠(.slice Ao81 t767.length co81:Value).ownBlock∧some k_≠(.slice Ao30 t782.length co30:Value).ownBlock) (Kd.R_keptB (HO_8.out) hkp (fun k_ hk_ hs_=>(hk_.1) hs_)) (fun k_ hk_=>⟨hk_.1.1,hk_.1.2⟩));have n1_:=Aside0.mk (Kd.R_reok rfl hy0 (fun k_ e_=>HO_12.out.1 k_ e_));have n2_:=Aside0.mk (Kd.R_mono (ok':=fun k_=>some k_≠(v756:Value).ownBlock∧some k_≠(.slice Ao81 t767.length co81:Value).ownBlock) (Kd.R_keptB (HO_764000.out) hkp (fun k_ hk_ hs_=>(hk_.2) hs_)) (fun k_ hk_=>⟨hk_.1.1,hk_.1.2⟩));have n3_:=Aside0.mk (blk_kept (by (with_reducible repeat (first|refine blk_drewN ?_ _|refine blk_drew ?_|refine blk_alloc ?_ _));exact BK746.out) hkp (fun hs_=>(fun e_=>(Kd.R_ne HO_12.out BK746.out (by decide)) e_) hs_));have n4_:=Aside0.mk (blk_kept (by (with_reducible repeat (first|refine blk_drewN ?_ _|refine blk_drew ?_|refine blk_alloc ?_ _));exact BK763.out) hkp (fun hs_=>(fun e_=>(Kd.R_ne HO_12.out BK763.out (by decide)) e_) hs_));have n5_:=Aside0.mk (hb);clear HO_8;clear HO_12;clear HO_764000;clear BK746;clear BK763;clear HB;have HO_8:=n0_;have HO_12:=n1_;have HO_764000:=n2_;have BK746:=n3_;have BK763:=n4_;have HB:=n5_;clear n0_ n1_ n2_ n3_ n4_ n5_;(try clear hb);(try clear hkp);(try clear hy0))|((with_reducible refine gate_callee (f:=26) rfl ?_);refine goesL_ (some 90) rfl rfl Try.func26 (by kernel_rfl) rfl #[.slice Ao81 t787.length co81,.int .i64 1] rfl (by (try simp only [List.map_toArray,List.map_cons,List.map_nil]);first|done|(rw [show t787.length=t767.length from (Kd.R_reads' HO_12.out).1.symm]<;>rfl)|rfl|(simp only [List.length_drop,List.length_take];rfl)) ?_;(with_reducible refine (laws_heldIntS.calls kj51 _ _ t787 1 t788 _ ?side1 ?side2 A72.out).mono ?_);(case side1=>repeat (first|exact (Kd.R_reads' HO_12.out).2.2|(with_reducible refine Kd.C_alloc ?_ _)|(with_reducible refine Kd.C_drewN ?_ _)|(with_reducible refine Kd.C_drew ?_)));(case side2=>rw [show t787.length=t767.length from (Kd.R_reads' HO_12.out).1.symm];exact (Kd.R_reads' HO_12.out).2.1);rintro e w' ⟨rfl,⟨nd,rfl⟩⟩;refine ⟨_,rfl,?_⟩;have hnb83:=NB746_763.out;have hnc83:=NB763_746.out;have hcz84_0:w82.cell? ⟨gb746,0,none⟩=some (.slice A0_0 l0_0.length c0_0):=(blk_cell BK746.out 0).trans rfl;have hcz84_1:w82.cell? ⟨gb746,1,none⟩=some (.bool a0_1):=(blk_cell BK746.out 1).trans rfl;have hfz84_0:=blk_frozen BK746.out 0;have hfz84_1:=blk_frozen BK746.out 1)|((with_reducible refine gate_callee (f:=17) rfl ?_);refine goesL_ (some 98) rfl rfl Try.func17 (by kernel_rfl) rfl #[.agg #[.slice A0_0 l0_0.length c0_0,.bool a0_1]] rfl (by (try simp only [List.map_toArray,List.map_cons,List.map_nil]);first|done|rfl|(simp only [List.length_drop,List.length_take];rfl)) ?_;(with_reducible refine (laws_toGraph.calls kj51 _ _ l0_0 a0_1 t789 t792 _ ?side1 ?side2 A77.out).mono ?_);(case side1=>repeat (first|exact (Kd.C_below HR0_0.out (by repeat (first|(with_reducible first|exact HB.out|apply below_alloc|apply pw_below_drewN|apply below_drew1|refine below_set ?_ GE746.out|refine below_set ?_ GE763.out)|exact HB.out)))|(with_reducible refine Kd.C_alloc ?_ _)|(with_reducible refine Kd.C_drewN ?_ _)|(with_reducible refine Kd.C_drew ?_)));(case side2=>exact HC0_0.out);rintro e w85 ⟨v790,rfl,ho0,hb⟩;refine ⟨_,rfl,?_⟩;have n0_:=Aside0.mk (Kd.R_elder' (by (with_reducible repeat (first|apply Kd.R_alloc|apply Kd.R_drewN|apply Kd.R_drew));exact HO_8.out) (Kd.R_base ho0) hb);have n1_:=Aside0.mk (Kd.R_elder' (by (with_reducible repeat (first|apply Kd.R_alloc|apply Kd.R_drewN|apply Kd.R_drew));exact HO_12.out) (Kd.R_base ho0) hb);have n2_:=Aside0.mk (Kd.R_elder' (by (with_reducible repeat (first|apply Kd.R_alloc|apply Kd.R_drewN|apply Kd.R_drew));exact HO_764000.out) (Kd.R_base ho0) hb);have n3_:=Aside0.mk (Kd.R_lower (Kd.R_new' (Kd.R_new' (Kd.R_new' ho0 (Kd.R_lt (by (with_reducible repeat (first|apply Kd.R_alloc|apply Kd.R_drewN|apply Kd.R_drew));exact HO_8.out))) (Kd.R_lt (by (with_reducible repeat (first|apply Kd.R_alloc|apply Kd.R_drewN|apply Kd.R_drew));exact HO_12.out))) (Kd.R_lt (by (with_reducible repeat (first|apply Kd.R_alloc|apply Kd.R_drewN|apply Kd.R_drew));exact HO_764000.out))) (below_size (by repeat (first|(with_reducible first|exact HB.out|apply below_alloc|apply pw_below_drewN|apply below_drew1|refine below_set ?_ GE746.out|refine below_set ?_ GE763.out)|exact HB.out))));have n4_:=Aside0.mk (blk_below (g:=gb746) (o:=.cells #[.slice A0_0 l0_0.length c0_0,.bool a0_1] 24 (0,0)) (by (with_reducible repeat (first|refine blk_drewN ?_ _|refine blk_drew ?_|refine blk_alloc ?_ _));exact BK746.out) hb);have n5_:=Aside0.mk (blk_below (g:=gb763) (o:=.cells #[.slice Ao30 t782.length co30,.bool t762] 28 (0,0)) (by (with_reducible repeat (first|refine blk_drewN ?_ _|refine blk_drew ?_|refine blk_alloc ?_ _));exact BK763.out) hb);have n6_:=Aside0.mk (below_step (by repeat (first|(with_reducible first|exact HB.out|apply below_alloc|apply pw_below_drewN|apply below_drew1|refine below_set ?_ GE746.out|refine below_set ?_ GE763.out)|exact HB.out)) hb);clear HO_8;clear HO_12;clear HO_764000;clear BK746;clear BK763;clear HB;have HO_8:=n0_;have HO_12:=n1_;have HO_764000:=n2_;have HO791:=n3_;have BK746:=n4_;have BK763:=n5_;have HB:=n6_;clear n0_ n1_ n2_ n3_ n4_ n5_ n6_;(try clear hb);(try clear hb2);(try clear hk);(try clear hi);(try clear ho0))|((with_reducible refine gate_callee (f:=18) rfl ?_);refine goesL_ (some 101) rfl rfl Try.func18 (by kernel_rfl) rfl #[.slice A2 l2.length c2] rfl (by (try simp only [List.map_toArray,List.map_cons,List.map_nil]);first|done|rfl|(simp only [List.length_drop,List.length_take];rfl)) ?_;(with_reducible refine (laws_toIntS.calls kj51 _ _ l2 t793 _ ?side1 ?side2 A78.out).mono ?_);(case side1=>repeat (first|exact (Kd.C_below HR2.out HB.out)|(with_reducible refine Kd.C_alloc ?_ _)|(with_reducible refine Kd.C_drewN ?_ _)|(with_reducible refine Kd.C_drew ?_)));(case side2=>exact HC2.out);rintro e w86 ⟨v794,rfl,ho0,hb⟩;refine ⟨_,rfl,?_⟩;have n0_:=Aside0.mk (Kd.R_elder' (by (with_reducible repeat (first|apply Kd.R_alloc|apply Kd.R_drewN|apply Kd.R_drew));exact HO_8.out) (Kd.R_base ho0) hb);have n1_:=Aside0.mk (Kd.R_elder' (by (with_reducible repeat (first|apply Kd.R_alloc|apply Kd.R_drewN|apply Kd.R_drew));exact HO_12.out) (Kd.R_base ho0) hb);have n2_:=Aside0.mk (Kd.R_elder' (by (with_reducible repeat (first|apply Kd.R_alloc|apply Kd.R_drewN|apply Kd.R_drew));exact HO_764000.out) (Kd.R_base ho0) hb);have n3_:=Aside0.mk (Kd.R_elder' (by (with_reducible repeat (first|apply Kd.R_alloc|apply Kd.R_drewN|apply Kd.R_drew));exact HO791.out) (Kd.R_base ho0) hb);have n4_:=Aside0.mk (Kd.R_lower (Kd.R_new' (Kd.R_new' (Kd.R_new' (Kd.R_new' ho0 (Kd.R_lt (by (with_reducible repeat (first|apply Kd.R_alloc|apply Kd.R_drewN|apply Kd.R_drew));exact HO_8.out))) (Kd.R_lt (by (with_reducible repeat (first|apply Kd.R_alloc|apply Kd.R_drewN|apply Kd.R_drew));exact HO_12.out))) (Kd.R_lt (by (with_reducible repeat (first|apply Kd.R_alloc|apply Kd.R_drewN|apply Kd.R_drew));exact HO_764000.out))) (Kd.R_lt (by (with_reducible repeat (first|apply Kd.R_alloc|apply Kd.R_drewN|apply Kd.R_drew));exact HO791.out))) (below_size (by repeat (first|(with_reducible first|exact HB.out|apply below_alloc|apply pw_below_drewN|apply below_drew1|refine below_set ?_ GE746.out|refine below_set ?_ GE763.out)|exact HB.out))));have n5_:=Aside0.mk (blk_below (g:=gb746) (o:=.cells #[.slice A0_0 l0_0.length c0_0,.bool a0_1] 24 (0,0)) (by (with_reducible repeat (first|refine blk_drewN ?_ _|refine blk_drew ?_|refine blk_alloc ?_ _));exact BK746.out) hb);have n6_:=Aside0.mk (blk_below (g:=gb763) (o:=.cells #[.slice Ao30 t782.length co30,.bool t762] 28 (0,0)) (by (with_reducible repeat (first|refine blk_drewN ?_ _|refine blk_drew ?_|refine blk_alloc ?_ _));exact BK763.out) hb);have n7_:=Aside0.mk (below_step (by repeat (first|(with_reducible first|exact HB.out|apply below_alloc|apply pw_below_drewN|apply below_drew1|refine below_set ?_ GE746.out|refine below_set ?_ GE763.out)|exact HB.out)) hb);clear HO_8;clear HO_12;clear HO_764000;clear HO791;clear BK746;clear BK763;clear HB;have HO_8:=n0_;have HO_12:=n1_;have HO_764000:=n2_;have HO791:=n3_;have HO795:=n4_;have BK746:=n5_;have BK763:=n6_;have HB:=n7_;clear n0_ n1_ n2_ n3_ n4_ n5_ n6_ n7_;(try clear hb);(try clear hb2);(try clear hk);(try clear hi);(try clear ho0);obtain ⟨Ao87,co87,eo87⟩:=Kd.R_slice HO791.out;subst eo87;obtain ⟨Ao88,co88,eo88⟩:=Kd.R_slice HO795.out;subst eo88)|((with_reducible refine gate_callee (f:=43) rfl ?_);refine goesL_ (some 102) rfl rfl Try.func43 (by kernel_rfl) rfl #[.agg #[.slice Ao87 t789.length co87,.bool t792],.int .i64 a1,.slice Ao88 t793.length co88] rfl (by (try simp only [List.map_toArray,List.map_cons,List.map_nil]);first|done|rfl|(simp only [List.length_drop,List.length_take];rfl)) ?_;(with_reducible refine (impl_WitnessColours.calls kj51 _ _ t789 t792 a1 _ _ t793 t796 t799 _ ?side1 ?side2 ?side3 ?side4 A79.out).mono ?_);(case side1=>repeat (first|exact (Kd.R_reads' HO791.out).2.2|(with_reducible refine Kd.C_alloc ?_ _)|(with_reducible refine Kd.C_drewN ?_ _)|(with_reducible refine Kd.C_drew ?_)));(case side2=>exact (Kd.R_reads' HO791.out).2.1);(case side3=>repeat (first|exact (Kd.R_reads' HO795.out).2.2|(with_reducible refine Kd.C_alloc ?_ _)|(with_reducible refine Kd.C_drewN ?_ _)|(with_reducible refine Kd.C_drew ?_)));(case side4=>exact (Kd.R_reads' HO795.out).2.1);rintro e w89 ⟨v797,rfl,ho0,hb⟩;refine ⟨_,rfl,?_⟩;have n0_:=Aside0.mk (Kd.R_elder' (by (with_reducible repeat (first|apply Kd.R_alloc|apply Kd.R_drewN|apply Kd.R_drew));exact HO_8.out) (Kd.R_base ho0) hb);have n1_:=Aside0.mk (Kd.R_elder' (by (with_reducible repeat (first|apply Kd.R_alloc|apply Kd.R_drewN|apply Kd.R_drew));exact HO_12.out) (Kd.R_base ho0) hb);have n2_:=Aside0.mk (Kd.R_elder' (by (with_reducible repeat (first|apply Kd.R_alloc|apply Kd.R_drewN|apply Kd.R_drew));exact HO_764000.out) (Kd.R_base ho0) hb);have n3_:=Aside0.mk (Kd.R_elder' (by (with_reducible repeat (first|apply Kd.R_alloc|apply Kd.R_drewN|apply Kd.R_drew));exact HO791.out) (Kd.R_base ho0) hb);have n4_:=Aside0.mk (Kd.R_elder' (by (with_reducible repeat (first|apply Kd.R_alloc|apply Kd.R_drewN|apply Kd.R_drew));exact HO795.out) (Kd.R_base ho0) hb);have n5_:=Aside0.mk (Kd.R_lower (Kd.R_new' (Kd.R_new' (Kd.R_new' (Kd.R_new' (Kd.R_new' ho0 (Kd.R_lt (by (with_reducible repeat (first|apply Kd.R_alloc|apply Kd.R_drewN|apply Kd.R_drew));exact HO_8.out))) (Kd.R_lt (by (with_reducible repeat (first|apply Kd.R_alloc|apply Kd.R_drewN|apply Kd.R_drew));exact HO_12.out))) (Kd.R_lt (by (with_reducible repeat (first|apply Kd.R_alloc|apply Kd.R_drewN|apply Kd.R_drew));exact HO_764000.out))) (Kd.R_lt (by (with_reducible repeat (first|apply Kd.R_alloc|apply Kd.R_drewN|apply Kd.R_drew));exact HO791.out))) (Kd.R_lt (by (with_reducible repeat (first|apply Kd.R_alloc|apply Kd.R_drewN|apply Kd.R_drew));exact HO795.out))) (below_size (by repeat (first|(with_reducible first|exact HB.out|apply below_alloc|apply pw_below_drewN|apply below_drew1|refine below_set ?_ GE746.out|refine below_set ?_ GE763.out)|exact HB.out))));have n6_:=Aside0.mk (blk_below (g:=gb746) (o:=.cells #[.slice A0_0 l0_0.length c0_0,.bool a0_1] 24 (0,0)) (by (with_reducible repeat (first|refine blk_drewN ?_ _|refine blk_drew ?_|refine blk_alloc ?_ _));exact BK746.out) hb);have n7_:=Aside0.mk (blk_below (g:=gb763) (o:=.cells #[.slice Ao30 t782.length co30,.bool t762] 28 (0,0)) (by (with_reducible repeat (first|refine blk_drewN ?_ _|refine blk_drew ?_|refine blk_alloc ?_ _));exact BK763.out) hb);have n8_:=Aside0.mk (below_step (by repeat (first|(with_reducible first|exact HB.out|apply below_alloc|apply pw_below_drewN|apply below_drew1|refine below_set ?_ GE746.out|refine below_set ?_ GE763.out)|exact HB.out)) hb);clear HO_8;clear HO_12;clear HO_764000;clear HO791;clear HO795;clear BK746;clear BK763;clear HB;have HO_8:=n0_;have HO_12:=n1_;have HO_764000:=n2_;have HO791:=n3_;have HO795:=n4_;have HO798:=n5_;have BK746:=n6_;have BK763:=n7_;have HB:=n8_;clear n0_ n1_ n2_ n3_ n4_ n5_ n6_ n7_ n8_;(try clear hb);(try clear hb2);(try clear hk);(try clear hi);(try clear ho0)))
             (try simp only [Act.put,List.setIfInBounds_toArray,List.set_cons_zero,List.set_cons_succ])
             go_cut [113] (fun v113 wc=>∃ (kq:Nat) (x113_79:Bool),v113=.bool x113_79∧Aside0 (laws_FnExactWitnessColours.j2 kq t787 t786 x113_79=some r)∧Aside0 (kq≤kj51)∧Aside0 (Kd.R (Kd.int .i64) 3 wc w.heap.size (fun k_=>some k_≠((.slice Ao30 t782.length co30):Value).ownBlock) (.slice Ao81 t767.length co81) t787)∧Aside0 (Kd.R (Kd.int .i64) 3 wc w.heap.size (fun k_=>some k_≠((.slice Ao81 t767.length co81):Value).ownBlock) (.slice Ao30 t782.length co30) t782)∧Aside0 (wc.heap[gb746]?=some (.cells #[(.slice A0_0 l0_0.length c0_0),.bool a0_1] 24 (0,0)))∧Aside0 (wc.heap[gb763]?=some (.cells #[(.slice Ao30 t782.length co30),.bool t762] 28 (0,0)))∧Aside0 (Below w.heap.size w wc))
             case first=>
              have H:=HC80.out
              clear HC80
              replace H:=Option.bind_eq_some_iff.mp H
              obtain ⟨t800,A900,H⟩:=H
              replace H:(if t800=true then (laws_FnExactWitnessColours.j2 kj51 t787 t786 (t799 !=t758)) else (laws_FnExactWitnessColours.j2 kj51 t787 t786 true))=some r:=H
              have A90:=Aside0.mk A900
              clear A900
              by_cases c91:t800=true
              ·subst c91
               have H1:(laws_FnExactWitnessColours.j2 kj51 t787 t786 (t799 !=t758))=some r:=by rw [if_pos rfl] at H;exact H
               clear H
               have H:=H1
               clear H1
               have H':=Aside0.mk H
               clear H
               obtain ⟨Ao92,co92,eo92⟩:=Kd.R_slice HO798.out
               subst eo92
               obtain ⟨Ao93,co93,eo93⟩:=Kd.R_slice HO_8.out
               subst eo93
               go_wp2_with (first|((with_reducible refine gate_callee (f:=21) rfl ?_);refine goesL_ (some 107) rfl rfl Try.func21 (by kernel_rfl) rfl #[.slice Ao92 t796.length co92,.slice Ao93 t755.length co93] rfl (by (try simp only [List.map_toArray,List.map_cons,List.map_nil]);first|done|rfl|(simp only [List.length_drop,List.length_take];rfl)) ?_;(with_reducible refine (laws_eqIntS.calls kj51 _ _ t796 _ _ t755 true _ ?side1 ?side2 ?side3 ?side4 A90.out).mono ?_);(case side1=>repeat (first|exact (Kd.R_reads' HO798.out).2.2|(with_reducible refine Kd.C_alloc ?_ _)|(with_reducible refine Kd.C_drewN ?_ _)|(with_reducible refine Kd.C_drew ?_)));(case side2=>exact (Kd.R_reads' HO798.out).2.1);(case side3=>repeat (first|exact (Kd.R_reads' HO_8.out).2.2|(with_reducible refine Kd.C_alloc ?_ _)|(with_reducible refine Kd.C_drewN ?_ _)|(with_reducible refine Kd.C_drew ?_)));(case side4=>exact (Kd.R_reads' HO_8.out).2.1);rintro e w' ⟨rfl,⟨nd,rfl⟩⟩;refine ⟨_,rfl,?_⟩))
               go_meet
               case rel=>exact ⟨_,((t799 !=t758)),(by first|rfl|(simp;done)|(simp [*];done)),H',⟨by have:=HJ16.out;have:=HJ51.out;first|omega|exact Nat.le_refl _⟩,⟨by (try simp only [hl764000_51]);(with_reducible repeat (first|apply Kd.R_alloc|apply Kd.R_drewN|apply Kd.R_drew));exact Kd.R_mono HO_12.out (fun _ hk=>hk.1.1.1.2)⟩,⟨by (try simp only [hl764000_51]);(with_reducible repeat (first|apply Kd.R_alloc|apply Kd.R_drewN|apply Kd.R_drew));exact Kd.R_mono HO_764000.out (fun _ hk=>hk.1.1.1.2)⟩,⟨by (try simp only [hl764000_51]);(with_reducible repeat (first|refine blk_drewN ?_ _|refine blk_drew ?_|refine blk_alloc ?_ _));exact BK746.out⟩,⟨by (try simp only [hl764000_51]);(with_reducible repeat (first|refine blk_drewN ?_ _|refine blk_drew ?_|refine blk_alloc ?_ _));exact BK763.out⟩,⟨by repeat (first|(with_reducible first|exact HB.out|apply below_alloc|apply pw_below_drewN|apply below_drew1|refine below_set ?_ GE746.out|refine below_set ?_ GE763.out)|exact HB.out)⟩⟩
              ·replace c91:=Bool.eq_false_iff.mpr c91
               subst c91
               have H1:(laws_FnExactWitnessColours.j2 kj51 t787 t786 true)=some r:=by rw [if_neg (show ¬ (false=true) by decide)] at H;exact H
               clear H
               have H:=H1
               clear H1
               have H':=Aside0.mk H
               clear H
               obtain ⟨Ao94,co94,eo94⟩:=Kd.R_slice HO798.out
               subst eo94
               obtain ⟨Ao95,co95,eo95⟩:=Kd.R_slice HO_8.out
               subst eo95
               go_wp2_with (first|((with_reducible refine gate_callee (f:=21) rfl ?_);refine goesL_ (some 107) rfl rfl Try.func21 (by kernel_rfl) rfl #[.slice Ao94 t796.length co94,.slice Ao95 t755.length co95] rfl (by (try simp only [List.map_toArray,List.map_cons,List.map_nil]);first|done|rfl|(simp only [List.length_drop,List.length_take];rfl)) ?_;(with_reducible refine (laws_eqIntS.calls kj51 _ _ t796 _ _ t755 false _ ?side1 ?side2 ?side3 ?side4 A90.out).mono ?_);(case side1=>repeat (first|exact (Kd.R_reads' HO798.out).2.2|(with_reducible refine Kd.C_alloc ?_ _)|(with_reducible refine Kd.C_drewN ?_ _)|(with_reducible refine Kd.C_drew ?_)));(case side2=>exact (Kd.R_reads' HO798.out).2.1);(case side3=>repeat (first|exact (Kd.R_reads' HO_8.out).2.2|(with_reducible refine Kd.C_alloc ?_ _)|(with_reducible refine Kd.C_drewN ?_ _)|(with_reducible refine Kd.C_drew ?_)));(case side4=>exact (Kd.R_reads' HO_8.out).2.1);rintro e w' ⟨rfl,⟨nd,rfl⟩⟩;refine ⟨_,rfl,?_⟩))
               go_meet
               case rel=>exact ⟨_,(true),(by first|rfl|(simp;done)|(simp [*];done)),H',⟨by have:=HJ16.out;have:=HJ51.out;first|omega|exact Nat.le_refl _⟩,⟨by (try simp only [hl764000_51]);(with_reducible repeat (first|apply Kd.R_alloc|apply Kd.R_drewN|apply Kd.R_drew));exact Kd.R_mono HO_12.out (fun _ hk=>hk.1.1.1.2)⟩,⟨by (try simp only [hl764000_51]);(with_reducible repeat (first|apply Kd.R_alloc|apply Kd.R_drewN|apply Kd.R_drew));exact Kd.R_mono HO_764000.out (fun _ hk=>hk.1.1.1.2)⟩,⟨by (try simp only [hl764000_51]);(with_reducible repeat (first|refine blk_drewN ?_ _|refine blk_drew ?_|refine blk_alloc ?_ _));exact BK746.out⟩,⟨by (try simp only [hl764000_51]);(with_reducible repeat (first|refine blk_drewN ?_ _|refine blk_drew ?_|refine blk_alloc ?_ _));exact BK763.out⟩,⟨by repeat (first|(with_reducible first|exact HB.out|apply below_alloc|apply pw_below_drewN|apply below_drew1|refine below_set ?_ GE746.out|refine below_set ?_ GE763.out)|exact HB.out)⟩⟩
             case rest=>
              clear HC80;(try clear c1);(try clear c2);(try clear p2);(try clear c3);(try clear c4);(try clear c4b0);(try clear c4b1);(try clear c5);(try clear c6);(try clear c7);(try clear c7b0);(try clear c8);(try clear c9);(try clear c11);(try clear c15);(try clear c17);(try clear c18);(try clear c20);(try clear c21);(try clear c24);(try clear c25);(try clear c26);(try clear c31);(try clear c38);(try clear c42);(try clear c43);(try clear c46);(try clear c49);(try clear c59);(try clear c63);(try clear c63b0);(try clear c65);(try clear c70);(try clear c73);(try clear c73b0);(try clear c76);(try clear c76b0);(try clear c76b1);(try clear c83);(try clear c91);(try clear hcz19_0);(try clear hcz19_1);(try clear hcz21_0);(try clear hcz21_1);(try clear hcz27_0);(try clear hcz27_1);(try clear hcz32_0);(try clear hcz32_1);(try clear hcz34_0);(try clear hcz34_1);(try clear hcz60_0);(try clear hcz60_1);(try clear hcz84_0);(try clear hcz84_1);(try clear hcz9_0);(try clear hcz9_1);(try clear hfz19_0);(try clear hfz19_1);(try clear hfz21_0);(try clear hfz21_1);(try clear hfz27_0);(try clear hfz27_1);(try clear hfz32_0);(try clear hfz32_1);(try clear hfz34_0);(try clear hfz34_1);(try clear hfz60_0);(try clear hfz60_1);(try clear hfz84_0);(try clear hfz84_1);(try clear hfz9_0);(try clear hfz9_1);(try clear p2)
              obtain ⟨kq,x113_79,rfl,HA,HJ79,HO_12,HO_764000,BK746,BK763,HB⟩:=hcut
              have hl12_79:=(Kd.R_reads' HO_12.out).1
              rw [hl12_79] at HO_12
              (try simp only [hl12_79])
              (try simp only [hl12_79] at BK746)
              (try simp only [hl12_79] at BK763)
              (try simp only [hl12_79] at HO_764000)
              cases kq with
              |zero=>exact absurd HA.out (by simp [laws_FnExactWitnessColours.j2])
              |succ kj79=>
               have H:=HA.out
               clear HA
               simp only [laws_FnExactWitnessColours.j2] at H
               by_cases c96:x113_79=true
               ·subst c96
                have H1:(some false)=some r:=by rw [if_pos rfl] at H;exact H
                clear H
                have H:=H1
                clear H1
                obtain rfl:=Option.some.inj H
                go_wp2
                go_ret
                exact ⟨by first|rfl|(simp [errW_none,errW_some]<;>rfl)|(simp [*,errW_none,errW_some]<;>rfl),by repeat (first|(with_reducible first|exact HB.out|apply below_alloc|apply pw_below_drewN|apply below_drew1|refine below_set ?_ GE746.out|refine below_set ?_ GE763.out)|exact HB.out)⟩
               ·replace c96:=Bool.eq_false_iff.mpr c96
                subst c96
                have H1:((laws_heldIntS.f kj79 t787 1).bind fun t801=>(if t801< 0 then (some false) else (if t801=t786 then (some true) else (some false))))=some r:=by rw [if_neg (show ¬ (false=true) by decide)] at H;exact H
                clear H
                have H:=H1
                clear H1
                replace H:=Option.bind_eq_some_iff.mp H
                obtain ⟨t801,A970,H⟩:=H
                replace H:(if t801< 0 then (some false) else (if t801=t786 then (some true) else (some false)))=some r:=H
                have A97:=Aside0.mk A970
                clear A970
                by_cases c98:t801< 0
                ·rw [if_pos c98] at H
                 have c98b0:decide (t801< 0)=true:=decide_eq_true c98
                 clear c98
                 obtain rfl:=Option.some.inj H
                 go_wp2_with (first|((with_reducible refine gate_callee (f:=26) rfl ?_);refine goesL_ (some 116) rfl rfl Try.func26 (by kernel_rfl) rfl #[.slice Ao81 t787.length co81,.int .i64 1] rfl (by (try simp only [List.map_toArray,List.map_cons,List.map_nil]);first|done|rfl|(simp only [List.length_drop,List.length_take];rfl)) ?_;(with_reducible refine (laws_heldIntS.calls kj79 _ _ t787 1 t801 _ ?side1 ?side2 A97.out).mono ?_);(case side1=>repeat (first|exact (Kd.R_reads' HO_12.out).2.2|(with_reducible refine Kd.C_alloc ?_ _)|(with_reducible refine Kd.C_drewN ?_ _)|(with_reducible refine Kd.C_drew ?_)));(case side2=>exact (Kd.R_reads' HO_12.out).2.1);rintro e w' ⟨rfl,⟨nd,rfl⟩⟩;refine ⟨_,rfl,?_⟩))
                 go_ret
                 exact ⟨by first|rfl|(simp [errW_none,errW_some]<;>rfl)|(simp [*,errW_none,errW_some]<;>rfl),by repeat (first|(with_reducible first|exact HB.out|apply below_alloc|apply pw_below_drewN|apply below_drew1|refine below_set ?_ GE746.out|refine below_set ?_ GE763.out)|exact HB.out)⟩
                ·rw [if_neg c98] at H
                 have c98b0:decide (t801< 0)=false:=decide_eq_false c98
                 clear c98
                 by_cases c99:t801=t786
                 ·rw [if_pos c99] at H
                  have c99b0:(t801==t786)=true:=beq_iff_eq.mpr c99
                  have c99b1:(t801 !=t786)=false:=bne_eq_false_iff_eq.mpr c99
                  clear c99
                  obtain rfl:=Option.some.inj H
                  go_wp2_with (first|((with_reducible refine gate_callee (f:=26) rfl ?_);refine goesL_ (some 116) rfl rfl Try.func26 (by kernel_rfl) rfl #[.slice Ao81 t787.length co81,.int .i64 1] rfl (by (try simp only [List.map_toArray,List.map_cons,List.map_nil]);first|done|rfl|(simp only [List.length_drop,List.length_take];rfl)) ?_;(with_reducible refine (laws_heldIntS.calls kj79 _ _ t787 1 t801 _ ?side1 ?side2 A97.out).mono ?_);(case side1=>repeat (first|exact (Kd.R_reads' HO_12.out).2.2|(with_reducible refine Kd.C_alloc ?_ _)|(with_reducible refine Kd.C_drewN ?_ _)|(with_reducible refine Kd.C_drew ?_)));(case side2=>exact (Kd.R_reads' HO_12.out).2.1);rintro e w' ⟨rfl,⟨nd,rfl⟩⟩;refine ⟨_,rfl,?_⟩))
                  go_ret
                  exact ⟨by first|rfl|(simp [errW_none,errW_some]<;>rfl)|(simp [*,errW_none,errW_some]<;>rfl),by repeat (first|(with_reducible first|exact HB.out|apply below_alloc|apply pw_below_drewN|apply below_drew1|refine below_set ?_ GE746.out|refine below_set ?_ GE763.out)|exact HB.out)⟩
                 ·rw [if_neg c99] at H
                  have c99b0:(t801==t786)=false:=beq_eq_false_iff_ne.mpr c99
                  have c99b1:(t801 !=t786)=true:=bne_iff_ne.mpr c99
                  obtain rfl:=Option.some.inj H
                  go_wp2_with (first|((with_reducible refine gate_callee (f:=26) rfl ?_);refine goesL_ (some 116) rfl rfl Try.func26 (by kernel_rfl) rfl #[.slice Ao81 t787.length co81,.int .i64 1] rfl (by (try simp only [List.map_toArray,List.map_cons,List.map_nil]);first|done|rfl|(simp only [List.length_drop,List.length_take];rfl)) ?_;(with_reducible refine (laws_heldIntS.calls kj79 _ _ t787 1 t801 _ ?side1 ?side2 A97.out).mono ?_);(case side1=>repeat (first|exact (Kd.R_reads' HO_12.out).2.2|(with_reducible refine Kd.C_alloc ?_ _)|(with_reducible refine Kd.C_drewN ?_ _)|(with_reducible refine Kd.C_drew ?_)));(case side2=>exact (Kd.R_reads' HO_12.out).2.1);rintro e w' ⟨rfl,⟨nd,rfl⟩⟩;refine ⟨_,rfl,?_⟩))
                  go_ret
                  exact ⟨by first|rfl|(simp [errW_none,errW_some]<;>rfl)|(simp [*,errW_none,errW_some]<;>rfl),by repeat (first|(with_reducible first|exact HB.out|apply below_alloc|apply pw_below_drewN|apply below_drew1|refine below_set ?_ GE746.out|refine below_set ?_ GE763.out)|exact HB.out)⟩
            ·rw [if_neg c76] at H
             have c76b0:(t788==t786)=false:=beq_eq_false_iff_ne.mpr c76
             have c76b1:(t788 !=t786)=true:=bne_iff_ne.mpr c76
             obtain rfl:=Option.some.inj H
             obtain ⟨Ao100,co100,eo100⟩:=Kd.R_slice HO_12.out
             subst eo100
             go_wp2_with (first|((with_reducible refine gate_callee (f:=25) rfl ?_);refine goesL_ (some 87) rfl rfl Try.func25 (by kernel_rfl) rfl #[.slice Ao100 t767.length co100,.int .i64 1] rfl (by (try simp only [List.map_toArray,List.map_cons,List.map_nil]);first|done|rfl|(simp only [List.length_drop,List.length_take];rfl)) ?_;(with_reducible refine (laws_markIntS.calls kj51 (fun k_=>some k_=(.slice Ao100 t767.length co100:Value).ownBlock) (.slice Ao100 t767.length co100) t767 1 t786 t787 w _ ?side1 ?side2 A71.out).mono ?_);(case side1=>repeat (first|(with_reducible first|exact HB.out|apply below_alloc|apply pw_below_drewN|apply below_drew1|refine below_set ?_ GE746.out|refine below_set ?_ GE763.out)|exact HB.out));(case side2=>exact Kd.R_tight rfl HO_12.out);rintro e w101 ⟨rfl,hy0,hb,hkp⟩;refine ⟨_,rfl,?_⟩;have n0_:=Aside0.mk (Kd.R_mono (ok':=fun k_=>some k_≠(.slice Ao100 t767.length co100:Value).ownBlock∧some k_≠(.slice Ao30 t782.length co30:Value).ownBlock) (Kd.R_keptB (HO_8.out) hkp (fun k_ hk_ hs_=>(hk_.1) hs_)) (fun k_ hk_=>⟨hk_.1.1,hk_.1.2⟩));have n1_:=Aside0.mk (Kd.R_reok rfl hy0 (fun k_ e_=>HO_12.out.1 k_ e_));have n2_:=Aside0.mk (Kd.R_mono (ok':=fun k_=>some k_≠(v756:Value).ownBlock∧some k_≠(.slice Ao100 t767.length co100:Value).ownBlock) (Kd.R_keptB (HO_764000.out) hkp (fun k_ hk_ hs_=>(hk_.2) hs_)) (fun k_ hk_=>⟨hk_.1.1,hk_.1.2⟩));have n3_:=Aside0.mk (blk_kept (by (with_reducible repeat (first|refine blk_drewN ?_ _|refine blk_drew ?_|refine blk_alloc ?_ _));exact BK746.out) hkp (fun hs_=>(fun e_=>(Kd.R_ne HO_12.out BK746.out (by decide)) e_) hs_));have n4_:=Aside0.mk (blk_kept (by (with_reducible repeat (first|refine blk_drewN ?_ _|refine blk_drew ?_|refine blk_alloc ?_ _));exact BK763.out) hkp (fun hs_=>(fun e_=>(Kd.R_ne HO_12.out BK763.out (by decide)) e_) hs_));have n5_:=Aside0.mk (hb);clear HO_8;clear HO_12;clear HO_764000;clear BK746;clear BK763;clear HB;have HO_8:=n0_;have HO_12:=n1_;have HO_764000:=n2_;have BK746:=n3_;have BK763:=n4_;have HB:=n5_;clear n0_ n1_ n2_ n3_ n4_ n5_;(try clear hb);(try clear hkp);(try clear hy0))|((with_reducible refine gate_callee (f:=26) rfl ?_);refine goesL_ (some 90) rfl rfl Try.func26 (by kernel_rfl) rfl #[.slice Ao100 t787.length co100,.int .i64 1] rfl (by (try simp only [List.map_toArray,List.map_cons,List.map_nil]);first|done|(rw [show t787.length=t767.length from (Kd.R_reads' HO_12.out).1.symm]<;>rfl)|rfl|(simp only [List.length_drop,List.length_take];rfl)) ?_;(with_reducible refine (laws_heldIntS.calls kj51 _ _ t787 1 t788 _ ?side1 ?side2 A72.out).mono ?_);(case side1=>repeat (first|exact (Kd.R_reads' HO_12.out).2.2|(with_reducible refine Kd.C_alloc ?_ _)|(with_reducible refine Kd.C_drewN ?_ _)|(with_reducible refine Kd.C_drew ?_)));(case side2=>rw [show t787.length=t767.length from (Kd.R_reads' HO_12.out).1.symm];exact (Kd.R_reads' HO_12.out).2.1);rintro e w' ⟨rfl,⟨nd,rfl⟩⟩;refine ⟨_,rfl,?_⟩))
             go_ret
             exact ⟨by first|rfl|(simp [errW_none,errW_some]<;>rfl)|(simp [*,errW_none,errW_some]<;>rfl),by repeat (first|(with_reducible first|exact HB.out|apply below_alloc|apply pw_below_drewN|apply below_drew1|refine below_set ?_ GE746.out|refine below_set ?_ GE763.out)|exact HB.out)⟩
       ·replace c49:=Bool.eq_false_iff.mpr c49
        subst c49
        have H1:(some false)=some r:=by rw [if_neg (show ¬ (false=true) by decide)] at H;exact H
        clear H
        have H:=H1
        clear H1
        obtain rfl:=Option.some.inj H
        try go_wp2
        have n0_:=Aside0.mk (Kd.R_drew HO_8.out)
        have n1_:=Aside0.mk (Kd.R_drew HO_11.out)
        have n2_:=Aside0.mk (Kd.R_drew HO_12.out)
        have n3_:=Aside0.mk (Kd.R_drew HO_764000.out)
        have n4_:=Aside0.mk (blk_drew BK746.out)
        have n5_:=Aside0.mk (blk_drew BK763.out)
        have n6_:=Aside0.mk (below_drew1 HB.out)
        clear HO_8;clear HO_11;clear HO_12;clear HO_764000;clear BK746;clear BK763;clear HB
        have HO_8:=n0_
        have HO_11:=n1_
        have HO_12:=n2_
        have HO_764000:=n3_
        have BK746:=n4_
        have BK763:=n5_
        have HB:=n6_
        clear n0_ n1_ n2_ n3_ n4_ n5_ n6_
        refine start_ (n:=5) (S:=fun w'=>w'.cell? ⟨gb763,0,none⟩=some (.slice Ao30 t759.length co30)∧w'.cell? ⟨gb763,1,none⟩=some (.bool t762)∧w'.cell? ⟨gb746,0,none⟩=some (.slice A0_0 l0_0.length c0_0)∧w'.cell? ⟨gb746,1,none⟩=some (.bool a0_1)) (ds:=[]) #[false,false,false,false,false] (by kernel_rfl) rfl rfl ⟨(blk_cell BK763.out 0).trans rfl,(blk_cell BK763.out 1).trans rfl,(blk_cell BK746.out 0).trans rfl,(blk_cell BK746.out 1).trans rfl⟩ (fun hHeld=>?_)
        generalize wc.drew=w102 at HO_8 HO_11 HO_12 HO_764000 BK746 BK763 HB hHeld ⊢
        refine take_ (i:=0) (N:=some 56) (v:=?_) (a':=?_) #[true,false,false,false,false] rfl rfl (by kernel_rfl) (fun _ _ _ h=>h) (Or.inl ⟨by rfl,?_⟩) hHeld ?_ ?_
        rotate_left
        ·rintro w' ⟨s0,s1,s2,s3⟩
         go_simp
         with_reducible rfl
        rotate_left
        ·simp only [Act.put,List.setIfInBounds_toArray,List.set_cons_zero,List.set_cons_succ,i64_w,i32_w]
         rfl
        refine take_ (i:=1) (N:=some 57) (v:=?_) (a':=?_) #[true,true,false,false,false] rfl rfl (by kernel_rfl) (fun _ _ _ h=>h) (Or.inl ⟨by rfl,?_⟩) hHeld ?_ ?_
        rotate_left
        ·rintro w' ⟨s0,s1,s2,s3⟩
         go_simp
         with_reducible rfl
        rotate_left
        ·simp only [Act.put,List.setIfInBounds_toArray,List.set_cons_zero,List.set_cons_succ,i64_w,i32_w]
         rfl
        refine one_ (i:=2) (N:=some 58) #[true,true,true,false,false] rfl rfl (by kernel_rfl) (by decide) (fun K hK=>?_)
        refine goes_ Try.func17 (by kernel_rfl) rfl #[.agg #[.slice A0_0 l0_0.length c0_0,.bool a0_1]] (by rfl) rfl rfl (by (try simp only [List.map_toArray,List.map_cons,List.map_nil]);first|done|rfl|(simp only [List.length_drop,List.length_take];rfl)) ?_
        with_reducible refine (laws_toGraph.calls kj16 _ _ l0_0 a0_1 t772 t775 _ ?side1 ?side2 A44.out).mono ?_
        (case side1=>repeat (first|exact (Kd.C_below HR0_0.out HB.out)|(with_reducible refine Kd.C_alloc ?_ _)|(with_reducible refine Kd.C_drewN ?_ _)|(with_reducible refine Kd.C_drew ?_)))
        (case side2=>exact HC0_0.out)
        rintro e w103 ⟨v773,rfl,ho0,hb⟩
        refine ⟨_,rfl,?_⟩
        have n0_:=Aside0.mk (Kd.R_elder' (by (with_reducible repeat (first|apply Kd.R_alloc|apply Kd.R_drewN|apply Kd.R_drew));exact HO_8.out) (Kd.R_base ho0) hb)
        have n1_:=Aside0.mk (Kd.R_elder' (by (with_reducible repeat (first|apply Kd.R_alloc|apply Kd.R_drewN|apply Kd.R_drew));exact HO_11.out) (Kd.R_base ho0) hb)
        have n2_:=Aside0.mk (Kd.R_elder' (by (with_reducible repeat (first|apply Kd.R_alloc|apply Kd.R_drewN|apply Kd.R_drew));exact HO_12.out) (Kd.R_base ho0) hb)
        have n3_:=Aside0.mk (Kd.R_elder' (by (with_reducible repeat (first|apply Kd.R_alloc|apply Kd.R_drewN|apply Kd.R_drew));exact HO_764000.out) (Kd.R_base ho0) hb)
        have n4_:=Aside0.mk (Kd.R_lower (Kd.R_new' (Kd.R_new' (Kd.R_new' (Kd.R_new' ho0 (Kd.R_lt (by (with_reducible repeat (first|apply Kd.R_alloc|apply Kd.R_drewN|apply Kd.R_drew));exact HO_8.out))) (Kd.R_lt (by (with_reducible repeat (first|apply Kd.R_alloc|apply Kd.R_drewN|apply Kd.R_drew));exact HO_11.out))) (Kd.R_lt (by (with_reducible repeat (first|apply Kd.R_alloc|apply Kd.R_drewN|apply Kd.R_drew));exact HO_12.out))) (Kd.R_lt (by (with_reducible repeat (first|apply Kd.R_alloc|apply Kd.R_drewN|apply Kd.R_drew));exact HO_764000.out))) (below_size (by repeat (first|(with_reducible first|exact HB.out|apply below_alloc|apply pw_below_drewN|apply below_drew1|refine below_set ?_ GE746.out|refine below_set ?_ GE763.out)|exact HB.out))))
        have n5_:=Aside0.mk (blk_below (g:=gb746) (o:=.cells #[.slice A0_0 l0_0.length c0_0,.bool a0_1] 24 (0,0)) (by (with_reducible repeat (first|refine blk_drewN ?_ _|refine blk_drew ?_|refine blk_alloc ?_ _));exact BK746.out) hb)
        have n6_:=Aside0.mk (blk_below (g:=gb763) (o:=.cells #[.slice Ao30 t759.length co30,.bool t762] 28 (0,0)) (by (with_reducible repeat (first|refine blk_drewN ?_ _|refine blk_drew ?_|refine blk_alloc ?_ _));exact BK763.out) hb)
        have n7_:=Aside0.mk (below_step (by repeat (first|(with_reducible first|exact HB.out|apply below_alloc|apply pw_below_drewN|apply below_drew1|refine below_set ?_ GE746.out|refine below_set ?_ GE763.out)|exact HB.out)) hb)
        clear HO_8;clear HO_11;clear HO_12;clear HO_764000;clear BK746;clear BK763;clear HB
        have HO_8:=n0_
        have HO_11:=n1_
        have HO_12:=n2_
        have HO_764000:=n3_
        have HO774:=n4_
        have BK746:=n5_
        have BK763:=n6_
        have HB:=n7_
        clear n0_ n1_ n2_ n3_ n4_ n5_ n6_ n7_;(try clear hb);(try clear hb2);(try clear hk);(try clear hi);(try clear ho0)
        obtain ⟨Ao104,co104,eo104⟩:=Kd.R_slice HO774.out
        (first|subst eo104|(injection eo104 with f1_ f2_ f3_;have f4_:=f1_.symm;have f5_:=f3_.symm;clear f1_ f2_ f3_;subst f4_;subst f5_))
        refine hK.out _ _ ⟨(blk_cell BK763.out 0).trans rfl,(blk_cell BK763.out 1).trans rfl,(blk_cell BK746.out 0).trans rfl,(blk_cell BK746.out 1).trans rfl⟩ (fun hHeld=>?_)
        clear hK K
        refine norm_ (a':=?_) ?_ ?_
        rotate_left
        ·show Act.put _ (some 58) _=_
         simp only [Act.put,List.setIfInBounds_toArray,List.set_cons_zero,List.set_cons_succ,i64_w,i32_w]
         rfl
        refine one_ (i:=3) (N:=some 59) #[true,true,true,true,false] rfl rfl (by kernel_rfl) (by decide) (fun K hK=>?_)
        refine goes_ Try.func20 (by kernel_rfl) rfl #[.agg #[.slice Ao30 t759.length co30,.bool t762],.agg #[.slice Ao104 t772.length co104,.bool t775]] (by rfl) rfl rfl (by (try simp only [List.map_toArray,List.map_cons,List.map_nil]);first|done|rfl|(simp only [List.length_drop,List.length_take];rfl)) ?_
        with_reducible refine (laws_eqGraph.calls kj16 _ _ t759 t762 _ _ t772 t775 true _ ?side1 ?side2 ?side3 ?side4 A45.out).mono ?_
        (case side1=>repeat (first|exact (Kd.R_reads' HO_764000.out).2.2|(with_reducible refine Kd.C_alloc ?_ _)|(with_reducible refine Kd.C_drewN ?_ _)|(with_reducible refine Kd.C_drew ?_)))
        (case side2=>exact (Kd.R_reads' HO_764000.out).2.1)
        (case side3=>repeat (first|exact (Kd.R_reads' HO774.out).2.2|(with_reducible refine Kd.C_alloc ?_ _)|(with_reducible refine Kd.C_drewN ?_ _)|(with_reducible refine Kd.C_drew ?_)))
        (case side4=>exact (Kd.R_reads' HO774.out).2.1)
        rintro e w105 ⟨rfl,hb⟩
        refine ⟨_,rfl,?_⟩
        have n0_:=Aside0.mk (Kd.R_below (by (with_reducible repeat (first|apply Kd.R_alloc|apply Kd.R_drewN|apply Kd.R_drew));exact HO_8.out) hb)
        have n1_:=Aside0.mk (Kd.R_below (by (with_reducible repeat (first|apply Kd.R_alloc|apply Kd.R_drewN|apply Kd.R_drew));exact HO_11.out) hb)
        have n2_:=Aside0.mk (Kd.R_below (by (with_reducible repeat (first|apply Kd.R_alloc|apply Kd.R_drewN|apply Kd.R_drew));exact HO_12.out) hb)
        have n3_:=Aside0.mk (Kd.R_below (by (with_reducible repeat (first|apply Kd.R_alloc|apply Kd.R_drewN|apply Kd.R_drew));exact HO_764000.out) hb)
        have n4_:=Aside0.mk (Kd.R_below (by (with_reducible repeat (first|apply Kd.R_alloc|apply Kd.R_drewN|apply Kd.R_drew));exact HO774.out) hb)
        have n5_:=Aside0.mk (blk_below (g:=gb746) (o:=.cells #[.slice A0_0 l0_0.length c0_0,.bool a0_1] 24 (0,0)) (by (with_reducible repeat (first|refine blk_drewN ?_ _|refine blk_drew ?_|refine blk_alloc ?_ _));exact BK746.out) hb)
        have n6_:=Aside0.mk (blk_below (g:=gb763) (o:=.cells #[.slice Ao30 t759.length co30,.bool t762] 28 (0,0)) (by (with_reducible repeat (first|refine blk_drewN ?_ _|refine blk_drew ?_|refine blk_alloc ?_ _));exact BK763.out) hb)
        have n7_:=Aside0.mk (below_step (by repeat (first|(with_reducible first|exact HB.out|apply below_alloc|apply pw_below_drewN|apply below_drew1|refine below_set ?_ GE746.out|refine below_set ?_ GE763.out)|exact HB.out)) hb)
        clear HO_8;clear HO_11;clear HO_12;clear HO_764000;clear HO774;clear BK746;clear BK763;clear HB
        have HO_8:=n0_
        have HO_11:=n1_
        have HO_12:=n2_
        have HO_764000:=n3_
        have HO774:=n4_
        have BK746:=n5_
        have BK763:=n6_
        have HB:=n7_
        clear n0_ n1_ n2_ n3_ n4_ n5_ n6_ n7_;(try clear hb);(try clear hb2);(try clear hk);(try clear hi)
        refine hK.out _ _ ⟨(blk_cell BK763.out 0).trans rfl,(blk_cell BK763.out 1).trans rfl,(blk_cell BK746.out 0).trans rfl,(blk_cell BK746.out 1).trans rfl⟩ (fun hHeld=>?_)
        clear hK K
        refine norm_ (a':=?_) ?_ ?_
        rotate_left
        ·show Act.put _ (some 59) _=_
         simp only [Act.put,List.setIfInBounds_toArray,List.set_cons_zero,List.set_cons_succ,i64_w,i32_w]
         rfl
        refine pure_ (i:=4) (N:=some 60) (v:=?_) (a':=?_) #[true,true,true,true,true] rfl rfl (by kernel_rfl) (fun _ _ _ h=>h) (Or.inl ⟨by rfl,?_⟩) ?_ ?_
        rotate_left
        ·intro w'
         go_simp
         with_reducible rfl
        rotate_left
        ·simp only [Act.put,List.setIfInBounds_toArray,List.set_cons_zero,List.set_cons_succ,i64_w,i32_w]
         rfl
        refine done_ (by kernel_rfl) ?_
        try go_wp2_with (first|((with_reducible refine gate_callee (f:=18) rfl ?_);refine goesL_ (some 63) rfl rfl Try.func18 (by kernel_rfl) rfl #[.slice A2 l2.length c2] rfl (by (try simp only [List.map_toArray,List.map_cons,List.map_nil]);first|done|rfl|(simp only [List.length_drop,List.length_take];rfl)) ?_;(with_reducible refine (laws_toIntS.calls kj16 _ _ l2 t777 _ ?side1 ?side2 A47.out).mono ?_);(case side1=>repeat (first|exact (Kd.C_below HR2.out HB.out)|(with_reducible refine Kd.C_alloc ?_ _)|(with_reducible refine Kd.C_drewN ?_ _)|(with_reducible refine Kd.C_drew ?_)));(case side2=>exact HC2.out);rintro e w106 ⟨v778,rfl,ho0,hb⟩;refine ⟨_,rfl,?_⟩;have n0_:=Aside0.mk (Kd.R_elder' (by (with_reducible repeat (first|apply Kd.R_alloc|apply Kd.R_drewN|apply Kd.R_drew));exact HO_8.out) (Kd.R_base ho0) hb);have n1_:=Aside0.mk (Kd.R_elder' (by (with_reducible repeat (first|apply Kd.R_alloc|apply Kd.R_drewN|apply Kd.R_drew));exact HO_11.out) (Kd.R_base ho0) hb);have n2_:=Aside0.mk (Kd.R_elder' (by (with_reducible repeat (first|apply Kd.R_alloc|apply Kd.R_drewN|apply Kd.R_drew));exact HO_12.out) (Kd.R_base ho0) hb);have n3_:=Aside0.mk (Kd.R_elder' (by (with_reducible repeat (first|apply Kd.R_alloc|apply Kd.R_drewN|apply Kd.R_drew));exact HO_764000.out) (Kd.R_base ho0) hb);have n4_:=Aside0.mk (Kd.R_elder' (by (with_reducible repeat (first|apply Kd.R_alloc|apply Kd.R_drewN|apply Kd.R_drew));exact HO774.out) (Kd.R_base ho0) hb);have n5_:=Aside0.mk (Kd.R_lower (Kd.R_new' (Kd.R_new' (Kd.R_new' (Kd.R_new' (Kd.R_new' ho0 (Kd.R_lt (by (with_reducible repeat (first|apply Kd.R_alloc|apply Kd.R_drewN|apply Kd.R_drew));exact HO_8.out))) (Kd.R_lt (by (with_reducible repeat (first|apply Kd.R_alloc|apply Kd.R_drewN|apply Kd.R_drew));exact HO_11.out))) (Kd.R_lt (by (with_reducible repeat (first|apply Kd.R_alloc|apply Kd.R_drewN|apply Kd.R_drew));exact HO_12.out))) (Kd.R_lt (by (with_reducible repeat (first|apply Kd.R_alloc|apply Kd.R_drewN|apply Kd.R_drew));exact HO_764000.out))) (Kd.R_lt (by (with_reducible repeat (first|apply Kd.R_alloc|apply Kd.R_drewN|apply Kd.R_drew));exact HO774.out))) (below_size (by repeat (first|(with_reducible first|exact HB.out|apply below_alloc|apply pw_below_drewN|apply below_drew1|refine below_set ?_ GE746.out|refine below_set ?_ GE763.out)|exact HB.out))));have n6_:=Aside0.mk (blk_below (g:=gb746) (o:=.cells #[.slice A0_0 l0_0.length c0_0,.bool a0_1] 24 (0,0)) (by (with_reducible repeat (first|refine blk_drewN ?_ _|refine blk_drew ?_|refine blk_alloc ?_ _));exact BK746.out) hb);have n7_:=Aside0.mk (blk_below (g:=gb763) (o:=.cells #[.slice Ao30 t759.length co30,.bool t762] 28 (0,0)) (by (with_reducible repeat (first|refine blk_drewN ?_ _|refine blk_drew ?_|refine blk_alloc ?_ _));exact BK763.out) hb);have n8_:=Aside0.mk (below_step (by repeat (first|(with_reducible first|exact HB.out|apply below_alloc|apply pw_below_drewN|apply below_drew1|refine below_set ?_ GE746.out|refine below_set ?_ GE763.out)|exact HB.out)) hb);clear HO_8;clear HO_11;clear HO_12;clear HO_764000;clear HO774;clear BK746;clear BK763;clear HB;have HO_8:=n0_;have HO_11:=n1_;have HO_12:=n2_;have HO_764000:=n3_;have HO774:=n4_;have HO779:=n5_;have BK746:=n6_;have BK763:=n7_;have HB:=n8_;clear n0_ n1_ n2_ n3_ n4_ n5_ n6_ n7_ n8_;(try clear hb);(try clear hb2);(try clear hk);(try clear hi);(try clear ho0);obtain ⟨Ao107,co107,eo107⟩:=Kd.R_slice HO779.out;subst eo107)|((with_reducible refine gate_callee (f:=21) rfl ?_);refine goesL_ (some 64) rfl rfl Try.func21 (by kernel_rfl) rfl #[.slice Ao35 t764.length co35,.slice Ao107 t777.length co107] rfl (by (try simp only [List.map_toArray,List.map_cons,List.map_nil]);first|done|rfl|(simp only [List.length_drop,List.length_take];rfl)) ?_;(with_reducible refine (laws_eqIntS.calls kj16 _ _ t764 _ _ t777 false _ ?side1 ?side2 ?side3 ?side4 A48.out).mono ?_);(case side1=>repeat (first|exact (Kd.R_reads' HO_11.out).2.2|(with_reducible refine Kd.C_alloc ?_ _)|(with_reducible refine Kd.C_drewN ?_ _)|(with_reducible refine Kd.C_drew ?_)));(case side2=>exact (Kd.R_reads' HO_11.out).2.1);(case side3=>repeat (first|exact (Kd.R_reads' HO779.out).2.2|(with_reducible refine Kd.C_alloc ?_ _)|(with_reducible refine Kd.C_drewN ?_ _)|(with_reducible refine Kd.C_drew ?_)));(case side4=>exact (Kd.R_reads' HO779.out).2.1);rintro e w' ⟨rfl,⟨nd,rfl⟩⟩;refine ⟨_,rfl,?_⟩))
        go_ret
        exact ⟨by first|rfl|(simp [errW_none,errW_some]<;>rfl)|(simp [*,errW_none,errW_some]<;>rfl),by repeat (first|(with_reducible first|exact HB.out|apply below_alloc|apply pw_below_drewN|apply below_drew1|refine below_set ?_ GE746.out|refine below_set ?_ GE763.out)|exact HB.out)⟩
      ·replace c46:=Bool.eq_false_iff.mpr c46
       subst c46
       have H1:(some false)=some r:=by rw [if_neg (show ¬ (false=true) by decide)] at H;exact H
       clear H
       have H:=H1
       clear H1
       obtain rfl:=Option.some.inj H
       try go_wp2
       have n0_:=Aside0.mk (Kd.R_drew HO_8.out)
       have n1_:=Aside0.mk (Kd.R_drew HO_11.out)
       have n2_:=Aside0.mk (Kd.R_drew HO_12.out)
       have n3_:=Aside0.mk (Kd.R_drew HO_764000.out)
       have n4_:=Aside0.mk (blk_drew BK746.out)
       have n5_:=Aside0.mk (blk_drew BK763.out)
       have n6_:=Aside0.mk (below_drew1 HB.out)
       clear HO_8;clear HO_11;clear HO_12;clear HO_764000;clear BK746;clear BK763;clear HB
       have HO_8:=n0_
       have HO_11:=n1_
       have HO_12:=n2_
       have HO_764000:=n3_
       have BK746:=n4_
       have BK763:=n5_
       have HB:=n6_
       clear n0_ n1_ n2_ n3_ n4_ n5_ n6_
       refine start_ (n:=5) (S:=fun w'=>w'.cell? ⟨gb763,0,none⟩=some (.slice Ao30 t759.length co30)∧w'.cell? ⟨gb763,1,none⟩=some (.bool t762)∧w'.cell? ⟨gb746,0,none⟩=some (.slice A0_0 l0_0.length c0_0)∧w'.cell? ⟨gb746,1,none⟩=some (.bool a0_1)) (ds:=[]) #[false,false,false,false,false] (by kernel_rfl) rfl rfl ⟨(blk_cell BK763.out 0).trans rfl,(blk_cell BK763.out 1).trans rfl,(blk_cell BK746.out 0).trans rfl,(blk_cell BK746.out 1).trans rfl⟩ (fun hHeld=>?_)
       generalize wc.drew=w108 at HO_8 HO_11 HO_12 HO_764000 BK746 BK763 HB hHeld ⊢
       refine take_ (i:=0) (N:=some 56) (v:=?_) (a':=?_) #[true,false,false,false,false] rfl rfl (by kernel_rfl) (fun _ _ _ h=>h) (Or.inl ⟨by rfl,?_⟩) hHeld ?_ ?_
       rotate_left
       ·rintro w' ⟨s0,s1,s2,s3⟩
        go_simp
        with_reducible rfl
       rotate_left
       ·simp only [Act.put,List.setIfInBounds_toArray,List.set_cons_zero,List.set_cons_succ,i64_w,i32_w]
        rfl
       refine take_ (i:=1) (N:=some 57) (v:=?_) (a':=?_) #[true,true,false,false,false] rfl rfl (by kernel_rfl) (fun _ _ _ h=>h) (Or.inl ⟨by rfl,?_⟩) hHeld ?_ ?_
       rotate_left
       ·rintro w' ⟨s0,s1,s2,s3⟩
        go_simp
        with_reducible rfl
       rotate_left
       ·simp only [Act.put,List.setIfInBounds_toArray,List.set_cons_zero,List.set_cons_succ,i64_w,i32_w]
        rfl
       refine one_ (i:=2) (N:=some 58) #[true,true,true,false,false] rfl rfl (by kernel_rfl) (by decide) (fun K hK=>?_)
       refine goes_ Try.func17 (by kernel_rfl) rfl #[.agg #[.slice A0_0 l0_0.length c0_0,.bool a0_1]] (by rfl) rfl rfl (by (try simp only [List.map_toArray,List.map_cons,List.map_nil]);first|done|rfl|(simp only [List.length_drop,List.length_take];rfl)) ?_
       with_reducible refine (laws_toGraph.calls kj16 _ _ l0_0 a0_1 t772 t775 _ ?side1 ?side2 A44.out).mono ?_
       (case side1=>repeat (first|exact (Kd.C_below HR0_0.out HB.out)|(with_reducible refine Kd.C_alloc ?_ _)|(with_reducible refine Kd.C_drewN ?_ _)|(with_reducible refine Kd.C_drew ?_)))
       (case side2=>exact HC0_0.out)
       rintro e w109 ⟨v773,rfl,ho0,hb⟩
       refine ⟨_,rfl,?_⟩
       have n0_:=Aside0.mk (Kd.R_elder' (by (with_reducible repeat (first|apply Kd.R_alloc|apply Kd.R_drewN|apply Kd.R_drew));exact HO_8.out) (Kd.R_base ho0) hb)
       have n1_:=Aside0.mk (Kd.R_elder' (by (with_reducible repeat (first|apply Kd.R_alloc|apply Kd.R_drewN|apply Kd.R_drew));exact HO_11.out) (Kd.R_base ho0) hb)
       have n2_:=Aside0.mk (Kd.R_elder' (by (with_reducible repeat (first|apply Kd.R_alloc|apply Kd.R_drewN|apply Kd.R_drew));exact HO_12.out) (Kd.R_base ho0) hb)
       have n3_:=Aside0.mk (Kd.R_elder' (by (with_reducible repeat (first|apply Kd.R_alloc|apply Kd.R_drewN|apply Kd.R_drew));exact HO_764000.out) (Kd.R_base ho0) hb)
       have n4_:=Aside0.mk (Kd.R_lower (Kd.R_new' (Kd.R_new' (Kd.R_new' (Kd.R_new' ho0 (Kd.R_lt (by (with_reducible repeat (first|apply Kd.R_alloc|apply Kd.R_drewN|apply Kd.R_drew));exact HO_8.out))) (Kd.R_lt (by (with_reducible repeat (first|apply Kd.R_alloc|apply Kd.R_drewN|apply Kd.R_drew));exact HO_11.out))) (Kd.R_lt (by (with_reducible repeat (first|apply Kd.R_alloc|apply Kd.R_drewN|apply Kd.R_drew));exact HO_12.out))) (Kd.R_lt (by (with_reducible repeat (first|apply Kd.R_alloc|apply Kd.R_drewN|apply Kd.R_drew));exact HO_764000.out))) (below_size (by repeat (first|(with_reducible first|exact HB.out|apply below_alloc|apply pw_below_drewN|apply below_drew1|refine below_set ?_ GE746.out|refine below_set ?_ GE763.out)|exact HB.out))))
       have n5_:=Aside0.mk (blk_below (g:=gb746) (o:=.cells #[.slice A0_0 l0_0.length c0_0,.bool a0_1] 24 (0,0)) (by (with_reducible repeat (first|refine blk_drewN ?_ _|refine blk_drew ?_|refine blk_alloc ?_ _));exact BK746.out) hb)
       have n6_:=Aside0.mk (blk_below (g:=gb763) (o:=.cells #[.slice Ao30 t759.length co30,.bool t762] 28 (0,0)) (by (with_reducible repeat (first|refine blk_drewN ?_ _|refine blk_drew ?_|refine blk_alloc ?_ _));exact BK763.out) hb)
       have n7_:=Aside0.mk (below_step (by repeat (first|(with_reducible first|exact HB.out|apply below_alloc|apply pw_below_drewN|apply below_drew1|refine below_set ?_ GE746.out|refine below_set ?_ GE763.out)|exact HB.out)) hb)
       clear HO_8;clear HO_11;clear HO_12;clear HO_764000;clear BK746;clear BK763;clear HB
       have HO_8:=n0_
       have HO_11:=n1_
       have HO_12:=n2_
       have HO_764000:=n3_
       have HO774:=n4_
       have BK746:=n5_
       have BK763:=n6_
       have HB:=n7_
       clear n0_ n1_ n2_ n3_ n4_ n5_ n6_ n7_;(try clear hb);(try clear hb2);(try clear hk);(try clear hi);(try clear ho0)
       obtain ⟨Ao110,co110,eo110⟩:=Kd.R_slice HO774.out
       (first|subst eo110|(injection eo110 with f1_ f2_ f3_;have f4_:=f1_.symm;have f5_:=f3_.symm;clear f1_ f2_ f3_;subst f4_;subst f5_))
       refine hK.out _ _ ⟨(blk_cell BK763.out 0).trans rfl,(blk_cell BK763.out 1).trans rfl,(blk_cell BK746.out 0).trans rfl,(blk_cell BK746.out 1).trans rfl⟩ (fun hHeld=>?_)
       clear hK K
       refine norm_ (a':=?_) ?_ ?_
       rotate_left
       ·show Act.put _ (some 58) _=_
        simp only [Act.put,List.setIfInBounds_toArray,List.set_cons_zero,List.set_cons_succ,i64_w,i32_w]
        rfl
       refine one_ (i:=3) (N:=some 59) #[true,true,true,true,false] rfl rfl (by kernel_rfl) (by decide) (fun K hK=>?_)
       refine goes_ Try.func20 (by kernel_rfl) rfl #[.agg #[.slice Ao30 t759.length co30,.bool t762],.agg #[.slice Ao110 t772.length co110,.bool t775]] (by rfl) rfl rfl (by (try simp only [List.map_toArray,List.map_cons,List.map_nil]);first|done|rfl|(simp only [List.length_drop,List.length_take];rfl)) ?_
       with_reducible refine (laws_eqGraph.calls kj16 _ _ t759 t762 _ _ t772 t775 false _ ?side1 ?side2 ?side3 ?side4 A45.out).mono ?_
       (case side1=>repeat (first|exact (Kd.R_reads' HO_764000.out).2.2|(with_reducible refine Kd.C_alloc ?_ _)|(with_reducible refine Kd.C_drewN ?_ _)|(with_reducible refine Kd.C_drew ?_)))
       (case side2=>exact (Kd.R_reads' HO_764000.out).2.1)
       (case side3=>repeat (first|exact (Kd.R_reads' HO774.out).2.2|(with_reducible refine Kd.C_alloc ?_ _)|(with_reducible refine Kd.C_drewN ?_ _)|(with_reducible refine Kd.C_drew ?_)))
       (case side4=>exact (Kd.R_reads' HO774.out).2.1)
       rintro e w111 ⟨rfl,hb⟩
       refine ⟨_,rfl,?_⟩
       have n0_:=Aside0.mk (Kd.R_below (by (with_reducible repeat (first|apply Kd.R_alloc|apply Kd.R_drewN|apply Kd.R_drew));exact HO_8.out) hb)
       have n1_:=Aside0.mk (Kd.R_below (by (with_reducible repeat (first|apply Kd.R_alloc|apply Kd.R_drewN|apply Kd.R_drew));exact HO_11.out) hb)
       have n2_:=Aside0.mk (Kd.R_below (by (with_reducible repeat (first|apply Kd.R_alloc|apply Kd.R_drewN|apply Kd.R_drew));exact HO_12.out) hb)
       have n3_:=Aside0.mk (Kd.R_below (by (with_reducible repeat (first|apply Kd.R_alloc|apply Kd.R_drewN|apply Kd.R_drew));exact HO_764000.out) hb)
       have n4_:=Aside0.mk (Kd.R_below (by (with_reducible repeat (first|apply Kd.R_alloc|apply Kd.R_drewN|apply Kd.R_drew));exact HO774.out) hb)
       have n5_:=Aside0.mk (blk_below (g:=gb746) (o:=.cells #[.slice A0_0 l0_0.length c0_0,.bool a0_1] 24 (0,0)) (by (with_reducible repeat (first|refine blk_drewN ?_ _|refine blk_drew ?_|refine blk_alloc ?_ _));exact BK746.out) hb)
       have n6_:=Aside0.mk (blk_below (g:=gb763) (o:=.cells #[.slice Ao30 t759.length co30,.bool t762] 28 (0,0)) (by (with_reducible repeat (first|refine blk_drewN ?_ _|refine blk_drew ?_|refine blk_alloc ?_ _));exact BK763.out) hb)
       have n7_:=Aside0.mk (below_step (by repeat (first|(with_reducible first|exact HB.out|apply below_alloc|apply pw_below_drewN|apply below_drew1|refine below_set ?_ GE746.out|refine below_set ?_ GE763.out)|exact HB.out)) hb)
       clear HO_8;clear HO_11;clear HO_12;clear HO_764000;clear HO774;clear BK746;clear BK763;clear HB
       have HO_8:=n0_
       have HO_11:=n1_
       have HO_12:=n2_
       have HO_764000:=n3_
       have HO774:=n4_
       have BK746:=n5_
       have BK763:=n6_
       have HB:=n7_
       clear n0_ n1_ n2_ n3_ n4_ n5_ n6_ n7_;(try clear hb);(try clear hb2);(try clear hk);(try clear hi)
       refine hK.out _ _ ⟨(blk_cell BK763.out 0).trans rfl,(blk_cell BK763.out 1).trans rfl,(blk_cell BK746.out 0).trans rfl,(blk_cell BK746.out 1).trans rfl⟩ (fun hHeld=>?_)
       clear hK K
       refine norm_ (a':=?_) ?_ ?_
       rotate_left
       ·show Act.put _ (some 59) _=_
        simp only [Act.put,List.setIfInBounds_toArray,List.set_cons_zero,List.set_cons_succ,i64_w,i32_w]
        rfl
       refine pure_ (i:=4) (N:=some 60) (v:=?_) (a':=?_) #[true,true,true,true,true] rfl rfl (by kernel_rfl) (fun _ _ _ h=>h) (Or.inl ⟨by rfl,?_⟩) ?_ ?_
       rotate_left
       ·intro w'
        go_simp
        with_reducible rfl
       rotate_left
       ·simp only [Act.put,List.setIfInBounds_toArray,List.set_cons_zero,List.set_cons_succ,i64_w,i32_w]
        rfl
       refine done_ (by kernel_rfl) ?_
       try go_wp2
       go_ret
       exact ⟨by first|rfl|(simp [errW_none,errW_some]<;>rfl)|(simp [*,errW_none,errW_some]<;>rfl),by repeat (first|(with_reducible first|exact HB.out|apply below_alloc|apply pw_below_drewN|apply below_drew1|refine below_set ?_ GE746.out|refine below_set ?_ GE763.out)|exact HB.out)⟩
end Go.Proofs.Ytbbdjoahdbjljaa.P
