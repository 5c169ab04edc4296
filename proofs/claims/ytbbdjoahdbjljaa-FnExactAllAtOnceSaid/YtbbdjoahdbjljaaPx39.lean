-- Written by a program of this session (wip/mp.py), which runs the kit's print with contracts of the session's own.
import Derived.Test.YtbbdjoahdbjljaaPx0
import Derived.Test.YtbbdjoahdbjljaaPx1
import Derived.Test.YtbbdjoahdbjljaaPx2
import Derived.Test.YtbbdjoahdbjljaaPx11
import Derived.Test.YtbbdjoahdbjljaaPx35
import Derived.Test.YtbbdjoahdbjljaaPx37
import Derived.Test.YtbbdjoahdbjljaaPx38
namespace Go.Proofs.Ytbbdjoahdbjljaa.P
open Go.RowKit Go.Proofs.YtbbdjoahdbjljaaW.PrintWords Go.Proofs.YtbbdjoahdbjljaaW.PrintLast Go.Proofs.YtbbdjoahdbjljaaW.PrintMore
attribute [local go_sem] max2_int min2_int max_two min_two max_three min_three max_four min_four -- for this text's walks alone
set_option linter.unusedVariables false
set_option linter.unusedSimpArgs false
/-! ### impl_AllAtOnce: function 49 -/
def impl_AllAtOnce.f (k:Nat) (l0_0:List Int) (a0_1:Bool) (a1:Int):Option (List Int × Bool):=(impl_isColoured.f k l0_0 a0_1 a1).bind fun t1039=>(if t1039=true then ((slices_Repeat_int_int.f (([wrap64 (a1 - 1)]:List Int)) (l0_0.length:Int)).bind fun t1043=>((impl_Graph_solveColours.f k l0_0 a0_1 a1 t1043).bind fun bt1046=>(some (bt1046.1,bt1046.2)))) else (some (([]:List Int),false)))
def impl_AllAtOnce.T3:Bool × List (List Nat × List Nat):=(true,[([],[]),([],[]),([],[]),([2],[2]),([3],[3]),([],[]),([5],[5]),([6],[6]),([4,7],[4,7]),([0,1,8,8],[0,1,8]),([9],[9]),([9],[9]),([10,9,0,1,2,3,4,5,6,7,8,9,10,11],[10]),([11,12,0,1,2,3,4,5,6,7,8,9,10,11,12],[11])])
def impl_AllAtOnce.B3:List Nat:=[0,0,0,4,12,0,32,96,252,511,1023,1023,4095,8191]
theorem impl_AllAtOnce.tab3:rtab .any (opsOf Try.f49 3)=impl_AllAtOnce.T3:=by kernel_rfl
theorem impl_AllAtOnce.bits3:waitsOk impl_AllAtOnce.T3.2 impl_AllAtOnce.B3=true:=by kernel_rfl
set_option maxHeartbeats 8000000 in
set_option maxRecDepth 100000 in
theorem impl_AllAtOnce.calls (k:Nat) (A0_0:Option Addr) (c0_0:Nat) (l0_0:List Int) (a0_1:Bool) (a1:Int) (r1:List Int) (r2:Bool) (w:World) (hr0_0:Kd.C (Kd.int .i64) w A0_0 l0_0.length l0_0) (hc0_0:l0_0.length≤c0_0) (h:impl_AllAtOnce.f k l0_0 a0_1 a1=some (r1,r2)):
  Calls Try.prog 49 #[.agg #[.slice A0_0 l0_0.length c0_0,.bool a0_1],.int .i64 a1] w fun e w'=>∃ v0_:Value,e=.returned (.tuple #[v0_,.bool r2])∧Kd.R (Kd.int .i64) 3 w' w.heap.size (fun _=>True) v0_ r1∧Below w.heap.size w w':=by
 have hu28:=Try.underlying28
 have HR0_0:=Aside0.mk hr0_0
 have HC0_0:=Aside0.mk hc0_0
 clear hr0_0 hc0_0
 have HB:=Aside0.mk (Below.refl w.heap.size w)
 have H:((impl_isColoured.f k l0_0 a0_1 a1).bind fun t1039=>(if t1039=true then ((slices_Repeat_int_int.f (([wrap64 (a1 - 1)]:List Int)) (l0_0.length:Int)).bind fun t1043=>((impl_Graph_solveColours.f k l0_0 a0_1 a1 t1043).bind fun bt1046=>(some (bt1046.1,bt1046.2)))) else (some (([]:List Int),false))))=some (r1,r2):=h
 clear h
 replace H:=Option.bind_eq_some_iff.mp H
 obtain ⟨t1039,A30,H⟩:=H
 replace H:(if t1039=true then ((slices_Repeat_int_int.f (([wrap64 (a1 - 1)]:List Int)) (l0_0.length:Int)).bind fun t1043=>((impl_Graph_solveColours.f k l0_0 a0_1 a1 t1043).bind fun bt1046=>(some (bt1046.1,bt1046.2)))) else (some (([]:List Int),false)))=some (r1,r2):=H
 have A3:=Aside0.mk A30
 clear A30
 by_cases c4:t1039=true
 ·subst c4
  have H1:((slices_Repeat_int_int.f (([wrap64 (a1 - 1)]:List Int)) (l0_0.length:Int)).bind fun t1043=>((impl_Graph_solveColours.f k l0_0 a0_1 a1 t1043).bind fun bt1046=>(some (bt1046.1,bt1046.2))))=some (r1,r2):=by rw [if_pos rfl] at H;exact H
  clear H
  have H:=H1
  clear H1
  obtain ⟨y1040,hy1040⟩:∃ y_:List Int,y_=(([wrap64 (a1 - 1)]:List Int)):=⟨_,rfl⟩
  replace H:((slices_Repeat_int_int.f y1040 (l0_0.length:Int)).bind fun t1043=>((impl_Graph_solveColours.f k l0_0 a0_1 a1 t1043).bind fun bt1046=>(some (bt1046.1,bt1046.2))))=some (r1,r2):=by first|(rw [hy1040];with_reducible exact H)|(have H2_:=(Option.bind_some _ _).symm.trans H;rw [hy1040];with_reducible exact H2_)|(have H2_:=(Option.bind_some _ _).symm.trans H;with_reducible exact H2_)|with_reducible exact H|(rw [hy1040];exact H)|exact H
  have Ny1040:=Aside0.mk hy1040
  clear hy1040
  replace H:=Option.bind_eq_some_iff.mp H
  obtain ⟨t1043,A50,H⟩:=H
  replace H:((impl_Graph_solveColours.f k l0_0 a0_1 a1 t1043).bind fun bt1046=>(some (bt1046.1,bt1046.2)))=some (r1,r2):=H
  have A5:=Aside0.mk A50
  clear A50
  replace H:=Option.bind_eq_some_iff.mp H
  obtain ⟨⟨t1046,t1049⟩,A60,H⟩:=H
  replace H:(some (t1046,t1049))=some (r1,r2):=H
  have A6:=Aside0.mk A60
  clear A60
  simp only [Option.some.injEq,Prod.mk.injEq] at H
  obtain ⟨rfl,rfl⟩:=H
  go_enter Try.func49,Try.ntmps49
  try go_wp2_with (first|((with_reducible refine gate_dst (N:=2) rfl ?_);refine box_event ?hg (N:=2) ?hd (cs:=#[.slice A0_0 l0_0.length c0_0,.bool a0_1]) (t:=28) ?hr ?_;(case hd=>rfl);(case hg=>rfl);(case hr=>first|(go_simp;done)|(go_simp;rfl));intro gb1038 hg w7 hbox hb;have n0_:=Aside0.mk (below_step (by repeat (first|(with_reducible first|exact HB.out|apply below_alloc|apply pw_below_drewN|apply below_drew1)|exact HB.out)) hb);have n1_:=Aside0.mk (hbox);have n2_:=Aside0.mk ((by rw [hg];exact (below_size (by repeat (first|(with_reducible first|exact HB.out|apply below_alloc|apply pw_below_drewN|apply below_drew1)|exact HB.out))):w.heap.size≤gb1038));have n3_:=Aside0.mk ((by rw [hg];exact (below_size (by repeat (first|(with_reducible first|exact HB.out|apply below_alloc|apply pw_below_drewN|apply below_drew1)|exact HB.out))):w.heap.size≤gb1038));clear HB;have HB:=n0_;have BK1038:=n1_;have GW1038:=n2_;have GE1038:=n3_;clear n0_ n1_ n2_ n3_;clear hb hbox hg;have hcz8_0:w7.cell? ⟨gb1038,0,none⟩=some (.slice A0_0 l0_0.length c0_0):=(blk_cell BK1038.out 0).trans rfl;have hcz8_1:w7.cell? ⟨gb1038,1,none⟩=some (.bool a0_1):=(blk_cell BK1038.out 1).trans rfl;have hfz8_0:=blk_frozen BK1038.out 0;have hfz8_1:=blk_frozen BK1038.out 1)|((with_reducible refine gate_callee (f:=53) rfl ?_);refine goesL_ (some 8) rfl rfl Try.func53 (by kernel_rfl) rfl #[.agg #[.slice A0_0 l0_0.length c0_0,.bool a0_1],.int .i64 a1] rfl (by (try simp only [List.map_toArray,List.map_cons,List.map_nil]);first|done|rfl|(simp only [List.length_drop,List.length_take];rfl)) ?_;(with_reducible refine (impl_isColoured.calls k _ _ l0_0 a0_1 a1 true _ ?side1 ?side2 A3.out).mono ?_);(case side1=>repeat (first|exact (Kd.C_below HR0_0.out HB.out)|(with_reducible refine Kd.C_alloc ?_ _)|(with_reducible refine Kd.C_drewN ?_ _)|(with_reducible refine Kd.C_drew ?_)));(case side2=>exact HC0_0.out);rintro e w9 ⟨rfl,hb⟩;refine ⟨_,rfl,?_⟩;have n0_:=Aside0.mk (blk_below (g:=gb1038) (o:=.cells #[.slice A0_0 l0_0.length c0_0,.bool a0_1] 28 (0,0)) (by (with_reducible repeat (first|refine blk_drewN ?_ _|refine blk_drew ?_|refine blk_alloc ?_ _));exact BK1038.out) hb);have n1_:=Aside0.mk (below_step (by repeat (first|(with_reducible first|exact HB.out|apply below_alloc|apply pw_below_drewN|apply below_drew1|refine below_set ?_ GE1038.out)|exact HB.out)) hb);clear BK1038;clear HB;have BK1038:=n0_;have HB:=n1_;clear n0_ n1_;(try clear hb);(try clear hb2);(try clear hk);(try clear hi)))
  have n0_:=Aside0.mk (blk_drew BK1038.out)
  have n1_:=Aside0.mk (below_drew1 HB.out)
  clear BK1038;clear HB
  have BK1038:=n0_
  have HB:=n1_
  clear n0_ n1_
  refine start_ (n:=14) (S:=fun w'=>w'.cell? ⟨gb1038,0,none⟩=some (.slice A0_0 l0_0.length c0_0)∧w'.cell? ⟨gb1038,1,none⟩=some (.bool a0_1)) (ds:=[]) #[false,false,false,false,false,false,false,false,false,false,false,false,false,false] (by kernel_rfl) rfl rfl ⟨(blk_cell BK1038.out 0).trans rfl,(blk_cell BK1038.out 1).trans rfl⟩ (fun hHeld=>?_);refine with_tabW impl_AllAtOnce.tab3 impl_AllAtOnce.bits3 (fun HT_ HW_=>?_)
  generalize w9.drew=w10 at BK1038 HB hHeld ⊢
  refine pure_ (i:=1) (N:=some 11) (v:=?_) (a':=?_) #[false,true,false,false,false,false,false,false,false,false,false,false,false,false] rfl rfl (any_of HT_.out (by kernel_rfl)) (fun _ _ _ h=>h) (Or.inl ⟨by rfl,?_⟩) ?_ ?_
  rotate_left
  ·intro w'
   go_simp
   with_reducible rfl
  rotate_left
  ·simp only [Act.put,List.setIfInBounds_toArray,List.set_cons_zero,List.set_cons_succ,i64_w,i32_w]
   rfl
  refine pure_ (i:=2) (N:=some 12) (v:=?_) (a':=?_) #[false,true,true,false,false,false,false,false,false,false,false,false,false,false] rfl rfl (any_of HT_.out (by kernel_rfl)) (fun _ _ _ h=>h) (Or.inl ⟨by rfl,?_⟩) ?_ ?_
  rotate_left
  ·intro w'
   go_simp
   with_reducible rfl
  rotate_left
  ·simp only [Act.put,List.setIfInBounds_toArray,List.set_cons_zero,List.set_cons_succ,i64_w,i32_w]
   rfl
  refine pure_ (i:=3) (N:=some 13) (v:=?_) (a':=?_) #[false,true,true,true,false,false,false,false,false,false,false,false,false,false] rfl rfl (any_of HT_.out (by kernel_rfl)) (fun _ _ _ h=>h) (Or.inl ⟨by rfl,?_⟩) ?_ ?_
  rotate_left
  ·intro w'
   go_simp
   with_reducible rfl
  rotate_left
  ·simp only [Act.put,List.setIfInBounds_toArray,List.set_cons_zero,List.set_cons_succ,i64_w,i32_w]
   rfl
  refine pure_ (i:=5) (N:=some 15) (v:=?_) (a':=?_) #[false,true,true,true,false,true,false,false,false,false,false,false,false,false] rfl rfl (any_of HT_.out (by kernel_rfl)) (fun _ _ _ h=>h) (Or.inl ⟨by rfl,?_⟩) ?_ ?_
  rotate_left
  ·intro w'
   go_simp
   with_reducible rfl
  rotate_left
  ·simp only [Act.put,List.setIfInBounds_toArray,List.set_cons_zero,List.set_cons_succ,i64_w,i32_w]
   rfl
  refine take_ (i:=0) (N:=some 10) (v:=?_) (a':=?_) #[true,true,true,true,false,true,false,false,false,false,false,false,false,false] rfl rfl (take_ofW HT_.out HW_.out (by kernel_rfl)) (fun _ _ _ h=>h) (Or.inl ⟨by rfl,?_⟩) hHeld ?_ ?_
  rotate_left
  ·rintro w' ⟨s0,s1⟩
   go_simp
   with_reducible rfl
  rotate_left
  ·simp only [Act.put,List.setIfInBounds_toArray,List.set_cons_zero,List.set_cons_succ,i64_w,i32_w]
   rfl
  refine take_ (i:=6) (N:=some 16) (v:=?_) (a':=?_) #[true,true,true,true,false,true,true,false,false,false,false,false,false,false] rfl rfl (take_ofW HT_.out HW_.out (by kernel_rfl)) (fun _ _ _ h=>h) (Or.inl ⟨by rfl,?_⟩) hHeld ?_ ?_
  rotate_left
  ·rintro w' ⟨s0,s1⟩
   go_simp
   with_reducible rfl
  rotate_left
  ·simp only [Act.put,List.setIfInBounds_toArray,List.set_cons_zero,List.set_cons_succ,i64_w,i32_w]
   rfl
  refine pure_ (i:=7) (N:=some 17) (v:=?_) (a':=?_) #[true,true,true,true,false,true,true,true,false,false,false,false,false,false] rfl rfl (any_of HT_.out (by kernel_rfl)) (fun _ _ _ h=>h) (Or.inl ⟨by rfl,?_⟩) ?_ ?_
  rotate_left
  ·intro w'
   go_simp
   with_reducible rfl
  rotate_left
  ·simp only [Act.put,List.setIfInBounds_toArray,List.set_cons_zero,List.set_cons_succ,i64_w,i32_w]
   rfl
  refine one_ (i:=4) (N:=some 14) #[true,true,true,true,true,true,true,true,false,false,false,false,false,false] rfl rfl (one_of HT_.out (by kernel_rfl)) (by decide) (fun K hK=>?_)
  refine Kd.R_lit_step (Kd.int .i64) _ 3 ?hg (N:=14) ?hd (xs:=([wrap64 (a1 - 1)]:List Int)) (inner:=[.int .i64 (wrap64 (a1 - 1))]) (ok:=fun _=>True) (okp:=fun _=>True) ?hr ?hp (fun _ hk=>hk) trivial (Below.refl _ _) (Nat.le_refl _) (by simp) ?_;(case hd=>rfl);(case hg=>rfl);(case hr=>first|(go_simp;done)|(go_simp;rfl));(case hp=>exact (Reps.one (show Kd.M (Kd.int .i64) _ _ _ (wrap64 (a1 - 1)) [.int .i64 (wrap64 (a1 - 1))] from rfl) (Reps.none _ _)))
  intro v1041 w11 ho12 hb hg_ hnew_
  clear hg_ hnew_
  (first|rw [← Ny1040.out] at ho12|(simp only [Int.reduceToNat] at ho12;rw [← Ny1040.out] at ho12))
  have n0_:=Aside0.mk (Kd.R_lower ho12 (below_size (by repeat (first|(with_reducible first|exact HB.out|apply below_alloc|apply pw_below_drewN|apply below_drew1|refine below_set ?_ GE1038.out)|exact HB.out))))
  have n1_:=Aside0.mk (blk_below (g:=gb1038) (o:=.cells #[.slice A0_0 l0_0.length c0_0,.bool a0_1] 28 (0,0)) (by (with_reducible repeat (first|refine blk_drewN ?_ _|refine blk_drew ?_|refine blk_alloc ?_ _));exact BK1038.out) hb)
  have n2_:=Aside0.mk (below_step (by repeat (first|(with_reducible first|exact HB.out|apply below_alloc|apply pw_below_drewN|apply below_drew1|refine below_set ?_ GE1038.out)|exact HB.out)) hb)
  clear BK1038;clear HB
  have HO1042:=n0_
  have BK1038:=n1_
  have HB:=n2_
  clear n0_ n1_ n2_;clear hb ho12
  obtain ⟨Ao13,co13,eo13⟩:=Kd.R_slice HO1042.out
  (first|subst eo13|(injection eo13 with f1_ f2_ f3_;have f4_:=f1_.symm;have f5_:=f3_.symm;clear f1_ f2_ f3_;subst f4_;subst f5_))
  refine hK.out _ _ ⟨(blk_cell BK1038.out 0).trans rfl,(blk_cell BK1038.out 1).trans rfl⟩ (fun hHeld=>?_)
  clear hK K
  refine norm_ (a':=?_) ?_ ?_
  rotate_left
  ·show Act.put _ (some 14) _=_
   simp only [Act.put,List.setIfInBounds_toArray,List.set_cons_zero,List.set_cons_succ,i64_w,i32_w]
   rfl
  refine one_ (i:=8) (N:=some 18) #[true,true,true,true,true,true,true,true,true,false,false,false,false,false] rfl rfl (one_of HT_.out (by kernel_rfl)) (by decide) (fun K hK=>?_)
  refine goes_ Try.func68 (by kernel_rfl) rfl #[.slice Ao13 y1040.length co13,.int .i64 (l0_0.length:Int)] (by rfl) rfl rfl (by (try simp only [List.map_toArray,List.map_cons,List.map_nil]);first|done|rfl|(simp only [List.length_drop,List.length_take];rfl)) ?_
  with_reducible refine (slices_Repeat_int_int.calls _ _ y1040 (l0_0.length:Int) t1043 _ ?side1 ?side2 A5.out).mono ?_
  (case side1=>repeat (first|exact (Kd.R_reads' HO1042.out).2.2|(with_reducible refine Kd.C_alloc ?_ _)|(with_reducible refine Kd.C_drewN ?_ _)|(with_reducible refine Kd.C_drew ?_)))
  (case side2=>exact (Kd.R_reads' HO1042.out).2.1)
  rintro e w14 ⟨v1044,rfl,ho0,hb⟩
  refine ⟨_,rfl,?_⟩
  have n0_:=Aside0.mk (Kd.R_elder' (by (with_reducible repeat (first|apply Kd.R_alloc|apply Kd.R_drewN|apply Kd.R_drew));exact HO1042.out) (Kd.R_base ho0) hb)
  have n1_:=Aside0.mk (Kd.R_lower (Kd.R_new' ho0 (Kd.R_lt (by (with_reducible repeat (first|apply Kd.R_alloc|apply Kd.R_drewN|apply Kd.R_drew));exact HO1042.out))) (below_size (by repeat (first|(with_reducible first|exact HB.out|apply below_alloc|apply pw_below_drewN|apply below_drew1|refine below_set ?_ GE1038.out)|exact HB.out))))
  have n2_:=Aside0.mk (blk_below (g:=gb1038) (o:=.cells #[.slice A0_0 l0_0.length c0_0,.bool a0_1] 28 (0,0)) (by (with_reducible repeat (first|refine blk_drewN ?_ _|refine blk_drew ?_|refine blk_alloc ?_ _));exact BK1038.out) hb)
  have n3_:=Aside0.mk (below_step (by repeat (first|(with_reducible first|exact HB.out|apply below_alloc|apply pw_below_drewN|apply below_drew1|refine below_set ?_ GE1038.out)|exact HB.out)) hb)
  clear HO1042;clear BK1038;clear HB
  have HO1042:=n0_
  have HO1045:=n1_
  have BK1038:=n2_
  have HB:=n3_
  clear n0_ n1_ n2_ n3_;(try clear hb);(try clear hb2);(try clear hk);(try clear hi);(try clear ho0)
  obtain ⟨Ao15,co15,eo15⟩:=Kd.R_slice HO1045.out
  (first|subst eo15|(injection eo15 with f1_ f2_ f3_;have f4_:=f1_.symm;have f5_:=f3_.symm;clear f1_ f2_ f3_;subst f4_;subst f5_))
  refine hK.out _ _ ⟨(blk_cell BK1038.out 0).trans rfl,(blk_cell BK1038.out 1).trans rfl⟩ (fun hHeld=>?_)
  clear hK K
  refine norm_ (a':=?_) ?_ ?_
  rotate_left
  ·show Act.put _ (some 18) _=_
   simp only [Act.put,List.setIfInBounds_toArray,List.set_cons_zero,List.set_cons_succ,i64_w,i32_w]
   rfl
  refine one_ (i:=9) (N:=some 19) #[true,true,true,true,true,true,true,true,true,true,false,false,false,false] rfl rfl (one_of HT_.out (by kernel_rfl)) (by decide) (fun K hK=>?_)
  refine goes_ Try.func67 (by kernel_rfl) rfl #[.agg #[.slice A0_0 l0_0.length c0_0,.bool a0_1],.int .i64 a1,.slice Ao15 t1043.length co15] (by rfl) rfl rfl (by (try simp only [List.map_toArray,List.map_cons,List.map_nil]);first|done|rfl|(simp only [List.length_drop,List.length_take];rfl)) ?_
  with_reducible refine (impl_Graph_solveColours.calls k _ _ l0_0 a0_1 a1 _ _ t1043 t1046 t1049 _ ?side1 ?side2 ?side3 ?side4 A6.out).mono ?_
  (case side1=>repeat (first|exact (Kd.C_below HR0_0.out HB.out)|(with_reducible refine Kd.C_alloc ?_ _)|(with_reducible refine Kd.C_drewN ?_ _)|(with_reducible refine Kd.C_drew ?_)))
  (case side2=>exact HC0_0.out)
  (case side3=>repeat (first|exact (Kd.R_reads' HO1045.out).2.2|(with_reducible refine Kd.C_alloc ?_ _)|(with_reducible refine Kd.C_drewN ?_ _)|(with_reducible refine Kd.C_drew ?_)))
  (case side4=>exact (Kd.R_reads' HO1045.out).2.1)
  rintro e w16 ⟨v1047,rfl,ho0,hb⟩
  refine ⟨_,rfl,?_⟩
  have n0_:=Aside0.mk (Kd.R_elder' (by (with_reducible repeat (first|apply Kd.R_alloc|apply Kd.R_drewN|apply Kd.R_drew));exact HO1042.out) (Kd.R_base ho0) hb)
  have n1_:=Aside0.mk (Kd.R_elder' (by (with_reducible repeat (first|apply Kd.R_alloc|apply Kd.R_drewN|apply Kd.R_drew));exact HO1045.out) (Kd.R_base ho0) hb)
  have n2_:=Aside0.mk (Kd.R_lower (Kd.R_new' (Kd.R_new' ho0 (Kd.R_lt (by (with_reducible repeat (first|apply Kd.R_alloc|apply Kd.R_drewN|apply Kd.R_drew));exact HO1042.out))) (Kd.R_lt (by (with_reducible repeat (first|apply Kd.R_alloc|apply Kd.R_drewN|apply Kd.R_drew));exact HO1045.out))) (below_size (by repeat (first|(with_reducible first|exact HB.out|apply below_alloc|apply pw_below_drewN|apply below_drew1|refine below_set ?_ GE1038.out)|exact HB.out))))
  have n3_:=Aside0.mk (blk_below (g:=gb1038) (o:=.cells #[.slice A0_0 l0_0.length c0_0,.bool a0_1] 28 (0,0)) (by (with_reducible repeat (first|refine blk_drewN ?_ _|refine blk_drew ?_|refine blk_alloc ?_ _));exact BK1038.out) hb)
  have n4_:=Aside0.mk (below_step (by repeat (first|(with_reducible first|exact HB.out|apply below_alloc|apply pw_below_drewN|apply below_drew1|refine below_set ?_ GE1038.out)|exact HB.out)) hb)
  clear HO1042;clear HO1045;clear BK1038;clear HB
  have HO1042:=n0_
  have HO1045:=n1_
  have HO1048:=n2_
  have BK1038:=n3_
  have HB:=n4_
  clear n0_ n1_ n2_ n3_ n4_;(try clear hb);(try clear hb2);(try clear hk);(try clear hi);(try clear ho0)
  refine hK.out _ _ ⟨(blk_cell BK1038.out 0).trans rfl,(blk_cell BK1038.out 1).trans rfl⟩ (fun hHeld=>?_)
  clear hK K
  refine norm_ (a':=?_) ?_ ?_
  rotate_left
  ·show Act.put _ (some 19) _=_
   simp only [Act.put,List.setIfInBounds_toArray,List.set_cons_zero,List.set_cons_succ,i64_w,i32_w]
   rfl
  refine pure_ (i:=10) (N:=some 20) (v:=?_) (a':=?_) #[true,true,true,true,true,true,true,true,true,true,true,false,false,false] rfl rfl (any_of HT_.out (by kernel_rfl)) (fun _ _ _ h=>h) (Or.inl ⟨by rfl,?_⟩) ?_ ?_
  rotate_left
  ·intro w'
   go_simp
   with_reducible rfl
  rotate_left
  ·simp only [Act.put,List.setIfInBounds_toArray,List.set_cons_zero,List.set_cons_succ,i64_w,i32_w]
   rfl
  refine pure_ (i:=11) (N:=some 21) (v:=?_) (a':=?_) #[true,true,true,true,true,true,true,true,true,true,true,true,false,false] rfl rfl (any_of HT_.out (by kernel_rfl)) (fun _ _ _ h=>h) (Or.inl ⟨by rfl,?_⟩) ?_ ?_
  rotate_left
  ·intro w'
   go_simp
   with_reducible rfl
  rotate_left
  ·simp only [Act.put,List.setIfInBounds_toArray,List.set_cons_zero,List.set_cons_succ,i64_w,i32_w]
   rfl
  refine pure_ (i:=12) (N:=some 4) (v:=?_) (a':=?_) #[true,true,true,true,true,true,true,true,true,true,true,true,true,false] rfl rfl (any_of HT_.out (by kernel_rfl)) (fun _ _ _ h=>h) (Or.inl ⟨by rfl,?_⟩) ?_ ?_
  rotate_left
  ·intro w'
   go_simp
   with_reducible rfl
  rotate_left
  ·simp only [Act.put,List.setIfInBounds_toArray,List.set_cons_zero,List.set_cons_succ,i64_w,i32_w]
   rfl
  refine pure_ (i:=13) (N:=some 5) (v:=?_) (a':=?_) #[true,true,true,true,true,true,true,true,true,true,true,true,true,true] rfl rfl (any_of HT_.out (by kernel_rfl)) (fun _ _ _ h=>h) (Or.inl ⟨by rfl,?_⟩) ?_ ?_
  rotate_left
  ·intro w'
   go_simp
   with_reducible rfl
  rotate_left
  ·simp only [Act.put,List.setIfInBounds_toArray,List.set_cons_zero,List.set_cons_succ,i64_w,i32_w]
   rfl
  refine done_ (done_of HT_.out (by kernel_rfl)) ?_
  try go_wp2
  go_ret2
  exact ⟨_,by first|rfl|(simp [errW_none,errW_some]<;>rfl)|(simp [*,errW_none,errW_some]<;>rfl),by (with_reducible repeat (first|apply Kd.R_alloc|apply Kd.R_drewN|apply Kd.R_drew));exact Kd.R_mono HO1048.out (fun _ hk=>trivial),by repeat (first|(with_reducible first|exact HB.out|apply below_alloc|apply pw_below_drewN|apply below_drew1|refine below_set ?_ GE1038.out)|exact HB.out)⟩
 ·replace c4:=Bool.eq_false_iff.mpr c4
  subst c4
  have H1:(some (([]:List Int),false))=some (r1,r2):=by rw [if_neg (show ¬ (false=true) by decide)] at H;exact H
  clear H
  have H:=H1
  clear H1
  simp only [Option.some.injEq,Prod.mk.injEq] at H
  obtain ⟨rfl,rfl⟩:=H
  go_enter Try.func49,Try.ntmps49
  go_wp2_with (first|((with_reducible refine gate_dst (N:=2) rfl ?_);refine box_event ?hg (N:=2) ?hd (cs:=#[.slice A0_0 l0_0.length c0_0,.bool a0_1]) (t:=28) ?hr ?_;(case hd=>rfl);(case hg=>rfl);(case hr=>first|(go_simp;done)|(go_simp;rfl));intro gb1038 hg w17 hbox hb;have n0_:=Aside0.mk (below_step (by repeat (first|(with_reducible first|exact HB.out|apply below_alloc|apply pw_below_drewN|apply below_drew1)|exact HB.out)) hb);have n1_:=Aside0.mk (hbox);have n2_:=Aside0.mk ((by rw [hg];exact (below_size (by repeat (first|(with_reducible first|exact HB.out|apply below_alloc|apply pw_below_drewN|apply below_drew1)|exact HB.out))):w.heap.size≤gb1038));have n3_:=Aside0.mk ((by rw [hg];exact (below_size (by repeat (first|(with_reducible first|exact HB.out|apply below_alloc|apply pw_below_drewN|apply below_drew1)|exact HB.out))):w.heap.size≤gb1038));clear HB;have HB:=n0_;have BK1038:=n1_;have GW1038:=n2_;have GE1038:=n3_;clear n0_ n1_ n2_ n3_;clear hb hbox hg;have hcz18_0:w17.cell? ⟨gb1038,0,none⟩=some (.slice A0_0 l0_0.length c0_0):=(blk_cell BK1038.out 0).trans rfl;have hcz18_1:w17.cell? ⟨gb1038,1,none⟩=some (.bool a0_1):=(blk_cell BK1038.out 1).trans rfl;have hfz18_0:=blk_frozen BK1038.out 0;have hfz18_1:=blk_frozen BK1038.out 1)|((with_reducible refine gate_callee (f:=53) rfl ?_);refine goesL_ (some 8) rfl rfl Try.func53 (by kernel_rfl) rfl #[.agg #[.slice A0_0 l0_0.length c0_0,.bool a0_1],.int .i64 a1] rfl (by (try simp only [List.map_toArray,List.map_cons,List.map_nil]);first|done|rfl|(simp only [List.length_drop,List.length_take];rfl)) ?_;(with_reducible refine (impl_isColoured.calls k _ _ l0_0 a0_1 a1 false _ ?side1 ?side2 A3.out).mono ?_);(case side1=>repeat (first|exact (Kd.C_below HR0_0.out HB.out)|(with_reducible refine Kd.C_alloc ?_ _)|(with_reducible refine Kd.C_drewN ?_ _)|(with_reducible refine Kd.C_drew ?_)));(case side2=>exact HC0_0.out);rintro e w19 ⟨rfl,hb⟩;refine ⟨_,rfl,?_⟩;have n0_:=Aside0.mk (blk_below (g:=gb1038) (o:=.cells #[.slice A0_0 l0_0.length c0_0,.bool a0_1] 28 (0,0)) (by (with_reducible repeat (first|refine blk_drewN ?_ _|refine blk_drew ?_|refine blk_alloc ?_ _));exact BK1038.out) hb);have n1_:=Aside0.mk (below_step (by repeat (first|(with_reducible first|exact HB.out|apply below_alloc|apply pw_below_drewN|apply below_drew1|refine below_set ?_ GE1038.out)|exact HB.out)) hb);clear BK1038;clear HB;have BK1038:=n0_;have HB:=n1_;clear n0_ n1_;(try clear hb);(try clear hb2);(try clear hk);(try clear hi)))
  go_ret2
  exact ⟨_,by first|rfl|(simp [errW_none,errW_some]<;>rfl)|(simp [*,errW_none,errW_some]<;>rfl),by first|exact Kd.R_nil _ _ _ _ _|exact Kd.N_nil _ _ _ _ _|exact Kd.V_nil _ _ _ _ _|exact Kd.Q_nil _ _ _ _ _|exact Kd.S_nil _ _ _ _ _,by repeat (first|(with_reducible first|exact HB.out|apply below_alloc|apply pw_below_drewN|apply below_drew1|refine below_set ?_ GE1038.out)|exact HB.out)⟩
/-! ### laws_FnExactAllAtOnce: function 14 -/
mutual
def laws_FnExactAllAtOnce.j0:Nat→Int→List Int→Bool→List Int→Bool→Bool→List Int→Bool→List Int→Bool→Option (Bool)
 |0,_,_,_,_,_,_,_,_,_,_=>none
 |k+1,x1,x6,x7,x9,x10,x44,x1051000,x1051001,x1065000,x1065001=>if x44=true then (some false) else ((laws_toGraph.f k x1051000 x1051001).bind fun bt1070=>((laws_eqGraph.f k x1065000 x1065001 bt1070.1 bt1070.2).bind fun t1074=>(if t1074=true then ((laws_markGraph.f k x1065000 x1065001 1).bind fun bt1075=>(if bt1075.1< 0 then (laws_FnExactAllAtOnce.j1 k x1 x6 x7 x9 true x1051000 x1051001) else ((laws_eqIntS.f k x9 x6).bind fun t1077=>(if t1077=true then (laws_FnExactAllAtOnce.j1 k x1 x6 x7 x9 (x10 !=x7) x1051000 x1051001) else (laws_FnExactAllAtOnce.j1 k x1 x6 x7 x9 true x1051000 x1051001))))) else (some false))))
def laws_FnExactAllAtOnce.j1:Nat→Int→List Int→Bool→List Int→Bool→List Int→Bool→Option (Bool)
 |0,_,_,_,_,_,_,_=>none
 |k+1,x1,x6,x7,x9,x65,x1051000,x1051001=>if x65=true then (some false) else ((laws_markIntS.f k x9 1).bind fun bt1078=>((laws_heldIntS.f k bt1078.2 1).bind fun t1080=>(if t1080< 0 then (some false) else (if t1080=bt1078.1 then ((laws_toGraph.f k x1051000 x1051001).bind fun bt1081=>((impl_AllAtOnce.f k bt1081.1 bt1081.2 x1).bind fun bt1085=>((laws_eqIntS.f k bt1085.1 x6).bind fun t1089=>(if t1089=true then (laws_FnExactAllAtOnce.j2 k bt1078.2 bt1078.1 (bt1085.2 !=x7)) else (laws_FnExactAllAtOnce.j2 k bt1078.2 bt1078.1 true))))) else (some false)))))
def laws_FnExactAllAtOnce.j2:Nat→List Int→Int→Bool→Option (Bool)
 |0,_,_,_=>none
 |k+1,x9,x12,x92=>if x92=true then (some false) else ((laws_heldIntS.f k x9 1).bind fun t1090=>(if t1090< 0 then (some false) else (if t1090=x12 then (some true) else (some false))))
end
def laws_FnExactAllAtOnce.f (k:Nat) (l0_0:List Int) (a0_1:Bool) (a1:Int):Option (Bool):=(laws_szGraph.f l0_0 a0_1 1048576).bind fun t1051=>(if t1051< 0 then (some true) else ((laws_toGraph.f k l0_0 a0_1).bind fun bt1052=>((spec_AllAtOnce.f k bt1052.1 bt1052.2 a1).bind fun bt1056=>((laws_toGraph.f k l0_0 a0_1).bind fun bt1060=>((impl_AllAtOnce.f k bt1060.1 bt1060.2 a1).bind fun bt1065=>((laws_eqIntS.f k bt1065.1 bt1056.1).bind fun t1069=>(if t1069=true then (laws_FnExactAllAtOnce.j0 k a1 bt1056.1 bt1056.2 bt1065.1 bt1065.2 (bt1065.2 !=bt1056.2) l0_0 a0_1 bt1060.1 bt1060.2) else (laws_FnExactAllAtOnce.j0 k a1 bt1056.1 bt1056.2 bt1065.1 bt1065.2 true l0_0 a0_1 bt1060.1 bt1060.2))))))))
set_option maxHeartbeats 8000000 in
set_option maxRecDepth 100000 in
theorem laws_FnExactAllAtOnce.calls (k:Nat) (A0_0:Option Addr) (c0_0:Nat) (l0_0:List Int) (a0_1:Bool) (a1:Int) (r:Bool) (w:World) (hr0_0:Kd.C (Kd.int .i64) w A0_0 l0_0.length l0_0) (hc0_0:l0_0.length≤c0_0) (h:laws_FnExactAllAtOnce.f k l0_0 a0_1 a1=some r):
  Calls Try.prog 14 #[.agg #[.slice A0_0 l0_0.length c0_0,.bool a0_1],.int .i64 a1] w fun e w'=>e=.returned (.bool r)∧Below w.heap.size w w':=by
 have hu24:=Try.underlying24
 have hu28:=Try.underlying28
 have HR0_0:=Aside0.mk hr0_0
 have HC0_0:=Aside0.mk hc0_0
 clear hr0_0 hc0_0
 have HB:=Aside0.mk (Below.refl w.heap.size w)
 have H:((laws_szGraph.f l0_0 a0_1 1048576).bind fun t1051=>(if t1051< 0 then (some true) else ((laws_toGraph.f k l0_0 a0_1).bind fun bt1052=>((spec_AllAtOnce.f k bt1052.1 bt1052.2 a1).bind fun bt1056=>((laws_toGraph.f k l0_0 a0_1).bind fun bt1060=>((impl_AllAtOnce.f k bt1060.1 bt1060.2 a1).bind fun bt1065=>((laws_eqIntS.f k bt1065.1 bt1056.1).bind fun t1069=>(if t1069=true then (laws_FnExactAllAtOnce.j0 k a1 bt1056.1 bt1056.2 bt1065.1 bt1065.2 (bt1065.2 !=bt1056.2) l0_0 a0_1 bt1060.1 bt1060.2) else (laws_FnExactAllAtOnce.j0 k a1 bt1056.1 bt1056.2 bt1065.1 bt1065.2 true l0_0 a0_1 bt1060.1 bt1060.2)))))))))=some r:=h
 clear h
 replace H:=Option.bind_eq_some_iff.mp H
 obtain ⟨t1051,A30,H⟩:=H
 replace H:(if t1051< 0 then (some true) else ((laws_toGraph.f k l0_0 a0_1).bind fun bt1052=>((spec_AllAtOnce.f k bt1052.1 bt1052.2 a1).bind fun bt1056=>((laws_toGraph.f k l0_0 a0_1).bind fun bt1060=>((impl_AllAtOnce.f k bt1060.1 bt1060.2 a1).bind fun bt1065=>((laws_eqIntS.f k bt1065.1 bt1056.1).bind fun t1069=>(if t1069=true then (laws_FnExactAllAtOnce.j0 k a1 bt1056.1 bt1056.2 bt1065.1 bt1065.2 (bt1065.2 !=bt1056.2) l0_0 a0_1 bt1060.1 bt1060.2) else (laws_FnExactAllAtOnce.j0 k a1 bt1056.1 bt1056.2 bt1065.1 bt1065.2 true l0_0 a0_1 bt1060.1 bt1060.2))))))))=some r:=H
 have A3:=Aside0.mk A30
 clear A30
 by_cases c4:t1051< 0
 ·rw [if_pos c4] at H
  have c4b0:decide (t1051< 0)=true:=decide_eq_true c4
  clear c4
  obtain rfl:=Option.some.inj H
  go_enter Try.func14,Try.ntmps14
  go_wp2_with (first|((with_reducible refine gate_dst (N:=2) rfl ?_);refine box_event ?hg (N:=2) ?hd (cs:=#[.slice A0_0 l0_0.length c0_0,.bool a0_1]) (t:=24) ?hr ?_;(case hd=>rfl);(case hg=>rfl);(case hr=>first|(go_simp;done)|(go_simp;rfl));intro gb1050 hg w5 hbox hb;have n0_:=Aside0.mk (below_step (by repeat (first|(with_reducible first|exact HB.out|apply below_alloc|apply pw_below_drewN|apply below_drew1)|exact HB.out)) hb);have n1_:=Aside0.mk (hbox);have n2_:=Aside0.mk ((by rw [hg];exact (below_size (by repeat (first|(with_reducible first|exact HB.out|apply below_alloc|apply pw_below_drewN|apply below_drew1)|exact HB.out))):w.heap.size≤gb1050));have n3_:=Aside0.mk ((by rw [hg];exact (below_size (by repeat (first|(with_reducible first|exact HB.out|apply below_alloc|apply pw_below_drewN|apply below_drew1)|exact HB.out))):w.heap.size≤gb1050));clear HB;have HB:=n0_;have BK1050:=n1_;have GW1050:=n2_;have GE1050:=n3_;clear n0_ n1_ n2_ n3_;clear hb hbox hg;have hcz6_0:w5.cell? ⟨gb1050,0,none⟩=some (.slice A0_0 l0_0.length c0_0):=(blk_cell BK1050.out 0).trans rfl;have hcz6_1:w5.cell? ⟨gb1050,1,none⟩=some (.bool a0_1):=(blk_cell BK1050.out 1).trans rfl;have hfz6_0:=blk_frozen BK1050.out 0;have hfz6_1:=blk_frozen BK1050.out 1)|((with_reducible refine gate_callee (f:=15) rfl ?_);refine goesL_ (some 18) rfl rfl Try.func15 (by kernel_rfl) rfl #[.agg #[.slice A0_0 l0_0.length c0_0,.bool a0_1],.int .i64 1048576] rfl (by (try simp only [List.map_toArray,List.map_cons,List.map_nil]);first|done|rfl|(simp only [List.length_drop,List.length_take];rfl)) ?_;(with_reducible refine (laws_szGraph.calls _ _ l0_0 a0_1 1048576 t1051 _ ?side1 ?side2 A3.out).mono ?_);(case side1=>repeat (first|exact (Kd.C_below HR0_0.out HB.out)|(with_reducible refine Kd.C_alloc ?_ _)|(with_reducible refine Kd.C_drewN ?_ _)|(with_reducible refine Kd.C_drew ?_)));(case side2=>exact HC0_0.out);rintro e w7 ⟨rfl,hb⟩;refine ⟨_,rfl,?_⟩;have n0_:=Aside0.mk (blk_below (g:=gb1050) (o:=.cells #[.slice A0_0 l0_0.length c0_0,.bool a0_1] 24 (0,0)) (by (with_reducible repeat (first|refine blk_drewN ?_ _|refine blk_drew ?_|refine blk_alloc ?_ _));exact BK1050.out) hb);have n1_:=Aside0.mk (below_step (by repeat (first|(with_reducible first|exact HB.out|apply below_alloc|apply pw_below_drewN|apply below_drew1|refine below_set ?_ GE1050.out)|exact HB.out)) hb);clear BK1050;clear HB;have BK1050:=n0_;have HB:=n1_;clear n0_ n1_;(try clear hb);(try clear hb2);(try clear hk);(try clear hi)))
  go_ret
  exact ⟨by first|rfl|(simp [errW_none,errW_some]<;>rfl)|(simp [*,errW_none,errW_some]<;>rfl),by repeat (first|(with_reducible first|exact HB.out|apply below_alloc|apply pw_below_drewN|apply below_drew1|refine below_set ?_ GE1050.out)|exact HB.out)⟩
 ·rw [if_neg c4] at H
  have c4b0:decide (t1051< 0)=false:=decide_eq_false c4
  clear c4
  replace H:=Option.bind_eq_some_iff.mp H
  obtain ⟨⟨t1052,t1055⟩,A80,H⟩:=H
  replace H:((spec_AllAtOnce.f k t1052 t1055 a1).bind fun bt1056=>((laws_toGraph.f k l0_0 a0_1).bind fun bt1060=>((impl_AllAtOnce.f k bt1060.1 bt1060.2 a1).bind fun bt1065=>((laws_eqIntS.f k bt1065.1 bt1056.1).bind fun t1069=>(if t1069=true then (laws_FnExactAllAtOnce.j0 k a1 bt1056.1 bt1056.2 bt1065.1 bt1065.2 (bt1065.2 !=bt1056.2) l0_0 a0_1 bt1060.1 bt1060.2) else (laws_FnExactAllAtOnce.j0 k a1 bt1056.1 bt1056.2 bt1065.1 bt1065.2 true l0_0 a0_1 bt1060.1 bt1060.2))))))=some r:=H
  have A8:=Aside0.mk A80
  clear A80
  replace H:=Option.bind_eq_some_iff.mp H
  obtain ⟨⟨t1056,t1059⟩,A90,H⟩:=H
  replace H:((laws_toGraph.f k l0_0 a0_1).bind fun bt1060=>((impl_AllAtOnce.f k bt1060.1 bt1060.2 a1).bind fun bt1065=>((laws_eqIntS.f k bt1065.1 t1056).bind fun t1069=>(if t1069=true then (laws_FnExactAllAtOnce.j0 k a1 t1056 t1059 bt1065.1 bt1065.2 (bt1065.2 !=t1059) l0_0 a0_1 bt1060.1 bt1060.2) else (laws_FnExactAllAtOnce.j0 k a1 t1056 t1059 bt1065.1 bt1065.2 true l0_0 a0_1 bt1060.1 bt1060.2)))))=some r:=H
  have A9:=Aside0.mk A90
  clear A90
  replace H:=Option.bind_eq_some_iff.mp H
  obtain ⟨⟨t1060,t1063⟩,A100,H⟩:=H
  replace H:((impl_AllAtOnce.f k t1060 t1063 a1).bind fun bt1065=>((laws_eqIntS.f k bt1065.1 t1056).bind fun t1069=>(if t1069=true then (laws_FnExactAllAtOnce.j0 k a1 t1056 t1059 bt1065.1 bt1065.2 (bt1065.2 !=t1059) l0_0 a0_1 t1060 t1063) else (laws_FnExactAllAtOnce.j0 k a1 t1056 t1059 bt1065.1 bt1065.2 true l0_0 a0_1 t1060 t1063))))=some r:=H
  have A10:=Aside0.mk A100
  clear A100
  replace H:=Option.bind_eq_some_iff.mp H
  obtain ⟨⟨t1065,t1068⟩,A110,H⟩:=H
  replace H:((laws_eqIntS.f k t1065 t1056).bind fun t1069=>(if t1069=true then (laws_FnExactAllAtOnce.j0 k a1 t1056 t1059 t1065 t1068 (t1068 !=t1059) l0_0 a0_1 t1060 t1063) else (laws_FnExactAllAtOnce.j0 k a1 t1056 t1059 t1065 t1068 true l0_0 a0_1 t1060 t1063)))=some r:=H
  have A11:=Aside0.mk A110
  clear A110
  have HC12:=Aside0.mk H
  clear H
  go_enter Try.func14,Try.ntmps14
  go_upto_region 8 with (first|((with_reducible refine gate_dst (N:=2) rfl ?_);refine box_event ?hg (N:=2) ?hd (cs:=#[.slice A0_0 l0_0.length c0_0,.bool a0_1]) (t:=24) ?hr ?_;(case hd=>rfl);(case hg=>rfl);(case hr=>first|(go_simp;done)|(go_simp;rfl));intro gb1050 hg w13 hbox hb;have n0_:=Aside0.mk (below_step (by repeat (first|(with_reducible first|exact HB.out|apply below_alloc|apply pw_below_drewN|apply below_drew1)|exact HB.out)) hb);have n1_:=Aside0.mk (hbox);have n2_:=Aside0.mk ((by rw [hg];exact (below_size (by repeat (first|(with_reducible first|exact HB.out|apply below_alloc|apply pw_below_drewN|apply below_drew1)|exact HB.out))):w.heap.size≤gb1050));have n3_:=Aside0.mk ((by rw [hg];exact (below_size (by repeat (first|(with_reducible first|exact HB.out|apply below_alloc|apply pw_below_drewN|apply below_drew1)|exact HB.out))):w.heap.size≤gb1050));clear HB;have HB:=n0_;have BK1050:=n1_;have GW1050:=n2_;have GE1050:=n3_;clear n0_ n1_ n2_ n3_;clear hb hbox hg;have hcz14_0:w13.cell? ⟨gb1050,0,none⟩=some (.slice A0_0 l0_0.length c0_0):=(blk_cell BK1050.out 0).trans rfl;have hcz14_1:w13.cell? ⟨gb1050,1,none⟩=some (.bool a0_1):=(blk_cell BK1050.out 1).trans rfl;have hfz14_0:=blk_frozen BK1050.out 0;have hfz14_1:=blk_frozen BK1050.out 1)|((with_reducible refine gate_callee (f:=15) rfl ?_);refine goesL_ (some 18) rfl rfl Try.func15 (by kernel_rfl) rfl #[.agg #[.slice A0_0 l0_0.length c0_0,.bool a0_1],.int .i64 1048576] rfl (by (try simp only [List.map_toArray,List.map_cons,List.map_nil]);first|done|rfl|(simp only [List.length_drop,List.length_take];rfl)) ?_;(with_reducible refine (laws_szGraph.calls _ _ l0_0 a0_1 1048576 t1051 _ ?side1 ?side2 A3.out).mono ?_);(case side1=>repeat (first|exact (Kd.C_below HR0_0.out HB.out)|(with_reducible refine Kd.C_alloc ?_ _)|(with_reducible refine Kd.C_drewN ?_ _)|(with_reducible refine Kd.C_drew ?_)));(case side2=>exact HC0_0.out);rintro e w15 ⟨rfl,hb⟩;refine ⟨_,rfl,?_⟩;have n0_:=Aside0.mk (blk_below (g:=gb1050) (o:=.cells #[.slice A0_0 l0_0.length c0_0,.bool a0_1] 24 (0,0)) (by (with_reducible repeat (first|refine blk_drewN ?_ _|refine blk_drew ?_|refine blk_alloc ?_ _));exact BK1050.out) hb);have n1_:=Aside0.mk (below_step (by repeat (first|(with_reducible first|exact HB.out|apply below_alloc|apply pw_below_drewN|apply below_drew1|refine below_set ?_ GE1050.out)|exact HB.out)) hb);clear BK1050;clear HB;have BK1050:=n0_;have HB:=n1_;clear n0_ n1_;(try clear hb);(try clear hb2);(try clear hk);(try clear hi);have hcz16_0:w15.cell? ⟨gb1050,0,none⟩=some (.slice A0_0 l0_0.length c0_0):=(blk_cell BK1050.out 0).trans rfl;have hcz16_1:w15.cell? ⟨gb1050,1,none⟩=some (.bool a0_1):=(blk_cell BK1050.out 1).trans rfl;have hfz16_0:=blk_frozen BK1050.out 0;have hfz16_1:=blk_frozen BK1050.out 1)|((with_reducible refine gate_callee (f:=17) rfl ?_);refine goesL_ (some 23) rfl rfl Try.func17 (by kernel_rfl) rfl #[.agg #[.slice A0_0 l0_0.length c0_0,.bool a0_1]] rfl (by (try simp only [List.map_toArray,List.map_cons,List.map_nil]);first|done|rfl|(simp only [List.length_drop,List.length_take];rfl)) ?_;(with_reducible refine (laws_toGraph.calls k _ _ l0_0 a0_1 t1052 t1055 _ ?side1 ?side2 A8.out).mono ?_);(case side1=>repeat (first|exact (Kd.C_below HR0_0.out HB.out)|(with_reducible refine Kd.C_alloc ?_ _)|(with_reducible refine Kd.C_drewN ?_ _)|(with_reducible refine Kd.C_drew ?_)));(case side2=>exact HC0_0.out);rintro e w17 ⟨v1053,rfl,ho0,hb⟩;refine ⟨_,rfl,?_⟩;have n0_:=Aside0.mk (Kd.R_lower ho0 (below_size (by repeat (first|(with_reducible first|exact HB.out|apply below_alloc|apply pw_below_drewN|apply below_drew1|refine below_set ?_ GE1050.out)|exact HB.out))));have n1_:=Aside0.mk (blk_below (g:=gb1050) (o:=.cells #[.slice A0_0 l0_0.length c0_0,.bool a0_1] 24 (0,0)) (by (with_reducible repeat (first|refine blk_drewN ?_ _|refine blk_drew ?_|refine blk_alloc ?_ _));exact BK1050.out) hb);have n2_:=Aside0.mk (below_step (by repeat (first|(with_reducible first|exact HB.out|apply below_alloc|apply pw_below_drewN|apply below_drew1|refine below_set ?_ GE1050.out)|exact HB.out)) hb);clear BK1050;clear HB;have HO1054:=n0_;have BK1050:=n1_;have HB:=n2_;clear n0_ n1_ n2_;(try clear hb);(try clear hb2);(try clear hk);(try clear hi);(try clear ho0);obtain ⟨Ao18,co18,eo18⟩:=Kd.R_slice HO1054.out;subst eo18)|((with_reducible refine gate_callee (f:=48) rfl ?_);refine goesL_ (some 25) rfl rfl Try.func48 (by kernel_rfl) rfl #[.agg #[.slice Ao18 t1052.length co18,.bool t1055],.int .i64 a1] rfl (by (try simp only [List.map_toArray,List.map_cons,List.map_nil]);first|done|rfl|(simp only [List.length_drop,List.length_take];rfl)) ?_;(with_reducible refine (spec_AllAtOnce.calls k _ _ t1052 t1055 a1 t1056 t1059 _ ?side1 ?side2 A9.out).mono ?_);(case side1=>repeat (first|exact (Kd.R_reads' HO1054.out).2.2|(with_reducible refine Kd.C_alloc ?_ _)|(with_reducible refine Kd.C_drewN ?_ _)|(with_reducible refine Kd.C_drew ?_)));(case side2=>exact (Kd.R_reads' HO1054.out).2.1);rintro e w19 ⟨v1057,rfl,ho0,hb⟩;refine ⟨_,rfl,?_⟩;have n0_:=Aside0.mk (Kd.R_elder' (by (with_reducible repeat (first|apply Kd.R_alloc|apply Kd.R_drewN|apply Kd.R_drew));exact HO1054.out) (Kd.R_base ho0) hb);have n1_:=Aside0.mk (Kd.R_lower (Kd.R_new' ho0 (Kd.R_lt (by (with_reducible repeat (first|apply Kd.R_alloc|apply Kd.R_drewN|apply Kd.R_drew));exact HO1054.out))) (below_size (by repeat (first|(with_reducible first|exact HB.out|apply below_alloc|apply pw_below_drewN|apply below_drew1|refine below_set ?_ GE1050.out)|exact HB.out))));have n2_:=Aside0.mk (blk_below (g:=gb1050) (o:=.cells #[.slice A0_0 l0_0.length c0_0,.bool a0_1] 24 (0,0)) (by (with_reducible repeat (first|refine blk_drewN ?_ _|refine blk_drew ?_|refine blk_alloc ?_ _));exact BK1050.out) hb);have n3_:=Aside0.mk (below_step (by repeat (first|(with_reducible first|exact HB.out|apply below_alloc|apply pw_below_drewN|apply below_drew1|refine below_set ?_ GE1050.out)|exact HB.out)) hb);clear HO1054;clear BK1050;clear HB;have HO1054:=n0_;have HO1058:=n1_;have BK1050:=n2_;have HB:=n3_;clear n0_ n1_ n2_ n3_;(try clear hb);(try clear hb2);(try clear hk);(try clear hi);(try clear ho0);have hcz20_0:w19.cell? ⟨gb1050,0,none⟩=some (.slice A0_0 l0_0.length c0_0):=(blk_cell BK1050.out 0).trans rfl;have hcz20_1:w19.cell? ⟨gb1050,1,none⟩=some (.bool a0_1):=(blk_cell BK1050.out 1).trans rfl;have hfz20_0:=blk_frozen BK1050.out 0;have hfz20_1:=blk_frozen BK1050.out 1)|((with_reducible refine gate_callee (f:=17) rfl ?_);refine goesL_ (some 29) rfl rfl Try.func17 (by kernel_rfl) rfl #[.agg #[.slice A0_0 l0_0.length c0_0,.bool a0_1]] rfl (by (try simp only [List.map_toArray,List.map_cons,List.map_nil]);first|done|rfl|(simp only [List.length_drop,List.length_take];rfl)) ?_;(with_reducible refine (laws_toGraph.calls k _ _ l0_0 a0_1 t1060 t1063 _ ?side1 ?side2 A10.out).mono ?_);(case side1=>repeat (first|exact (Kd.C_below HR0_0.out HB.out)|(with_reducible refine Kd.C_alloc ?_ _)|(with_reducible refine Kd.C_drewN ?_ _)|(with_reducible refine Kd.C_drew ?_)));(case side2=>exact HC0_0.out);rintro e w21 ⟨v1061,rfl,ho0,hb⟩;refine ⟨_,rfl,?_⟩;have n0_:=Aside0.mk (Kd.R_elder' (by (with_reducible repeat (first|apply Kd.R_alloc|apply Kd.R_drewN|apply Kd.R_drew));exact HO1054.out) (Kd.R_base ho0) hb);have n1_:=Aside0.mk (Kd.R_elder' (by (with_reducible repeat (first|apply Kd.R_alloc|apply Kd.R_drewN|apply Kd.R_drew));exact HO1058.out) (Kd.R_base ho0) hb);have n2_:=Aside0.mk (Kd.R_lower (Kd.R_new' (Kd.R_new' ho0 (Kd.R_lt (by (with_reducible repeat (first|apply Kd.R_alloc|apply Kd.R_drewN|apply Kd.R_drew));exact HO1054.out))) (Kd.R_lt (by (with_reducible repeat (first|apply Kd.R_alloc|apply Kd.R_drewN|apply Kd.R_drew));exact HO1058.out))) (below_size (by repeat (first|(with_reducible first|exact HB.out|apply below_alloc|apply pw_below_drewN|apply below_drew1|refine below_set ?_ GE1050.out)|exact HB.out))));have n3_:=Aside0.mk (blk_below (g:=gb1050) (o:=.cells #[.slice A0_0 l0_0.length c0_0,.bool a0_1] 24 (0,0)) (by (with_reducible repeat (first|refine blk_drewN ?_ _|refine blk_drew ?_|refine blk_alloc ?_ _));exact BK1050.out) hb);have n4_:=Aside0.mk (below_step (by repeat (first|(with_reducible first|exact HB.out|apply below_alloc|apply pw_below_drewN|apply below_drew1|refine below_set ?_ GE1050.out)|exact HB.out)) hb);clear HO1054;clear HO1058;clear BK1050;clear HB;have HO1054:=n0_;have HO1058:=n1_;have HO1062:=n2_;have BK1050:=n3_;have HB:=n4_;clear n0_ n1_ n2_ n3_ n4_;(try clear hb);(try clear hb2);(try clear hk);(try clear hi);(try clear ho0))|((with_reducible refine gate_dst (N:=8) rfl ?_);refine box_event ?hg (N:=8) ?hd (cs:=#[.slice none 0 0,.bool false]) (t:=28) ?hr ?_;(case hd=>rfl);(case hg=>rfl);(case hr=>first|(go_simp;done)|(go_simp;rfl));intro gb1064 hg w22 hbox hb;have n0_:=Aside0.mk (Kd.R_below (by (with_reducible repeat (first|apply Kd.R_alloc|apply Kd.R_drewN|apply Kd.R_drew));exact HO1054.out) hb);have n1_:=Aside0.mk (Kd.R_below (by (with_reducible repeat (first|apply Kd.R_alloc|apply Kd.R_drewN|apply Kd.R_drew));exact HO1058.out) hb);have n2_:=Aside0.mk (Kd.R_below (by (with_reducible repeat (first|apply Kd.R_alloc|apply Kd.R_drewN|apply Kd.R_drew));exact HO1062.out) hb);have n3_:=Aside0.mk (blk_below (g:=gb1050) (o:=.cells #[.slice A0_0 l0_0.length c0_0,.bool a0_1] 24 (0,0)) (by (with_reducible repeat (first|refine blk_drewN ?_ _|refine blk_drew ?_|refine blk_alloc ?_ _));exact BK1050.out) hb);have n4_:=Aside0.mk (below_step (by repeat (first|(with_reducible first|exact HB.out|apply below_alloc|apply pw_below_drewN|apply below_drew1|refine below_set ?_ GE1050.out)|exact HB.out)) hb);have n5_:=Aside0.mk (hbox);have n6_:=Aside0.mk ((by rw [hg];exact (below_size (by repeat (first|(with_reducible first|exact HB.out|apply below_alloc|apply pw_below_drewN|apply below_drew1|refine below_set ?_ GE1050.out)|exact HB.out))):w.heap.size≤gb1064));have n7_:=Aside0.mk ((by rw [hg];exact (below_size (by repeat (first|(with_reducible first|exact HB.out|apply below_alloc|apply pw_below_drewN|apply below_drew1|refine below_set ?_ GE1050.out)|exact HB.out))):w.heap.size≤gb1064));have n8_:=Aside0.mk ((by rw [hg];exact Nat.ne_of_lt (blk_lt (g:=gb1050) (o:=.cells #[.slice A0_0 l0_0.length c0_0,.bool a0_1] 24 (0,0)) (by (with_reducible repeat (first|refine blk_drewN ?_ _|refine blk_drew ?_|refine blk_alloc ?_ _));exact BK1050.out)):gb1050≠gb1064));have n9_:=Aside0.mk ((by rw [hg];exact Nat.ne_of_gt (blk_lt (g:=gb1050) (o:=.cells #[.slice A0_0 l0_0.length c0_0,.bool a0_1] 24 (0,0)) (by (with_reducible repeat (first|refine blk_drewN ?_ _|refine blk_drew ?_|refine blk_alloc ?_ _));exact BK1050.out)):gb1064≠gb1050));clear HO1054;clear HO1058;clear HO1062;clear BK1050;clear HB;have HO1054:=n0_;have HO1058:=n1_;have HO1062:=n2_;have BK1050:=n3_;have HB:=n4_;have BK1064:=n5_;have GW1064:=n6_;have GE1064:=n7_;have NB1050_1064:=n8_;have NB1064_1050:=n9_;clear n0_ n1_ n2_ n3_ n4_ n5_ n6_ n7_ n8_ n9_;clear hb hbox hg;obtain ⟨Ao23,co23,eo23⟩:=Kd.R_slice HO1062.out;subst eo23;have hnb24:=NB1064_1050.out;have hnc24:=NB1050_1064.out;have hcz25_0:w22.cell? ⟨gb1064,0,none⟩=some (.slice none 0 0):=(blk_cell BK1064.out 0).trans rfl;have hcz25_1:w22.cell? ⟨gb1064,1,none⟩=some (.bool false):=(blk_cell BK1064.out 1).trans rfl;have hfz25_0:=blk_frozen BK1064.out 0;have hfz25_1:=blk_frozen BK1064.out 1)|((with_reducible refine gate_callee (f:=49) rfl ?_);refine goesL_ (some 33) rfl rfl Try.func49 (by kernel_rfl) rfl #[.agg #[.slice Ao23 t1060.length co23,.bool t1063],.int .i64 a1] rfl (by (try simp only [List.map_toArray,List.map_cons,List.map_nil]);first|done|rfl|(simp only [List.length_drop,List.length_take];rfl)) ?_;(with_reducible refine (impl_AllAtOnce.calls k _ _ t1060 t1063 a1 t1065 t1068 _ ?side1 ?side2 A11.out).mono ?_);(case side1=>refine (Kd.R_reads' (e:=3) (base:=w.heap.size) (ok:=fun k_=>((True∧some k_≠(.slice Ao18 t1052.length co18:Value).ownBlock)∧some k_≠(v1057:Value).ownBlock)) (n:=t1060.length) (c:=co23) ?_).2.2;exact (by (with_reducible repeat (first|apply Kd.R_alloc|apply Kd.R_drewN|apply Kd.R_drew));exact (Kd.R_mono (Kd.R_far (p:=⟨gb1064,1,none⟩) (Kd.R_far (p:=⟨gb1064,0,none⟩) (Kd.R_types HO1062.out BK1064.out (by decide)) (fun _ hk=>hk.2) (.slice Ao23 t1060.length co23)) (fun _ hk=>hk.2) (.bool t1063)) (fun _ h_=>h_.1))));(case side2=>exact (Kd.R_reads' HO1062.out).2.1);rintro e w26 ⟨v1066,rfl,ho0,hb⟩;refine ⟨_,rfl,?_⟩;have n0_:=Aside0.mk (Kd.R_elder' (by (with_reducible repeat (first|apply Kd.R_alloc|apply Kd.R_drewN|apply Kd.R_drew));exact (Kd.R_mono (Kd.R_far (p:=⟨gb1064,1,none⟩) (Kd.R_far (p:=⟨gb1064,0,none⟩) (Kd.R_types HO1054.out BK1064.out (by decide)) (fun _ hk=>hk.2) (.slice Ao23 t1060.length co23)) (fun _ hk=>hk.2) (.bool t1063)) (fun _ h_=>h_.1))) (Kd.R_base ho0) hb);have n1_:=Aside0.mk (Kd.R_elder' (by (with_reducible repeat (first|apply Kd.R_alloc|apply Kd.R_drewN|apply Kd.R_drew));exact (Kd.R_mono (Kd.R_far (p:=⟨gb1064,1,none⟩) (Kd.R_far (p:=⟨gb1064,0,none⟩) (Kd.R_types HO1058.out BK1064.out (by decide)) (fun _ hk=>hk.2) (.slice Ao23 t1060.length co23)) (fun _ hk=>hk.2) (.bool t1063)) (fun _ h_=>h_.1))) (Kd.R_base ho0) hb);have n2_:=Aside0.mk (Kd.R_elder' (by (with_reducible repeat (first|apply Kd.R_alloc|apply Kd.R_drewN|apply Kd.R_drew));exact (Kd.R_mono (Kd.R_far (p:=⟨gb1064,1,none⟩) (Kd.R_far (p:=⟨gb1064,0,none⟩) (Kd.R_types HO1062.out BK1064.out (by decide)) (fun _ hk=>hk.2) (.slice Ao23 t1060.length co23)) (fun _ hk=>hk.2) (.bool t1063)) (fun _ h_=>h_.1))) (Kd.R_base ho0) hb);have n3_:=Aside0.mk (Kd.R_lower (Kd.R_new' (Kd.R_new' (Kd.R_new' ho0 (Kd.R_lt (by (with_reducible repeat (first|apply Kd.R_alloc|apply Kd.R_drewN|apply Kd.R_drew));exact (Kd.R_mono (Kd.R_far (p:=⟨gb1064,1,none⟩) (Kd.R_far (p:=⟨gb1064,0,none⟩) (Kd.R_types HO1054.out BK1064.out (by decide)) (fun _ hk=>hk.2) (.slice Ao23 t1060.length co23)) (fun _ hk=>hk.2) (.bool t1063)) (fun _ h_=>h_.1))))) (Kd.R_lt (by (with_reducible repeat (first|apply Kd.R_alloc|apply Kd.R_drewN|apply Kd.R_drew));exact (Kd.R_mono (Kd.R_far (p:=⟨gb1064,1,none⟩) (Kd.R_far (p:=⟨gb1064,0,none⟩) (Kd.R_types HO1058.out BK1064.out (by decide)) (fun _ hk=>hk.2) (.slice Ao23 t1060.length co23)) (fun _ hk=>hk.2) (.bool t1063)) (fun _ h_=>h_.1))))) (Kd.R_lt (by (with_reducible repeat (first|apply Kd.R_alloc|apply Kd.R_drewN|apply Kd.R_drew));exact (Kd.R_mono (Kd.R_far (p:=⟨gb1064,1,none⟩) (Kd.R_far (p:=⟨gb1064,0,none⟩) (Kd.R_types HO1062.out BK1064.out (by decide)) (fun _ hk=>hk.2) (.slice Ao23 t1060.length co23)) (fun _ hk=>hk.2) (.bool t1063)) (fun _ h_=>h_.1))))) (below_size (by repeat (first|(with_reducible first|exact HB.out|apply below_alloc|apply pw_below_drewN|apply below_drew1|refine below_set ?_ GE1050.out|refine below_set ?_ GE1064.out)|exact HB.out))));have n4_:=Aside0.mk (blk_below (g:=gb1050) (o:=.cells #[.slice A0_0 l0_0.length c0_0,.bool a0_1] 24 (0,0)) (by (with_reducible repeat (first|refine blk_drewN ?_ _|refine blk_drew ?_|refine blk_alloc ?_ _));refine blk_far ?_ NB1050_1064.out _;(with_reducible repeat (first|refine blk_drewN ?_ _|refine blk_drew ?_|refine blk_alloc ?_ _));refine blk_far ?_ NB1050_1064.out _;(with_reducible repeat (first|refine blk_drewN ?_ _|refine blk_drew ?_|refine blk_alloc ?_ _));exact BK1050.out) hb);have n5_:=Aside0.mk (blk_below (g:=gb1064) (o:=.cells #[.slice Ao23 t1060.length co23,.bool t1063] 28 (0,0)) (by (with_reducible repeat (first|refine blk_drewN ?_ _|refine blk_drew ?_|refine blk_alloc ?_ _));refine blk_put (cs:=#[.slice Ao23 t1060.length co23,.bool false]) ?_ 1 _ rfl;(with_reducible repeat (first|refine blk_drewN ?_ _|refine blk_drew ?_|refine blk_alloc ?_ _));refine blk_put (cs:=#[.slice none 0 0,.bool false]) ?_ 0 _ rfl;(with_reducible repeat (first|refine blk_drewN ?_ _|refine blk_drew ?_|refine blk_alloc ?_ _));exact BK1064.out) hb);have n6_:=Aside0.mk (below_step (by repeat (first|(with_reducible first|exact HB.out|apply below_alloc|apply pw_below_drewN|apply below_drew1|refine below_set ?_ GE1050.out|refine below_set ?_ GE1064.out)|exact HB.out)) hb);clear HO1054;clear HO1058;clear HO1062;clear BK1050;clear BK1064;clear HB;have HO1054:=n0_;have HO1058:=n1_;have HO1062:=n2_;have HO1067:=n3_;have BK1050:=n4_;have BK1064:=n5_;have HB:=n6_;clear n0_ n1_ n2_ n3_ n4_ n5_ n6_;(try clear hb);(try clear hb2);(try clear hk);(try clear hi);(try clear ho0)))
  (try simp only [Act.put,List.setIfInBounds_toArray,List.set_cons_zero,List.set_cons_succ])
  go_cut [44] (fun v44 wc=>∃ (kq:Nat) (x44_11:Bool),v44=.bool x44_11∧Aside0 (laws_FnExactAllAtOnce.j0 kq a1 t1056 t1059 t1065 t1068 x44_11 l0_0 a0_1 t1060 t1063=some r)∧Aside0 (kq≤k)∧Aside0 (Kd.R (Kd.int .i64) 3 wc w.heap.size (fun k_=>some k_≠(v1066:Value).ownBlock∧some k_≠((.slice Ao23 t1060.length co23):Value).ownBlock) v1057 t1056)∧Aside0 (Kd.R (Kd.int .i64) 3 wc w.heap.size (fun k_=>some k_≠(v1057:Value).ownBlock∧some k_≠((.slice Ao23 t1060.length co23):Value).ownBlock) v1066 t1065)∧Aside0 (Kd.R (Kd.int .i64) 3 wc w.heap.size (fun k_=>some k_≠(v1057:Value).ownBlock∧some k_≠(v1066:Value).ownBlock) (.slice Ao23 t1060.length co23) t1060)∧Aside0 (wc.heap[gb1050]?=some (.cells #[(.slice A0_0 l0_0.length c0_0),.bool a0_1] 24 (0,0)))∧Aside0 (wc.heap[gb1064]?=some (.cells #[(.slice Ao23 t1060.length co23),.bool t1063] 28 (0,0)))∧Aside0 (Below w.heap.size w wc))
  case first=>
   have H:=HC12.out
   clear HC12
   replace H:=Option.bind_eq_some_iff.mp H
   obtain ⟨t1069,A270,H⟩:=H
   replace H:(if t1069=true then (laws_FnExactAllAtOnce.j0 k a1 t1056 t1059 t1065 t1068 (t1068 !=t1059) l0_0 a0_1 t1060 t1063) else (laws_FnExactAllAtOnce.j0 k a1 t1056 t1059 t1065 t1068 true l0_0 a0_1 t1060 t1063))=some r:=H
   have A27:=Aside0.mk A270
   clear A270
   by_cases c28:t1069=true
   ·subst c28
    have H1:(laws_FnExactAllAtOnce.j0 k a1 t1056 t1059 t1065 t1068 (t1068 !=t1059) l0_0 a0_1 t1060 t1063)=some r:=by rw [if_pos rfl] at H;exact H
    clear H
    have H:=H1
    clear H1
    have H':=Aside0.mk H
    clear H
    obtain ⟨Ao29,co29,eo29⟩:=Kd.R_slice HO1067.out
    subst eo29
    obtain ⟨Ao30,co30,eo30⟩:=Kd.R_slice HO1058.out
    subst eo30
    go_wp2_with (first|((with_reducible refine gate_callee (f:=21) rfl ?_);refine goesL_ (some 38) rfl rfl Try.func21 (by kernel_rfl) rfl #[.slice Ao29 t1065.length co29,.slice Ao30 t1056.length co30] rfl (by (try simp only [List.map_toArray,List.map_cons,List.map_nil]);first|done|rfl|(simp only [List.length_drop,List.length_take];rfl)) ?_;(with_reducible refine (laws_eqIntS.calls k _ _ t1065 _ _ t1056 true _ ?side1 ?side2 ?side3 ?side4 A27.out).mono ?_);(case side1=>repeat (first|exact (Kd.R_reads' HO1067.out).2.2|(with_reducible refine Kd.C_alloc ?_ _)|(with_reducible refine Kd.C_drewN ?_ _)|(with_reducible refine Kd.C_drew ?_)));(case side2=>exact (Kd.R_reads' HO1067.out).2.1);(case side3=>repeat (first|exact (Kd.R_reads' HO1058.out).2.2|(with_reducible refine Kd.C_alloc ?_ _)|(with_reducible refine Kd.C_drewN ?_ _)|(with_reducible refine Kd.C_drew ?_)));(case side4=>exact (Kd.R_reads' HO1058.out).2.1);rintro e w' ⟨rfl,⟨nd,rfl⟩⟩;refine ⟨_,rfl,?_⟩))
    go_meet
    case rel=>exact ⟨_,((t1068 !=t1059)),(by first|rfl|(simp;done)|(simp [*];done)),H',⟨by first|omega|exact Nat.le_refl _⟩,⟨by (with_reducible repeat (first|apply Kd.R_alloc|apply Kd.R_drewN|apply Kd.R_drew));exact Kd.R_mono HO1058.out (fun _ hk=>⟨hk.2,hk.1.2⟩)⟩,⟨by (with_reducible repeat (first|apply Kd.R_alloc|apply Kd.R_drewN|apply Kd.R_drew));exact Kd.R_mono HO1067.out (fun _ hk=>⟨hk.1.2,hk.2⟩)⟩,⟨by (with_reducible repeat (first|apply Kd.R_alloc|apply Kd.R_drewN|apply Kd.R_drew));exact Kd.R_mono HO1062.out (fun _ hk=>⟨hk.1.2,hk.2⟩)⟩,⟨by (with_reducible repeat (first|refine blk_drewN ?_ _|refine blk_drew ?_|refine blk_alloc ?_ _));exact BK1050.out⟩,⟨by (with_reducible repeat (first|refine blk_drewN ?_ _|refine blk_drew ?_|refine blk_alloc ?_ _));exact BK1064.out⟩,⟨by repeat (first|(with_reducible first|exact HB.out|apply below_alloc|apply pw_below_drewN|apply below_drew1|refine below_set ?_ GE1050.out|refine below_set ?_ GE1064.out)|exact HB.out)⟩⟩
   ·replace c28:=Bool.eq_false_iff.mpr c28
    subst c28
    have H1:(laws_FnExactAllAtOnce.j0 k a1 t1056 t1059 t1065 t1068 true l0_0 a0_1 t1060 t1063)=some r:=by rw [if_neg (show ¬ (false=true) by decide)] at H;exact H
    clear H
    have H:=H1
    clear H1
    have H':=Aside0.mk H
    clear H
    obtain ⟨Ao31,co31,eo31⟩:=Kd.R_slice HO1067.out
    subst eo31
    obtain ⟨Ao32,co32,eo32⟩:=Kd.R_slice HO1058.out
    subst eo32
    go_wp2_with (first|((with_reducible refine gate_callee (f:=21) rfl ?_);refine goesL_ (some 38) rfl rfl Try.func21 (by kernel_rfl) rfl #[.slice Ao31 t1065.length co31,.slice Ao32 t1056.length co32] rfl (by (try simp only [List.map_toArray,List.map_cons,List.map_nil]);first|done|rfl|(simp only [List.length_drop,List.length_take];rfl)) ?_;(with_reducible refine (laws_eqIntS.calls k _ _ t1065 _ _ t1056 false _ ?side1 ?side2 ?side3 ?side4 A27.out).mono ?_);(case side1=>repeat (first|exact (Kd.R_reads' HO1067.out).2.2|(with_reducible refine Kd.C_alloc ?_ _)|(with_reducible refine Kd.C_drewN ?_ _)|(with_reducible refine Kd.C_drew ?_)));(case side2=>exact (Kd.R_reads' HO1067.out).2.1);(case side3=>repeat (first|exact (Kd.R_reads' HO1058.out).2.2|(with_reducible refine Kd.C_alloc ?_ _)|(with_reducible refine Kd.C_drewN ?_ _)|(with_reducible refine Kd.C_drew ?_)));(case side4=>exact (Kd.R_reads' HO1058.out).2.1);rintro e w' ⟨rfl,⟨nd,rfl⟩⟩;refine ⟨_,rfl,?_⟩))
    go_meet
    case rel=>exact ⟨_,(true),(by first|rfl|(simp;done)|(simp [*];done)),H',⟨by first|omega|exact Nat.le_refl _⟩,⟨by (with_reducible repeat (first|apply Kd.R_alloc|apply Kd.R_drewN|apply Kd.R_drew));exact Kd.R_mono HO1058.out (fun _ hk=>⟨hk.2,hk.1.2⟩)⟩,⟨by (with_reducible repeat (first|apply Kd.R_alloc|apply Kd.R_drewN|apply Kd.R_drew));exact Kd.R_mono HO1067.out (fun _ hk=>⟨hk.1.2,hk.2⟩)⟩,⟨by (with_reducible repeat (first|apply Kd.R_alloc|apply Kd.R_drewN|apply Kd.R_drew));exact Kd.R_mono HO1062.out (fun _ hk=>⟨hk.1.2,hk.2⟩)⟩,⟨by (with_reducible repeat (first|refine blk_drewN ?_ _|refine blk_drew ?_|refine blk_alloc ?_ _));exact BK1050.out⟩,⟨by (with_reducible repeat (first|refine blk_drewN ?_ _|refine blk_drew ?_|refine blk_alloc ?_ _));exact BK1064.out⟩,⟨by repeat (first|(with_reducible first|exact HB.out|apply below_alloc|apply pw_below_drewN|apply below_drew1|refine below_set ?_ GE1050.out|refine below_set ?_ GE1064.out)|exact HB.out)⟩⟩
  case rest=>
   clear HC12;(try clear c1);(try clear c2);(try clear p2);(try clear c4);(try clear c4b0);(try clear c14);(try clear c15);(try clear c17);(try clear c21);(try clear c24);(try clear c28);(try clear hcz14_0);(try clear hcz14_1);(try clear hcz16_0);(try clear hcz16_1);(try clear hcz20_0);(try clear hcz20_1);(try clear hcz25_0);(try clear hcz25_1);(try clear hcz6_0);(try clear hcz6_1);(try clear hfz14_0);(try clear hfz14_1);(try clear hfz16_0);(try clear hfz16_1);(try clear hfz20_0);(try clear hfz20_1);(try clear hfz25_0);(try clear hfz25_1);(try clear hfz6_0);(try clear hfz6_1)
   obtain ⟨kq,x44_11,rfl,HA,HJ11,HO_6,HO_9,HO_1065000,BK1050,BK1064,HB⟩:=hcut
   cases kq with
   |zero=>exact absurd HA.out (by simp [laws_FnExactAllAtOnce.j0])
   |succ kj11=>
    have H:=HA.out
    clear HA
    simp only [laws_FnExactAllAtOnce.j0] at H
    by_cases c33:x44_11=true
    ·subst c33
     have H1:(some false)=some r:=by rw [if_pos rfl] at H;exact H
     clear H
     have H:=H1
     clear H1
     obtain rfl:=Option.some.inj H
     go_wp2
     go_ret
     exact ⟨by first|rfl|(simp [errW_none,errW_some]<;>rfl)|(simp [*,errW_none,errW_some]<;>rfl),by repeat (first|(with_reducible first|exact HB.out|apply below_alloc|apply pw_below_drewN|apply below_drew1|refine below_set ?_ GE1050.out|refine below_set ?_ GE1064.out)|exact HB.out)⟩
    ·replace c33:=Bool.eq_false_iff.mpr c33
     subst c33
     have H1:((laws_toGraph.f kj11 l0_0 a0_1).bind fun bt1070=>((laws_eqGraph.f kj11 t1060 t1063 bt1070.1 bt1070.2).bind fun t1074=>(if t1074=true then ((laws_markGraph.f kj11 t1060 t1063 1).bind fun bt1075=>(if bt1075.1< 0 then (laws_FnExactAllAtOnce.j1 kj11 a1 t1056 t1059 t1065 true l0_0 a0_1) else ((laws_eqIntS.f kj11 t1065 t1056).bind fun t1077=>(if t1077=true then (laws_FnExactAllAtOnce.j1 kj11 a1 t1056 t1059 t1065 (t1068 !=t1059) l0_0 a0_1) else (laws_FnExactAllAtOnce.j1 kj11 a1 t1056 t1059 t1065 true l0_0 a0_1))))) else (some false))))=some r:=by rw [if_neg (show ¬ (false=true) by decide)] at H;exact H
     clear H
     have H:=H1
     clear H1
     replace H:=Option.bind_eq_some_iff.mp H
     obtain ⟨⟨t1070,t1073⟩,A340,H⟩:=H
     replace H:((laws_eqGraph.f kj11 t1060 t1063 t1070 t1073).bind fun t1074=>(if t1074=true then ((laws_markGraph.f kj11 t1060 t1063 1).bind fun bt1075=>(if bt1075.1< 0 then (laws_FnExactAllAtOnce.j1 kj11 a1 t1056 t1059 t1065 true l0_0 a0_1) else ((laws_eqIntS.f kj11 t1065 t1056).bind fun t1077=>(if t1077=true then (laws_FnExactAllAtOnce.j1 kj11 a1 t1056 t1059 t1065 (t1068 !=t1059) l0_0 a0_1) else (laws_FnExactAllAtOnce.j1 kj11 a1 t1056 t1059 t1065 true l0_0 a0_1))))) else (some false)))=some r:=H
     have A34:=Aside0.mk A340
     clear A340
     replace H:=Option.bind_eq_some_iff.mp H
     obtain ⟨t1074,A350,H⟩:=H
     replace H:(if t1074=true then ((laws_markGraph.f kj11 t1060 t1063 1).bind fun bt1075=>(if bt1075.1< 0 then (laws_FnExactAllAtOnce.j1 kj11 a1 t1056 t1059 t1065 true l0_0 a0_1) else ((laws_eqIntS.f kj11 t1065 t1056).bind fun t1077=>(if t1077=true then (laws_FnExactAllAtOnce.j1 kj11 a1 t1056 t1059 t1065 (t1068 !=t1059) l0_0 a0_1) else (laws_FnExactAllAtOnce.j1 kj11 a1 t1056 t1059 t1065 true l0_0 a0_1))))) else (some false))=some r:=H
     have A35:=Aside0.mk A350
     clear A350
     by_cases c36:t1074=true
     ·subst c36
      have H1:((laws_markGraph.f kj11 t1060 t1063 1).bind fun bt1075=>(if bt1075.1< 0 then (laws_FnExactAllAtOnce.j1 kj11 a1 t1056 t1059 t1065 true l0_0 a0_1) else ((laws_eqIntS.f kj11 t1065 t1056).bind fun t1077=>(if t1077=true then (laws_FnExactAllAtOnce.j1 kj11 a1 t1056 t1059 t1065 (t1068 !=t1059) l0_0 a0_1) else (laws_FnExactAllAtOnce.j1 kj11 a1 t1056 t1059 t1065 true l0_0 a0_1)))))=some r:=by rw [if_pos rfl] at H;exact H
      clear H
      have H:=H1
      clear H1
      replace H:=Option.bind_eq_some_iff.mp H
      obtain ⟨⟨t1075,t1076⟩,A370,H⟩:=H
      replace H:(if t1075< 0 then (laws_FnExactAllAtOnce.j1 kj11 a1 t1056 t1059 t1065 true l0_0 a0_1) else ((laws_eqIntS.f kj11 t1065 t1056).bind fun t1077=>(if t1077=true then (laws_FnExactAllAtOnce.j1 kj11 a1 t1056 t1059 t1065 (t1068 !=t1059) l0_0 a0_1) else (laws_FnExactAllAtOnce.j1 kj11 a1 t1056 t1059 t1065 true l0_0 a0_1))))=some r:=H
      have A37:=Aside0.mk A370
      clear A370
      have HC38:=Aside0.mk H
      clear H
      try go_wp2
      have n0_:=Aside0.mk (Kd.R_drew HO_6.out)
      have n1_:=Aside0.mk (Kd.R_drew HO_9.out)
      have n2_:=Aside0.mk (Kd.R_drew HO_1065000.out)
      have n3_:=Aside0.mk (blk_drew BK1050.out)
      have n4_:=Aside0.mk (blk_drew BK1064.out)
      have n5_:=Aside0.mk (below_drew1 HB.out)
      clear HO_6;clear HO_9;clear HO_1065000;clear BK1050;clear BK1064;clear HB
      have HO_6:=n0_
      have HO_9:=n1_
      have HO_1065000:=n2_
      have BK1050:=n3_
      have BK1064:=n4_
      have HB:=n5_
      clear n0_ n1_ n2_ n3_ n4_ n5_
      refine start_ (n:=5) (S:=fun w'=>w'.cell? ⟨gb1064,0,none⟩=some (.slice Ao23 t1060.length co23)∧w'.cell? ⟨gb1064,1,none⟩=some (.bool t1063)∧w'.cell? ⟨gb1050,0,none⟩=some (.slice A0_0 l0_0.length c0_0)∧w'.cell? ⟨gb1050,1,none⟩=some (.bool a0_1)) (ds:=[]) #[false,false,false,false,false] (by kernel_rfl) rfl rfl ⟨(blk_cell BK1064.out 0).trans rfl,(blk_cell BK1064.out 1).trans rfl,(blk_cell BK1050.out 0).trans rfl,(blk_cell BK1050.out 1).trans rfl⟩ (fun hHeld=>?_)
      generalize wc.drew=w39 at HO_6 HO_9 HO_1065000 BK1050 BK1064 HB hHeld ⊢
      refine take_ (i:=0) (N:=some 45) (v:=?_) (a':=?_) #[true,false,false,false,false] rfl rfl (by kernel_rfl) (fun _ _ _ h=>h) (Or.inl ⟨by rfl,?_⟩) hHeld ?_ ?_
      rotate_left
      ·rintro w' ⟨s0,s1,s2,s3⟩
       go_simp
       with_reducible rfl
      rotate_left
      ·simp only [Act.put,List.setIfInBounds_toArray,List.set_cons_zero,List.set_cons_succ,i64_w,i32_w]
       rfl
      refine take_ (i:=1) (N:=some 46) (v:=?_) (a':=?_) #[true,true,false,false,false] rfl rfl (by kernel_rfl) (fun _ _ _ h=>h) (Or.inl ⟨by rfl,?_⟩) hHeld ?_ ?_
      rotate_left
      ·rintro w' ⟨s0,s1,s2,s3⟩
       go_simp
       with_reducible rfl
      rotate_left
      ·simp only [Act.put,List.setIfInBounds_toArray,List.set_cons_zero,List.set_cons_succ,i64_w,i32_w]
       rfl
      refine one_ (i:=2) (N:=some 47) #[true,true,true,false,false] rfl rfl (by kernel_rfl) (by decide) (fun K hK=>?_)
      refine goes_ Try.func17 (by kernel_rfl) rfl #[.agg #[.slice A0_0 l0_0.length c0_0,.bool a0_1]] (by rfl) rfl rfl (by (try simp only [List.map_toArray,List.map_cons,List.map_nil]);first|done|rfl|(simp only [List.length_drop,List.length_take];rfl)) ?_
      with_reducible refine (laws_toGraph.calls kj11 _ _ l0_0 a0_1 t1070 t1073 _ ?side1 ?side2 A34.out).mono ?_
      (case side1=>repeat (first|exact (Kd.C_below HR0_0.out HB.out)|(with_reducible refine Kd.C_alloc ?_ _)|(with_reducible refine Kd.C_drewN ?_ _)|(with_reducible refine Kd.C_drew ?_)))
      (case side2=>exact HC0_0.out)
      rintro e w40 ⟨v1071,rfl,ho0,hb⟩
      refine ⟨_,rfl,?_⟩
      have n0_:=Aside0.mk (Kd.R_elder' (by (with_reducible repeat (first|apply Kd.R_alloc|apply Kd.R_drewN|apply Kd.R_drew));exact HO_6.out) (Kd.R_base ho0) hb)
      have n1_:=Aside0.mk (Kd.R_elder' (by (with_reducible repeat (first|apply Kd.R_alloc|apply Kd.R_drewN|apply Kd.R_drew));exact HO_9.out) (Kd.R_base ho0) hb)
      have n2_:=Aside0.mk (Kd.R_elder' (by (with_reducible repeat (first|apply Kd.R_alloc|apply Kd.R_drewN|apply Kd.R_drew));exact HO_1065000.out) (Kd.R_base ho0) hb)
      have n3_:=Aside0.mk (Kd.R_lower (Kd.R_new' (Kd.R_new' (Kd.R_new' ho0 (Kd.R_lt (by (with_reducible repeat (first|apply Kd.R_alloc|apply Kd.R_drewN|apply Kd.R_drew));exact HO_6.out))) (Kd.R_lt (by (with_reducible repeat (first|apply Kd.R_alloc|apply Kd.R_drewN|apply Kd.R_drew));exact HO_9.out))) (Kd.R_lt (by (with_reducible repeat (first|apply Kd.R_alloc|apply Kd.R_drewN|apply Kd.R_drew));exact HO_1065000.out))) (below_size (by repeat (first|(with_reducible first|exact HB.out|apply below_alloc|apply pw_below_drewN|apply below_drew1|refine below_set ?_ GE1050.out|refine below_set ?_ GE1064.out)|exact HB.out))))
      have n4_:=Aside0.mk (blk_below (g:=gb1050) (o:=.cells #[.slice A0_0 l0_0.length c0_0,.bool a0_1] 24 (0,0)) (by (with_reducible repeat (first|refine blk_drewN ?_ _|refine blk_drew ?_|refine blk_alloc ?_ _));exact BK1050.out) hb)
      have n5_:=Aside0.mk (blk_below (g:=gb1064) (o:=.cells #[.slice Ao23 t1060.length co23,.bool t1063] 28 (0,0)) (by (with_reducible repeat (first|refine blk_drewN ?_ _|refine blk_drew ?_|refine blk_alloc ?_ _));exact BK1064.out) hb)
      have n6_:=Aside0.mk (below_step (by repeat (first|(with_reducible first|exact HB.out|apply below_alloc|apply pw_below_drewN|apply below_drew1|refine below_set ?_ GE1050.out|refine below_set ?_ GE1064.out)|exact HB.out)) hb)
      clear HO_6;clear HO_9;clear HO_1065000;clear BK1050;clear BK1064;clear HB
      have HO_6:=n0_
      have HO_9:=n1_
      have HO_1065000:=n2_
      have HO1072:=n3_
      have BK1050:=n4_
      have BK1064:=n5_
      have HB:=n6_
      clear n0_ n1_ n2_ n3_ n4_ n5_ n6_;(try clear hb);(try clear hb2);(try clear hk);(try clear hi);(try clear ho0)
      obtain ⟨Ao41,co41,eo41⟩:=Kd.R_slice HO1072.out
      (first|subst eo41|(injection eo41 with f1_ f2_ f3_;have f4_:=f1_.symm;have f5_:=f3_.symm;clear f1_ f2_ f3_;subst f4_;subst f5_))
      refine hK.out _ _ ⟨(blk_cell BK1064.out 0).trans rfl,(blk_cell BK1064.out 1).trans rfl,(blk_cell BK1050.out 0).trans rfl,(blk_cell BK1050.out 1).trans rfl⟩ (fun hHeld=>?_)
      clear hK K
      refine norm_ (a':=?_) ?_ ?_
      rotate_left
      ·show Act.put _ (some 47) _=_
       simp only [Act.put,List.setIfInBounds_toArray,List.set_cons_zero,List.set_cons_succ,i64_w,i32_w]
       rfl
      refine one_ (i:=3) (N:=some 48) #[true,true,true,true,false] rfl rfl (by kernel_rfl) (by decide) (fun K hK=>?_)
      refine goes_ Try.func20 (by kernel_rfl) rfl #[.agg #[.slice Ao23 t1060.length co23,.bool t1063],.agg #[.slice Ao41 t1070.length co41,.bool t1073]] (by rfl) rfl rfl (by (try simp only [List.map_toArray,List.map_cons,List.map_nil]);first|done|rfl|(simp only [List.length_drop,List.length_take];rfl)) ?_
      with_reducible refine (laws_eqGraph.calls kj11 _ _ t1060 t1063 _ _ t1070 t1073 true _ ?side1 ?side2 ?side3 ?side4 A35.out).mono ?_
      (case side1=>repeat (first|exact (Kd.R_reads' HO_1065000.out).2.2|(with_reducible refine Kd.C_alloc ?_ _)|(with_reducible refine Kd.C_drewN ?_ _)|(with_reducible refine Kd.C_drew ?_)))
      (case side2=>exact (Kd.R_reads' HO_1065000.out).2.1)
      (case side3=>repeat (first|exact (Kd.R_reads' HO1072.out).2.2|(with_reducible refine Kd.C_alloc ?_ _)|(with_reducible refine Kd.C_drewN ?_ _)|(with_reducible refine Kd.C_drew ?_)))
      (case side4=>exact (Kd.R_reads' HO1072.out).2.1)
      rintro e w42 ⟨rfl,hb⟩
      refine ⟨_,rfl,?_⟩
      have n0_:=Aside0.mk (Kd.R_below (by (with_reducible repeat (first|apply Kd.R_alloc|apply Kd.R_drewN|apply Kd.R_drew));exact HO_6.out) hb)
      have n1_:=Aside0.mk (Kd.R_below (by (with_reducible repeat (first|apply Kd.R_alloc|apply Kd.R_drewN|apply Kd.R_drew));exact HO_9.out) hb)
      have n2_:=Aside0.mk (Kd.R_below (by (with_reducible repeat (first|apply Kd.R_alloc|apply Kd.R_drewN|apply Kd.R_drew));exact HO_1065000.out) hb)
      have n3_:=Aside0.mk (Kd.R_below (by (with_reducible repeat (first|apply Kd.R_alloc|apply Kd.R_drewN|apply Kd.R_drew));exact HO1072.out) hb)
      have n4_:=Aside0.mk (blk_below (g:=gb1050) (o:=.cells #[.slice A0_0 l0_0.length c0_0,.bool a0_1] 24 (0,0)) (by (with_reducible repeat (first|refine blk_drewN ?_ _|refine blk_drew ?_|refine blk_alloc ?_ _));exact BK1050.out) hb)
      have n5_:=Aside0.mk (blk_below (g:=gb1064) (o:=.cells #[.slice Ao23 t1060.length co23,.bool t1063] 28 (0,0)) (by (with_reducible repeat (first|refine blk_drewN ?_ _|refine blk_drew ?_|refine blk_alloc ?_ _));exact BK1064.out) hb)
      have n6_:=Aside0.mk (below_step (by repeat (first|(with_reducible first|exact HB.out|apply below_alloc|apply pw_below_drewN|apply below_drew1|refine below_set ?_ GE1050.out|refine below_set ?_ GE1064.out)|exact HB.out)) hb)
      clear HO_6;clear HO_9;clear HO_1065000;clear HO1072;clear BK1050;clear BK1064;clear HB
      have HO_6:=n0_
      have HO_9:=n1_
      have HO_1065000:=n2_
      have HO1072:=n3_
      have BK1050:=n4_
      have BK1064:=n5_
      have HB:=n6_
      clear n0_ n1_ n2_ n3_ n4_ n5_ n6_;(try clear hb);(try clear hb2);(try clear hk);(try clear hi)
      refine hK.out _ _ ⟨(blk_cell BK1064.out 0).trans rfl,(blk_cell BK1064.out 1).trans rfl,(blk_cell BK1050.out 0).trans rfl,(blk_cell BK1050.out 1).trans rfl⟩ (fun hHeld=>?_)
      clear hK K
      refine norm_ (a':=?_) ?_ ?_
      rotate_left
      ·show Act.put _ (some 48) _=_
       simp only [Act.put,List.setIfInBounds_toArray,List.set_cons_zero,List.set_cons_succ,i64_w,i32_w]
       rfl
      refine pure_ (i:=4) (N:=some 49) (v:=?_) (a':=?_) #[true,true,true,true,true] rfl rfl (by kernel_rfl) (fun _ _ _ h=>h) (Or.inl ⟨by rfl,?_⟩) ?_ ?_
      rotate_left
      ·intro w'
       go_simp
       with_reducible rfl
      rotate_left
      ·simp only [Act.put,List.setIfInBounds_toArray,List.set_cons_zero,List.set_cons_succ,i64_w,i32_w]
       rfl
      refine done_ (by kernel_rfl) ?_
      have hnb43:=NB1064_1050.out
      have hnc43:=NB1050_1064.out
      have hcz44_0:w42.cell? ⟨gb1064,0,none⟩=some (.slice Ao23 t1060.length co23):=(blk_cell BK1064.out 0).trans rfl
      have hcz44_1:w42.cell? ⟨gb1064,1,none⟩=some (.bool t1063):=(blk_cell BK1064.out 1).trans rfl
      have hfz44_0:=blk_frozen BK1064.out 0
      have hfz44_1:=blk_frozen BK1064.out 1
      go_upto_region 14 with (first|((with_reducible refine gate_callee (f:=24) rfl ?_);refine goesL_ (some 52) rfl rfl Try.func24 (by kernel_rfl) rfl #[.agg #[.slice Ao23 t1060.length co23,.bool t1063],.int .i64 1] rfl (by (try simp only [List.map_toArray,List.map_cons,List.map_nil]);first|done|rfl|(simp only [List.length_drop,List.length_take];rfl)) ?_;(with_reducible refine (laws_markGraph.calls kj11 (fun k_=>some k_=(.slice Ao23 t1060.length co23:Value).ownBlock) (.slice Ao23 t1060.length co23) t1060 t1063 1 t1075 t1076 w _ ?side1 ?side2 A37.out).mono ?_);(case side1=>repeat (first|(with_reducible first|exact HB.out|apply below_alloc|apply pw_below_drewN|apply below_drew1|refine below_set ?_ GE1050.out|refine below_set ?_ GE1064.out)|exact HB.out));(case side2=>exact Kd.R_tight rfl HO_1065000.out);rintro e w45 ⟨rfl,hy0,hb,hkp⟩;refine ⟨_,rfl,?_⟩;have n0_:=Aside0.mk (Kd.R_mono (ok':=fun k_=>some k_≠(v1066:Value).ownBlock∧some k_≠(.slice Ao23 t1060.length co23:Value).ownBlock∧some k_≠(.slice Ao41 t1070.length co41:Value).ownBlock) (Kd.R_keptB (HO_6.out) hkp (fun k_ hk_ hs_=>(hk_.1.2) hs_)) (fun k_ hk_=>⟨hk_.1.1.1,hk_.1.1.2,hk_.1.2⟩));have n1_:=Aside0.mk (Kd.R_mono (ok':=fun k_=>some k_≠(v1057:Value).ownBlock∧some k_≠(.slice Ao23 t1060.length co23:Value).ownBlock∧some k_≠(.slice Ao41 t1070.length co41:Value).ownBlock) (Kd.R_keptB (HO_9.out) hkp (fun k_ hk_ hs_=>(hk_.1.2) hs_)) (fun k_ hk_=>⟨hk_.1.1.1,hk_.1.1.2,hk_.1.2⟩));have n2_:=Aside0.mk (Kd.R_reok rfl hy0 (fun k_ e_=>HO_1065000.out.1 k_ e_));have n3_:=Aside0.mk (blk_kept (by (with_reducible repeat (first|refine blk_drewN ?_ _|refine blk_drew ?_|refine blk_alloc ?_ _));exact BK1050.out) hkp (fun hs_=>(fun e_=>(Kd.R_ne HO_1065000.out BK1050.out (by decide)) e_) hs_));have n4_:=Aside0.mk (blk_kept (by (with_reducible repeat (first|refine blk_drewN ?_ _|refine blk_drew ?_|refine blk_alloc ?_ _));exact BK1064.out) hkp (fun hs_=>(fun e_=>(Kd.R_ne HO_1065000.out BK1064.out (by decide)) e_) hs_));have n5_:=Aside0.mk (Kd.R_mono (ok':=fun k_=>some k_≠(v1057:Value).ownBlock∧some k_≠(v1066:Value).ownBlock∧some k_≠(.slice Ao23 t1060.length co23:Value).ownBlock) (Kd.R_keptB (HO1072.out) hkp (fun k_ hk_ hs_=>(hk_.2) hs_)) (fun k_ hk_=>⟨hk_.1.1.1.2,hk_.1.1.2,hk_.1.2⟩));have n6_:=Aside0.mk (hb);clear HO_6;clear HO_9;clear HO_1065000;clear BK1050;clear BK1064;clear HO1072;clear HB;have HO_6:=n0_;have HO_9:=n1_;have HO_1065000:=n2_;have BK1050:=n3_;have BK1064:=n4_;have HO1072:=n5_;have HB:=n6_;clear n0_ n1_ n2_ n3_ n4_ n5_ n6_;(try clear hb);(try clear hkp);(try clear hy0)))
      (try simp only [Act.put,List.setIfInBounds_toArray,List.set_cons_zero,List.set_cons_succ])
      go_cut [65] (fun v65 wc=>∃ (kq:Nat) (x65_37:Bool),v65=.bool x65_37∧Aside0 (laws_FnExactAllAtOnce.j1 kq a1 t1056 t1059 t1065 x65_37 l0_0 a0_1=some r)∧Aside0 (kq≤kj11)∧Aside0 (Kd.R (Kd.int .i64) 3 wc w.heap.size (fun k_=>some k_≠(v1066:Value).ownBlock∧some k_≠((.slice Ao23 t1060.length co23):Value).ownBlock) v1057 t1056)∧Aside0 (Kd.R (Kd.int .i64) 3 wc w.heap.size (fun k_=>some k_≠(v1057:Value).ownBlock∧some k_≠((.slice Ao23 t1060.length co23):Value).ownBlock) v1066 t1065)∧Aside0 (Kd.R (Kd.int .i64) 3 wc w.heap.size (fun k_=>some k_≠(v1057:Value).ownBlock∧some k_≠(v1066:Value).ownBlock) (.slice Ao23 t1060.length co23) t1076)∧Aside0 (wc.heap[gb1050]?=some (.cells #[(.slice A0_0 l0_0.length c0_0),.bool a0_1] 24 (0,0)))∧Aside0 (wc.heap[gb1064]?=some (.cells #[(.slice Ao23 t1060.length co23),.bool t1063] 28 (0,0)))∧Aside0 (Below w.heap.size w wc))
      case first=>
       have H:=HC38.out
       clear HC38
       by_cases c46:t1075< 0
       ·rw [if_pos c46] at H
        have c46b0:decide (t1075< 0)=true:=decide_eq_true c46
        clear c46
        (first|rw [c46b0]|(simp only [i64_w,i32_w];rw [c46b0])|skip)
        have H':=Aside0.mk H
        clear H
        go_wp2
        go_meet
        case rel=>exact ⟨_,(true),(by first|rfl|(simp;done)|(simp [*];done)),H',⟨by have:=HJ11.out;first|omega|exact Nat.le_refl _⟩,⟨by (with_reducible repeat (first|apply Kd.R_alloc|apply Kd.R_drewN|apply Kd.R_drew));exact Kd.R_mono HO_6.out (fun _ hk=>⟨hk.1,hk.2.1⟩)⟩,⟨by (with_reducible repeat (first|apply Kd.R_alloc|apply Kd.R_drewN|apply Kd.R_drew));exact Kd.R_mono HO_9.out (fun _ hk=>⟨hk.1,hk.2.1⟩)⟩,⟨by (with_reducible repeat (first|apply Kd.R_alloc|apply Kd.R_drewN|apply Kd.R_drew));exact Kd.R_mono HO_1065000.out (fun _ hk=>⟨hk.1.1,hk.1.2⟩)⟩,⟨by (with_reducible repeat (first|refine blk_drewN ?_ _|refine blk_drew ?_|refine blk_alloc ?_ _));exact BK1050.out⟩,⟨by (with_reducible repeat (first|refine blk_drewN ?_ _|refine blk_drew ?_|refine blk_alloc ?_ _));exact BK1064.out⟩,⟨by repeat (first|(with_reducible first|exact HB.out|apply below_alloc|apply pw_below_drewN|apply below_drew1|refine below_set ?_ GE1050.out|refine below_set ?_ GE1064.out)|exact HB.out)⟩⟩
       ·rw [if_neg c46] at H
        have c46b0:decide (t1075< 0)=false:=decide_eq_false c46
        clear c46
        (first|rw [c46b0]|(simp only [i64_w,i32_w];rw [c46b0])|skip)
        replace H:=Option.bind_eq_some_iff.mp H
        obtain ⟨t1077,A470,H⟩:=H
        replace H:(if t1077=true then (laws_FnExactAllAtOnce.j1 kj11 a1 t1056 t1059 t1065 (t1068 !=t1059) l0_0 a0_1) else (laws_FnExactAllAtOnce.j1 kj11 a1 t1056 t1059 t1065 true l0_0 a0_1))=some r:=H
        have A47:=Aside0.mk A470
        clear A470
        by_cases c48:t1077=true
        ·subst c48
         have H1:(laws_FnExactAllAtOnce.j1 kj11 a1 t1056 t1059 t1065 (t1068 !=t1059) l0_0 a0_1)=some r:=by rw [if_pos rfl] at H;exact H
         clear H
         have H:=H1
         clear H1
         have H':=Aside0.mk H
         clear H
         obtain ⟨Ao49,co49,eo49⟩:=Kd.R_slice HO_9.out
         subst eo49
         obtain ⟨Ao50,co50,eo50⟩:=Kd.R_slice HO_6.out
         subst eo50
         go_wp2_with (first|(go_at_call 21;(with_reducible refine (laws_eqIntS.calls kj11 _ _ t1065 _ _ t1056 true _ ?side1 ?side2 ?side3 ?side4 A47.out).mono ?_);(case side1=>repeat (first|exact (Kd.R_reads' HO_9.out).2.2|(with_reducible refine Kd.C_alloc ?_ _)|(with_reducible refine Kd.C_drewN ?_ _)|(with_reducible refine Kd.C_drew ?_)));(case side2=>exact (Kd.R_reads' HO_9.out).2.1);(case side3=>repeat (first|exact (Kd.R_reads' HO_6.out).2.2|(with_reducible refine Kd.C_alloc ?_ _)|(with_reducible refine Kd.C_drewN ?_ _)|(with_reducible refine Kd.C_drew ?_)));(case side4=>exact (Kd.R_reads' HO_6.out).2.1);rintro e w' ⟨rfl,⟨nd,rfl⟩⟩))
         go_meet
         case rel=>exact ⟨_,((t1068 !=t1059)),(by first|rfl|(simp;done)|(simp [*];done)),H',⟨by have:=HJ11.out;first|omega|exact Nat.le_refl _⟩,⟨by (with_reducible repeat (first|apply Kd.R_alloc|apply Kd.R_drewN|apply Kd.R_drew));exact Kd.R_mono HO_6.out (fun _ hk=>⟨hk.1,hk.2.1⟩)⟩,⟨by (with_reducible repeat (first|apply Kd.R_alloc|apply Kd.R_drewN|apply Kd.R_drew));exact Kd.R_mono HO_9.out (fun _ hk=>⟨hk.1,hk.2.1⟩)⟩,⟨by (with_reducible repeat (first|apply Kd.R_alloc|apply Kd.R_drewN|apply Kd.R_drew));exact Kd.R_mono HO_1065000.out (fun _ hk=>⟨hk.1.1,hk.1.2⟩)⟩,⟨by (with_reducible repeat (first|refine blk_drewN ?_ _|refine blk_drew ?_|refine blk_alloc ?_ _));exact BK1050.out⟩,⟨by (with_reducible repeat (first|refine blk_drewN ?_ _|refine blk_drew ?_|refine blk_alloc ?_ _));exact BK1064.out⟩,⟨by repeat (first|(with_reducible first|exact HB.out|apply below_alloc|apply pw_below_drewN|apply below_drew1|refine below_set ?_ GE1050.out|refine below_set ?_ GE1064.out)|exact HB.out)⟩⟩
        ·replace c48:=Bool.eq_false_iff.mpr c48
         subst c48
         have H1:(laws_FnExactAllAtOnce.j1 kj11 a1 t1056 t1059 t1065 true l0_0 a0_1)=some r:=by rw [if_neg (show ¬ (false=true) by decide)] at H;exact H
         clear H
         have H:=H1
         clear H1
         have H':=Aside0.mk H
         clear H
         obtain ⟨Ao51,co51,eo51⟩:=Kd.R_slice HO_9.out
         subst eo51
         obtain ⟨Ao52,co52,eo52⟩:=Kd.R_slice HO_6.out
         subst eo52
         go_wp2_with (first|(go_at_call 21;(with_reducible refine (laws_eqIntS.calls kj11 _ _ t1065 _ _ t1056 false _ ?side1 ?side2 ?side3 ?side4 A47.out).mono ?_);(case side1=>repeat (first|exact (Kd.R_reads' HO_9.out).2.2|(with_reducible refine Kd.C_alloc ?_ _)|(with_reducible refine Kd.C_drewN ?_ _)|(with_reducible refine Kd.C_drew ?_)));(case side2=>exact (Kd.R_reads' HO_9.out).2.1);(case side3=>repeat (first|exact (Kd.R_reads' HO_6.out).2.2|(with_reducible refine Kd.C_alloc ?_ _)|(with_reducible refine Kd.C_drewN ?_ _)|(with_reducible refine Kd.C_drew ?_)));(case side4=>exact (Kd.R_reads' HO_6.out).2.1);rintro e w' ⟨rfl,⟨nd,rfl⟩⟩))
         go_meet
         case rel=>exact ⟨_,(true),(by first|rfl|(simp;done)|(simp [*];done)),H',⟨by have:=HJ11.out;first|omega|exact Nat.le_refl _⟩,⟨by (with_reducible repeat (first|apply Kd.R_alloc|apply Kd.R_drewN|apply Kd.R_drew));exact Kd.R_mono HO_6.out (fun _ hk=>⟨hk.1,hk.2.1⟩)⟩,⟨by (with_reducible repeat (first|apply Kd.R_alloc|apply Kd.R_drewN|apply Kd.R_drew));exact Kd.R_mono HO_9.out (fun _ hk=>⟨hk.1,hk.2.1⟩)⟩,⟨by (with_reducible repeat (first|apply Kd.R_alloc|apply Kd.R_drewN|apply Kd.R_drew));exact Kd.R_mono HO_1065000.out (fun _ hk=>⟨hk.1.1,hk.1.2⟩)⟩,⟨by (with_reducible repeat (first|refine blk_drewN ?_ _|refine blk_drew ?_|refine blk_alloc ?_ _));exact BK1050.out⟩,⟨by (with_reducible repeat (first|refine blk_drewN ?_ _|refine blk_drew ?_|refine blk_alloc ?_ _));exact BK1064.out⟩,⟨by repeat (first|(with_reducible first|exact HB.out|apply below_alloc|apply pw_below_drewN|apply below_drew1|refine below_set ?_ GE1050.out|refine below_set ?_ GE1064.out)|exact HB.out)⟩⟩
      case rest=>
       clear HC38;(try clear c1);(try clear c2);(try clear p2);(try clear c3);(try clear c4);(try clear c4b0);(try clear c14);(try clear c15);(try clear c17);(try clear c20);(try clear c21);(try clear c24);(try clear c28);(try clear c33);(try clear c36);(try clear c43);(try clear c46);(try clear c46b0);(try clear c48);(try clear c49);(try clear hcz14_0);(try clear hcz14_1);(try clear hcz16_0);(try clear hcz16_1);(try clear hcz20_0);(try clear hcz20_1);(try clear hcz25_0);(try clear hcz25_1);(try clear hcz44_0);(try clear hcz44_1);(try clear hcz6_0);(try clear hcz6_1);(try clear hfz14_0);(try clear hfz14_1);(try clear hfz16_0);(try clear hfz16_1);(try clear hfz20_0);(try clear hfz20_1);(try clear hfz25_0);(try clear hfz25_1);(try clear hfz44_0);(try clear hfz44_1);(try clear hfz6_0);(try clear hfz6_1);(try clear p2)
       obtain ⟨kq,x65_37,rfl,HA,HJ37,HO_6,HO_9,HO_1065000,BK1050,BK1064,HB⟩:=hcut
       have hl1065000_37:=(Kd.R_reads' HO_1065000.out).1
       rw [hl1065000_37] at HO_1065000
       (try simp only [hl1065000_37])
       (try simp only [hl1065000_37] at BK1050)
       (try simp only [hl1065000_37] at BK1064)
       (try simp only [hl1065000_37] at HO_6)
       (try simp only [hl1065000_37] at HO_9)
       cases kq with
       |zero=>exact absurd HA.out (by simp [laws_FnExactAllAtOnce.j1])
       |succ kj37=>
        have H:=HA.out
        clear HA
        simp only [laws_FnExactAllAtOnce.j1] at H
        by_cases c53:x65_37=true
        ·subst c53
         have H1:(some false)=some r:=by rw [if_pos rfl] at H;exact H
         clear H
         have H:=H1
         clear H1
         obtain rfl:=Option.some.inj H
         go_wp2
         go_ret
         exact ⟨by first|rfl|(simp [errW_none,errW_some]<;>rfl)|(simp [*,errW_none,errW_some]<;>rfl),by repeat (first|(with_reducible first|exact HB.out|apply below_alloc|apply pw_below_drewN|apply below_drew1|refine below_set ?_ GE1050.out|refine below_set ?_ GE1064.out)|exact HB.out)⟩
        ·replace c53:=Bool.eq_false_iff.mpr c53
         subst c53
         have H1:((laws_markIntS.f kj37 t1065 1).bind fun bt1078=>((laws_heldIntS.f kj37 bt1078.2 1).bind fun t1080=>(if t1080< 0 then (some false) else (if t1080=bt1078.1 then ((laws_toGraph.f kj37 l0_0 a0_1).bind fun bt1081=>((impl_AllAtOnce.f kj37 bt1081.1 bt1081.2 a1).bind fun bt1085=>((laws_eqIntS.f kj37 bt1085.1 t1056).bind fun t1089=>(if t1089=true then (laws_FnExactAllAtOnce.j2 kj37 bt1078.2 bt1078.1 (bt1085.2 !=t1059)) else (laws_FnExactAllAtOnce.j2 kj37 bt1078.2 bt1078.1 true))))) else (some false)))))=some r:=by rw [if_neg (show ¬ (false=true) by decide)] at H;exact H
         clear H
         have H:=H1
         clear H1
         replace H:=Option.bind_eq_some_iff.mp H
         obtain ⟨⟨t1078,t1079⟩,A540,H⟩:=H
         replace H:((laws_heldIntS.f kj37 t1079 1).bind fun t1080=>(if t1080< 0 then (some false) else (if t1080=t1078 then ((laws_toGraph.f kj37 l0_0 a0_1).bind fun bt1081=>((impl_AllAtOnce.f kj37 bt1081.1 bt1081.2 a1).bind fun bt1085=>((laws_eqIntS.f kj37 bt1085.1 t1056).bind fun t1089=>(if t1089=true then (laws_FnExactAllAtOnce.j2 kj37 t1079 t1078 (bt1085.2 !=t1059)) else (laws_FnExactAllAtOnce.j2 kj37 t1079 t1078 true))))) else (some false))))=some r:=H
         have A54:=Aside0.mk A540
         clear A540
         replace H:=Option.bind_eq_some_iff.mp H
         obtain ⟨t1080,A550,H⟩:=H
         replace H:(if t1080< 0 then (some false) else (if t1080=t1078 then ((laws_toGraph.f kj37 l0_0 a0_1).bind fun bt1081=>((impl_AllAtOnce.f kj37 bt1081.1 bt1081.2 a1).bind fun bt1085=>((laws_eqIntS.f kj37 bt1085.1 t1056).bind fun t1089=>(if t1089=true then (laws_FnExactAllAtOnce.j2 kj37 t1079 t1078 (bt1085.2 !=t1059)) else (laws_FnExactAllAtOnce.j2 kj37 t1079 t1078 true))))) else (some false)))=some r:=H
         have A55:=Aside0.mk A550
         clear A550
         by_cases c56:t1080< 0
         ·rw [if_pos c56] at H
          have c56b0:decide (t1080< 0)=true:=decide_eq_true c56
          clear c56
          obtain rfl:=Option.some.inj H
          obtain ⟨Ao57,co57,eo57⟩:=Kd.R_slice HO_9.out
          subst eo57
          go_wp2_with (first|((with_reducible refine gate_callee (f:=25) rfl ?_);refine goesL_ (some 68) rfl rfl Try.func25 (by kernel_rfl) rfl #[.slice Ao57 t1065.length co57,.int .i64 1] rfl (by (try simp only [List.map_toArray,List.map_cons,List.map_nil]);first|done|rfl|(simp only [List.length_drop,List.length_take];rfl)) ?_;(with_reducible refine (laws_markIntS.calls kj37 (fun k_=>some k_=(.slice Ao57 t1065.length co57:Value).ownBlock) (.slice Ao57 t1065.length co57) t1065 1 t1078 t1079 w _ ?side1 ?side2 A54.out).mono ?_);(case side1=>repeat (first|(with_reducible first|exact HB.out|apply below_alloc|apply pw_below_drewN|apply below_drew1|refine below_set ?_ GE1050.out|refine below_set ?_ GE1064.out)|exact HB.out));(case side2=>exact Kd.R_tight rfl HO_9.out);rintro e w58 ⟨rfl,hy0,hb,hkp⟩;refine ⟨_,rfl,?_⟩;have n0_:=Aside0.mk (Kd.R_mono (ok':=fun k_=>some k_≠(.slice Ao57 t1065.length co57:Value).ownBlock∧some k_≠(.slice Ao23 t1076.length co23:Value).ownBlock) (Kd.R_keptB (HO_6.out) hkp (fun k_ hk_ hs_=>(hk_.1) hs_)) (fun k_ hk_=>⟨hk_.1.1,hk_.1.2⟩));have n1_:=Aside0.mk (Kd.R_reok rfl hy0 (fun k_ e_=>HO_9.out.1 k_ e_));have n2_:=Aside0.mk (Kd.R_mono (ok':=fun k_=>some k_≠(v1057:Value).ownBlock∧some k_≠(.slice Ao57 t1065.length co57:Value).ownBlock) (Kd.R_keptB (HO_1065000.out) hkp (fun k_ hk_ hs_=>(hk_.2) hs_)) (fun k_ hk_=>⟨hk_.1.1,hk_.1.2⟩));have n3_:=Aside0.mk (blk_kept (by (with_reducible repeat (first|refine blk_drewN ?_ _|refine blk_drew ?_|refine blk_alloc ?_ _));exact BK1050.out) hkp (fun hs_=>(fun e_=>(Kd.R_ne HO_9.out BK1050.out (by decide)) e_) hs_));have n4_:=Aside0.mk (blk_kept (by (with_reducible repeat (first|refine blk_drewN ?_ _|refine blk_drew ?_|refine blk_alloc ?_ _));exact BK1064.out) hkp (fun hs_=>(fun e_=>(Kd.R_ne HO_9.out BK1064.out (by decide)) e_) hs_));have n5_:=Aside0.mk (hb);clear HO_6;clear HO_9;clear HO_1065000;clear BK1050;clear BK1064;clear HB;have HO_6:=n0_;have HO_9:=n1_;have HO_1065000:=n2_;have BK1050:=n3_;have BK1064:=n4_;have HB:=n5_;clear n0_ n1_ n2_ n3_ n4_ n5_;(try clear hb);(try clear hkp);(try clear hy0))|((with_reducible refine gate_callee (f:=26) rfl ?_);refine goesL_ (some 71) rfl rfl Try.func26 (by kernel_rfl) rfl #[.slice Ao57 t1079.length co57,.int .i64 1] rfl (by (try simp only [List.map_toArray,List.map_cons,List.map_nil]);first|done|(rw [show t1079.length=t1065.length from (Kd.R_reads' HO_9.out).1.symm]<;>rfl)|rfl|(simp only [List.length_drop,List.length_take];rfl)) ?_;(with_reducible refine (laws_heldIntS.calls kj37 _ _ t1079 1 t1080 _ ?side1 ?side2 A55.out).mono ?_);(case side1=>repeat (first|exact (Kd.R_reads' HO_9.out).2.2|(with_reducible refine Kd.C_alloc ?_ _)|(with_reducible refine Kd.C_drewN ?_ _)|(with_reducible refine Kd.C_drew ?_)));(case side2=>rw [show t1079.length=t1065.length from (Kd.R_reads' HO_9.out).1.symm];exact (Kd.R_reads' HO_9.out).2.1);rintro e w' ⟨rfl,⟨nd,rfl⟩⟩;refine ⟨_,rfl,?_⟩))
          go_ret
          exact ⟨by first|rfl|(simp [errW_none,errW_some]<;>rfl)|(simp [*,errW_none,errW_some]<;>rfl),by repeat (first|(with_reducible first|exact HB.out|apply below_alloc|apply pw_below_drewN|apply below_drew1|refine below_set ?_ GE1050.out|refine below_set ?_ GE1064.out)|exact HB.out)⟩
         ·rw [if_neg c56] at H
          have c56b0:decide (t1080< 0)=false:=decide_eq_false c56
          clear c56
          by_cases c59:t1080=t1078
          ·rw [if_pos c59] at H
           have c59b0:(t1080==t1078)=true:=beq_iff_eq.mpr c59
           have c59b1:(t1080 !=t1078)=false:=bne_eq_false_iff_eq.mpr c59
           clear c59
           replace H:=Option.bind_eq_some_iff.mp H
           obtain ⟨⟨t1081,t1084⟩,A600,H⟩:=H
           replace H:((impl_AllAtOnce.f kj37 t1081 t1084 a1).bind fun bt1085=>((laws_eqIntS.f kj37 bt1085.1 t1056).bind fun t1089=>(if t1089=true then (laws_FnExactAllAtOnce.j2 kj37 t1079 t1078 (bt1085.2 !=t1059)) else (laws_FnExactAllAtOnce.j2 kj37 t1079 t1078 true))))=some r:=H
           have A60:=Aside0.mk A600
           clear A600
           replace H:=Option.bind_eq_some_iff.mp H
           obtain ⟨⟨t1085,t1088⟩,A610,H⟩:=H
           replace H:((laws_eqIntS.f kj37 t1085 t1056).bind fun t1089=>(if t1089=true then (laws_FnExactAllAtOnce.j2 kj37 t1079 t1078 (t1088 !=t1059)) else (laws_FnExactAllAtOnce.j2 kj37 t1079 t1078 true)))=some r:=H
           have A61:=Aside0.mk A610
           clear A610
           have HC62:=Aside0.mk H
           clear H
           obtain ⟨Ao63,co63,eo63⟩:=Kd.R_slice HO_9.out
           subst eo63
           go_upto_region 25 with (first|((with_reducible refine gate_callee (f:=25) rfl ?_);refine goesL_ (some 68) rfl rfl Try.func25 (by kernel_rfl) rfl #[.slice Ao63 t1065.length co63,.int .i64 1] rfl (by (try simp only [List.map_toArray,List.map_cons,List.map_nil]);first|done|rfl|(simp only [List.length_drop,List.length_take];rfl)) ?_;(with_reducible refine (laws_markIntS.calls kj37 (fun k_=>some k_=(.slice Ao63 t1065.length co63:Value).ownBlock) (.slice Ao63 t1065.length co63) t1065 1 t1078 t1079 w _ ?side1 ?side2 A54.out).mono ?_);(case side1=>repeat (first|(with_reducible first|exact HB.out|apply below_alloc|apply pw_below_drewN|apply below_drew1|refine below_set ?_ GE1050.out|refine below_set ?_ GE1064.out)|exact HB.out));(case side2=>exact Kd.R_tight rfl HO_9.out);rintro e w64 ⟨rfl,hy0,hb,hkp⟩;refine ⟨_,rfl,?_⟩;have n0_:=Aside0.mk (Kd.R_mono (ok':=fun k_=>some k_≠(.slice Ao63 t1065.length co63:Value).ownBlock∧some k_≠(.slice Ao23 t1076.length co23:Value).ownBlock) (Kd.R_keptB (HO_6.out) hkp (fun k_ hk_ hs_=>(hk_.1) hs_)) (fun k_ hk_=>⟨hk_.1.1,hk_.1.2⟩));have n1_:=Aside0.mk (Kd.R_reok rfl hy0 (fun k_ e_=>HO_9.out.1 k_ e_));have n2_:=Aside0.mk (Kd.R_mono (ok':=fun k_=>some k_≠(v1057:Value).ownBlock∧some k_≠(.slice Ao63 t1065.length co63:Value).ownBlock) (Kd.R_keptB (HO_1065000.out) hkp (fun k_ hk_ hs_=>(hk_.2) hs_)) (fun k_ hk_=>⟨hk_.1.1,hk_.1.2⟩));have n3_:=Aside0.mk (blk_kept (by (with_reducible repeat (first|refine blk_drewN ?_ _|refine blk_drew ?_|refine blk_alloc ?_ _));exact BK1050.out) hkp (fun hs_=>(fun e_=>(Kd.R_ne HO_9.out BK1050.out (by decide)) e_) hs_));have n4_:=Aside0.mk (blk_kept (by (with_reducible repeat (first|refine blk_drewN ?_ _|refine blk_drew ?_|refine blk_alloc ?_ _));exact BK1064.out) hkp (fun hs_=>(fun e_=>(Kd.R_ne HO_9.out BK1064.out (by decide)) e_) hs_));have n5_:=Aside0.mk (hb);clear HO_6;clear HO_9;clear HO_1065000;clear BK1050;clear BK1064;clear HB;have HO_6:=n0_;have HO_9:=n1_;have HO_1065000:=n2_;have BK1050:=n3_;have BK1064:=n4_;have HB:=n5_;clear n0_ n1_ n2_ n3_ n4_ n5_;(try clear hb);(try clear hkp);(try clear hy0))|((with_reducible refine gate_callee (f:=26) rfl ?_);refine goesL_ (some 71) rfl rfl Try.func26 (by kernel_rfl) rfl #[.slice Ao63 t1079.length co63,.int .i64 1] rfl (by (try simp only [List.map_toArray,List.map_cons,List.map_nil]);first|done|(rw [show t1079.length=t1065.length from (Kd.R_reads' HO_9.out).1.symm]<;>rfl)|rfl|(simp only [List.length_drop,List.length_take];rfl)) ?_;(with_reducible refine (laws_heldIntS.calls kj37 _ _ t1079 1 t1080 _ ?side1 ?side2 A55.out).mono ?_);(case side1=>repeat (first|exact (Kd.R_reads' HO_9.out).2.2|(with_reducible refine Kd.C_alloc ?_ _)|(with_reducible refine Kd.C_drewN ?_ _)|(with_reducible refine Kd.C_drew ?_)));(case side2=>rw [show t1079.length=t1065.length from (Kd.R_reads' HO_9.out).1.symm];exact (Kd.R_reads' HO_9.out).2.1);rintro e w' ⟨rfl,⟨nd,rfl⟩⟩;refine ⟨_,rfl,?_⟩;have hnb65:=NB1050_1064.out;have hnc65:=NB1064_1050.out;have hcz66_0:w64.cell? ⟨gb1050,0,none⟩=some (.slice A0_0 l0_0.length c0_0):=(blk_cell BK1050.out 0).trans rfl;have hcz66_1:w64.cell? ⟨gb1050,1,none⟩=some (.bool a0_1):=(blk_cell BK1050.out 1).trans rfl;have hfz66_0:=blk_frozen BK1050.out 0;have hfz66_1:=blk_frozen BK1050.out 1)|((with_reducible refine gate_callee (f:=17) rfl ?_);refine goesL_ (some 79) rfl rfl Try.func17 (by kernel_rfl) rfl #[.agg #[.slice A0_0 l0_0.length c0_0,.bool a0_1]] rfl (by (try simp only [List.map_toArray,List.map_cons,List.map_nil]);first|done|rfl|(simp only [List.length_drop,List.length_take];rfl)) ?_;(with_reducible refine (laws_toGraph.calls kj37 _ _ l0_0 a0_1 t1081 t1084 _ ?side1 ?side2 A60.out).mono ?_);(case side1=>repeat (first|exact (Kd.C_below HR0_0.out (by repeat (first|(with_reducible first|exact HB.out|apply below_alloc|apply pw_below_drewN|apply below_drew1|refine below_set ?_ GE1050.out|refine below_set ?_ GE1064.out)|exact HB.out)))|(with_reducible refine Kd.C_alloc ?_ _)|(with_reducible refine Kd.C_drewN ?_ _)|(with_reducible refine Kd.C_drew ?_)));(case side2=>exact HC0_0.out);rintro e w67 ⟨v1082,rfl,ho0,hb⟩;refine ⟨_,rfl,?_⟩;have n0_:=Aside0.mk (Kd.R_elder' (by (with_reducible repeat (first|apply Kd.R_alloc|apply Kd.R_drewN|apply Kd.R_drew));exact HO_6.out) (Kd.R_base ho0) hb);have n1_:=Aside0.mk (Kd.R_elder' (by (with_reducible repeat (first|apply Kd.R_alloc|apply Kd.R_drewN|apply Kd.R_drew));exact HO_9.out) (Kd.R_base ho0) hb);have n2_:=Aside0.mk (Kd.R_elder' (by (with_reducible repeat (first|apply Kd.R_alloc|apply Kd.R_drewN|apply Kd.R_drew));exact HO_1065000.out) (Kd.R_base ho0) hb);have n3_:=Aside0.mk (Kd.R_lower (Kd.R_new' (Kd.R_new' (Kd.R_new' ho0 (Kd.R_lt (by (with_reducible repeat (first|apply Kd.R_alloc|apply Kd.R_drewN|apply Kd.R_drew));exact HO_6.out))) (Kd.R_lt (by (with_reducible repeat (first|apply Kd.R_alloc|apply Kd.R_drewN|apply Kd.R_drew));exact HO_9.out))) (Kd.R_lt (by (with_reducible repeat (first|apply Kd.R_alloc|apply Kd.R_drewN|apply Kd.R_drew));exact HO_1065000.out))) (below_size (by repeat (first|(with_reducible first|exact HB.out|apply below_alloc|apply pw_below_drewN|apply below_drew1|refine below_set ?_ GE1050.out|refine below_set ?_ GE1064.out)|exact HB.out))));have n4_:=Aside0.mk (blk_below (g:=gb1050) (o:=.cells #[.slice A0_0 l0_0.length c0_0,.bool a0_1] 24 (0,0)) (by (with_reducible repeat (first|refine blk_drewN ?_ _|refine blk_drew ?_|refine blk_alloc ?_ _));exact BK1050.out) hb);have n5_:=Aside0.mk (blk_below (g:=gb1064) (o:=.cells #[.slice Ao23 t1076.length co23,.bool t1063] 28 (0,0)) (by (with_reducible repeat (first|refine blk_drewN ?_ _|refine blk_drew ?_|refine blk_alloc ?_ _));exact BK1064.out) hb);have n6_:=Aside0.mk (below_step (by repeat (first|(with_reducible first|exact HB.out|apply below_alloc|apply pw_below_drewN|apply below_drew1|refine below_set ?_ GE1050.out|refine below_set ?_ GE1064.out)|exact HB.out)) hb);clear HO_6;clear HO_9;clear HO_1065000;clear BK1050;clear BK1064;clear HB;have HO_6:=n0_;have HO_9:=n1_;have HO_1065000:=n2_;have HO1083:=n3_;have BK1050:=n4_;have BK1064:=n5_;have HB:=n6_;clear n0_ n1_ n2_ n3_ n4_ n5_ n6_;(try clear hb);(try clear hb2);(try clear hk);(try clear hi);(try clear ho0);obtain ⟨Ao68,co68,eo68⟩:=Kd.R_slice HO1083.out;subst eo68)|((with_reducible refine gate_callee (f:=49) rfl ?_);refine goesL_ (some 81) rfl rfl Try.func49 (by kernel_rfl) rfl #[.agg #[.slice Ao68 t1081.length co68,.bool t1084],.int .i64 a1] rfl (by (try simp only [List.map_toArray,List.map_cons,List.map_nil]);first|done|rfl|(simp only [List.length_drop,List.length_take];rfl)) ?_;(with_reducible refine (impl_AllAtOnce.calls kj37 _ _ t1081 t1084 a1 t1085 t1088 _ ?side1 ?side2 A61.out).mono ?_);(case side1=>repeat (first|exact (Kd.R_reads' HO1083.out).2.2|(with_reducible refine Kd.C_alloc ?_ _)|(with_reducible refine Kd.C_drewN ?_ _)|(with_reducible refine Kd.C_drew ?_)));(case side2=>exact (Kd.R_reads' HO1083.out).2.1);rintro e w69 ⟨v1086,rfl,ho0,hb⟩;refine ⟨_,rfl,?_⟩;have n0_:=Aside0.mk (Kd.R_elder' (by (with_reducible repeat (first|apply Kd.R_alloc|apply Kd.R_drewN|apply Kd.R_drew));exact HO_6.out) (Kd.R_base ho0) hb);have n1_:=Aside0.mk (Kd.R_elder' (by (with_reducible repeat (first|apply Kd.R_alloc|apply Kd.R_drewN|apply Kd.R_drew));exact HO_9.out) (Kd.R_base ho0) hb);have n2_:=Aside0.mk (Kd.R_elder' (by (with_reducible repeat (first|apply Kd.R_alloc|apply Kd.R_drewN|apply Kd.R_drew));exact HO_1065000.out) (Kd.R_base ho0) hb);have n3_:=Aside0.mk (Kd.R_elder' (by (with_reducible repeat (first|apply Kd.R_alloc|apply Kd.R_drewN|apply Kd.R_drew));exact HO1083.out) (Kd.R_base ho0) hb);have n4_:=Aside0.mk (Kd.R_lower (Kd.R_new' (Kd.R_new' (Kd.R_new' (Kd.R_new' ho0 (Kd.R_lt (by (with_reducible repeat (first|apply Kd.R_alloc|apply Kd.R_drewN|apply Kd.R_drew));exact HO_6.out))) (Kd.R_lt (by (with_reducible repeat (first|apply Kd.R_alloc|apply Kd.R_drewN|apply Kd.R_drew));exact HO_9.out))) (Kd.R_lt (by (with_reducible repeat (first|apply Kd.R_alloc|apply Kd.R_drewN|apply Kd.R_drew));exact HO_1065000.out))) (Kd.R_lt (by (with_reducible repeat (first|apply Kd.R_alloc|apply Kd.R_drewN|apply Kd.R_drew));exact HO1083.out))) (below_size (by repeat (first|(with_reducible first|exact HB.out|apply below_alloc|apply pw_below_drewN|apply below_drew1|refine below_set ?_ GE1050.out|refine below_set ?_ GE1064.out)|exact HB.out))));have n5_:=Aside0.mk (blk_below (g:=gb1050) (o:=.cells #[.slice A0_0 l0_0.length c0_0,.bool a0_1] 24 (0,0)) (by (with_reducible repeat (first|refine blk_drewN ?_ _|refine blk_drew ?_|refine blk_alloc ?_ _));exact BK1050.out) hb);have n6_:=Aside0.mk (blk_below (g:=gb1064) (o:=.cells #[.slice Ao23 t1076.length co23,.bool t1063] 28 (0,0)) (by (with_reducible repeat (first|refine blk_drewN ?_ _|refine blk_drew ?_|refine blk_alloc ?_ _));exact BK1064.out) hb);have n7_:=Aside0.mk (below_step (by repeat (first|(with_reducible first|exact HB.out|apply below_alloc|apply pw_below_drewN|apply below_drew1|refine below_set ?_ GE1050.out|refine below_set ?_ GE1064.out)|exact HB.out)) hb);clear HO_6;clear HO_9;clear HO_1065000;clear HO1083;clear BK1050;clear BK1064;clear HB;have HO_6:=n0_;have HO_9:=n1_;have HO_1065000:=n2_;have HO1083:=n3_;have HO1087:=n4_;have BK1050:=n5_;have BK1064:=n6_;have HB:=n7_;clear n0_ n1_ n2_ n3_ n4_ n5_ n6_ n7_;(try clear hb);(try clear hb2);(try clear hk);(try clear hi);(try clear ho0)))
           (try simp only [Act.put,List.setIfInBounds_toArray,List.set_cons_zero,List.set_cons_succ])
           go_cut [92] (fun v92 wc=>∃ (kq:Nat) (x92_61:Bool),v92=.bool x92_61∧Aside0 (laws_FnExactAllAtOnce.j2 kq t1079 t1078 x92_61=some r)∧Aside0 (kq≤kj37)∧Aside0 (Kd.R (Kd.int .i64) 3 wc w.heap.size (fun k_=>some k_≠((.slice Ao23 t1076.length co23):Value).ownBlock) (.slice Ao63 t1065.length co63) t1079)∧Aside0 (Kd.R (Kd.int .i64) 3 wc w.heap.size (fun k_=>some k_≠((.slice Ao63 t1065.length co63):Value).ownBlock) (.slice Ao23 t1076.length co23) t1076)∧Aside0 (wc.heap[gb1050]?=some (.cells #[(.slice A0_0 l0_0.length c0_0),.bool a0_1] 24 (0,0)))∧Aside0 (wc.heap[gb1064]?=some (.cells #[(.slice Ao23 t1076.length co23),.bool t1063] 28 (0,0)))∧Aside0 (Below w.heap.size w wc))
           case first=>
            have H:=HC62.out
            clear HC62
            replace H:=Option.bind_eq_some_iff.mp H
            obtain ⟨t1089,A700,H⟩:=H
            replace H:(if t1089=true then (laws_FnExactAllAtOnce.j2 kj37 t1079 t1078 (t1088 !=t1059)) else (laws_FnExactAllAtOnce.j2 kj37 t1079 t1078 true))=some r:=H
            have A70:=Aside0.mk A700
            clear A700
            by_cases c71:t1089=true
            ·subst c71
             have H1:(laws_FnExactAllAtOnce.j2 kj37 t1079 t1078 (t1088 !=t1059))=some r:=by rw [if_pos rfl] at H;exact H
             clear H
             have H:=H1
             clear H1
             have H':=Aside0.mk H
             clear H
             obtain ⟨Ao72,co72,eo72⟩:=Kd.R_slice HO1087.out
             subst eo72
             obtain ⟨Ao73,co73,eo73⟩:=Kd.R_slice HO_6.out
             subst eo73
             go_wp2_with (first|((with_reducible refine gate_callee (f:=21) rfl ?_);refine goesL_ (some 86) rfl rfl Try.func21 (by kernel_rfl) rfl #[.slice Ao72 t1085.length co72,.slice Ao73 t1056.length co73] rfl (by (try simp only [List.map_toArray,List.map_cons,List.map_nil]);first|done|rfl|(simp only [List.length_drop,List.length_take];rfl)) ?_;(with_reducible refine (laws_eqIntS.calls kj37 _ _ t1085 _ _ t1056 true _ ?side1 ?side2 ?side3 ?side4 A70.out).mono ?_);(case side1=>repeat (first|exact (Kd.R_reads' HO1087.out).2.2|(with_reducible refine Kd.C_alloc ?_ _)|(with_reducible refine Kd.C_drewN ?_ _)|(with_reducible refine Kd.C_drew ?_)));(case side2=>exact (Kd.R_reads' HO1087.out).2.1);(case side3=>repeat (first|exact (Kd.R_reads' HO_6.out).2.2|(with_reducible refine Kd.C_alloc ?_ _)|(with_reducible refine Kd.C_drewN ?_ _)|(with_reducible refine Kd.C_drew ?_)));(case side4=>exact (Kd.R_reads' HO_6.out).2.1);rintro e w' ⟨rfl,⟨nd,rfl⟩⟩;refine ⟨_,rfl,?_⟩))
             go_meet
             case rel=>exact ⟨_,((t1088 !=t1059)),(by first|rfl|(simp;done)|(simp [*];done)),H',⟨by have:=HJ11.out;have:=HJ37.out;first|omega|exact Nat.le_refl _⟩,⟨by (try simp only [hl1065000_37]);(with_reducible repeat (first|apply Kd.R_alloc|apply Kd.R_drewN|apply Kd.R_drew));exact Kd.R_mono HO_9.out (fun _ hk=>hk.1.1.2)⟩,⟨by (try simp only [hl1065000_37]);(with_reducible repeat (first|apply Kd.R_alloc|apply Kd.R_drewN|apply Kd.R_drew));exact Kd.R_mono HO_1065000.out (fun _ hk=>hk.1.1.2)⟩,⟨by (try simp only [hl1065000_37]);(with_reducible repeat (first|refine blk_drewN ?_ _|refine blk_drew ?_|refine blk_alloc ?_ _));exact BK1050.out⟩,⟨by (try simp only [hl1065000_37]);(with_reducible repeat (first|refine blk_drewN ?_ _|refine blk_drew ?_|refine blk_alloc ?_ _));exact BK1064.out⟩,⟨by repeat (first|(with_reducible first|exact HB.out|apply below_alloc|apply pw_below_drewN|apply below_drew1|refine below_set ?_ GE1050.out|refine below_set ?_ GE1064.out)|exact HB.out)⟩⟩
            ·replace c71:=Bool.eq_false_iff.mpr c71
             subst c71
             have H1:(laws_FnExactAllAtOnce.j2 kj37 t1079 t1078 true)=some r:=by rw [if_neg (show ¬ (false=true) by decide)] at H;exact H
             clear H
             have H:=H1
             clear H1
             have H':=Aside0.mk H
             clear H
             obtain ⟨Ao74,co74,eo74⟩:=Kd.R_slice HO1087.out
             subst eo74
             obtain ⟨Ao75,co75,eo75⟩:=Kd.R_slice HO_6.out
             subst eo75
             go_wp2_with (first|((with_reducible refine gate_callee (f:=21) rfl ?_);refine goesL_ (some 86) rfl rfl Try.func21 (by kernel_rfl) rfl #[.slice Ao74 t1085.length co74,.slice Ao75 t1056.length co75] rfl (by (try simp only [List.map_toArray,List.map_cons,List.map_nil]);first|done|rfl|(simp only [List.length_drop,List.length_take];rfl)) ?_;(with_reducible refine (laws_eqIntS.calls kj37 _ _ t1085 _ _ t1056 false _ ?side1 ?side2 ?side3 ?side4 A70.out).mono ?_);(case side1=>repeat (first|exact (Kd.R_reads' HO1087.out).2.2|(with_reducible refine Kd.C_alloc ?_ _)|(with_reducible refine Kd.C_drewN ?_ _)|(with_reducible refine Kd.C_drew ?_)));(case side2=>exact (Kd.R_reads' HO1087.out).2.1);(case side3=>repeat (first|exact (Kd.R_reads' HO_6.out).2.2|(with_reducible refine Kd.C_alloc ?_ _)|(with_reducible refine Kd.C_drewN ?_ _)|(with_reducible refine Kd.C_drew ?_)));(case side4=>exact (Kd.R_reads' HO_6.out).2.1);rintro e w' ⟨rfl,⟨nd,rfl⟩⟩;refine ⟨_,rfl,?_⟩))
             go_meet
             case rel=>exact ⟨_,(true),(by first|rfl|(simp;done)|(simp [*];done)),H',⟨by have:=HJ11.out;have:=HJ37.out;first|omega|exact Nat.le_refl _⟩,⟨by (try simp only [hl1065000_37]);(with_reducible repeat (first|apply Kd.R_alloc|apply Kd.R_drewN|apply Kd.R_drew));exact Kd.R_mono HO_9.out (fun _ hk=>hk.1.1.2)⟩,⟨by (try simp only [hl1065000_37]);(with_reducible repeat (first|apply Kd.R_alloc|apply Kd.R_drewN|apply Kd.R_drew));exact Kd.R_mono HO_1065000.out (fun _ hk=>hk.1.1.2)⟩,⟨by (try simp only [hl1065000_37]);(with_reducible repeat (first|refine blk_drewN ?_ _|refine blk_drew ?_|refine blk_alloc ?_ _));exact BK1050.out⟩,⟨by (try simp only [hl1065000_37]);(with_reducible repeat (first|refine blk_drewN ?_ _|refine blk_drew ?_|refine blk_alloc ?_ _));exact BK1064.out⟩,⟨by repeat (first|(with_reducible first|exact HB.out|apply below_alloc|apply pw_below_drewN|apply below_drew1|refine below_set ?_ GE1050.out|refine below_set ?_ GE1064.out)|exact HB.out)⟩⟩
           case rest=>
            clear HC62;(try clear c1);(try clear c2);(try clear p2);(try clear c3);(try clear c4);(try clear c4b0);(try clear c5);(try clear c6);(try clear c7);(try clear c14);(try clear c15);(try clear c17);(try clear c20);(try clear c21);(try clear c24);(try clear c25);(try clear c26);(try clear c28);(try clear c33);(try clear c36);(try clear c43);(try clear c46);(try clear c46b0);(try clear c48);(try clear c49);(try clear c53);(try clear c56);(try clear c56b0);(try clear c59);(try clear c59b0);(try clear c59b1);(try clear c65);(try clear c71);(try clear hcz14_0);(try clear hcz14_1);(try clear hcz16_0);(try clear hcz16_1);(try clear hcz20_0);(try clear hcz20_1);(try clear hcz25_0);(try clear hcz25_1);(try clear hcz44_0);(try clear hcz44_1);(try clear hcz66_0);(try clear hcz66_1);(try clear hcz6_0);(try clear hcz6_1);(try clear hfz14_0);(try clear hfz14_1);(try clear hfz16_0);(try clear hfz16_1);(try clear hfz20_0);(try clear hfz20_1);(try clear hfz25_0);(try clear hfz25_1);(try clear hfz44_0);(try clear hfz44_1);(try clear hfz66_0);(try clear hfz66_1);(try clear hfz6_0);(try clear hfz6_1);(try clear p2)
            obtain ⟨kq,x92_61,rfl,HA,HJ61,HO_9,HO_1065000,BK1050,BK1064,HB⟩:=hcut
            have hl9_61:=(Kd.R_reads' HO_9.out).1
            rw [hl9_61] at HO_9
            (try simp only [hl9_61])
            (try simp only [hl9_61] at BK1050)
            (try simp only [hl9_61] at BK1064)
            (try simp only [hl9_61] at HO_1065000)
            cases kq with
            |zero=>exact absurd HA.out (by simp [laws_FnExactAllAtOnce.j2])
            |succ kj61=>
             have H:=HA.out
             clear HA
             simp only [laws_FnExactAllAtOnce.j2] at H
             by_cases c76:x92_61=true
             ·subst c76
              have H1:(some false)=some r:=by rw [if_pos rfl] at H;exact H
              clear H
              have H:=H1
              clear H1
              obtain rfl:=Option.some.inj H
              go_wp2
              go_ret
              exact ⟨by first|rfl|(simp [errW_none,errW_some]<;>rfl)|(simp [*,errW_none,errW_some]<;>rfl),by repeat (first|(with_reducible first|exact HB.out|apply below_alloc|apply pw_below_drewN|apply below_drew1|refine below_set ?_ GE1050.out|refine below_set ?_ GE1064.out)|exact HB.out)⟩
             ·replace c76:=Bool.eq_false_iff.mpr c76
              subst c76
              have H1:((laws_heldIntS.f kj61 t1079 1).bind fun t1090=>(if t1090< 0 then (some false) else (if t1090=t1078 then (some true) else (some false))))=some r:=by rw [if_neg (show ¬ (false=true) by decide)] at H;exact H
              clear H
              have H:=H1
              clear H1
              replace H:=Option.bind_eq_some_iff.mp H
              obtain ⟨t1090,A770,H⟩:=H
              replace H:(if t1090< 0 then (some false) else (if t1090=t1078 then (some true) else (some false)))=some r:=H
              have A77:=Aside0.mk A770
              clear A770
              by_cases c78:t1090< 0
              ·rw [if_pos c78] at H
               have c78b0:decide (t1090< 0)=true:=decide_eq_true c78
               clear c78
               obtain rfl:=Option.some.inj H
               go_wp2_with (first|((with_reducible refine gate_callee (f:=26) rfl ?_);refine goesL_ (some 95) rfl rfl Try.func26 (by kernel_rfl) rfl #[.slice Ao63 t1079.length co63,.int .i64 1] rfl (by (try simp only [List.map_toArray,List.map_cons,List.map_nil]);first|done|rfl|(simp only [List.length_drop,List.length_take];rfl)) ?_;(with_reducible refine (laws_heldIntS.calls kj61 _ _ t1079 1 t1090 _ ?side1 ?side2 A77.out).mono ?_);(case side1=>repeat (first|exact (Kd.R_reads' HO_9.out).2.2|(with_reducible refine Kd.C_alloc ?_ _)|(with_reducible refine Kd.C_drewN ?_ _)|(with_reducible refine Kd.C_drew ?_)));(case side2=>exact (Kd.R_reads' HO_9.out).2.1);rintro e w' ⟨rfl,⟨nd,rfl⟩⟩;refine ⟨_,rfl,?_⟩))
               go_ret
               exact ⟨by first|rfl|(simp [errW_none,errW_some]<;>rfl)|(simp [*,errW_none,errW_some]<;>rfl),by repeat (first|(with_reducible first|exact HB.out|apply below_alloc|apply pw_below_drewN|apply below_drew1|refine below_set ?_ GE1050.out|refine below_set ?_ GE1064.out)|exact HB.out)⟩
              ·rw [if_neg c78] at H
               have c78b0:decide (t1090< 0)=false:=decide_eq_false c78
               clear c78
               by_cases c79:t1090=t1078
               ·rw [if_pos c79] at H
                have c79b0:(t1090==t1078)=true:=beq_iff_eq.mpr c79
                have c79b1:(t1090 !=t1078)=false:=bne_eq_false_iff_eq.mpr c79
                clear c79
                obtain rfl:=Option.some.inj H
                go_wp2_with (first|((with_reducible refine gate_callee (f:=26) rfl ?_);refine goesL_ (some 95) rfl rfl Try.func26 (by kernel_rfl) rfl #[.slice Ao63 t1079.length co63,.int .i64 1] rfl (by (try simp only [List.map_toArray,List.map_cons,List.map_nil]);first|done|rfl|(simp only [List.length_drop,List.length_take];rfl)) ?_;(with_reducible refine (laws_heldIntS.calls kj61 _ _ t1079 1 t1090 _ ?side1 ?side2 A77.out).mono ?_);(case side1=>repeat (first|exact (Kd.R_reads' HO_9.out).2.2|(with_reducible refine Kd.C_alloc ?_ _)|(with_reducible refine Kd.C_drewN ?_ _)|(with_reducible refine Kd.C_drew ?_)));(case side2=>exact (Kd.R_reads' HO_9.out).2.1);rintro e w' ⟨rfl,⟨nd,rfl⟩⟩;refine ⟨_,rfl,?_⟩))
                go_ret
                exact ⟨by first|rfl|(simp [errW_none,errW_some]<;>rfl)|(simp [*,errW_none,errW_some]<;>rfl),by repeat (first|(with_reducible first|exact HB.out|apply below_alloc|apply pw_below_drewN|apply below_drew1|refine below_set ?_ GE1050.out|refine below_set ?_ GE1064.out)|exact HB.out)⟩
               ·rw [if_neg c79] at H
                have c79b0:(t1090==t1078)=false:=beq_eq_false_iff_ne.mpr c79
                have c79b1:(t1090 !=t1078)=true:=bne_iff_ne.mpr c79
                obtain rfl:=Option.some.inj H
                go_wp2_with (first|((with_reducible refine gate_callee (f:=26) rfl ?_);refine goesL_ (some 95) rfl rfl Try.func26 (by kernel_rfl) rfl #[.slice Ao63 t1079.length co63,.int .i64 1] rfl (by (try simp only [List.map_toArray,List.map_cons,List.map_nil]);first|done|rfl|(simp only [List.length_drop,List.length_take];rfl)) ?_;(with_reducible refine (laws_heldIntS.calls kj61 _ _ t1079 1 t1090 _ ?side1 ?side2 A77.out).mono ?_);(case side1=>repeat (first|exact (Kd.R_reads' HO_9.out).2.2|(with_reducible refine Kd.C_alloc ?_ _)|(with_reducible refine Kd.C_drewN ?_ _)|(with_reducible refine Kd.C_drew ?_)));(case side2=>exact (Kd.R_reads' HO_9.out).2.1);rintro e w' ⟨rfl,⟨nd,rfl⟩⟩;refine ⟨_,rfl,?_⟩))
                go_ret
                exact ⟨by first|rfl|(simp [errW_none,errW_some]<;>rfl)|(simp [*,errW_none,errW_some]<;>rfl),by repeat (first|(with_reducible first|exact HB.out|apply below_alloc|apply pw_below_drewN|apply below_drew1|refine below_set ?_ GE1050.out|refine below_set ?_ GE1064.out)|exact HB.out)⟩
          ·rw [if_neg c59] at H
           have c59b0:(t1080==t1078)=false:=beq_eq_false_iff_ne.mpr c59
           have c59b1:(t1080 !=t1078)=true:=bne_iff_ne.mpr c59
           obtain rfl:=Option.some.inj H
           obtain ⟨Ao80,co80,eo80⟩:=Kd.R_slice HO_9.out
           subst eo80
           go_wp2_with (first|((with_reducible refine gate_callee (f:=25) rfl ?_);refine goesL_ (some 68) rfl rfl Try.func25 (by kernel_rfl) rfl #[.slice Ao80 t1065.length co80,.int .i64 1] rfl (by (try simp only [List.map_toArray,List.map_cons,List.map_nil]);first|done|rfl|(simp only [List.length_drop,List.length_take];rfl)) ?_;(with_reducible refine (laws_markIntS.calls kj37 (fun k_=>some k_=(.slice Ao80 t1065.length co80:Value).ownBlock) (.slice Ao80 t1065.length co80) t1065 1 t1078 t1079 w _ ?side1 ?side2 A54.out).mono ?_);(case side1=>repeat (first|(with_reducible first|exact HB.out|apply below_alloc|apply pw_below_drewN|apply below_drew1|refine below_set ?_ GE1050.out|refine below_set ?_ GE1064.out)|exact HB.out));(case side2=>exact Kd.R_tight rfl HO_9.out);rintro e w81 ⟨rfl,hy0,hb,hkp⟩;refine ⟨_,rfl,?_⟩;have n0_:=Aside0.mk (Kd.R_mono (ok':=fun k_=>some k_≠(.slice Ao80 t1065.length co80:Value).ownBlock∧some k_≠(.slice Ao23 t1076.length co23:Value).ownBlock) (Kd.R_keptB (HO_6.out) hkp (fun k_ hk_ hs_=>(hk_.1) hs_)) (fun k_ hk_=>⟨hk_.1.1,hk_.1.2⟩));have n1_:=Aside0.mk (Kd.R_reok rfl hy0 (fun k_ e_=>HO_9.out.1 k_ e_));have n2_:=Aside0.mk (Kd.R_mono (ok':=fun k_=>some k_≠(v1057:Value).ownBlock∧some k_≠(.slice Ao80 t1065.length co80:Value).ownBlock) (Kd.R_keptB (HO_1065000.out) hkp (fun k_ hk_ hs_=>(hk_.2) hs_)) (fun k_ hk_=>⟨hk_.1.1,hk_.1.2⟩));have n3_:=Aside0.mk (blk_kept (by (with_reducible repeat (first|refine blk_drewN ?_ _|refine blk_drew ?_|refine blk_alloc ?_ _));exact BK1050.out) hkp (fun hs_=>(fun e_=>(Kd.R_ne HO_9.out BK1050.out (by decide)) e_) hs_));have n4_:=Aside0.mk (blk_kept (by (with_reducible repeat (first|refine blk_drewN ?_ _|refine blk_drew ?_|refine blk_alloc ?_ _));exact BK1064.out) hkp (fun hs_=>(fun e_=>(Kd.R_ne HO_9.out BK1064.out (by decide)) e_) hs_));have n5_:=Aside0.mk (hb);clear HO_6;clear HO_9;clear HO_1065000;clear BK1050;clear BK1064;clear HB;have HO_6:=n0_;have HO_9:=n1_;have HO_1065000:=n2_;have BK1050:=n3_;have BK1064:=n4_;have HB:=n5_;clear n0_ n1_ n2_ n3_ n4_ n5_;(try clear hb);(try clear hkp);(try clear hy0))|((with_reducible refine gate_callee (f:=26) rfl ?_);refine goesL_ (some 71) rfl rfl Try.func26 (by kernel_rfl) rfl #[.slice Ao80 t1079.length co80,.int .i64 1] rfl (by (try simp only [List.map_toArray,List.map_cons,List.map_nil]);first|done|(rw [show t1079.length=t1065.length from (Kd.R_reads' HO_9.out).1.symm]<;>rfl)|rfl|(simp only [List.length_drop,List.length_take];rfl)) ?_;(with_reducible refine (laws_heldIntS.calls kj37 _ _ t1079 1 t1080 _ ?side1 ?side2 A55.out).mono ?_);(case side1=>repeat (first|exact (Kd.R_reads' HO_9.out).2.2|(with_reducible refine Kd.C_alloc ?_ _)|(with_reducible refine Kd.C_drewN ?_ _)|(with_reducible refine Kd.C_drew ?_)));(case side2=>rw [show t1079.length=t1065.length from (Kd.R_reads' HO_9.out).1.symm];exact (Kd.R_reads' HO_9.out).2.1);rintro e w' ⟨rfl,⟨nd,rfl⟩⟩;refine ⟨_,rfl,?_⟩))
           go_ret
           exact ⟨by first|rfl|(simp [errW_none,errW_some]<;>rfl)|(simp [*,errW_none,errW_some]<;>rfl),by repeat (first|(with_reducible first|exact HB.out|apply below_alloc|apply pw_below_drewN|apply below_drew1|refine below_set ?_ GE1050.out|refine below_set ?_ GE1064.out)|exact HB.out)⟩
     ·replace c36:=Bool.eq_false_iff.mpr c36
      subst c36
      have H1:(some false)=some r:=by rw [if_neg (show ¬ (false=true) by decide)] at H;exact H
      clear H
      have H:=H1
      clear H1
      obtain rfl:=Option.some.inj H
      try go_wp2
      have n0_:=Aside0.mk (Kd.R_drew HO_6.out)
      have n1_:=Aside0.mk (Kd.R_drew HO_9.out)
      have n2_:=Aside0.mk (Kd.R_drew HO_1065000.out)
      have n3_:=Aside0.mk (blk_drew BK1050.out)
      have n4_:=Aside0.mk (blk_drew BK1064.out)
      have n5_:=Aside0.mk (below_drew1 HB.out)
      clear HO_6;clear HO_9;clear HO_1065000;clear BK1050;clear BK1064;clear HB
      have HO_6:=n0_
      have HO_9:=n1_
      have HO_1065000:=n2_
      have BK1050:=n3_
      have BK1064:=n4_
      have HB:=n5_
      clear n0_ n1_ n2_ n3_ n4_ n5_
      refine start_ (n:=5) (S:=fun w'=>w'.cell? ⟨gb1064,0,none⟩=some (.slice Ao23 t1060.length co23)∧w'.cell? ⟨gb1064,1,none⟩=some (.bool t1063)∧w'.cell? ⟨gb1050,0,none⟩=some (.slice A0_0 l0_0.length c0_0)∧w'.cell? ⟨gb1050,1,none⟩=some (.bool a0_1)) (ds:=[]) #[false,false,false,false,false] (by kernel_rfl) rfl rfl ⟨(blk_cell BK1064.out 0).trans rfl,(blk_cell BK1064.out 1).trans rfl,(blk_cell BK1050.out 0).trans rfl,(blk_cell BK1050.out 1).trans rfl⟩ (fun hHeld=>?_)
      generalize wc.drew=w82 at HO_6 HO_9 HO_1065000 BK1050 BK1064 HB hHeld ⊢
      refine take_ (i:=0) (N:=some 45) (v:=?_) (a':=?_) #[true,false,false,false,false] rfl rfl (by kernel_rfl) (fun _ _ _ h=>h) (Or.inl ⟨by rfl,?_⟩) hHeld ?_ ?_
      rotate_left
      ·rintro w' ⟨s0,s1,s2,s3⟩
       go_simp
       with_reducible rfl
      rotate_left
      ·simp only [Act.put,List.setIfInBounds_toArray,List.set_cons_zero,List.set_cons_succ,i64_w,i32_w]
       rfl
      refine take_ (i:=1) (N:=some 46) (v:=?_) (a':=?_) #[true,true,false,false,false] rfl rfl (by kernel_rfl) (fun _ _ _ h=>h) (Or.inl ⟨by rfl,?_⟩) hHeld ?_ ?_
      rotate_left
      ·rintro w' ⟨s0,s1,s2,s3⟩
       go_simp
       with_reducible rfl
      rotate_left
      ·simp only [Act.put,List.setIfInBounds_toArray,List.set_cons_zero,List.set_cons_succ,i64_w,i32_w]
       rfl
      refine one_ (i:=2) (N:=some 47) #[true,true,true,false,false] rfl rfl (by kernel_rfl) (by decide) (fun K hK=>?_)
      refine goes_ Try.func17 (by kernel_rfl) rfl #[.agg #[.slice A0_0 l0_0.length c0_0,.bool a0_1]] (by rfl) rfl rfl (by (try simp only [List.map_toArray,List.map_cons,List.map_nil]);first|done|rfl|(simp only [List.length_drop,List.length_take];rfl)) ?_
      with_reducible refine (laws_toGraph.calls kj11 _ _ l0_0 a0_1 t1070 t1073 _ ?side1 ?side2 A34.out).mono ?_
      (case side1=>repeat (first|exact (Kd.C_below HR0_0.out HB.out)|(with_reducible refine Kd.C_alloc ?_ _)|(with_reducible refine Kd.C_drewN ?_ _)|(with_reducible refine Kd.C_drew ?_)))
      (case side2=>exact HC0_0.out)
      rintro e w83 ⟨v1071,rfl,ho0,hb⟩
      refine ⟨_,rfl,?_⟩
      have n0_:=Aside0.mk (Kd.R_elder' (by (with_reducible repeat (first|apply Kd.R_alloc|apply Kd.R_drewN|apply Kd.R_drew));exact HO_6.out) (Kd.R_base ho0) hb)
      have n1_:=Aside0.mk (Kd.R_elder' (by (with_reducible repeat (first|apply Kd.R_alloc|apply Kd.R_drewN|apply Kd.R_drew));exact HO_9.out) (Kd.R_base ho0) hb)
      have n2_:=Aside0.mk (Kd.R_elder' (by (with_reducible repeat (first|apply Kd.R_alloc|apply Kd.R_drewN|apply Kd.R_drew));exact HO_1065000.out) (Kd.R_base ho0) hb)
      have n3_:=Aside0.mk (Kd.R_lower (Kd.R_new' (Kd.R_new' (Kd.R_new' ho0 (Kd.R_lt (by (with_reducible repeat (first|apply Kd.R_alloc|apply Kd.R_drewN|apply Kd.R_drew));exact HO_6.out))) (Kd.R_lt (by (with_reducible repeat (first|apply Kd.R_alloc|apply Kd.R_drewN|apply Kd.R_drew));exact HO_9.out))) (Kd.R_lt (by (with_reducible repeat (first|apply Kd.R_alloc|apply Kd.R_drewN|apply Kd.R_drew));exact HO_1065000.out))) (below_size (by repeat (first|(with_reducible first|exact HB.out|apply below_alloc|apply pw_below_drewN|apply below_drew1|refine below_set ?_ GE1050.out|refine below_set ?_ GE1064.out)|exact HB.out))))
      have n4_:=Aside0.mk (blk_below (g:=gb1050) (o:=.cells #[.slice A0_0 l0_0.length c0_0,.bool a0_1] 24 (0,0)) (by (with_reducible repeat (first|refine blk_drewN ?_ _|refine blk_drew ?_|refine blk_alloc ?_ _));exact BK1050.out) hb)
      have n5_:=Aside0.mk (blk_below (g:=gb1064) (o:=.cells #[.slice Ao23 t1060.length co23,.bool t1063] 28 (0,0)) (by (with_reducible repeat (first|refine blk_drewN ?_ _|refine blk_drew ?_|refine blk_alloc ?_ _));exact BK1064.out) hb)
      have n6_:=Aside0.mk (below_step (by repeat (first|(with_reducible first|exact HB.out|apply below_alloc|apply pw_below_drewN|apply below_drew1|refine below_set ?_ GE1050.out|refine below_set ?_ GE1064.out)|exact HB.out)) hb)
      clear HO_6;clear HO_9;clear HO_1065000;clear BK1050;clear BK1064;clear HB
      have HO_6:=n0_
      have HO_9:=n1_
      have HO_1065000:=n2_
      have HO1072:=n3_
      have BK1050:=n4_
      have BK1064:=n5_
      have HB:=n6_
      clear n0_ n1_ n2_ n3_ n4_ n5_ n6_;(try clear hb);(try clear hb2);(try clear hk);(try clear hi);(try clear ho0)
      obtain ⟨Ao84,co84,eo84⟩:=Kd.R_slice HO1072.out
      (first|subst eo84|(injection eo84 with f1_ f2_ f3_;have f4_:=f1_.symm;have f5_:=f3_.symm;clear f1_ f2_ f3_;subst f4_;subst f5_))
      refine hK.out _ _ ⟨(blk_cell BK1064.out 0).trans rfl,(blk_cell BK1064.out 1).trans rfl,(blk_cell BK1050.out 0).trans rfl,(blk_cell BK1050.out 1).trans rfl⟩ (fun hHeld=>?_)
      clear hK K
      refine norm_ (a':=?_) ?_ ?_
      rotate_left
      ·show Act.put _ (some 47) _=_
       simp only [Act.put,List.setIfInBounds_toArray,List.set_cons_zero,List.set_cons_succ,i64_w,i32_w]
       rfl
      refine one_ (i:=3) (N:=some 48) #[true,true,true,true,false] rfl rfl (by kernel_rfl) (by decide) (fun K hK=>?_)
      refine goes_ Try.func20 (by kernel_rfl) rfl #[.agg #[.slice Ao23 t1060.length co23,.bool t1063],.agg #[.slice Ao84 t1070.length co84,.bool t1073]] (by rfl) rfl rfl (by (try simp only [List.map_toArray,List.map_cons,List.map_nil]);first|done|rfl|(simp only [List.length_drop,List.length_take];rfl)) ?_
      with_reducible refine (laws_eqGraph.calls kj11 _ _ t1060 t1063 _ _ t1070 t1073 false _ ?side1 ?side2 ?side3 ?side4 A35.out).mono ?_
      (case side1=>repeat (first|exact (Kd.R_reads' HO_1065000.out).2.2|(with_reducible refine Kd.C_alloc ?_ _)|(with_reducible refine Kd.C_drewN ?_ _)|(with_reducible refine Kd.C_drew ?_)))
      (case side2=>exact (Kd.R_reads' HO_1065000.out).2.1)
      (case side3=>repeat (first|exact (Kd.R_reads' HO1072.out).2.2|(with_reducible refine Kd.C_alloc ?_ _)|(with_reducible refine Kd.C_drewN ?_ _)|(with_reducible refine Kd.C_drew ?_)))
      (case side4=>exact (Kd.R_reads' HO1072.out).2.1)
      rintro e w85 ⟨rfl,hb⟩
      refine ⟨_,rfl,?_⟩
      have n0_:=Aside0.mk (Kd.R_below (by (with_reducible repeat (first|apply Kd.R_alloc|apply Kd.R_drewN|apply Kd.R_drew));exact HO_6.out) hb)
      have n1_:=Aside0.mk (Kd.R_below (by (with_reducible repeat (first|apply Kd.R_alloc|apply Kd.R_drewN|apply Kd.R_drew));exact HO_9.out) hb)
      have n2_:=Aside0.mk (Kd.R_below (by (with_reducible repeat (first|apply Kd.R_alloc|apply Kd.R_drewN|apply Kd.R_drew));exact HO_1065000.out) hb)
      have n3_:=Aside0.mk (Kd.R_below (by (with_reducible repeat (first|apply Kd.R_alloc|apply Kd.R_drewN|apply Kd.R_drew));exact HO1072.out) hb)
      have n4_:=Aside0.mk (blk_below (g:=gb1050) (o:=.cells #[.slice A0_0 l0_0.length c0_0,.bool a0_1] 24 (0,0)) (by (with_reducible repeat (first|refine blk_drewN ?_ _|refine blk_drew ?_|refine blk_alloc ?_ _));exact BK1050.out) hb)
      have n5_:=Aside0.mk (blk_below (g:=gb1064) (o:=.cells #[.slice Ao23 t1060.length co23,.bool t1063] 28 (0,0)) (by (with_reducible repeat (first|refine blk_drewN ?_ _|refine blk_drew ?_|refine blk_alloc ?_ _));exact BK1064.out) hb)
      have n6_:=Aside0.mk (below_step (by repeat (first|(with_reducible first|exact HB.out|apply below_alloc|apply pw_below_drewN|apply below_drew1|refine below_set ?_ GE1050.out|refine below_set ?_ GE1064.out)|exact HB.out)) hb)
      clear HO_6;clear HO_9;clear HO_1065000;clear HO1072;clear BK1050;clear BK1064;clear HB
      have HO_6:=n0_
      have HO_9:=n1_
      have HO_1065000:=n2_
      have HO1072:=n3_
      have BK1050:=n4_
      have BK1064:=n5_
      have HB:=n6_
      clear n0_ n1_ n2_ n3_ n4_ n5_ n6_;(try clear hb);(try clear hb2);(try clear hk);(try clear hi)
      refine hK.out _ _ ⟨(blk_cell BK1064.out 0).trans rfl,(blk_cell BK1064.out 1).trans rfl,(blk_cell BK1050.out 0).trans rfl,(blk_cell BK1050.out 1).trans rfl⟩ (fun hHeld=>?_)
      clear hK K
      refine norm_ (a':=?_) ?_ ?_
      rotate_left
      ·show Act.put _ (some 48) _=_
       simp only [Act.put,List.setIfInBounds_toArray,List.set_cons_zero,List.set_cons_succ,i64_w,i32_w]
       rfl
      refine pure_ (i:=4) (N:=some 49) (v:=?_) (a':=?_) #[true,true,true,true,true] rfl rfl (by kernel_rfl) (fun _ _ _ h=>h) (Or.inl ⟨by rfl,?_⟩) ?_ ?_
      rotate_left
      ·intro w'
       go_simp
       with_reducible rfl
      rotate_left
      ·simp only [Act.put,List.setIfInBounds_toArray,List.set_cons_zero,List.set_cons_succ,i64_w,i32_w]
       rfl
      refine done_ (by kernel_rfl) ?_
      try go_wp2
      go_ret
      exact ⟨by first|rfl|(simp [errW_none,errW_some]<;>rfl)|(simp [*,errW_none,errW_some]<;>rfl),by repeat (first|(with_reducible first|exact HB.out|apply below_alloc|apply pw_below_drewN|apply below_drew1|refine below_set ?_ GE1050.out|refine below_set ?_ GE1064.out)|exact HB.out)⟩
end Go.Proofs.Ytbbdjoahdbjljaa.P
