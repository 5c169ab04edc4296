-- Written by a program of this session (wip/mp.py), which runs the kit's print with contracts of the session's own.
import Derived.Test.YtbbdjoahdbjljaaPx0
import Derived.Test.YtbbdjoahdbjljaaPx17
import Derived.Test.YtbbdjoahdbjljaaPx21
import Derived.Test.YtbbdjoahdbjljaaPx22
namespace Go.Proofs.Ytbbdjoahdbjljaa.P
open Go.RowKit Go.Proofs.YtbbdjoahdbjljaaW.PrintWords Go.Proofs.YtbbdjoahdbjljaaW.PrintLast Go.Proofs.YtbbdjoahdbjljaaW.PrintMore
attribute [local go_sem] max2_int min2_int max_two min_two max_three min_three max_four min_four -- for this text's walks alone
set_option linter.unusedVariables false
set_option linter.unusedSimpArgs false
/-! ### impl_Graph_solved: function 63 -/
def impl_Graph_solved.f (k:Nat) (l0_0:List Int) (a0_1:Bool) (a1:Int) (l2:List Int):Option ((List (List Int)) × List Int × Int):=(impl_Graph_toggleRows.f k l0_0 a0_1 l2).bind fun t557=>((pseudo_elimS.f k t557 (l0_0.length:Int) a1).bind fun bt560=>(some (bt560.1,bt560.2.1,bt560.2.2)))
def impl_Graph_solved.T1:Bool × List (List Nat × List Nat):=(true,[([],[]),([],[]),([0,1],[0,1]),([],[]),([3],[3]),([4],[4]),([],[]),([2,5,6,2],[2,5,6]),([7,7,0,1,2,3,4,5,6,7],[7])])
def impl_Graph_solved.B1:List Nat:=[0,0,3,0,8,24,0,127,255]
theorem impl_Graph_solved.tab1:rtab .any (opsOf Try.f63 1)=impl_Graph_solved.T1:=by kernel_rfl
theorem impl_Graph_solved.bits1:waitsOk impl_Graph_solved.T1.2 impl_Graph_solved.B1=true:=by kernel_rfl
set_option maxHeartbeats 8000000 in
set_option maxRecDepth 100000 in
theorem impl_Graph_solved.calls (k:Nat) (A0_0:Option Addr) (c0_0:Nat) (l0_0:List Int) (a0_1:Bool) (a1:Int) (A2:Option Addr) (c2:Nat) (l2:List Int) (r1:List (List Int)) (r2:List Int) (r3:Int) (w:World) (hr0_0:Kd.C (Kd.int .i64) w A0_0 l0_0.length l0_0) (hc0_0:l0_0.length≤c0_0) (hr2:Kd.C (Kd.int .i64) w A2 l2.length l2) (hc2:l2.length≤c2) (h:impl_Graph_solved.f k l0_0 a0_1 a1 l2=some (r1,r2,r3)):
  Calls Try.prog 63 #[.agg #[.slice A0_0 l0_0.length c0_0,.bool a0_1],.int .i64 a1,.slice A2 l2.length c2] w fun e w'=>∃ v0_ v1_:Value,e=.returned (.agg #[v0_,v1_,.int .i64 r3])∧Kd.S (Kd.slice 3 (Kd.int .i64)) 22 w' w.heap.size (fun k_=>some k_≠(v1_:Value).ownBlock) v0_ r1∧Kd.R (Kd.int .i64) 3 w' w.heap.size (fun _=>True) v1_ r2∧Below w.heap.size w w':=by
 have hu28:=Try.underlying28
 have hu60:=Try.underlying60
 have HR0_0:=Aside0.mk hr0_0
 have HC0_0:=Aside0.mk hc0_0
 clear hr0_0 hc0_0
 have HR2:=Aside0.mk hr2
 have HC2:=Aside0.mk hc2
 clear hr2 hc2
 have HB:=Aside0.mk (Below.refl w.heap.size w)
 have H:((impl_Graph_toggleRows.f k l0_0 a0_1 l2).bind fun t557=>((pseudo_elimS.f k t557 (l0_0.length:Int) a1).bind fun bt560=>(some (bt560.1,bt560.2.1,bt560.2.2))))=some (r1,r2,r3):=h
 clear h
 replace H:=Option.bind_eq_some_iff.mp H
 obtain ⟨t557,A40,H⟩:=H
 replace H:((pseudo_elimS.f k t557 (l0_0.length:Int) a1).bind fun bt560=>(some (bt560.1,bt560.2.1,bt560.2.2)))=some (r1,r2,r3):=H
 have A4:=Aside0.mk A40
 clear A40
 replace H:=Option.bind_eq_some_iff.mp H
 obtain ⟨⟨t560,t563,t566⟩,A50,H⟩:=H
 replace H:(some (t560,t563,t566))=some (r1,r2,r3):=H
 have A5:=Aside0.mk A50
 clear A50
 simp only [Option.some.injEq,Prod.mk.injEq] at H
 obtain ⟨rfl,rfl,rfl⟩:=H
 go_enter Try.func63,Try.ntmps63
 try go_wp2_with (first|((with_reducible refine gate_dst (N:=3) rfl ?_);refine box_event ?hg (N:=3) ?hd (cs:=#[.slice A0_0 l0_0.length c0_0,.bool a0_1]) (t:=28) ?hr ?_;(case hd=>rfl);(case hg=>rfl);(case hr=>first|(go_simp;done)|(go_simp;rfl));intro gb555 hg w6 hbox hb;have n0_:=Aside0.mk (below_step (by repeat (first|(with_reducible first|exact HB.out|apply below_alloc|apply pw_below_drewN|apply below_drew1)|exact HB.out)) hb);have n1_:=Aside0.mk (hbox);have n2_:=Aside0.mk ((by rw [hg];exact (below_size (by repeat (first|(with_reducible first|exact HB.out|apply below_alloc|apply pw_below_drewN|apply below_drew1)|exact HB.out))):w.heap.size≤gb555));have n3_:=Aside0.mk ((by rw [hg];exact (below_size (by repeat (first|(with_reducible first|exact HB.out|apply below_alloc|apply pw_below_drewN|apply below_drew1)|exact HB.out))):w.heap.size≤gb555));clear HB;have HB:=n0_;have BK555:=n1_;have GW555:=n2_;have GE555:=n3_;clear n0_ n1_ n2_ n3_;clear hb hbox hg)|((with_reducible refine gate_dst (N:=6) rfl ?_);refine box_event ?hg (N:=6) ?hd (cs:=#[.slice none 0 0,.slice none 0 0,.int .i64 0]) (t:=60) ?hr ?_;(case hd=>rfl);(case hg=>rfl);(case hr=>first|(go_simp;done)|(go_simp;rfl));intro gb556 hg w7 hbox hb;have n0_:=Aside0.mk (blk_below (g:=gb555) (o:=.cells #[.slice A0_0 l0_0.length c0_0,.bool a0_1] 28 (0,0)) (by (with_reducible repeat (first|refine blk_drewN ?_ _|refine blk_drew ?_|refine blk_alloc ?_ _));exact BK555.out) hb);have n1_:=Aside0.mk (below_step (by repeat (first|(with_reducible first|exact HB.out|apply below_alloc|apply pw_below_drewN|apply below_drew1|refine below_set ?_ GE555.out)|exact HB.out)) hb);have n2_:=Aside0.mk (hbox);have n3_:=Aside0.mk ((by rw [hg];exact (below_size (by repeat (first|(with_reducible first|exact HB.out|apply below_alloc|apply pw_below_drewN|apply below_drew1|refine below_set ?_ GE555.out)|exact HB.out))):w.heap.size≤gb556));have n4_:=Aside0.mk ((by rw [hg];exact (below_size (by repeat (first|(with_reducible first|exact HB.out|apply below_alloc|apply pw_below_drewN|apply below_drew1|refine below_set ?_ GE555.out)|exact HB.out))):w.heap.size≤gb556));have n5_:=Aside0.mk ((by rw [hg];exact Nat.ne_of_lt (blk_lt (g:=gb555) (o:=.cells #[.slice A0_0 l0_0.length c0_0,.bool a0_1] 28 (0,0)) (by (with_reducible repeat (first|refine blk_drewN ?_ _|refine blk_drew ?_|refine blk_alloc ?_ _));exact BK555.out)):gb555≠gb556));have n6_:=Aside0.mk ((by rw [hg];exact Nat.ne_of_gt (blk_lt (g:=gb555) (o:=.cells #[.slice A0_0 l0_0.length c0_0,.bool a0_1] 28 (0,0)) (by (with_reducible repeat (first|refine blk_drewN ?_ _|refine blk_drew ?_|refine blk_alloc ?_ _));exact BK555.out)):gb556≠gb555));clear BK555;clear HB;have BK555:=n0_;have HB:=n1_;have BK556:=n2_;have GW556:=n3_;have GE556:=n4_;have NB555_556:=n5_;have NB556_555:=n6_;clear n0_ n1_ n2_ n3_ n4_ n5_ n6_;clear hb hbox hg))
 have n0_:=Aside0.mk (blk_drew BK555.out)
 have n1_:=Aside0.mk (blk_drew BK556.out)
 have n2_:=Aside0.mk (below_drew1 HB.out)
 clear BK555;clear BK556;clear HB
 have BK555:=n0_
 have BK556:=n1_
 have HB:=n2_
 clear n0_ n1_ n2_
 refine start_ (n:=9) (S:=fun w'=>w'.cell? ⟨gb555,0,none⟩=some (.slice A0_0 l0_0.length c0_0)∧w'.cell? ⟨gb555,1,none⟩=some (.bool a0_1)) (ds:=[]) #[false,false,false,false,false,false,false,false,false] (by kernel_rfl) rfl rfl ⟨(blk_cell BK555.out 0).trans rfl,(blk_cell BK555.out 1).trans rfl⟩ (fun hHeld=>?_);refine with_tabW impl_Graph_solved.tab1 impl_Graph_solved.bits1 (fun HT_ HW_=>?_)
 generalize w7.drew=w8 at BK555 BK556 HB hHeld ⊢
 refine pure_ (i:=1) (N:=some 8) (v:=?_) (a':=?_) #[false,true,false,false,false,false,false,false,false] rfl rfl (any_of HT_.out (by kernel_rfl)) (fun _ _ _ h=>h) (Or.inl ⟨by rfl,?_⟩) ?_ ?_
 rotate_left
 ·intro w'
  go_simp
  with_reducible rfl
 rotate_left
 ·simp only [Act.put,List.setIfInBounds_toArray,List.set_cons_zero,List.set_cons_succ,i64_w,i32_w]
  rfl
 refine pure_ (i:=3) (N:=some 10) (v:=?_) (a':=?_) #[false,true,false,true,false,false,false,false,false] rfl rfl (any_of HT_.out (by kernel_rfl)) (fun _ _ _ h=>h) (Or.inl ⟨by rfl,?_⟩) ?_ ?_
 rotate_left
 ·intro w'
  go_simp
  with_reducible rfl
 rotate_left
 ·simp only [Act.put,List.setIfInBounds_toArray,List.set_cons_zero,List.set_cons_succ,i64_w,i32_w]
  rfl
 refine pure_ (i:=6) (N:=some 13) (v:=?_) (a':=?_) #[false,true,false,true,false,false,true,false,false] rfl rfl (any_of HT_.out (by kernel_rfl)) (fun _ _ _ h=>h) (Or.inl ⟨by rfl,?_⟩) ?_ ?_
 rotate_left
 ·intro w'
  go_simp
  with_reducible rfl
 rotate_left
 ·simp only [Act.put,List.setIfInBounds_toArray,List.set_cons_zero,List.set_cons_succ,i64_w,i32_w]
  rfl
 refine take_ (i:=0) (N:=some 7) (v:=?_) (a':=?_) #[true,true,false,true,false,false,true,false,false] rfl rfl (take_ofW HT_.out HW_.out (by kernel_rfl)) (fun _ _ _ h=>h) (Or.inl ⟨by rfl,?_⟩) hHeld ?_ ?_
 rotate_left
 ·rintro w' ⟨s0,s1⟩
  go_simp
  with_reducible rfl
 rotate_left
 ·simp only [Act.put,List.setIfInBounds_toArray,List.set_cons_zero,List.set_cons_succ,i64_w,i32_w]
  rfl
 refine take_ (i:=4) (N:=some 11) (v:=?_) (a':=?_) #[true,true,false,true,true,false,true,false,false] rfl rfl (take_ofW HT_.out HW_.out (by kernel_rfl)) (fun _ _ _ h=>h) (Or.inl ⟨by rfl,?_⟩) hHeld ?_ ?_
 rotate_left
 ·rintro w' ⟨s0,s1⟩
  go_simp
  with_reducible rfl
 rotate_left
 ·simp only [Act.put,List.setIfInBounds_toArray,List.set_cons_zero,List.set_cons_succ,i64_w,i32_w]
  rfl
 refine pure_ (i:=5) (N:=some 12) (v:=?_) (a':=?_) #[true,true,false,true,true,true,true,false,false] rfl rfl (any_of HT_.out (by kernel_rfl)) (fun _ _ _ h=>h) (Or.inl ⟨by rfl,?_⟩) ?_ ?_
 rotate_left
 ·intro w'
  go_simp
  with_reducible rfl
 rotate_left
 ·simp only [Act.put,List.setIfInBounds_toArray,List.set_cons_zero,List.set_cons_succ,i64_w,i32_w]
  rfl
 refine one_ (i:=2) (N:=some 9) #[true,true,true,true,true,true,true,false,false] rfl rfl (one_of HT_.out (by kernel_rfl)) (by decide) (fun K hK=>?_)
 refine goes_ Try.func85 (by kernel_rfl) rfl #[.agg #[.slice A0_0 l0_0.length c0_0,.bool a0_1],.slice A2 l2.length c2] (by rfl) rfl rfl (by (try simp only [List.map_toArray,List.map_cons,List.map_nil]);first|done|rfl|(simp only [List.length_drop,List.length_take];rfl)) ?_
 with_reducible refine (impl_Graph_toggleRows.calls k _ _ l0_0 a0_1 _ _ l2 t557 _ ?side1 ?side2 ?side3 ?side4 A4.out).mono ?_
 (case side1=>repeat (first|exact (Kd.C_below HR0_0.out HB.out)|(with_reducible refine Kd.C_alloc ?_ _)|(with_reducible refine Kd.C_drewN ?_ _)|(with_reducible refine Kd.C_drew ?_)))
 (case side2=>exact HC0_0.out)
 (case side3=>repeat (first|exact (Kd.C_below HR2.out HB.out)|(with_reducible refine Kd.C_alloc ?_ _)|(with_reducible refine Kd.C_drewN ?_ _)|(with_reducible refine Kd.C_drew ?_)))
 (case side4=>exact HC2.out)
 rintro e w9 ⟨v558,rfl,ho0,hb⟩
 have HLT555:=Aside0.mk (blk_lt BK555.out)
 have HLT556:=Aside0.mk (blk_lt BK556.out)
 have HWL_:=Aside0.mk (below_size HB.out)
 have HON_:=Aside0.mk (Kd.S_lower (Kd.S_mono (ok':=fun k_=>w8.heap.size≤k_) (Kd.S_bound ho0) (fun k_ hk=>hk.2.1)) HWL_.out)
 refine ⟨_,rfl,?_⟩
 have n0_:=Aside0.mk (Kd.S_lower ho0 (below_size (by repeat (first|(with_reducible first|exact HB.out|apply below_alloc|apply pw_below_drewN|apply below_drew1|refine below_set ?_ GE555.out|refine below_set ?_ GE556.out)|exact HB.out))))
 have n1_:=Aside0.mk (blk_below (g:=gb555) (o:=.cells #[.slice A0_0 l0_0.length c0_0,.bool a0_1] 28 (0,0)) (by (with_reducible repeat (first|refine blk_drewN ?_ _|refine blk_drew ?_|refine blk_alloc ?_ _));exact BK555.out) hb)
 have n2_:=Aside0.mk (blk_below (g:=gb556) (o:=.cells #[.slice none 0 0,.slice none 0 0,.int .i64 0] 60 (0,0)) (by (with_reducible repeat (first|refine blk_drewN ?_ _|refine blk_drew ?_|refine blk_alloc ?_ _));exact BK556.out) hb)
 have n3_:=Aside0.mk (below_step (by repeat (first|(with_reducible first|exact HB.out|apply below_alloc|apply pw_below_drewN|apply below_drew1|refine below_set ?_ GE555.out|refine below_set ?_ GE556.out)|exact HB.out)) hb)
 clear BK555;clear BK556;clear HB
 have HO559:=n0_
 have BK555:=n1_
 have BK556:=n2_
 have HB:=n3_
 clear n0_ n1_ n2_ n3_;(try clear hb);(try clear hb2);(try clear hk);(try clear hi);(try clear ho0)
 obtain ⟨Ao10,co10,eo10⟩:=Kd.S_slice HO559.out
 (first|subst eo10|(injection eo10 with f1_ f2_ f3_;have f4_:=f1_.symm;have f5_:=f3_.symm;clear f1_ f2_ f3_;subst f4_;subst f5_))
 refine hK.out _ _ ⟨(blk_cell BK555.out 0).trans rfl,(blk_cell BK555.out 1).trans rfl⟩ (fun hHeld=>?_)
 clear hK K
 refine norm_ (a':=?_) ?_ ?_
 rotate_left
 ·show Act.put _ (some 9) _=_
  simp only [Act.put,List.setIfInBounds_toArray,List.set_cons_zero,List.set_cons_succ,i64_w,i32_w]
  rfl
 refine one_ (i:=7) (N:=some 14) #[true,true,true,true,true,true,true,true,false] rfl rfl (one_of HT_.out (by kernel_rfl)) (by decide) (fun K hK=>?_)
 refine goes_ Try.func84 (by kernel_rfl) rfl #[.slice Ao10 t557.length co10,.int .i64 (l0_0.length:Int),.int .i64 a1] (by rfl) rfl rfl (by (try simp only [List.map_toArray,List.map_cons,List.map_nil]);first|done|rfl|(simp only [List.length_drop,List.length_take];rfl)) ?_
 with_reducible refine (impl_eliminate.calls k (fun k_=>w8.heap.size≤k_) _ t557 (l0_0.length:Int) a1 t560 t563 t566 w _ ?side1 ?side2 (by have h_:=A5.out;unfold pseudo_elimS.f at h_;exact h_)).mono ?_
 (case side1=>exact HB.out)
 (case side2=>exact HON_.out)
 rintro e w11 ⟨v561,v564,rfl,ho0,ho1,hb,hk⟩
 refine ⟨_,rfl,?_⟩
 have n1_:=Aside0.mk (Kd.S_mono (ok':=fun k_=>(some k_≠(v564:Value).ownBlock)∧True) ho0 (fun k_ hk_=>⟨hk_.2,trivial⟩))
 have n2_:=Aside0.mk (Kd.R_mono (ok':=fun _=>True) ho1 (fun k_ hk_=>trivial))
 have n3_:=Aside0.mk ((hk.2 gb555 (blk_lt BK555.out) (by have h2_:=HLT555.out;omega)).trans BK555.out)
 have n4_:=Aside0.mk ((hk.2 gb556 (blk_lt BK556.out) (by have h2_:=HLT556.out;omega)).trans BK556.out)
 have n5_:=Aside0.mk hb
 clear HO559;clear BK555;clear BK556;clear HB
 have HO562:=n1_
 have HO565:=n2_
 have BK555:=n3_
 have BK556:=n4_
 have HB:=n5_
 clear n1_ n2_ n3_ n4_ n5_ hk ho0 ho1 hb;(try clear hb);(try clear hb2);(try clear hk);(try clear hi);(try clear ho0);(try clear ho1)
 obtain ⟨Ao12,co12,eo12⟩:=Kd.S_slice HO562.out
 (first|subst eo12|(injection eo12 with f1_ f2_ f3_;have f4_:=f1_.symm;have f5_:=f3_.symm;clear f1_ f2_ f3_;subst f4_;subst f5_))
 obtain ⟨Ao14,co14,eo14⟩:=Kd.R_slice HO565.out
 (first|subst eo14|(injection eo14 with f1_ f2_ f3_;have f4_:=f1_.symm;have f5_:=f3_.symm;clear f1_ f2_ f3_;subst f4_;subst f5_))
 refine hK.out _ _ ⟨(blk_cell BK555.out 0).trans rfl,(blk_cell BK555.out 1).trans rfl⟩ (fun hHeld=>?_)
 clear hK K
 refine norm_ (a':=?_) ?_ ?_
 rotate_left
 ·show Act.put _ (some 14) _=_
  simp only [Act.put,List.setIfInBounds_toArray,List.set_cons_zero,List.set_cons_succ,i64_w,i32_w]
  rfl
 refine one_ (i:=8) (N:=none) #[true,true,true,true,true,true,true,true,true] rfl rfl (one_of HT_.out (by kernel_rfl)) (by decide) (fun K hK=>?_)
 have hs13:w11.cell? ⟨gb556,0,none⟩=some (.slice none 0 0):=(blk_cell BK556.out 0).trans rfl
 have hfs13:=blk_frozen BK556.out 0
 have hns13_0:=NB555_556.out
 have hms13_0:=NB556_555.out
 have hs15:w11.cell? ⟨gb556,1,none⟩=some (.slice none 0 0):=(blk_cell BK556.out 1).trans rfl
 have hfs15:=blk_frozen BK556.out 1
 have hns15_0:=NB555_556.out
 have hms15_0:=NB556_555.out
 have hs16:w11.cell? ⟨gb556,2,none⟩=some (.int .i64 0):=(blk_cell BK556.out 2).trans rfl
 have hfs16:=blk_frozen BK556.out 2
 have hns16_0:=NB555_556.out
 have hms16_0:=NB556_555.out
 refine skip_ (w1:=?_) (by rfl) rfl ?_ ?_
 rotate_left
 ·go_simp
  rfl
 refine hK.out _ _ ⟨((cell_far (p:=⟨gb556,_,none⟩) NB555_556.out _).trans (((cell_far (p:=⟨gb556,_,none⟩) NB555_556.out _).trans (((cell_far (p:=⟨gb556,_,none⟩) NB555_556.out _).trans (hHeld.1)))))),((cell_far (p:=⟨gb556,_,none⟩) NB555_556.out _).trans (((cell_far (p:=⟨gb556,_,none⟩) NB555_556.out _).trans (((cell_far (p:=⟨gb556,_,none⟩) NB555_556.out _).trans (hHeld.2))))))⟩ (fun hHeld=>?_)
 clear hK K
 refine done_ (done_of HT_.out (by kernel_rfl)) ?_
 try go_wp2
 refine bodyPost_ret (results_cell_row rfl _ _ gb556 60 #[.slice Ao12 t560.length co12,.slice Ao14 t563.length co14,.int .i64 t566] (0,0) _ rfl (by (with_reducible repeat (first|refine blk_drewN ?_ _|refine blk_drew ?_|refine blk_alloc ?_ _));refine blk_put (cs:=#[.slice Ao12 t560.length co12,.slice Ao14 t563.length co14,.int .i64 0]) ?_ 2 _ rfl;(with_reducible repeat (first|refine blk_drewN ?_ _|refine blk_drew ?_|refine blk_alloc ?_ _));refine blk_put (cs:=#[.slice Ao12 t560.length co12,.slice none 0 0,.int .i64 0]) ?_ 1 _ rfl;(with_reducible repeat (first|refine blk_drewN ?_ _|refine blk_drew ?_|refine blk_alloc ?_ _));refine blk_put (cs:=#[.slice none 0 0,.slice none 0 0,.int .i64 0]) ?_ 0 _ rfl;(with_reducible repeat (first|refine blk_drewN ?_ _|refine blk_drew ?_|refine blk_alloc ?_ _));exact BK556.out) Try.underlying60 rfl (by kernel_rfl)) rfl ?_
 exact ⟨_,_,by first|rfl|(simp [errW_none,errW_some]<;>rfl)|(simp [*,errW_none,errW_some]<;>rfl),by (with_reducible repeat (first|apply Kd.S_alloc|apply Kd.S_drewN|apply Kd.S_drew));exact Kd.S_mono (Kd.S_far (p:=⟨gb556,2,none⟩) (Kd.S_far (p:=⟨gb556,1,none⟩) (Kd.S_far (p:=⟨gb556,0,none⟩) (Kd.S_types HO562.out BK556.out (by decide)) (fun _ hk=>hk.2) (.slice Ao12 t560.length co12)) (fun _ hk=>hk.2) (.slice Ao14 t563.length co14)) (fun _ hk=>hk.2) (.int .i64 t566)) (fun _ hk=>hk.1.1),by (with_reducible repeat (first|apply Kd.R_alloc|apply Kd.R_drewN|apply Kd.R_drew));exact Kd.R_mono (Kd.R_far (p:=⟨gb556,2,none⟩) (Kd.R_far (p:=⟨gb556,1,none⟩) (Kd.R_far (p:=⟨gb556,0,none⟩) (Kd.R_types HO565.out BK556.out (by decide)) (fun _ hk=>hk.2) (.slice Ao12 t560.length co12)) (fun _ hk=>hk.2) (.slice Ao14 t563.length co14)) (fun _ hk=>hk.2) (.int .i64 t566)) (fun _ hk=>trivial),by repeat (first|(with_reducible first|exact HB.out|apply below_alloc|apply pw_below_drewN|apply below_drew1|refine below_set ?_ GE555.out|refine below_set ?_ GE556.out)|exact HB.out)⟩
end Go.Proofs.Ytbbdjoahdbjljaa.P
