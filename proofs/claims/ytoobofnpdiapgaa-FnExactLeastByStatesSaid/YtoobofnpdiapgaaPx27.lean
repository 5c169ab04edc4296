-- Written by a program of this session (wip/mp.py), which runs the kit's print with contracts of the session's own.
import Derived.Test.YtoobofnpdiapgaaPx0
import Derived.Test.YtoobofnpdiapgaaPx26
namespace Go.Proofs.Ytoobofnpdiapgaa.P
open Go.RowKit Go.Proofs.YtoobofnpdiapgaaW.PrintWords Go.Proofs.YtoobofnpdiapgaaW.PrintLast Go.Proofs.YtoobofnpdiapgaaW.PrintMore
attribute [local go_sem] max2_int min2_int max_two min_two max_three min_three max_four min_four -- for this text's walks alone
set_option linter.unusedVariables false
set_option linter.unusedSimpArgs false
/-! ### spec_trBelow: function 84 -/
mutual
def spec_trBelow.l0:Nat→List Int→Int→Int→Int→Int→List Int→Int→Int→List Int→Bool→Int→Int→Int→Int→Option (Int × Int)
 |0,_,_,_,_,_,_,_,_,_,_,_,_,_,_=>none
 |k+1,x1,x2,x3,x4,x5,x22,x23,x24,x385000,x385001,x387000,x387001,x388000,x388001=>if x24< x23 then (if 0≤x24 then (if x24< (x22.length:Int) then (if (rd x22 x24)=x3 then ((spec_trBelow.f k x385000 x385001 x1 x2 x24 0 x4).bind fun bt389=>((spec_trBelow.f k x385000 x385001 x1 x2 x24 1 x4).bind fun bt392=>((spec_trNext.f x387000 x387001 bt389.1 bt389.2).bind fun bt395=>((spec_trNext.f x388000 x388001 bt392.1 bt392.2).bind fun bt397=>((spec_trBoth.f bt395.1 bt395.2 bt397.1 bt397.2).bind fun bt399=>((spec_trNext.f x387000 x387001 bt392.1 bt392.2).bind fun bt401=>((spec_trNext.f x388000 x388001 bt389.1 bt389.2).bind fun bt403=>((spec_trBoth.f bt401.1 bt401.2 bt403.1 bt403.2).bind fun bt405=>(spec_trBelow.l0 k x1 x2 x3 x4 x5 x22 x23 (wrap64 (x24+1)) x385000 x385001 bt399.1 bt399.2 bt405.1 bt405.2))))))))) else (spec_trBelow.l0 k x1 x2 x3 x4 x5 x22 x23 (wrap64 (x24+1)) x385000 x385001 x387000 x387001 x388000 x388001)) else (none)) else (none)) else (if 0≤x3 then (if x385001=true then (spec_trBelow.j1 k x4 (wrap64 ((wrap64 ((Int.tmod (shr .i64 x2 x3) 2)+x5))+x4)) x387000 x387001 x388000 x388001) else (spec_trBelow.j1 k x4 (wrap64 ((Int.tmod (shr .i64 x2 x3) 2)+x5)) x387000 x387001 x388000 x388001)) else (none))
def spec_trBelow.j1:Nat→Int→Int→Int→Int→Int→Int→Option (Int × Int)
 |0,_,_,_,_,_,_=>none
 |k+1,x4,x19,x387000,x387001,x388000,x388001=>if (Int.tmod x19 2)=1 then (if x388000>0 then (some (x388000,wrap64 (x388001+x4))) else (some (x388000,x388001))) else (if x387000>0 then (some (x387000,wrap64 (x387001+x4))) else (some (x387000,x387001)))
def spec_trBelow.f:Nat→List Int→Bool→List Int→Int→Int→Int→Int→Option (Int × Int)
 |0,_,_,_,_,_,_,_=>none
 |k+1,l0_0,a0_1,l1,a2,a3,a4,a5=>spec_trBelow.l0 k l1 a2 a3 a4 a5 l1 (l1.length:Int) 0 l0_0 a0_1 1 0 0 0
end
def spec_trBelow.T8:Bool × List (List Nat × List Nat):=(true,[([],[]),([],[]),([0,1],[0,1]),([],[]),([],[]),([3,4,2],[3,4]),([2,5,5],[2,5]),([],[]),([],[]),([7,8,6],[7,8]),([],[]),([],[]),([10,11,9],[10,11]),([9,12,12],[9,12]),([6,13,0,1,2,3,4,5,6,7],[6]),([13,14,0,1,2,3,4,5,6,7,8,9,10,11,12,13,14],[13])])
def spec_trBelow.B8:List Nat:=[0,0,3,0,0,31,63,0,0,511,0,0,4095,8191,16383,32767]
theorem spec_trBelow.tab8:rtab .any (opsOf Try.f84 8)=spec_trBelow.T8:=by kernel_rfl
theorem spec_trBelow.bits8:waitsOk spec_trBelow.T8.2 spec_trBelow.B8=true:=by kernel_rfl
theorem spec_trBelow.twice (w:World) (a b:Addr) (u v v':Value) (hne:b≠a) (h:(w.cell? a).isSome=true):(((w.setCell b u).setCell a v).setCell a v').cell? a=some v':=by
 have h1:((w.setCell b u).cell? a).isSome=true:=by rw [World.cell?_setCell_other _ _ _ _ (by first|exact hne|exact hne.symm)];exact h
 exact World.cell?_setCell_same' _ _ _ (by rw [World.cell?_setCell_same' _ _ _ h1];rfl)
attribute [local go_sem] spec_trBelow.twice
set_option maxHeartbeats 8000000 in
set_option maxRecDepth 100000 in
theorem spec_trBelow.calls (k:Nat):∀ (A0_0:Option Addr) (c0_0:Nat) (l0_0:List Int) (a0_1:Bool) (A1:Option Addr) (c1:Nat) (l1:List Int) (a2:Int) (a3:Int) (a4:Int) (a5:Int) (r1:Int) (r2:Int) (w:World) (hr0_0:Kd.C (Kd.int .i64) w A0_0 l0_0.length l0_0) (hc0_0:l0_0.length≤c0_0) (hr1:Kd.C (Kd.int .i64) w A1 l1.length l1) (hc1:l1.length≤c1) (h:spec_trBelow.f k l0_0 a0_1 l1 a2 a3 a4 a5=some (r1,r2)),
  Calls Try.prog 84 #[.agg #[.slice A0_0 l0_0.length c0_0,.bool a0_1],.slice A1 l1.length c1,.int .i64 a2,.int .i64 a3,.int .i64 a4,.int .i64 a5] w fun e w'=>e=.returned (.agg #[.int .i64 r1,.int .i64 r2])∧Below w.heap.size w w':=by
 induction k using Nat.strongRecOn with
 |_ k ih=>
 intro A0_0 c0_0 l0_0 a0_1 A1 c1 l1 a2 a3 a4 a5 r1 r2 w hr0_0 hc0_0 hr1 hc1 h
 cases k with
 |zero=>exact absurd h (by simp [spec_trBelow.f])
 |succ k=>
 simp only [spec_trBelow.f] at h
 have hu28:=Try.underlying28
 have hu55:=Try.underlying55
 have HR0_0:=Aside0.mk hr0_0
 have HC0_0:=Aside0.mk hc0_0
 clear hr0_0 hc0_0
 have HR1:=Aside0.mk hr1
 have HC1:=Aside0.mk hc1
 clear hr1 hc1
 have HB:=Aside0.mk (Below.refl w.heap.size w)
 have H:(spec_trBelow.l0 k l1 a2 a3 a4 a5 l1 (l1.length:Int) 0 l0_0 a0_1 1 0 0 0)=some (r1,r2):=h
 clear h
 have H':=Aside0.mk H
 clear H
 go_enter Try.func84,Try.ntmps84
 go_wp2_with (first|((with_reducible refine gate_dst (N:=6) rfl ?_);refine box_event ?hg (N:=6) ?hd (cs:=#[.slice A0_0 l0_0.length c0_0,.bool a0_1]) (t:=28) ?hr ?_;(case hd=>rfl);(case hg=>rfl);(case hr=>first|(go_simp;done)|(go_simp;rfl));intro gb384 hg w7 hbox hb;have n0_:=Aside0.mk (below_step (by repeat (first|(with_reducible first|exact HB.out|apply below_alloc|apply pw_below_drewN|apply below_drew1)|exact HB.out)) hb);have n1_:=Aside0.mk (hbox);have n2_:=Aside0.mk ((by rw [hg];exact (below_size (by repeat (first|(with_reducible first|exact HB.out|apply below_alloc|apply pw_below_drewN|apply below_drew1)|exact HB.out))):w.heap.size≤gb384));have n3_:=Aside0.mk ((by rw [hg];exact (below_size (by repeat (first|(with_reducible first|exact HB.out|apply below_alloc|apply pw_below_drewN|apply below_drew1)|exact HB.out))):w.heap.size≤gb384));clear HB;have HB:=n0_;have BK384:=n1_;have GW384:=n2_;have GE384:=n3_;clear n0_ n1_ n2_ n3_;clear hb hbox hg)|((with_reducible refine gate_dst (N:=12) rfl ?_);refine box_event ?hg (N:=12) ?hd (cs:=#[.int .i64 0,.int .i64 0]) (t:=55) ?hr ?_;(case hd=>rfl);(case hg=>rfl);(case hr=>first|(go_simp;done)|(go_simp;rfl));intro gb385 hg w8 hbox hb;have n0_:=Aside0.mk (blk_below (g:=gb384) (o:=.cells #[.slice A0_0 l0_0.length c0_0,.bool a0_1] 28 (0,0)) (by (with_reducible repeat (first|refine blk_drewN ?_ _|refine blk_drew ?_|refine blk_alloc ?_ _));exact BK384.out) hb);have n1_:=Aside0.mk (below_step (by repeat (first|(with_reducible first|exact HB.out|apply below_alloc|apply pw_below_drewN|apply below_drew1|refine below_set ?_ GE384.out)|exact HB.out)) hb);have n2_:=Aside0.mk (hbox);have n3_:=Aside0.mk ((by rw [hg];exact (below_size (by repeat (first|(with_reducible first|exact HB.out|apply below_alloc|apply pw_below_drewN|apply below_drew1|refine below_set ?_ GE384.out)|exact HB.out))):w.heap.size≤gb385));have n4_:=Aside0.mk ((by rw [hg];exact (below_size (by repeat (first|(with_reducible first|exact HB.out|apply below_alloc|apply pw_below_drewN|apply below_drew1|refine below_set ?_ GE384.out)|exact HB.out))):w.heap.size≤gb385));have n5_:=Aside0.mk ((by rw [hg];exact Nat.ne_of_lt (blk_lt (g:=gb384) (o:=.cells #[.slice A0_0 l0_0.length c0_0,.bool a0_1] 28 (0,0)) (by (with_reducible repeat (first|refine blk_drewN ?_ _|refine blk_drew ?_|refine blk_alloc ?_ _));exact BK384.out)):gb384≠gb385));have n6_:=Aside0.mk ((by rw [hg];exact Nat.ne_of_gt (blk_lt (g:=gb384) (o:=.cells #[.slice A0_0 l0_0.length c0_0,.bool a0_1] 28 (0,0)) (by (with_reducible repeat (first|refine blk_drewN ?_ _|refine blk_drew ?_|refine blk_alloc ?_ _));exact BK384.out)):gb385≠gb384));clear BK384;clear HB;have BK384:=n0_;have HB:=n1_;have BK385:=n2_;have GW385:=n3_;have GE385:=n4_;have NB384_385:=n5_;have NB385_384:=n6_;clear n0_ n1_ n2_ n3_ n4_ n5_ n6_;clear hb hbox hg)|((with_reducible refine gate_dst (N:=13) rfl ?_);refine box_event ?hg (N:=13) ?hd (cs:=#[.int .i64 0,.int .i64 0]) (t:=55) ?hr ?_;(case hd=>rfl);(case hg=>rfl);(case hr=>first|(go_simp;done)|(go_simp;rfl));intro gb386 hg w9 hbox hb;have n0_:=Aside0.mk (blk_below (g:=gb384) (o:=.cells #[.slice A0_0 l0_0.length c0_0,.bool a0_1] 28 (0,0)) (by (with_reducible repeat (first|refine blk_drewN ?_ _|refine blk_drew ?_|refine blk_alloc ?_ _));exact BK384.out) hb);have n1_:=Aside0.mk (blk_below (g:=gb385) (o:=.cells #[.int .i64 0,.int .i64 0] 55 (0,0)) (by (with_reducible repeat (first|refine blk_drewN ?_ _|refine blk_drew ?_|refine blk_alloc ?_ _));exact BK385.out) hb);have n2_:=Aside0.mk (below_step (by repeat (first|(with_reducible first|exact HB.out|apply below_alloc|apply pw_below_drewN|apply below_drew1|refine below_set ?_ GE384.out|refine below_set ?_ GE385.out)|exact HB.out)) hb);have n3_:=Aside0.mk (hbox);have n4_:=Aside0.mk ((by rw [hg];exact (below_size (by repeat (first|(with_reducible first|exact HB.out|apply below_alloc|apply pw_below_drewN|apply below_drew1|refine below_set ?_ GE384.out|refine below_set ?_ GE385.out)|exact HB.out))):w.heap.size≤gb386));have n5_:=Aside0.mk ((by rw [hg];exact (below_size (by repeat (first|(with_reducible first|exact HB.out|apply below_alloc|apply pw_below_drewN|apply below_drew1|refine below_set ?_ GE384.out|refine below_set ?_ GE385.out)|exact HB.out))):w.heap.size≤gb386));have n6_:=Aside0.mk ((by rw [hg];exact Nat.ne_of_lt (blk_lt (g:=gb384) (o:=.cells #[.slice A0_0 l0_0.length c0_0,.bool a0_1] 28 (0,0)) (by (with_reducible repeat (first|refine blk_drewN ?_ _|refine blk_drew ?_|refine blk_alloc ?_ _));exact BK384.out)):gb384≠gb386));have n7_:=Aside0.mk ((by rw [hg];exact Nat.ne_of_gt (blk_lt (g:=gb384) (o:=.cells #[.slice A0_0 l0_0.length c0_0,.bool a0_1] 28 (0,0)) (by (with_reducible repeat (first|refine blk_drewN ?_ _|refine blk_drew ?_|refine blk_alloc ?_ _));exact BK384.out)):gb386≠gb384));have n8_:=Aside0.mk ((by rw [hg];exact Nat.ne_of_lt (blk_lt (g:=gb385) (o:=.cells #[.int .i64 0,.int .i64 0] 55 (0,0)) (by (with_reducible repeat (first|refine blk_drewN ?_ _|refine blk_drew ?_|refine blk_alloc ?_ _));exact BK385.out)):gb385≠gb386));have n9_:=Aside0.mk ((by rw [hg];exact Nat.ne_of_gt (blk_lt (g:=gb385) (o:=.cells #[.int .i64 0,.int .i64 0] 55 (0,0)) (by (with_reducible repeat (first|refine blk_drewN ?_ _|refine blk_drew ?_|refine blk_alloc ?_ _));exact BK385.out)):gb386≠gb385));clear BK384;clear BK385;clear HB;have BK384:=n0_;have BK385:=n1_;have HB:=n2_;have BK386:=n3_;have GW386:=n4_;have GE386:=n5_;have NB384_386:=n6_;have NB386_384:=n7_;have NB385_386:=n8_;have NB386_385:=n9_;clear n0_ n1_ n2_ n3_ n4_ n5_ n6_ n7_ n8_ n9_;clear hb hbox hg)|((with_reducible refine gate_dst (N:=14) rfl ?_);refine box_event ?hg (N:=14) ?hd (cs:=#[.int .i64 0,.int .i64 0]) (t:=55) ?hr ?_;(case hd=>rfl);(case hg=>rfl);(case hr=>first|(go_simp;done)|(go_simp;rfl));intro gb387 hg w10 hbox hb;have n0_:=Aside0.mk (blk_below (g:=gb384) (o:=.cells #[.slice A0_0 l0_0.length c0_0,.bool a0_1] 28 (0,0)) (by (with_reducible repeat (first|refine blk_drewN ?_ _|refine blk_drew ?_|refine blk_alloc ?_ _));exact BK384.out) hb);have n1_:=Aside0.mk (blk_below (g:=gb385) (o:=.cells #[.int .i64 0,.int .i64 0] 55 (0,0)) (by (with_reducible repeat (first|refine blk_drewN ?_ _|refine blk_drew ?_|refine blk_alloc ?_ _));exact BK385.out) hb);have n2_:=Aside0.mk (blk_below (g:=gb386) (o:=.cells #[.int .i64 0,.int .i64 0] 55 (0,0)) (by (with_reducible repeat (first|refine blk_drewN ?_ _|refine blk_drew ?_|refine blk_alloc ?_ _));exact BK386.out) hb);have n3_:=Aside0.mk (below_step (by repeat (first|(with_reducible first|exact HB.out|apply below_alloc|apply pw_below_drewN|apply below_drew1|refine below_set ?_ GE384.out|refine below_set ?_ GE385.out|refine below_set ?_ GE386.out)|exact HB.out)) hb);have n4_:=Aside0.mk (hbox);have n5_:=Aside0.mk ((by rw [hg];exact (below_size (by repeat (first|(with_reducible first|exact HB.out|apply below_alloc|apply pw_below_drewN|apply below_drew1|refine below_set ?_ GE384.out|refine below_set ?_ GE385.out|refine below_set ?_ GE386.out)|exact HB.out))):w.heap.size≤gb387));have n6_:=Aside0.mk ((by rw [hg];exact (below_size (by repeat (first|(with_reducible first|exact HB.out|apply below_alloc|apply pw_below_drewN|apply below_drew1|refine below_set ?_ GE384.out|refine below_set ?_ GE385.out|refine below_set ?_ GE386.out)|exact HB.out))):w.heap.size≤gb387));have n7_:=Aside0.mk ((by rw [hg];exact Nat.ne_of_lt (blk_lt (g:=gb384) (o:=.cells #[.slice A0_0 l0_0.length c0_0,.bool a0_1] 28 (0,0)) (by (with_reducible repeat (first|refine blk_drewN ?_ _|refine blk_drew ?_|refine blk_alloc ?_ _));exact BK384.out)):gb384≠gb387));have n8_:=Aside0.mk ((by rw [hg];exact Nat.ne_of_gt (blk_lt (g:=gb384) (o:=.cells #[.slice A0_0 l0_0.length c0_0,.bool a0_1] 28 (0,0)) (by (with_reducible repeat (first|refine blk_drewN ?_ _|refine blk_drew ?_|refine blk_alloc ?_ _));exact BK384.out)):gb387≠gb384));have n9_:=Aside0.mk ((by rw [hg];exact Nat.ne_of_lt (blk_lt (g:=gb385) (o:=.cells #[.int .i64 0,.int .i64 0] 55 (0,0)) (by (with_reducible repeat (first|refine blk_drewN ?_ _|refine blk_drew ?_|refine blk_alloc ?_ _));exact BK385.out)):gb385≠gb387));have n10_:=Aside0.mk ((by rw [hg];exact Nat.ne_of_gt (blk_lt (g:=gb385) (o:=.cells #[.int .i64 0,.int .i64 0] 55 (0,0)) (by (with_reducible repeat (first|refine blk_drewN ?_ _|refine blk_drew ?_|refine blk_alloc ?_ _));exact BK385.out)):gb387≠gb385));have n11_:=Aside0.mk ((by rw [hg];exact Nat.ne_of_lt (blk_lt (g:=gb386) (o:=.cells #[.int .i64 0,.int .i64 0] 55 (0,0)) (by (with_reducible repeat (first|refine blk_drewN ?_ _|refine blk_drew ?_|refine blk_alloc ?_ _));exact BK386.out)):gb386≠gb387));have n12_:=Aside0.mk ((by rw [hg];exact Nat.ne_of_gt (blk_lt (g:=gb386) (o:=.cells #[.int .i64 0,.int .i64 0] 55 (0,0)) (by (with_reducible repeat (first|refine blk_drewN ?_ _|refine blk_drew ?_|refine blk_alloc ?_ _));exact BK386.out)):gb387≠gb386));clear BK384;clear BK385;clear BK386;clear HB;have BK384:=n0_;have BK385:=n1_;have BK386:=n2_;have HB:=n3_;have BK387:=n4_;have GW387:=n5_;have GE387:=n6_;have NB384_387:=n7_;have NB387_384:=n8_;have NB385_387:=n9_;have NB387_385:=n10_;have NB386_387:=n11_;have NB387_386:=n12_;clear n0_ n1_ n2_ n3_ n4_ n5_ n6_ n7_ n8_ n9_ n10_ n11_ n12_;clear hb hbox hg;have hnb11:=NB386_384.out;have hnc11:=NB384_386.out;have hnb12:=NB386_385.out;have hnc12:=NB385_386.out;have hnb13:=NB386_387.out;have hnc13:=NB387_386.out;have hcz14_0:w10.cell? ⟨gb386,0,none⟩=some (.int .i64 0):=(blk_cell BK386.out 0).trans rfl;have hcz14_1:w10.cell? ⟨gb386,1,none⟩=some (.int .i64 0):=(blk_cell BK386.out 1).trans rfl;have hfz14_0:=blk_frozen BK386.out 0;have hfz14_1:=blk_frozen BK386.out 1;have hnb15:=NB387_384.out;have hnc15:=NB384_387.out;have hnb16:=NB387_385.out;have hnc16:=NB385_387.out;have hcz17_0:w10.cell? ⟨gb387,0,none⟩=some (.int .i64 0):=(blk_cell BK387.out 0).trans rfl;have hcz17_1:w10.cell? ⟨gb387,1,none⟩=some (.int .i64 0):=(blk_cell BK387.out 1).trans rfl;have hfz17_0:=blk_frozen BK387.out 0;have hfz17_1:=blk_frozen BK387.out 1))
 go_loopg [24] k (fun kq v24 w'=>∃ (x24_1:Int) (x387000_1:Int) (x387001_1:Int) (x388000_1:Int) (x388001_1:Int),v24=.int .i64 x24_1∧Aside0 (spec_trBelow.l0 kq l1 a2 a3 a4 a5 l1 (l1.length:Int) x24_1 l0_0 a0_1 x387000_1 x387001_1 x388000_1 x388001_1=some (r1,r2))∧Aside0 (kq≤k)∧Aside0 (w'.heap[gb384]?=some (.cells #[(.slice A0_0 l0_0.length c0_0),.bool a0_1] 28 (0,0)))∧Aside0 (w'.heap[gb385]?=some (.cells #[.int .i64 0,.int .i64 0] 55 (0,0)))∧Aside0 (w'.heap[gb386]?=some (.cells #[.int .i64 x387000_1,.int .i64 x387001_1] 55 (0,0)))∧Aside0 (w'.heap[gb387]?=some (.cells #[.int .i64 x388000_1,.int .i64 x388001_1] 55 (0,0)))∧Aside0 (Below w.heap.size w w'))
 case atStart=>exact ⟨(0),(1),(0),(0),(0),(by first|rfl|(simp;done)|(simp [*];done)),H',⟨Nat.le_refl _⟩,⟨by (with_reducible repeat (first|refine blk_drewN ?_ _|refine blk_drew ?_|refine blk_alloc ?_ _));refine blk_far ?_ NB384_387.out _;(with_reducible repeat (first|refine blk_drewN ?_ _|refine blk_drew ?_|refine blk_alloc ?_ _));refine blk_far ?_ NB384_387.out _;(with_reducible repeat (first|refine blk_drewN ?_ _|refine blk_drew ?_|refine blk_alloc ?_ _));refine blk_far ?_ NB384_386.out _;(with_reducible repeat (first|refine blk_drewN ?_ _|refine blk_drew ?_|refine blk_alloc ?_ _));refine blk_far ?_ NB384_386.out _;(with_reducible repeat (first|refine blk_drewN ?_ _|refine blk_drew ?_|refine blk_alloc ?_ _));exact BK384.out⟩,⟨by (with_reducible repeat (first|refine blk_drewN ?_ _|refine blk_drew ?_|refine blk_alloc ?_ _));refine blk_far ?_ NB385_387.out _;(with_reducible repeat (first|refine blk_drewN ?_ _|refine blk_drew ?_|refine blk_alloc ?_ _));refine blk_far ?_ NB385_387.out _;(with_reducible repeat (first|refine blk_drewN ?_ _|refine blk_drew ?_|refine blk_alloc ?_ _));refine blk_far ?_ NB385_386.out _;(with_reducible repeat (first|refine blk_drewN ?_ _|refine blk_drew ?_|refine blk_alloc ?_ _));refine blk_far ?_ NB385_386.out _;(with_reducible repeat (first|refine blk_drewN ?_ _|refine blk_drew ?_|refine blk_alloc ?_ _));exact BK385.out⟩,⟨by (with_reducible repeat (first|refine blk_drewN ?_ _|refine blk_drew ?_|refine blk_alloc ?_ _));refine blk_far ?_ NB386_387.out _;(with_reducible repeat (first|refine blk_drewN ?_ _|refine blk_drew ?_|refine blk_alloc ?_ _));refine blk_far ?_ NB386_387.out _;(with_reducible repeat (first|refine blk_drewN ?_ _|refine blk_drew ?_|refine blk_alloc ?_ _));refine blk_put (cs:=#[.int .i64 1,.int .i64 0]) ?_ 1 _ rfl;(with_reducible repeat (first|refine blk_drewN ?_ _|refine blk_drew ?_|refine blk_alloc ?_ _));refine blk_put (cs:=#[.int .i64 0,.int .i64 0]) ?_ 0 _ rfl;(with_reducible repeat (first|refine blk_drewN ?_ _|refine blk_drew ?_|refine blk_alloc ?_ _));exact BK386.out⟩,⟨by (with_reducible repeat (first|refine blk_drewN ?_ _|refine blk_drew ?_|refine blk_alloc ?_ _));refine blk_put (cs:=#[.int .i64 0,.int .i64 0]) ?_ 1 _ rfl;(with_reducible repeat (first|refine blk_drewN ?_ _|refine blk_drew ?_|refine blk_alloc ?_ _));refine blk_put (cs:=#[.int .i64 0,.int .i64 0]) ?_ 0 _ rfl;(with_reducible repeat (first|refine blk_drewN ?_ _|refine blk_drew ?_|refine blk_alloc ?_ _));refine blk_far ?_ NB387_386.out _;(with_reducible repeat (first|refine blk_drewN ?_ _|refine blk_drew ?_|refine blk_alloc ?_ _));refine blk_far ?_ NB387_386.out _;(with_reducible repeat (first|refine blk_drewN ?_ _|refine blk_drew ?_|refine blk_alloc ?_ _));exact BK387.out⟩,⟨by repeat (first|(with_reducible first|exact HB.out|apply below_alloc|apply pw_below_drewN|apply below_drew1|refine below_set ?_ GE384.out|refine below_set ?_ GE385.out|refine below_set ?_ GE386.out|refine below_set ?_ GE387.out)|exact HB.out)⟩⟩
 case round=>
  clear H'
  (try clear c1);(try clear p2);(try clear c8);(try clear c11);(try clear c12);(try clear c13);(try clear c15);(try clear c16);(try clear hcz14_0);(try clear hcz14_1);(try clear hcz17_0);(try clear hcz17_1);(try clear hfz14_0);(try clear hfz14_1);(try clear hfz17_0);(try clear hfz17_1)
  obtain ⟨x24_1,x387000_1,x387001_1,x388000_1,x388001_1,rfl,HA,HK1,BK384,BK385,BK386,BK387,HB⟩:=hrel
  cases gk with
  |zero=>exact absurd HA.out (by simp [spec_trBelow.l0])
  |succ k1=>
   have H:=HA.out
   clear HA
   simp only [spec_trBelow.l0] at H
   by_cases c18:x24_1< (l1.length:Int)
   ·rw [if_pos c18] at H
    have c18b0:decide (x24_1< (l1.length:Int))=true:=decide_eq_true c18
    clear c18
    by_cases c19:0≤x24_1
    ·rw [if_pos c19] at H
     have c19b0:decide (0≤x24_1)=true:=decide_eq_true c19
     clear c19
     by_cases c20:x24_1< (l1.length:Int)
     ·rw [if_pos c20] at H
      have c20b0:decide (x24_1< (l1.length:Int))=true:=decide_eq_true c20
      clear c20
      by_cases c21:(rd l1 x24_1)=a3
      ·rw [if_pos c21] at H
       have c21b0:((rd l1 x24_1)==a3)=true:=beq_iff_eq.mpr c21
       have c21b1:((rd l1 x24_1) !=a3)=false:=bne_eq_false_iff_eq.mpr c21
       clear c21
       replace H:=Option.bind_eq_some_iff.mp H
       obtain ⟨⟨t389,t390⟩,A220,H⟩:=H
       replace H:((spec_trBelow.f k1 l0_0 a0_1 l1 a2 x24_1 1 a4).bind fun bt392=>((spec_trNext.f x387000_1 x387001_1 t389 t390).bind fun bt395=>((spec_trNext.f x388000_1 x388001_1 bt392.1 bt392.2).bind fun bt397=>((spec_trBoth.f bt395.1 bt395.2 bt397.1 bt397.2).bind fun bt399=>((spec_trNext.f x387000_1 x387001_1 bt392.1 bt392.2).bind fun bt401=>((spec_trNext.f x388000_1 x388001_1 t389 t390).bind fun bt403=>((spec_trBoth.f bt401.1 bt401.2 bt403.1 bt403.2).bind fun bt405=>(spec_trBelow.l0 k1 l1 a2 a3 a4 a5 l1 (l1.length:Int) (wrap64 (x24_1+1)) l0_0 a0_1 bt399.1 bt399.2 bt405.1 bt405.2))))))))=some (r1,r2):=H
       have A22:=Aside0.mk A220
       clear A220
       replace H:=Option.bind_eq_some_iff.mp H
       obtain ⟨⟨t392,t393⟩,A230,H⟩:=H
       replace H:((spec_trNext.f x387000_1 x387001_1 t389 t390).bind fun bt395=>((spec_trNext.f x388000_1 x388001_1 t392 t393).bind fun bt397=>((spec_trBoth.f bt395.1 bt395.2 bt397.1 bt397.2).bind fun bt399=>((spec_trNext.f x387000_1 x387001_1 t392 t393).bind fun bt401=>((spec_trNext.f x388000_1 x388001_1 t389 t390).bind fun bt403=>((spec_trBoth.f bt401.1 bt401.2 bt403.1 bt403.2).bind fun bt405=>(spec_trBelow.l0 k1 l1 a2 a3 a4 a5 l1 (l1.length:Int) (wrap64 (x24_1+1)) l0_0 a0_1 bt399.1 bt399.2 bt405.1 bt405.2)))))))=some (r1,r2):=H
       have A23:=Aside0.mk A230
       clear A230
       replace H:=Option.bind_eq_some_iff.mp H
       obtain ⟨⟨t395,t396⟩,A240,H⟩:=H
       replace H:((spec_trNext.f x388000_1 x388001_1 t392 t393).bind fun bt397=>((spec_trBoth.f t395 t396 bt397.1 bt397.2).bind fun bt399=>((spec_trNext.f x387000_1 x387001_1 t392 t393).bind fun bt401=>((spec_trNext.f x388000_1 x388001_1 t389 t390).bind fun bt403=>((spec_trBoth.f bt401.1 bt401.2 bt403.1 bt403.2).bind fun bt405=>(spec_trBelow.l0 k1 l1 a2 a3 a4 a5 l1 (l1.length:Int) (wrap64 (x24_1+1)) l0_0 a0_1 bt399.1 bt399.2 bt405.1 bt405.2))))))=some (r1,r2):=H
       have A24:=Aside0.mk A240
       clear A240
       replace H:=Option.bind_eq_some_iff.mp H
       obtain ⟨⟨t397,t398⟩,A250,H⟩:=H
       replace H:((spec_trBoth.f t395 t396 t397 t398).bind fun bt399=>((spec_trNext.f x387000_1 x387001_1 t392 t393).bind fun bt401=>((spec_trNext.f x388000_1 x388001_1 t389 t390).bind fun bt403=>((spec_trBoth.f bt401.1 bt401.2 bt403.1 bt403.2).bind fun bt405=>(spec_trBelow.l0 k1 l1 a2 a3 a4 a5 l1 (l1.length:Int) (wrap64 (x24_1+1)) l0_0 a0_1 bt399.1 bt399.2 bt405.1 bt405.2)))))=some (r1,r2):=H
       have A25:=Aside0.mk A250
       clear A250
       replace H:=Option.bind_eq_some_iff.mp H
       obtain ⟨⟨t399,t400⟩,A260,H⟩:=H
       replace H:((spec_trNext.f x387000_1 x387001_1 t392 t393).bind fun bt401=>((spec_trNext.f x388000_1 x388001_1 t389 t390).bind fun bt403=>((spec_trBoth.f bt401.1 bt401.2 bt403.1 bt403.2).bind fun bt405=>(spec_trBelow.l0 k1 l1 a2 a3 a4 a5 l1 (l1.length:Int) (wrap64 (x24_1+1)) l0_0 a0_1 t399 t400 bt405.1 bt405.2))))=some (r1,r2):=H
       have A26:=Aside0.mk A260
       clear A260
       replace H:=Option.bind_eq_some_iff.mp H
       obtain ⟨⟨t401,t402⟩,A270,H⟩:=H
       replace H:((spec_trNext.f x388000_1 x388001_1 t389 t390).bind fun bt403=>((spec_trBoth.f t401 t402 bt403.1 bt403.2).bind fun bt405=>(spec_trBelow.l0 k1 l1 a2 a3 a4 a5 l1 (l1.length:Int) (wrap64 (x24_1+1)) l0_0 a0_1 t399 t400 bt405.1 bt405.2)))=some (r1,r2):=H
       have A27:=Aside0.mk A270
       clear A270
       replace H:=Option.bind_eq_some_iff.mp H
       obtain ⟨⟨t403,t404⟩,A280,H⟩:=H
       replace H:((spec_trBoth.f t401 t402 t403 t404).bind fun bt405=>(spec_trBelow.l0 k1 l1 a2 a3 a4 a5 l1 (l1.length:Int) (wrap64 (x24_1+1)) l0_0 a0_1 t399 t400 bt405.1 bt405.2))=some (r1,r2):=H
       have A28:=Aside0.mk A280
       clear A280
       replace H:=Option.bind_eq_some_iff.mp H
       obtain ⟨⟨t405,t406⟩,A290,H⟩:=H
       replace H:(spec_trBelow.l0 k1 l1 a2 a3 a4 a5 l1 (l1.length:Int) (wrap64 (x24_1+1)) l0_0 a0_1 t399 t400 t405 t406)=some (r1,r2):=H
       have A29:=Aside0.mk A290
       clear A290
       have H':=Aside0.mk H
       clear H
       have p388:0≤(x24_1:Int):=of_decide_eq_true (by first|(with_reducible assumption)|assumption)
       have q388:x24_1< (l1.length:Int):=of_decide_eq_true (by first|(with_reducible assumption)|assumption)
       obtain ⟨ad388,e388,hx388_0⟩:=Kd.at_int HR1.out x24_1 p388 q388
       cases e388
       replace hx388_0:=(HB.out.cell (World.block_lt_of_cell? w _ hx388_0)).trans hx388_0
       replace p388:=eq_true p388
       replace q388:=eq_true q388
       have hnb30:=NB384_385.out
       have hnc30:=NB385_384.out
       have hnb31:=NB384_386.out
       have hnc31:=NB386_384.out
       have hnb32:=NB384_387.out
       have hnc32:=NB387_384.out
       have hcz33_0:wr.cell? ⟨gb384,0,none⟩=some (.slice A0_0 l0_0.length c0_0):=(blk_cell BK384.out 0).trans rfl
       have hcz33_1:wr.cell? ⟨gb384,1,none⟩=some (.bool a0_1):=(blk_cell BK384.out 1).trans rfl
       have hfz33_0:=blk_frozen BK384.out 0
       have hfz33_1:=blk_frozen BK384.out 1
       try go_wp2_with (first|((with_reducible refine gate_callee (f:=84) rfl ?_);refine goesL_ (some 37) rfl rfl Try.func84 (by kernel_rfl) rfl #[.agg #[.slice A0_0 l0_0.length c0_0,.bool a0_1],.slice (some ad388) l1.length c1,.int .i64 a2,.int .i64 x24_1,.int .i64 0,.int .i64 a4] rfl (by (try simp only [List.map_toArray,List.map_cons,List.map_nil]);first|done|rfl|(simp only [List.length_drop,List.length_take];rfl)) ?_;(with_reducible refine (ih k1 (by have:=HK1.out;omega) _ _ l0_0 a0_1 _ _ l1 a2 x24_1 0 a4 t389 t390 _ ?side1 ?side2 ?side3 ?side4 A22.out).mono ?_);(case side1=>repeat (first|exact (Kd.C_below HR0_0.out HB.out)|(with_reducible refine Kd.C_alloc ?_ _)|(with_reducible refine Kd.C_drewN ?_ _)|(with_reducible refine Kd.C_drew ?_)));(case side2=>exact HC0_0.out);(case side3=>repeat (first|exact (Kd.C_below HR1.out HB.out)|(with_reducible refine Kd.C_alloc ?_ _)|(with_reducible refine Kd.C_drewN ?_ _)|(with_reducible refine Kd.C_drew ?_)));(case side4=>exact HC1.out);rintro e w34 ⟨rfl,hb⟩;refine ⟨_,rfl,?_⟩;have n0_:=Aside0.mk (blk_below (g:=gb384) (o:=.cells #[.slice A0_0 l0_0.length c0_0,.bool a0_1] 28 (0,0)) (by (with_reducible repeat (first|refine blk_drewN ?_ _|refine blk_drew ?_|refine blk_alloc ?_ _));exact BK384.out) hb);have n1_:=Aside0.mk (blk_below (g:=gb385) (o:=.cells #[.int .i64 0,.int .i64 0] 55 (0,0)) (by (with_reducible repeat (first|refine blk_drewN ?_ _|refine blk_drew ?_|refine blk_alloc ?_ _));exact BK385.out) hb);have n2_:=Aside0.mk (blk_below (g:=gb386) (o:=.cells #[.int .i64 x387000_1,.int .i64 x387001_1] 55 (0,0)) (by (with_reducible repeat (first|refine blk_drewN ?_ _|refine blk_drew ?_|refine blk_alloc ?_ _));exact BK386.out) hb);have n3_:=Aside0.mk (blk_below (g:=gb387) (o:=.cells #[.int .i64 x388000_1,.int .i64 x388001_1] 55 (0,0)) (by (with_reducible repeat (first|refine blk_drewN ?_ _|refine blk_drew ?_|refine blk_alloc ?_ _));exact BK387.out) hb);have n4_:=Aside0.mk (below_step (by repeat (first|(with_reducible first|exact HB.out|apply below_alloc|apply pw_below_drewN|apply below_drew1|refine below_set ?_ GE384.out|refine below_set ?_ GE385.out|refine below_set ?_ GE386.out|refine below_set ?_ GE387.out)|exact HB.out)) hb);clear BK384;clear BK385;clear BK386;clear BK387;clear HB;have BK384:=n0_;have BK385:=n1_;have BK386:=n2_;have BK387:=n3_;have HB:=n4_;clear n0_ n1_ n2_ n3_ n4_;(try clear hb);(try clear hb2);(try clear hk);(try clear hi))|((with_reducible refine gate_dst (N:=17) rfl ?_);refine box_event ?hg (N:=17) ?hd (cs:=#[.int .i64 0,.int .i64 0]) (t:=55) ?hr ?_;(case hd=>rfl);(case hg=>rfl);(case hr=>first|(go_simp;done)|(go_simp;rfl));intro gb391 hg w35 hbox hb;have n0_:=Aside0.mk (blk_below (g:=gb384) (o:=.cells #[.slice A0_0 l0_0.length c0_0,.bool a0_1] 28 (0,0)) (by (with_reducible repeat (first|refine blk_drewN ?_ _|refine blk_drew ?_|refine blk_alloc ?_ _));exact BK384.out) hb);have n1_:=Aside0.mk (blk_below (g:=gb385) (o:=.cells #[.int .i64 0,.int .i64 0] 55 (0,0)) (by (with_reducible repeat (first|refine blk_drewN ?_ _|refine blk_drew ?_|refine blk_alloc ?_ _));exact BK385.out) hb);have n2_:=Aside0.mk (blk_below (g:=gb386) (o:=.cells #[.int .i64 x387000_1,.int .i64 x387001_1] 55 (0,0)) (by (with_reducible repeat (first|refine blk_drewN ?_ _|refine blk_drew ?_|refine blk_alloc ?_ _));exact BK386.out) hb);have n3_:=Aside0.mk (blk_below (g:=gb387) (o:=.cells #[.int .i64 x388000_1,.int .i64 x388001_1] 55 (0,0)) (by (with_reducible repeat (first|refine blk_drewN ?_ _|refine blk_drew ?_|refine blk_alloc ?_ _));exact BK387.out) hb);have n4_:=Aside0.mk (below_step (by repeat (first|(with_reducible first|exact HB.out|apply below_alloc|apply pw_below_drewN|apply below_drew1|refine below_set ?_ GE384.out|refine below_set ?_ GE385.out|refine below_set ?_ GE386.out|refine below_set ?_ GE387.out)|exact HB.out)) hb);have n5_:=Aside0.mk (hbox);have n6_:=Aside0.mk ((by rw [hg];exact (below_size (by repeat (first|(with_reducible first|exact HB.out|apply below_alloc|apply pw_below_drewN|apply below_drew1|refine below_set ?_ GE384.out|refine below_set ?_ GE385.out|refine below_set ?_ GE386.out|refine below_set ?_ GE387.out)|exact HB.out))):w.heap.size≤gb391));have n7_:=Aside0.mk ((by rw [hg];exact (below_size (by repeat (first|(with_reducible first|exact HB.out|apply below_alloc|apply pw_below_drewN|apply below_drew1|refine below_set ?_ GE384.out|refine below_set ?_ GE385.out|refine below_set ?_ GE386.out|refine below_set ?_ GE387.out)|exact HB.out))):w.heap.size≤gb391));have n8_:=Aside0.mk ((by rw [hg];exact Nat.ne_of_lt (blk_lt (g:=gb384) (o:=.cells #[.slice A0_0 l0_0.length c0_0,.bool a0_1] 28 (0,0)) (by (with_reducible repeat (first|refine blk_drewN ?_ _|refine blk_drew ?_|refine blk_alloc ?_ _));exact BK384.out)):gb384≠gb391));have n9_:=Aside0.mk ((by rw [hg];exact Nat.ne_of_gt (blk_lt (g:=gb384) (o:=.cells #[.slice A0_0 l0_0.length c0_0,.bool a0_1] 28 (0,0)) (by (with_reducible repeat (first|refine blk_drewN ?_ _|refine blk_drew ?_|refine blk_alloc ?_ _));exact BK384.out)):gb391≠gb384));have n10_:=Aside0.mk ((by rw [hg];exact Nat.ne_of_lt (blk_lt (g:=gb385) (o:=.cells #[.int .i64 0,.int .i64 0] 55 (0,0)) (by (with_reducible repeat (first|refine blk_drewN ?_ _|refine blk_drew ?_|refine blk_alloc ?_ _));exact BK385.out)):gb385≠gb391));have n11_:=Aside0.mk ((by rw [hg];exact Nat.ne_of_gt (blk_lt (g:=gb385) (o:=.cells #[.int .i64 0,.int .i64 0] 55 (0,0)) (by (with_reducible repeat (first|refine blk_drewN ?_ _|refine blk_drew ?_|refine blk_alloc ?_ _));exact BK385.out)):gb391≠gb385));have n12_:=Aside0.mk ((by rw [hg];exact Nat.ne_of_lt (blk_lt (g:=gb386) (o:=.cells #[.int .i64 x387000_1,.int .i64 x387001_1] 55 (0,0)) (by (with_reducible repeat (first|refine blk_drewN ?_ _|refine blk_drew ?_|refine blk_alloc ?_ _));exact BK386.out)):gb386≠gb391));have n13_:=Aside0.mk ((by rw [hg];exact Nat.ne_of_gt (blk_lt (g:=gb386) (o:=.cells #[.int .i64 x387000_1,.int .i64 x387001_1] 55 (0,0)) (by (with_reducible repeat (first|refine blk_drewN ?_ _|refine blk_drew ?_|refine blk_alloc ?_ _));exact BK386.out)):gb391≠gb386));have n14_:=Aside0.mk ((by rw [hg];exact Nat.ne_of_lt (blk_lt (g:=gb387) (o:=.cells #[.int .i64 x388000_1,.int .i64 x388001_1] 55 (0,0)) (by (with_reducible repeat (first|refine blk_drewN ?_ _|refine blk_drew ?_|refine blk_alloc ?_ _));exact BK387.out)):gb387≠gb391));have n15_:=Aside0.mk ((by rw [hg];exact Nat.ne_of_gt (blk_lt (g:=gb387) (o:=.cells #[.int .i64 x388000_1,.int .i64 x388001_1] 55 (0,0)) (by (with_reducible repeat (first|refine blk_drewN ?_ _|refine blk_drew ?_|refine blk_alloc ?_ _));exact BK387.out)):gb391≠gb387));clear BK384;clear BK385;clear BK386;clear BK387;clear HB;have BK384:=n0_;have BK385:=n1_;have BK386:=n2_;have BK387:=n3_;have HB:=n4_;have BK391:=n5_;have GW391:=n6_;have GE391:=n7_;have NB384_391:=n8_;have NB391_384:=n9_;have NB385_391:=n10_;have NB391_385:=n11_;have NB386_391:=n12_;have NB391_386:=n13_;have NB387_391:=n14_;have NB391_387:=n15_;clear n0_ n1_ n2_ n3_ n4_ n5_ n6_ n7_ n8_ n9_ n10_ n11_ n12_ n13_ n14_ n15_;clear hb hbox hg;have hnb36:=NB391_384.out;have hnc36:=NB384_391.out;have hnb37:=NB391_385.out;have hnc37:=NB385_391.out;have hnb38:=NB391_386.out;have hnc38:=NB386_391.out;have hnb39:=NB391_387.out;have hnc39:=NB387_391.out;have hcz40_0:w35.cell? ⟨gb391,0,none⟩=some (.int .i64 0):=(blk_cell BK391.out 0).trans rfl;have hcz40_1:w35.cell? ⟨gb391,1,none⟩=some (.int .i64 0):=(blk_cell BK391.out 1).trans rfl;have hfz40_0:=blk_frozen BK391.out 0;have hfz40_1:=blk_frozen BK391.out 1;have hcz41_0:w35.cell? ⟨gb384,0,none⟩=some (.slice A0_0 l0_0.length c0_0):=(blk_cell BK384.out 0).trans rfl;have hcz41_1:w35.cell? ⟨gb384,1,none⟩=some (.bool a0_1):=(blk_cell BK384.out 1).trans rfl;have hfz41_0:=blk_frozen BK384.out 0;have hfz41_1:=blk_frozen BK384.out 1)|((with_reducible refine gate_callee (f:=84) rfl ?_);refine goesL_ (some 43) rfl rfl Try.func84 (by kernel_rfl) rfl #[.agg #[.slice A0_0 l0_0.length c0_0,.bool a0_1],.slice (some ad388) l1.length c1,.int .i64 a2,.int .i64 x24_1,.int .i64 1,.int .i64 a4] rfl (by (try simp only [List.map_toArray,List.map_cons,List.map_nil]);first|done|rfl|(simp only [List.length_drop,List.length_take];rfl)) ?_;(with_reducible refine (ih k1 (by have:=HK1.out;omega) _ _ l0_0 a0_1 _ _ l1 a2 x24_1 1 a4 t392 t393 _ ?side1 ?side2 ?side3 ?side4 A23.out).mono ?_);(case side1=>exact Kd.C_below HR0_0.out (by repeat (first|(with_reducible first|exact HB.out|apply below_alloc|apply pw_below_drewN|apply below_drew1|refine below_set ?_ GE384.out|refine below_set ?_ GE385.out|refine below_set ?_ GE386.out|refine below_set ?_ GE387.out|refine below_set ?_ GE391.out)|exact HB.out)));(case side2=>exact HC0_0.out);(case side3=>exact Kd.C_below HR1.out (by repeat (first|(with_reducible first|exact HB.out|apply below_alloc|apply pw_below_drewN|apply below_drew1|refine below_set ?_ GE384.out|refine below_set ?_ GE385.out|refine below_set ?_ GE386.out|refine below_set ?_ GE387.out|refine below_set ?_ GE391.out)|exact HB.out)));(case side4=>exact HC1.out);rintro e w42 ⟨rfl,hb⟩;refine ⟨_,rfl,?_⟩;have n0_:=Aside0.mk (blk_below (g:=gb384) (o:=.cells #[.slice A0_0 l0_0.length c0_0,.bool a0_1] 28 (0,0)) (by (with_reducible repeat (first|refine blk_drewN ?_ _|refine blk_drew ?_|refine blk_alloc ?_ _));refine blk_far ?_ NB384_391.out _;(with_reducible repeat (first|refine blk_drewN ?_ _|refine blk_drew ?_|refine blk_alloc ?_ _));refine blk_far ?_ NB384_391.out _;(with_reducible repeat (first|refine blk_drewN ?_ _|refine blk_drew ?_|refine blk_alloc ?_ _));exact BK384.out) hb);have n1_:=Aside0.mk (blk_below (g:=gb385) (o:=.cells #[.int .i64 0,.int .i64 0] 55 (0,0)) (by (with_reducible repeat (first|refine blk_drewN ?_ _|refine blk_drew ?_|refine blk_alloc ?_ _));refine blk_far ?_ NB385_391.out _;(with_reducible repeat (first|refine blk_drewN ?_ _|refine blk_drew ?_|refine blk_alloc ?_ _));refine blk_far ?_ NB385_391.out _;(with_reducible repeat (first|refine blk_drewN ?_ _|refine blk_drew ?_|refine blk_alloc ?_ _));exact BK385.out) hb);have n2_:=Aside0.mk (blk_below (g:=gb386) (o:=.cells #[.int .i64 x387000_1,.int .i64 x387001_1] 55 (0,0)) (by (with_reducible repeat (first|refine blk_drewN ?_ _|refine blk_drew ?_|refine blk_alloc ?_ _));refine blk_far ?_ NB386_391.out _;(with_reducible repeat (first|refine blk_drewN ?_ _|refine blk_drew ?_|refine blk_alloc ?_ _));refine blk_far ?_ NB386_391.out _;(with_reducible repeat (first|refine blk_drewN ?_ _|refine blk_drew ?_|refine blk_alloc ?_ _));exact BK386.out) hb);have n3_:=Aside0.mk (blk_below (g:=gb387) (o:=.cells #[.int .i64 x388000_1,.int .i64 x388001_1] 55 (0,0)) (by (with_reducible repeat (first|refine blk_drewN ?_ _|refine blk_drew ?_|refine blk_alloc ?_ _));refine blk_far ?_ NB387_391.out _;(with_reducible repeat (first|refine blk_drewN ?_ _|refine blk_drew ?_|refine blk_alloc ?_ _));refine blk_far ?_ NB387_391.out _;(with_reducible repeat (first|refine blk_drewN ?_ _|refine blk_drew ?_|refine blk_alloc ?_ _));exact BK387.out) hb);have n4_:=Aside0.mk (blk_below (g:=gb391) (o:=.cells #[.int .i64 t389,.int .i64 t390] 55 (0,0)) (by (with_reducible repeat (first|refine blk_drewN ?_ _|refine blk_drew ?_|refine blk_alloc ?_ _));refine blk_put (cs:=#[.int .i64 t389,.int .i64 0]) ?_ 1 _ rfl;(with_reducible repeat (first|refine blk_drewN ?_ _|refine blk_drew ?_|refine blk_alloc ?_ _));refine blk_put (cs:=#[.int .i64 0,.int .i64 0]) ?_ 0 _ rfl;(with_reducible repeat (first|refine blk_drewN ?_ _|refine blk_drew ?_|refine blk_alloc ?_ _));exact BK391.out) hb);have n5_:=Aside0.mk (below_step (by repeat (first|(with_reducible first|exact HB.out|apply below_alloc|apply pw_below_drewN|apply below_drew1|refine below_set ?_ GE384.out|refine below_set ?_ GE385.out|refine below_set ?_ GE386.out|refine below_set ?_ GE387.out|refine below_set ?_ GE391.out)|exact HB.out)) hb);clear BK384;clear BK385;clear BK386;clear BK387;clear BK391;clear HB;have BK384:=n0_;have BK385:=n1_;have BK386:=n2_;have BK387:=n3_;have BK391:=n4_;have HB:=n5_;clear n0_ n1_ n2_ n3_ n4_ n5_;(try clear hb);(try clear hb2);(try clear hk);(try clear hi))|((with_reducible refine gate_dst (N:=18) rfl ?_);refine box_event ?hg (N:=18) ?hd (cs:=#[.int .i64 0,.int .i64 0]) (t:=55) ?hr ?_;(case hd=>rfl);(case hg=>rfl);(case hr=>first|(go_simp;done)|(go_simp;rfl));intro gb394 hg w43 hbox hb;have n0_:=Aside0.mk (blk_below (g:=gb384) (o:=.cells #[.slice A0_0 l0_0.length c0_0,.bool a0_1] 28 (0,0)) (by (with_reducible repeat (first|refine blk_drewN ?_ _|refine blk_drew ?_|refine blk_alloc ?_ _));exact BK384.out) hb);have n1_:=Aside0.mk (blk_below (g:=gb385) (o:=.cells #[.int .i64 0,.int .i64 0] 55 (0,0)) (by (with_reducible repeat (first|refine blk_drewN ?_ _|refine blk_drew ?_|refine blk_alloc ?_ _));exact BK385.out) hb);have n2_:=Aside0.mk (blk_below (g:=gb386) (o:=.cells #[.int .i64 x387000_1,.int .i64 x387001_1] 55 (0,0)) (by (with_reducible repeat (first|refine blk_drewN ?_ _|refine blk_drew ?_|refine blk_alloc ?_ _));exact BK386.out) hb);have n3_:=Aside0.mk (blk_below (g:=gb387) (o:=.cells #[.int .i64 x388000_1,.int .i64 x388001_1] 55 (0,0)) (by (with_reducible repeat (first|refine blk_drewN ?_ _|refine blk_drew ?_|refine blk_alloc ?_ _));exact BK387.out) hb);have n4_:=Aside0.mk (blk_below (g:=gb391) (o:=.cells #[.int .i64 t389,.int .i64 t390] 55 (0,0)) (by (with_reducible repeat (first|refine blk_drewN ?_ _|refine blk_drew ?_|refine blk_alloc ?_ _));exact BK391.out) hb);have n5_:=Aside0.mk (below_step (by repeat (first|(with_reducible first|exact HB.out|apply below_alloc|apply pw_below_drewN|apply below_drew1|refine below_set ?_ GE384.out|refine below_set ?_ GE385.out|refine below_set ?_ GE386.out|refine below_set ?_ GE387.out|refine below_set ?_ GE391.out)|exact HB.out)) hb);have n6_:=Aside0.mk (hbox);have n7_:=Aside0.mk ((by rw [hg];exact (below_size (by repeat (first|(with_reducible first|exact HB.out|apply below_alloc|apply pw_below_drewN|apply below_drew1|refine below_set ?_ GE384.out|refine below_set ?_ GE385.out|refine below_set ?_ GE386.out|refine below_set ?_ GE387.out|refine below_set ?_ GE391.out)|exact HB.out))):w.heap.size≤gb394));have n8_:=Aside0.mk ((by rw [hg];exact (below_size (by repeat (first|(with_reducible first|exact HB.out|apply below_alloc|apply pw_below_drewN|apply below_drew1|refine below_set ?_ GE384.out|refine below_set ?_ GE385.out|refine below_set ?_ GE386.out|refine below_set ?_ GE387.out|refine below_set ?_ GE391.out)|exact HB.out))):w.heap.size≤gb394));have n9_:=Aside0.mk ((by rw [hg];exact Nat.ne_of_lt (blk_lt (g:=gb384) (o:=.cells #[.slice A0_0 l0_0.length c0_0,.bool a0_1] 28 (0,0)) (by (with_reducible repeat (first|refine blk_drewN ?_ _|refine blk_drew ?_|refine blk_alloc ?_ _));exact BK384.out)):gb384≠gb394));have n10_:=Aside0.mk ((by rw [hg];exact Nat.ne_of_gt (blk_lt (g:=gb384) (o:=.cells #[.slice A0_0 l0_0.length c0_0,.bool a0_1] 28 (0,0)) (by (with_reducible repeat (first|refine blk_drewN ?_ _|refine blk_drew ?_|refine blk_alloc ?_ _));exact BK384.out)):gb394≠gb384));have n11_:=Aside0.mk ((by rw [hg];exact Nat.ne_of_lt (blk_lt (g:=gb385) (o:=.cells #[.int .i64 0,.int .i64 0] 55 (0,0)) (by (with_reducible repeat (first|refine blk_drewN ?_ _|refine blk_drew ?_|refine blk_alloc ?_ _));exact BK385.out)):gb385≠gb394));have n12_:=Aside0.mk ((by rw [hg];exact Nat.ne_of_gt (blk_lt (g:=gb385) (o:=.cells #[.int .i64 0,.int .i64 0] 55 (0,0)) (by (with_reducible repeat (first|refine blk_drewN ?_ _|refine blk_drew ?_|refine blk_alloc ?_ _));exact BK385.out)):gb394≠gb385));have n13_:=Aside0.mk ((by rw [hg];exact Nat.ne_of_lt (blk_lt (g:=gb386) (o:=.cells #[.int .i64 x387000_1,.int .i64 x387001_1] 55 (0,0)) (by (with_reducible repeat (first|refine blk_drewN ?_ _|refine blk_drew ?_|refine blk_alloc ?_ _));exact BK386.out)):gb386≠gb394));have n14_:=Aside0.mk ((by rw [hg];exact Nat.ne_of_gt (blk_lt (g:=gb386) (o:=.cells #[.int .i64 x387000_1,.int .i64 x387001_1] 55 (0,0)) (by (with_reducible repeat (first|refine blk_drewN ?_ _|refine blk_drew ?_|refine blk_alloc ?_ _));exact BK386.out)):gb394≠gb386));have n15_:=Aside0.mk ((by rw [hg];exact Nat.ne_of_lt (blk_lt (g:=gb387) (o:=.cells #[.int .i64 x388000_1,.int .i64 x388001_1] 55 (0,0)) (by (with_reducible repeat (first|refine blk_drewN ?_ _|refine blk_drew ?_|refine blk_alloc ?_ _));exact BK387.out)):gb387≠gb394));have n16_:=Aside0.mk ((by rw [hg];exact Nat.ne_of_gt (blk_lt (g:=gb387) (o:=.cells #[.int .i64 x388000_1,.int .i64 x388001_1] 55 (0,0)) (by (with_reducible repeat (first|refine blk_drewN ?_ _|refine blk_drew ?_|refine blk_alloc ?_ _));exact BK387.out)):gb394≠gb387));have n17_:=Aside0.mk ((by rw [hg];exact Nat.ne_of_lt (blk_lt (g:=gb391) (o:=.cells #[.int .i64 t389,.int .i64 t390] 55 (0,0)) (by (with_reducible repeat (first|refine blk_drewN ?_ _|refine blk_drew ?_|refine blk_alloc ?_ _));exact BK391.out)):gb391≠gb394));have n18_:=Aside0.mk ((by rw [hg];exact Nat.ne_of_gt (blk_lt (g:=gb391) (o:=.cells #[.int .i64 t389,.int .i64 t390] 55 (0,0)) (by (with_reducible repeat (first|refine blk_drewN ?_ _|refine blk_drew ?_|refine blk_alloc ?_ _));exact BK391.out)):gb394≠gb391));clear BK384;clear BK385;clear BK386;clear BK387;clear BK391;clear HB;have BK384:=n0_;have BK385:=n1_;have BK386:=n2_;have BK387:=n3_;have BK391:=n4_;have HB:=n5_;have BK394:=n6_;have GW394:=n7_;have GE394:=n8_;have NB384_394:=n9_;have NB394_384:=n10_;have NB385_394:=n11_;have NB394_385:=n12_;have NB386_394:=n13_;have NB394_386:=n14_;have NB387_394:=n15_;have NB394_387:=n16_;have NB391_394:=n17_;have NB394_391:=n18_;clear n0_ n1_ n2_ n3_ n4_ n5_ n6_ n7_ n8_ n9_ n10_ n11_ n12_ n13_ n14_ n15_ n16_ n17_ n18_;clear hb hbox hg;have hnb44:=NB394_384.out;have hnc44:=NB384_394.out;have hnb45:=NB394_385.out;have hnc45:=NB385_394.out;have hnb46:=NB394_386.out;have hnc46:=NB386_394.out;have hnb47:=NB394_387.out;have hnc47:=NB387_394.out;have hnb48:=NB394_391.out;have hnc48:=NB391_394.out;have hcz49_0:w43.cell? ⟨gb394,0,none⟩=some (.int .i64 0):=(blk_cell BK394.out 0).trans rfl;have hcz49_1:w43.cell? ⟨gb394,1,none⟩=some (.int .i64 0):=(blk_cell BK394.out 1).trans rfl;have hfz49_0:=blk_frozen BK394.out 0;have hfz49_1:=blk_frozen BK394.out 1))
       have n0_:Aside0 (((w43.setCell ⟨gb394,0,none⟩ (.int .i64 t392)).setCell ⟨gb394,1,none⟩ (.int .i64 t393)).heap[gb384]?=some (.cells #[.slice A0_0 l0_0.length c0_0,.bool a0_1] 28 (0,0))):=⟨by (with_reducible repeat (first|refine blk_drewN ?_ _|refine blk_drew ?_|refine blk_alloc ?_ _));refine blk_far ?_ NB384_394.out _;(with_reducible repeat (first|refine blk_drewN ?_ _|refine blk_drew ?_|refine blk_alloc ?_ _));refine blk_far ?_ NB384_394.out _;(with_reducible repeat (first|refine blk_drewN ?_ _|refine blk_drew ?_|refine blk_alloc ?_ _));exact BK384.out⟩
       have n1_:Aside0 (((w43.setCell ⟨gb394,0,none⟩ (.int .i64 t392)).setCell ⟨gb394,1,none⟩ (.int .i64 t393)).heap[gb385]?=some (.cells #[.int .i64 0,.int .i64 0] 55 (0,0))):=⟨by (with_reducible repeat (first|refine blk_drewN ?_ _|refine blk_drew ?_|refine blk_alloc ?_ _));refine blk_far ?_ NB385_394.out _;(with_reducible repeat (first|refine blk_drewN ?_ _|refine blk_drew ?_|refine blk_alloc ?_ _));refine blk_far ?_ NB385_394.out _;(with_reducible repeat (first|refine blk_drewN ?_ _|refine blk_drew ?_|refine blk_alloc ?_ _));exact BK385.out⟩
       have n2_:Aside0 (((w43.setCell ⟨gb394,0,none⟩ (.int .i64 t392)).setCell ⟨gb394,1,none⟩ (.int .i64 t393)).heap[gb386]?=some (.cells #[.int .i64 x387000_1,.int .i64 x387001_1] 55 (0,0))):=⟨by (with_reducible repeat (first|refine blk_drewN ?_ _|refine blk_drew ?_|refine blk_alloc ?_ _));refine blk_far ?_ NB386_394.out _;(with_reducible repeat (first|refine blk_drewN ?_ _|refine blk_drew ?_|refine blk_alloc ?_ _));refine blk_far ?_ NB386_394.out _;(with_reducible repeat (first|refine blk_drewN ?_ _|refine blk_drew ?_|refine blk_alloc ?_ _));exact BK386.out⟩
       have n3_:Aside0 (((w43.setCell ⟨gb394,0,none⟩ (.int .i64 t392)).setCell ⟨gb394,1,none⟩ (.int .i64 t393)).heap[gb387]?=some (.cells #[.int .i64 x388000_1,.int .i64 x388001_1] 55 (0,0))):=⟨by (with_reducible repeat (first|refine blk_drewN ?_ _|refine blk_drew ?_|refine blk_alloc ?_ _));refine blk_far ?_ NB387_394.out _;(with_reducible repeat (first|refine blk_drewN ?_ _|refine blk_drew ?_|refine blk_alloc ?_ _));refine blk_far ?_ NB387_394.out _;(with_reducible repeat (first|refine blk_drewN ?_ _|refine blk_drew ?_|refine blk_alloc ?_ _));exact BK387.out⟩
       have n4_:Aside0 (((w43.setCell ⟨gb394,0,none⟩ (.int .i64 t392)).setCell ⟨gb394,1,none⟩ (.int .i64 t393)).heap[gb391]?=some (.cells #[.int .i64 t389,.int .i64 t390] 55 (0,0))):=⟨by (with_reducible repeat (first|refine blk_drewN ?_ _|refine blk_drew ?_|refine blk_alloc ?_ _));refine blk_far ?_ NB391_394.out _;(with_reducible repeat (first|refine blk_drewN ?_ _|refine blk_drew ?_|refine blk_alloc ?_ _));refine blk_far ?_ NB391_394.out _;(with_reducible repeat (first|refine blk_drewN ?_ _|refine blk_drew ?_|refine blk_alloc ?_ _));exact BK391.out⟩
       have n5_:Aside0 (((w43.setCell ⟨gb394,0,none⟩ (.int .i64 t392)).setCell ⟨gb394,1,none⟩ (.int .i64 t393)).heap[gb394]?=some (.cells #[.int .i64 t392,.int .i64 t393] 55 (0,0))):=⟨by (with_reducible repeat (first|refine blk_drewN ?_ _|refine blk_drew ?_|refine blk_alloc ?_ _));refine blk_put (cs:=#[.int .i64 t392,.int .i64 0]) ?_ 1 _ rfl;(with_reducible repeat (first|refine blk_drewN ?_ _|refine blk_drew ?_|refine blk_alloc ?_ _));refine blk_put (cs:=#[.int .i64 0,.int .i64 0]) ?_ 0 _ rfl;(with_reducible repeat (first|refine blk_drewN ?_ _|refine blk_drew ?_|refine blk_alloc ?_ _));exact BK394.out⟩
       have n6_:Aside0 (Below w.heap.size w ((w43.setCell ⟨gb394,0,none⟩ (.int .i64 t392)).setCell ⟨gb394,1,none⟩ (.int .i64 t393))):=⟨by repeat (first|(with_reducible first|exact HB.out|apply below_alloc|apply pw_below_drewN|apply below_drew1|refine below_set ?_ GE384.out|refine below_set ?_ GE385.out|refine below_set ?_ GE386.out|refine below_set ?_ GE387.out|refine below_set ?_ GE391.out|refine below_set ?_ GE394.out)|exact HB.out)⟩
       (try clear BK384);(try clear BK385);(try clear BK386);(try clear BK387);(try clear BK391);(try clear BK394);(try clear HB)
       generalize ((w43.setCell ⟨gb394,0,none⟩ (.int .i64 t392)).setCell ⟨gb394,1,none⟩ (.int .i64 t393))=w50 at n0_ n1_ n2_ n3_ n4_ n5_ n6_ ⊢
       have BK384:=n0_
       have BK385:=n1_
       have BK386:=n2_
       have BK387:=n3_
       have BK391:=n4_
       have BK394:=n5_
       have HB:=n6_
       clear n0_ n1_ n2_ n3_ n4_ n5_ n6_
       have n0_:=Aside0.mk (blk_drew BK384.out)
       have n1_:=Aside0.mk (blk_drew BK385.out)
       have n2_:=Aside0.mk (blk_drew BK386.out)
       have n3_:=Aside0.mk (blk_drew BK387.out)
       have n4_:=Aside0.mk (blk_drew BK391.out)
       have n5_:=Aside0.mk (blk_drew BK394.out)
       have n6_:=Aside0.mk (below_drew1 HB.out)
       clear BK384;clear BK385;clear BK386;clear BK387;clear BK391;clear BK394;clear HB
       have BK384:=n0_
       have BK385:=n1_
       have BK386:=n2_
       have BK387:=n3_
       have BK391:=n4_
       have BK394:=n5_
       have HB:=n6_
       clear n0_ n1_ n2_ n3_ n4_ n5_ n6_
       refine start_ (n:=16) (S:=fun w'=>w'.cell? ⟨gb386,0,none⟩=some (.int .i64 x387000_1)∧w'.cell? ⟨gb386,1,none⟩=some (.int .i64 x387001_1)∧w'.cell? ⟨gb391,0,none⟩=some (.int .i64 t389)∧w'.cell? ⟨gb391,1,none⟩=some (.int .i64 t390)∧w'.cell? ⟨gb387,0,none⟩=some (.int .i64 x388000_1)∧w'.cell? ⟨gb387,1,none⟩=some (.int .i64 x388001_1)∧w'.cell? ⟨gb394,0,none⟩=some (.int .i64 t392)∧w'.cell? ⟨gb394,1,none⟩=some (.int .i64 t393)) (ds:=[14,15]) #[false,false,false,false,false,false,false,false,false,false,false,false,false,false,false,false] (by kernel_rfl) rfl rfl ⟨(blk_cell BK386.out 0).trans rfl,(blk_cell BK386.out 1).trans rfl,(blk_cell BK391.out 0).trans rfl,(blk_cell BK391.out 1).trans rfl,(blk_cell BK387.out 0).trans rfl,(blk_cell BK387.out 1).trans rfl,(blk_cell BK394.out 0).trans rfl,(blk_cell BK394.out 1).trans rfl⟩ (fun hHeld=>?_);refine with_tabW spec_trBelow.tab8 spec_trBelow.bits8 (fun HT_ HW_=>?_)
       generalize w50.drew=w51 at BK384 BK385 BK386 BK387 BK391 BK394 HB hHeld ⊢
       refine take_ (i:=0) (N:=some 44) (v:=?_) (a':=?_) #[true,false,false,false,false,false,false,false,false,false,false,false,false,false,false,false] rfl rfl (take_ofW HT_.out HW_.out (by kernel_rfl)) (fun _ _ _ h=>h) (Or.inl ⟨by rfl,?_⟩) hHeld ?_ ?_
       rotate_left
       ·rintro w' ⟨s0,s1,s2,s3,s4,s5,s6,s7⟩
        go_simp
        with_reducible rfl
       rotate_left
       ·simp only [Act.put,List.setIfInBounds_toArray,List.set_cons_zero,List.set_cons_succ,i64_w,i32_w]
        rfl
       refine take_ (i:=1) (N:=some 45) (v:=?_) (a':=?_) #[true,true,false,false,false,false,false,false,false,false,false,false,false,false,false,false] rfl rfl (take_ofW HT_.out HW_.out (by kernel_rfl)) (fun _ _ _ h=>h) (Or.inl ⟨by rfl,?_⟩) hHeld ?_ ?_
       rotate_left
       ·rintro w' ⟨s0,s1,s2,s3,s4,s5,s6,s7⟩
        go_simp
        with_reducible rfl
       rotate_left
       ·simp only [Act.put,List.setIfInBounds_toArray,List.set_cons_zero,List.set_cons_succ,i64_w,i32_w]
        rfl
       refine take_ (i:=3) (N:=some 47) (v:=?_) (a':=?_) #[true,true,false,true,false,false,false,false,false,false,false,false,false,false,false,false] rfl rfl (take_ofW HT_.out HW_.out (by kernel_rfl)) (fun _ _ _ h=>h) (Or.inl ⟨by rfl,?_⟩) hHeld ?_ ?_
       rotate_left
       ·rintro w' ⟨s0,s1,s2,s3,s4,s5,s6,s7⟩
        go_simp
        with_reducible rfl
       rotate_left
       ·simp only [Act.put,List.setIfInBounds_toArray,List.set_cons_zero,List.set_cons_succ,i64_w,i32_w]
        rfl
       refine take_ (i:=4) (N:=some 48) (v:=?_) (a':=?_) #[true,true,false,true,true,false,false,false,false,false,false,false,false,false,false,false] rfl rfl (take_ofW HT_.out HW_.out (by kernel_rfl)) (fun _ _ _ h=>h) (Or.inl ⟨by rfl,?_⟩) hHeld ?_ ?_
       rotate_left
       ·rintro w' ⟨s0,s1,s2,s3,s4,s5,s6,s7⟩
        go_simp
        with_reducible rfl
       rotate_left
       ·simp only [Act.put,List.setIfInBounds_toArray,List.set_cons_zero,List.set_cons_succ,i64_w,i32_w]
        rfl
       refine take_ (i:=7) (N:=some 51) (v:=?_) (a':=?_) #[true,true,false,true,true,false,false,true,false,false,false,false,false,false,false,false] rfl rfl (take_ofW HT_.out HW_.out (by kernel_rfl)) (fun _ _ _ h=>h) (Or.inl ⟨by rfl,?_⟩) hHeld ?_ ?_
       rotate_left
       ·rintro w' ⟨s0,s1,s2,s3,s4,s5,s6,s7⟩
        go_simp
        with_reducible rfl
       rotate_left
       ·simp only [Act.put,List.setIfInBounds_toArray,List.set_cons_zero,List.set_cons_succ,i64_w,i32_w]
        rfl
       refine take_ (i:=8) (N:=some 52) (v:=?_) (a':=?_) #[true,true,false,true,true,false,false,true,true,false,false,false,false,false,false,false] rfl rfl (take_ofW HT_.out HW_.out (by kernel_rfl)) (fun _ _ _ h=>h) (Or.inl ⟨by rfl,?_⟩) hHeld ?_ ?_
       rotate_left
       ·rintro w' ⟨s0,s1,s2,s3,s4,s5,s6,s7⟩
        go_simp
        with_reducible rfl
       rotate_left
       ·simp only [Act.put,List.setIfInBounds_toArray,List.set_cons_zero,List.set_cons_succ,i64_w,i32_w]
        rfl
       refine take_ (i:=10) (N:=some 54) (v:=?_) (a':=?_) #[true,true,false,true,true,false,false,true,true,false,true,false,false,false,false,false] rfl rfl (take_ofW HT_.out HW_.out (by kernel_rfl)) (fun _ _ _ h=>h) (Or.inl ⟨by rfl,?_⟩) hHeld ?_ ?_
       rotate_left
       ·rintro w' ⟨s0,s1,s2,s3,s4,s5,s6,s7⟩
        go_simp
        with_reducible rfl
       rotate_left
       ·simp only [Act.put,List.setIfInBounds_toArray,List.set_cons_zero,List.set_cons_succ,i64_w,i32_w]
        rfl
       refine take_ (i:=11) (N:=some 55) (v:=?_) (a':=?_) #[true,true,false,true,true,false,false,true,true,false,true,true,false,false,false,false] rfl rfl (take_ofW HT_.out HW_.out (by kernel_rfl)) (fun _ _ _ h=>h) (Or.inl ⟨by rfl,?_⟩) hHeld ?_ ?_
       rotate_left
       ·rintro w' ⟨s0,s1,s2,s3,s4,s5,s6,s7⟩
        go_simp
        with_reducible rfl
       rotate_left
       ·simp only [Act.put,List.setIfInBounds_toArray,List.set_cons_zero,List.set_cons_succ,i64_w,i32_w]
        rfl
       refine one_ (i:=2) (N:=some 46) #[true,true,true,true,true,false,false,true,true,false,true,true,false,false,false,false] rfl rfl (one_of HT_.out (by kernel_rfl)) (by decide) (fun K hK=>?_)
       refine goes_ Try.func82 (by kernel_rfl) rfl #[.agg #[.int .i64 x387000_1,.int .i64 x387001_1],.agg #[.int .i64 t389,.int .i64 t390]] (by rfl) rfl rfl (by (try simp only [List.map_toArray,List.map_cons,List.map_nil]);first|done|rfl|(simp only [List.length_drop,List.length_take];rfl)) ?_
       with_reducible refine (spec_trNext.calls x387000_1 x387001_1 t389 t390 t395 t396 _ A24.out).mono ?_
       rintro e w52 ⟨rfl,hb⟩
       refine ⟨_,rfl,?_⟩
       have n0_:=Aside0.mk (blk_below (g:=gb384) (o:=.cells #[.slice A0_0 l0_0.length c0_0,.bool a0_1] 28 (0,0)) (by (with_reducible repeat (first|refine blk_drewN ?_ _|refine blk_drew ?_|refine blk_alloc ?_ _));exact BK384.out) hb)
       have n1_:=Aside0.mk (blk_below (g:=gb385) (o:=.cells #[.int .i64 0,.int .i64 0] 55 (0,0)) (by (with_reducible repeat (first|refine blk_drewN ?_ _|refine blk_drew ?_|refine blk_alloc ?_ _));exact BK385.out) hb)
       have n2_:=Aside0.mk (blk_below (g:=gb386) (o:=.cells #[.int .i64 x387000_1,.int .i64 x387001_1] 55 (0,0)) (by (with_reducible repeat (first|refine blk_drewN ?_ _|refine blk_drew ?_|refine blk_alloc ?_ _));exact BK386.out) hb)
       have n3_:=Aside0.mk (blk_below (g:=gb387) (o:=.cells #[.int .i64 x388000_1,.int .i64 x388001_1] 55 (0,0)) (by (with_reducible repeat (first|refine blk_drewN ?_ _|refine blk_drew ?_|refine blk_alloc ?_ _));exact BK387.out) hb)
       have n4_:=Aside0.mk (blk_below (g:=gb391) (o:=.cells #[.int .i64 t389,.int .i64 t390] 55 (0,0)) (by (with_reducible repeat (first|refine blk_drewN ?_ _|refine blk_drew ?_|refine blk_alloc ?_ _));exact BK391.out) hb)
       have n5_:=Aside0.mk (blk_below (g:=gb394) (o:=.cells #[.int .i64 t392,.int .i64 t393] 55 (0,0)) (by (with_reducible repeat (first|refine blk_drewN ?_ _|refine blk_drew ?_|refine blk_alloc ?_ _));exact BK394.out) hb)
       have n6_:=Aside0.mk (below_step (by repeat (first|(with_reducible first|exact HB.out|apply below_alloc|apply pw_below_drewN|apply below_drew1|refine below_set ?_ GE384.out|refine below_set ?_ GE385.out|refine below_set ?_ GE386.out|refine below_set ?_ GE387.out|refine below_set ?_ GE391.out|refine below_set ?_ GE394.out)|exact HB.out)) hb)
       clear BK384;clear BK385;clear BK386;clear BK387;clear BK391;clear BK394;clear HB
       have BK384:=n0_
       have BK385:=n1_
       have BK386:=n2_
       have BK387:=n3_
       have BK391:=n4_
       have BK394:=n5_
       have HB:=n6_
       clear n0_ n1_ n2_ n3_ n4_ n5_ n6_;(try clear hb);(try clear hb2);(try clear hk);(try clear hi)
       refine hK.out _ _ ⟨(blk_cell BK386.out 0).trans rfl,(blk_cell BK386.out 1).trans rfl,(blk_cell BK391.out 0).trans rfl,(blk_cell BK391.out 1).trans rfl,(blk_cell BK387.out 0).trans rfl,(blk_cell BK387.out 1).trans rfl,(blk_cell BK394.out 0).trans rfl,(blk_cell BK394.out 1).trans rfl⟩ (fun hHeld=>?_)
       clear hK K
       refine norm_ (a':=?_) ?_ ?_
       rotate_left
       ·show Act.put _ (some 46) _=_
        simp only [Act.put,List.setIfInBounds_toArray,List.set_cons_zero,List.set_cons_succ,i64_w,i32_w]
        rfl
       refine one_ (i:=5) (N:=some 49) #[true,true,true,true,true,true,false,true,true,false,true,true,false,false,false,false] rfl rfl (one_of HT_.out (by kernel_rfl)) (by decide) (fun K hK=>?_)
       refine goes_ Try.func82 (by kernel_rfl) rfl #[.agg #[.int .i64 x388000_1,.int .i64 x388001_1],.agg #[.int .i64 t392,.int .i64 t393]] (by rfl) rfl rfl (by (try simp only [List.map_toArray,List.map_cons,List.map_nil]);first|done|rfl|(simp only [List.length_drop,List.length_take];rfl)) ?_
       with_reducible refine (spec_trNext.calls x388000_1 x388001_1 t392 t393 t397 t398 _ A25.out).mono ?_
       rintro e w53 ⟨rfl,hb⟩
       refine ⟨_,rfl,?_⟩
       have n0_:=Aside0.mk (blk_below (g:=gb384) (o:=.cells #[.slice A0_0 l0_0.length c0_0,.bool a0_1] 28 (0,0)) (by (with_reducible repeat (first|refine blk_drewN ?_ _|refine blk_drew ?_|refine blk_alloc ?_ _));exact BK384.out) hb)
       have n1_:=Aside0.mk (blk_below (g:=gb385) (o:=.cells #[.int .i64 0,.int .i64 0] 55 (0,0)) (by (with_reducible repeat (first|refine blk_drewN ?_ _|refine blk_drew ?_|refine blk_alloc ?_ _));exact BK385.out) hb)
       have n2_:=Aside0.mk (blk_below (g:=gb386) (o:=.cells #[.int .i64 x387000_1,.int .i64 x387001_1] 55 (0,0)) (by (with_reducible repeat (first|refine blk_drewN ?_ _|refine blk_drew ?_|refine blk_alloc ?_ _));exact BK386.out) hb)
       have n3_:=Aside0.mk (blk_below (g:=gb387) (o:=.cells #[.int .i64 x388000_1,.int .i64 x388001_1] 55 (0,0)) (by (with_reducible repeat (first|refine blk_drewN ?_ _|refine blk_drew ?_|refine blk_alloc ?_ _));exact BK387.out) hb)
       have n4_:=Aside0.mk (blk_below (g:=gb391) (o:=.cells #[.int .i64 t389,.int .i64 t390] 55 (0,0)) (by (with_reducible repeat (first|refine blk_drewN ?_ _|refine blk_drew ?_|refine blk_alloc ?_ _));exact BK391.out) hb)
       have n5_:=Aside0.mk (blk_below (g:=gb394) (o:=.cells #[.int .i64 t392,.int .i64 t393] 55 (0,0)) (by (with_reducible repeat (first|refine blk_drewN ?_ _|refine blk_drew ?_|refine blk_alloc ?_ _));exact BK394.out) hb)
       have n6_:=Aside0.mk (below_step (by repeat (first|(with_reducible first|exact HB.out|apply below_alloc|apply pw_below_drewN|apply below_drew1|refine below_set ?_ GE384.out|refine below_set ?_ GE385.out|refine below_set ?_ GE386.out|refine below_set ?_ GE387.out|refine below_set ?_ GE391.out|refine below_set ?_ GE394.out)|exact HB.out)) hb)
       clear BK384;clear BK385;clear BK386;clear BK387;clear BK391;clear BK394;clear HB
       have BK384:=n0_
       have BK385:=n1_
       have BK386:=n2_
       have BK387:=n3_
       have BK391:=n4_
       have BK394:=n5_
       have HB:=n6_
       clear n0_ n1_ n2_ n3_ n4_ n5_ n6_;(try clear hb);(try clear hb2);(try clear hk);(try clear hi)
       refine hK.out _ _ ⟨(blk_cell BK386.out 0).trans rfl,(blk_cell BK386.out 1).trans rfl,(blk_cell BK391.out 0).trans rfl,(blk_cell BK391.out 1).trans rfl,(blk_cell BK387.out 0).trans rfl,(blk_cell BK387.out 1).trans rfl,(blk_cell BK394.out 0).trans rfl,(blk_cell BK394.out 1).trans rfl⟩ (fun hHeld=>?_)
       clear hK K
       refine norm_ (a':=?_) ?_ ?_
       rotate_left
       ·show Act.put _ (some 49) _=_
        simp only [Act.put,List.setIfInBounds_toArray,List.set_cons_zero,List.set_cons_succ,i64_w,i32_w]
        rfl
       refine one_ (i:=6) (N:=some 50) #[true,true,true,true,true,true,true,true,true,false,true,true,false,false,false,false] rfl rfl (one_of HT_.out (by kernel_rfl)) (by decide) (fun K hK=>?_)
       refine goes_ Try.func83 (by kernel_rfl) rfl #[.agg #[.int .i64 t395,.int .i64 t396],.agg #[.int .i64 t397,.int .i64 t398]] (by rfl) rfl rfl (by (try simp only [List.map_toArray,List.map_cons,List.map_nil]);first|done|rfl|(simp only [List.length_drop,List.length_take];rfl)) ?_
       with_reducible refine (spec_trBoth.calls t395 t396 t397 t398 t399 t400 _ A26.out).mono ?_
       rintro e w54 ⟨rfl,hb⟩
       refine ⟨_,rfl,?_⟩
       have n0_:=Aside0.mk (blk_below (g:=gb384) (o:=.cells #[.slice A0_0 l0_0.length c0_0,.bool a0_1] 28 (0,0)) (by (with_reducible repeat (first|refine blk_drewN ?_ _|refine blk_drew ?_|refine blk_alloc ?_ _));exact BK384.out) hb)
       have n1_:=Aside0.mk (blk_below (g:=gb385) (o:=.cells #[.int .i64 0,.int .i64 0] 55 (0,0)) (by (with_reducible repeat (first|refine blk_drewN ?_ _|refine blk_drew ?_|refine blk_alloc ?_ _));exact BK385.out) hb)
       have n2_:=Aside0.mk (blk_below (g:=gb386) (o:=.cells #[.int .i64 x387000_1,.int .i64 x387001_1] 55 (0,0)) (by (with_reducible repeat (first|refine blk_drewN ?_ _|refine blk_drew ?_|refine blk_alloc ?_ _));exact BK386.out) hb)
       have n3_:=Aside0.mk (blk_below (g:=gb387) (o:=.cells #[.int .i64 x388000_1,.int .i64 x388001_1] 55 (0,0)) (by (with_reducible repeat (first|refine blk_drewN ?_ _|refine blk_drew ?_|refine blk_alloc ?_ _));exact BK387.out) hb)
       have n4_:=Aside0.mk (blk_below (g:=gb391) (o:=.cells #[.int .i64 t389,.int .i64 t390] 55 (0,0)) (by (with_reducible repeat (first|refine blk_drewN ?_ _|refine blk_drew ?_|refine blk_alloc ?_ _));exact BK391.out) hb)
       have n5_:=Aside0.mk (blk_below (g:=gb394) (o:=.cells #[.int .i64 t392,.int .i64 t393] 55 (0,0)) (by (with_reducible repeat (first|refine blk_drewN ?_ _|refine blk_drew ?_|refine blk_alloc ?_ _));exact BK394.out) hb)
       have n6_:=Aside0.mk (below_step (by repeat (first|(with_reducible first|exact HB.out|apply below_alloc|apply pw_below_drewN|apply below_drew1|refine below_set ?_ GE384.out|refine below_set ?_ GE385.out|refine below_set ?_ GE386.out|refine below_set ?_ GE387.out|refine below_set ?_ GE391.out|refine below_set ?_ GE394.out)|exact HB.out)) hb)
       clear BK384;clear BK385;clear BK386;clear BK387;clear BK391;clear BK394;clear HB
       have BK384:=n0_
       have BK385:=n1_
       have BK386:=n2_
       have BK387:=n3_
       have BK391:=n4_
       have BK394:=n5_
       have HB:=n6_
       clear n0_ n1_ n2_ n3_ n4_ n5_ n6_;(try clear hb);(try clear hb2);(try clear hk);(try clear hi)
       refine hK.out _ _ ⟨(blk_cell BK386.out 0).trans rfl,(blk_cell BK386.out 1).trans rfl,(blk_cell BK391.out 0).trans rfl,(blk_cell BK391.out 1).trans rfl,(blk_cell BK387.out 0).trans rfl,(blk_cell BK387.out 1).trans rfl,(blk_cell BK394.out 0).trans rfl,(blk_cell BK394.out 1).trans rfl⟩ (fun hHeld=>?_)
       clear hK K
       refine norm_ (a':=?_) ?_ ?_
       rotate_left
       ·show Act.put _ (some 50) _=_
        simp only [Act.put,List.setIfInBounds_toArray,List.set_cons_zero,List.set_cons_succ,i64_w,i32_w]
        rfl
       refine one_ (i:=9) (N:=some 53) #[true,true,true,true,true,true,true,true,true,true,true,true,false,false,false,false] rfl rfl (one_of HT_.out (by kernel_rfl)) (by decide) (fun K hK=>?_)
       refine goes_ Try.func82 (by kernel_rfl) rfl #[.agg #[.int .i64 x387000_1,.int .i64 x387001_1],.agg #[.int .i64 t392,.int .i64 t393]] (by rfl) rfl rfl (by (try simp only [List.map_toArray,List.map_cons,List.map_nil]);first|done|rfl|(simp only [List.length_drop,List.length_take];rfl)) ?_
       with_reducible refine (spec_trNext.calls x387000_1 x387001_1 t392 t393 t401 t402 _ A27.out).mono ?_
       rintro e w55 ⟨rfl,hb⟩
       refine ⟨_,rfl,?_⟩
       have n0_:=Aside0.mk (blk_below (g:=gb384) (o:=.cells #[.slice A0_0 l0_0.length c0_0,.bool a0_1] 28 (0,0)) (by (with_reducible repeat (first|refine blk_drewN ?_ _|refine blk_drew ?_|refine blk_alloc ?_ _));exact BK384.out) hb)
       have n1_:=Aside0.mk (blk_below (g:=gb385) (o:=.cells #[.int .i64 0,.int .i64 0] 55 (0,0)) (by (with_reducible repeat (first|refine blk_drewN ?_ _|refine blk_drew ?_|refine blk_alloc ?_ _));exact BK385.out) hb)
       have n2_:=Aside0.mk (blk_below (g:=gb386) (o:=.cells #[.int .i64 x387000_1,.int .i64 x387001_1] 55 (0,0)) (by (with_reducible repeat (first|refine blk_drewN ?_ _|refine blk_drew ?_|refine blk_alloc ?_ _));exact BK386.out) hb)
       have n3_:=Aside0.mk (blk_below (g:=gb387) (o:=.cells #[.int .i64 x388000_1,.int .i64 x388001_1] 55 (0,0)) (by (with_reducible repeat (first|refine blk_drewN ?_ _|refine blk_drew ?_|refine blk_alloc ?_ _));exact BK387.out) hb)
       have n4_:=Aside0.mk (blk_below (g:=gb391) (o:=.cells #[.int .i64 t389,.int .i64 t390] 55 (0,0)) (by (with_reducible repeat (first|refine blk_drewN ?_ _|refine blk_drew ?_|refine blk_alloc ?_ _));exact BK391.out) hb)
       have n5_:=Aside0.mk (blk_below (g:=gb394) (o:=.cells #[.int .i64 t392,.int .i64 t393] 55 (0,0)) (by (with_reducible repeat (first|refine blk_drewN ?_ _|refine blk_drew ?_|refine blk_alloc ?_ _));exact BK394.out) hb)
       have n6_:=Aside0.mk (below_step (by repeat (first|(with_reducible first|exact HB.out|apply below_alloc|apply pw_below_drewN|apply below_drew1|refine below_set ?_ GE384.out|refine below_set ?_ GE385.out|refine below_set ?_ GE386.out|refine below_set ?_ GE387.out|refine below_set ?_ GE391.out|refine below_set ?_ GE394.out)|exact HB.out)) hb)
       clear BK384;clear BK385;clear BK386;clear BK387;clear BK391;clear BK394;clear HB
       have BK384:=n0_
       have BK385:=n1_
       have BK386:=n2_
       have BK387:=n3_
       have BK391:=n4_
       have BK394:=n5_
       have HB:=n6_
       clear n0_ n1_ n2_ n3_ n4_ n5_ n6_;(try clear hb);(try clear hb2);(try clear hk);(try clear hi)
       refine hK.out _ _ ⟨(blk_cell BK386.out 0).trans rfl,(blk_cell BK386.out 1).trans rfl,(blk_cell BK391.out 0).trans rfl,(blk_cell BK391.out 1).trans rfl,(blk_cell BK387.out 0).trans rfl,(blk_cell BK387.out 1).trans rfl,(blk_cell BK394.out 0).trans rfl,(blk_cell BK394.out 1).trans rfl⟩ (fun hHeld=>?_)
       clear hK K
       refine norm_ (a':=?_) ?_ ?_
       rotate_left
       ·show Act.put _ (some 53) _=_
        simp only [Act.put,List.setIfInBounds_toArray,List.set_cons_zero,List.set_cons_succ,i64_w,i32_w]
        rfl
       refine one_ (i:=12) (N:=some 56) #[true,true,true,true,true,true,true,true,true,true,true,true,true,false,false,false] rfl rfl (one_of HT_.out (by kernel_rfl)) (by decide) (fun K hK=>?_)
       refine goes_ Try.func82 (by kernel_rfl) rfl #[.agg #[.int .i64 x388000_1,.int .i64 x388001_1],.agg #[.int .i64 t389,.int .i64 t390]] (by rfl) rfl rfl (by (try simp only [List.map_toArray,List.map_cons,List.map_nil]);first|done|rfl|(simp only [List.length_drop,List.length_take];rfl)) ?_
       with_reducible refine (spec_trNext.calls x388000_1 x388001_1 t389 t390 t403 t404 _ A28.out).mono ?_
       rintro e w56 ⟨rfl,hb⟩
       refine ⟨_,rfl,?_⟩
       have n0_:=Aside0.mk (blk_below (g:=gb384) (o:=.cells #[.slice A0_0 l0_0.length c0_0,.bool a0_1] 28 (0,0)) (by (with_reducible repeat (first|refine blk_drewN ?_ _|refine blk_drew ?_|refine blk_alloc ?_ _));exact BK384.out) hb)
       have n1_:=Aside0.mk (blk_below (g:=gb385) (o:=.cells #[.int .i64 0,.int .i64 0] 55 (0,0)) (by (with_reducible repeat (first|refine blk_drewN ?_ _|refine blk_drew ?_|refine blk_alloc ?_ _));exact BK385.out) hb)
       have n2_:=Aside0.mk (blk_below (g:=gb386) (o:=.cells #[.int .i64 x387000_1,.int .i64 x387001_1] 55 (0,0)) (by (with_reducible repeat (first|refine blk_drewN ?_ _|refine blk_drew ?_|refine blk_alloc ?_ _));exact BK386.out) hb)
       have n3_:=Aside0.mk (blk_below (g:=gb387) (o:=.cells #[.int .i64 x388000_1,.int .i64 x388001_1] 55 (0,0)) (by (with_reducible repeat (first|refine blk_drewN ?_ _|refine blk_drew ?_|refine blk_alloc ?_ _));exact BK387.out) hb)
       have n4_:=Aside0.mk (blk_below (g:=gb391) (o:=.cells #[.int .i64 t389,.int .i64 t390] 55 (0,0)) (by (with_reducible repeat (first|refine blk_drewN ?_ _|refine blk_drew ?_|refine blk_alloc ?_ _));exact BK391.out) hb)
       have n5_:=Aside0.mk (blk_below (g:=gb394) (o:=.cells #[.int .i64 t392,.int .i64 t393] 55 (0,0)) (by (with_reducible repeat (first|refine blk_drewN ?_ _|refine blk_drew ?_|refine blk_alloc ?_ _));exact BK394.out) hb)
       have n6_:=Aside0.mk (below_step (by repeat (first|(with_reducible first|exact HB.out|apply below_alloc|apply pw_below_drewN|apply below_drew1|refine below_set ?_ GE384.out|refine below_set ?_ GE385.out|refine below_set ?_ GE386.out|refine below_set ?_ GE387.out|refine below_set ?_ GE391.out|refine below_set ?_ GE394.out)|exact HB.out)) hb)
       clear BK384;clear BK385;clear BK386;clear BK387;clear BK391;clear BK394;clear HB
       have BK384:=n0_
       have BK385:=n1_
       have BK386:=n2_
       have BK387:=n3_
       have BK391:=n4_
       have BK394:=n5_
       have HB:=n6_
       clear n0_ n1_ n2_ n3_ n4_ n5_ n6_;(try clear hb);(try clear hb2);(try clear hk);(try clear hi)
       refine hK.out _ _ ⟨(blk_cell BK386.out 0).trans rfl,(blk_cell BK386.out 1).trans rfl,(blk_cell BK391.out 0).trans rfl,(blk_cell BK391.out 1).trans rfl,(blk_cell BK387.out 0).trans rfl,(blk_cell BK387.out 1).trans rfl,(blk_cell BK394.out 0).trans rfl,(blk_cell BK394.out 1).trans rfl⟩ (fun hHeld=>?_)
       clear hK K
       refine norm_ (a':=?_) ?_ ?_
       rotate_left
       ·show Act.put _ (some 56) _=_
        simp only [Act.put,List.setIfInBounds_toArray,List.set_cons_zero,List.set_cons_succ,i64_w,i32_w]
        rfl
       refine one_ (i:=13) (N:=some 57) #[true,true,true,true,true,true,true,true,true,true,true,true,true,true,false,false] rfl rfl (one_of HT_.out (by kernel_rfl)) (by decide) (fun K hK=>?_)
       refine goes_ Try.func83 (by kernel_rfl) rfl #[.agg #[.int .i64 t401,.int .i64 t402],.agg #[.int .i64 t403,.int .i64 t404]] (by rfl) rfl rfl (by (try simp only [List.map_toArray,List.map_cons,List.map_nil]);first|done|rfl|(simp only [List.length_drop,List.length_take];rfl)) ?_
       with_reducible refine (spec_trBoth.calls t401 t402 t403 t404 t405 t406 _ A29.out).mono ?_
       rintro e w57 ⟨rfl,hb⟩
       refine ⟨_,rfl,?_⟩
       have n0_:=Aside0.mk (blk_below (g:=gb384) (o:=.cells #[.slice A0_0 l0_0.length c0_0,.bool a0_1] 28 (0,0)) (by (with_reducible repeat (first|refine blk_drewN ?_ _|refine blk_drew ?_|refine blk_alloc ?_ _));exact BK384.out) hb)
       have n1_:=Aside0.mk (blk_below (g:=gb385) (o:=.cells #[.int .i64 0,.int .i64 0] 55 (0,0)) (by (with_reducible repeat (first|refine blk_drewN ?_ _|refine blk_drew ?_|refine blk_alloc ?_ _));exact BK385.out) hb)
       have n2_:=Aside0.mk (blk_below (g:=gb386) (o:=.cells #[.int .i64 x387000_1,.int .i64 x387001_1] 55 (0,0)) (by (with_reducible repeat (first|refine blk_drewN ?_ _|refine blk_drew ?_|refine blk_alloc ?_ _));exact BK386.out) hb)
       have n3_:=Aside0.mk (blk_below (g:=gb387) (o:=.cells #[.int .i64 x388000_1,.int .i64 x388001_1] 55 (0,0)) (by (with_reducible repeat (first|refine blk_drewN ?_ _|refine blk_drew ?_|refine blk_alloc ?_ _));exact BK387.out) hb)
       have n4_:=Aside0.mk (blk_below (g:=gb391) (o:=.cells #[.int .i64 t389,.int .i64 t390] 55 (0,0)) (by (with_reducible repeat (first|refine blk_drewN ?_ _|refine blk_drew ?_|refine blk_alloc ?_ _));exact BK391.out) hb)
       have n5_:=Aside0.mk (blk_below (g:=gb394) (o:=.cells #[.int .i64 t392,.int .i64 t393] 55 (0,0)) (by (with_reducible repeat (first|refine blk_drewN ?_ _|refine blk_drew ?_|refine blk_alloc ?_ _));exact BK394.out) hb)
       have n6_:=Aside0.mk (below_step (by repeat (first|(with_reducible first|exact HB.out|apply below_alloc|apply pw_below_drewN|apply below_drew1|refine below_set ?_ GE384.out|refine below_set ?_ GE385.out|refine below_set ?_ GE386.out|refine below_set ?_ GE387.out|refine below_set ?_ GE391.out|refine below_set ?_ GE394.out)|exact HB.out)) hb)
       clear BK384;clear BK385;clear BK386;clear BK387;clear BK391;clear BK394;clear HB
       have BK384:=n0_
       have BK385:=n1_
       have BK386:=n2_
       have BK387:=n3_
       have BK391:=n4_
       have BK394:=n5_
       have HB:=n6_
       clear n0_ n1_ n2_ n3_ n4_ n5_ n6_;(try clear hb);(try clear hb2);(try clear hk);(try clear hi)
       refine hK.out _ _ ⟨(blk_cell BK386.out 0).trans rfl,(blk_cell BK386.out 1).trans rfl,(blk_cell BK391.out 0).trans rfl,(blk_cell BK391.out 1).trans rfl,(blk_cell BK387.out 0).trans rfl,(blk_cell BK387.out 1).trans rfl,(blk_cell BK394.out 0).trans rfl,(blk_cell BK394.out 1).trans rfl⟩ (fun hHeld=>?_)
       clear hK K
       refine norm_ (a':=?_) ?_ ?_
       rotate_left
       ·show Act.put _ (some 57) _=_
        simp only [Act.put,List.setIfInBounds_toArray,List.set_cons_zero,List.set_cons_succ,i64_w,i32_w]
        rfl
       refine last_ (i:=14) (N:=none) #[true,true,true,true,true,true,true,true,true,true,true,true,true,true,true,false] rfl rfl (one_of HT_.out (by kernel_rfl)) (by decide) (fun K hK=>?_)
       have hs58:w57.cell? ⟨gb386,0,none⟩=some (.int .i64 x387000_1):=(blk_cell BK386.out 0).trans rfl
       have hfs58:=blk_frozen BK386.out 0
       have hns58_0:=NB384_386.out
       have hns58_1:=NB385_386.out
       have hns58_3:=NB387_386.out
       have hns58_4:=NB391_386.out
       have hns58_5:=NB394_386.out
       have hms58_0:=NB386_384.out
       have hms58_1:=NB386_385.out
       have hms58_3:=NB386_387.out
       have hms58_4:=NB386_391.out
       have hms58_5:=NB386_394.out
       have hs59:w57.cell? ⟨gb386,1,none⟩=some (.int .i64 x387001_1):=(blk_cell BK386.out 1).trans rfl
       have hfs59:=blk_frozen BK386.out 1
       have hns59_0:=NB384_386.out
       have hns59_1:=NB385_386.out
       have hns59_3:=NB387_386.out
       have hns59_4:=NB391_386.out
       have hns59_5:=NB394_386.out
       have hms59_0:=NB386_384.out
       have hms59_1:=NB386_385.out
       have hms59_3:=NB386_387.out
       have hms59_4:=NB386_391.out
       have hms59_5:=NB386_394.out
       refine skip_ (w1:=?_) (by rfl) rfl ?_ ?_
       rotate_left
       ·go_simp
        rfl
       refine hK.out _ _ ?_
       clear hK K
       refine last_ (i:=15) (N:=none) #[true,true,true,true,true,true,true,true,true,true,true,true,true,true,true,true] rfl rfl (one_of HT_.out (by kernel_rfl)) (by decide) (fun K hK=>?_)
       have hs60:w57.cell? ⟨gb387,0,none⟩=some (.int .i64 x388000_1):=(blk_cell BK387.out 0).trans rfl
       have hfs60:=blk_frozen BK387.out 0
       have hns60_0:=NB384_387.out
       have hns60_1:=NB385_387.out
       have hns60_2:=NB386_387.out
       have hns60_4:=NB391_387.out
       have hns60_5:=NB394_387.out
       have hms60_0:=NB387_384.out
       have hms60_1:=NB387_385.out
       have hms60_2:=NB387_386.out
       have hms60_4:=NB387_391.out
       have hms60_5:=NB387_394.out
       have hs61:w57.cell? ⟨gb387,1,none⟩=some (.int .i64 x388001_1):=(blk_cell BK387.out 1).trans rfl
       have hfs61:=blk_frozen BK387.out 1
       have hns61_0:=NB384_387.out
       have hns61_1:=NB385_387.out
       have hns61_2:=NB386_387.out
       have hns61_4:=NB391_387.out
       have hns61_5:=NB394_387.out
       have hms61_0:=NB387_384.out
       have hms61_1:=NB387_385.out
       have hms61_2:=NB387_386.out
       have hms61_4:=NB387_391.out
       have hms61_5:=NB387_394.out
       refine skip_ (w1:=?_) (by rfl) rfl ?_ ?_
       rotate_left
       ·go_simp
        rfl
       refine hK.out _ _ ?_
       clear hK K
       refine done_ (done_of HT_.out (by kernel_rfl)) ?_
       try go_wp2
       go_roundg k1
       case measure=>have:=HK1.out;omega
       case rel=>exact ⟨(wrap64 (x24_1+1)),(t399),(t400),(t405),(t406),(by first|rfl|(simp;done)|(simp [*];done)),H',⟨by have:=HK1.out;omega⟩,⟨by (with_reducible repeat (first|refine blk_drewN ?_ _|refine blk_drew ?_|refine blk_alloc ?_ _));refine blk_far ?_ NB384_387.out _;(with_reducible repeat (first|refine blk_drewN ?_ _|refine blk_drew ?_|refine blk_alloc ?_ _));refine blk_far ?_ NB384_387.out _;(with_reducible repeat (first|refine blk_drewN ?_ _|refine blk_drew ?_|refine blk_alloc ?_ _));refine blk_far ?_ NB384_386.out _;(with_reducible repeat (first|refine blk_drewN ?_ _|refine blk_drew ?_|refine blk_alloc ?_ _));refine blk_far ?_ NB384_386.out _;(with_reducible repeat (first|refine blk_drewN ?_ _|refine blk_drew ?_|refine blk_alloc ?_ _));exact BK384.out⟩,⟨by (with_reducible repeat (first|refine blk_drewN ?_ _|refine blk_drew ?_|refine blk_alloc ?_ _));refine blk_far ?_ NB385_387.out _;(with_reducible repeat (first|refine blk_drewN ?_ _|refine blk_drew ?_|refine blk_alloc ?_ _));refine blk_far ?_ NB385_387.out _;(with_reducible repeat (first|refine blk_drewN ?_ _|refine blk_drew ?_|refine blk_alloc ?_ _));refine blk_far ?_ NB385_386.out _;(with_reducible repeat (first|refine blk_drewN ?_ _|refine blk_drew ?_|refine blk_alloc ?_ _));refine blk_far ?_ NB385_386.out _;(with_reducible repeat (first|refine blk_drewN ?_ _|refine blk_drew ?_|refine blk_alloc ?_ _));exact BK385.out⟩,⟨by (with_reducible repeat (first|refine blk_drewN ?_ _|refine blk_drew ?_|refine blk_alloc ?_ _));refine blk_far ?_ NB386_387.out _;(with_reducible repeat (first|refine blk_drewN ?_ _|refine blk_drew ?_|refine blk_alloc ?_ _));refine blk_far ?_ NB386_387.out _;(with_reducible repeat (first|refine blk_drewN ?_ _|refine blk_drew ?_|refine blk_alloc ?_ _));refine blk_put (cs:=#[.int .i64 t399,.int .i64 x387001_1]) ?_ 1 _ rfl;(with_reducible repeat (first|refine blk_drewN ?_ _|refine blk_drew ?_|refine blk_alloc ?_ _));refine blk_put (cs:=#[.int .i64 x387000_1,.int .i64 x387001_1]) ?_ 0 _ rfl;(with_reducible repeat (first|refine blk_drewN ?_ _|refine blk_drew ?_|refine blk_alloc ?_ _));exact BK386.out⟩,⟨by (with_reducible repeat (first|refine blk_drewN ?_ _|refine blk_drew ?_|refine blk_alloc ?_ _));refine blk_put (cs:=#[.int .i64 t405,.int .i64 x388001_1]) ?_ 1 _ rfl;(with_reducible repeat (first|refine blk_drewN ?_ _|refine blk_drew ?_|refine blk_alloc ?_ _));refine blk_put (cs:=#[.int .i64 x388000_1,.int .i64 x388001_1]) ?_ 0 _ rfl;(with_reducible repeat (first|refine blk_drewN ?_ _|refine blk_drew ?_|refine blk_alloc ?_ _));refine blk_far ?_ NB387_386.out _;(with_reducible repeat (first|refine blk_drewN ?_ _|refine blk_drew ?_|refine blk_alloc ?_ _));refine blk_far ?_ NB387_386.out _;(with_reducible repeat (first|refine blk_drewN ?_ _|refine blk_drew ?_|refine blk_alloc ?_ _));exact BK387.out⟩,⟨by repeat (first|(with_reducible first|exact HB.out|apply below_alloc|apply pw_below_drewN|apply below_drew1|refine below_set ?_ GE384.out|refine below_set ?_ GE385.out|refine below_set ?_ GE386.out|refine below_set ?_ GE387.out|refine below_set ?_ GE391.out|refine below_set ?_ GE394.out)|exact HB.out)⟩⟩
      ·rw [if_neg c21] at H
       have c21b0:((rd l1 x24_1)==a3)=false:=beq_eq_false_iff_ne.mpr c21
       have c21b1:((rd l1 x24_1) !=a3)=true:=bne_iff_ne.mpr c21
       have H':=Aside0.mk H
       clear H
       have p388:0≤(x24_1:Int):=of_decide_eq_true (by first|(with_reducible assumption)|assumption)
       have q388:x24_1< (l1.length:Int):=of_decide_eq_true (by first|(with_reducible assumption)|assumption)
       obtain ⟨ad388,e388,hx388_0⟩:=Kd.at_int HR1.out x24_1 p388 q388
       cases e388
       replace hx388_0:=(HB.out.cell (World.block_lt_of_cell? w _ hx388_0)).trans hx388_0
       replace p388:=eq_true p388
       replace q388:=eq_true q388
       go_wp2
       go_roundg k1
       case measure=>have:=HK1.out;omega
       case rel=>exact ⟨(wrap64 (x24_1+1)),(x387000_1),(x387001_1),(x388000_1),(x388001_1),(by first|rfl|(simp;done)|(simp [*];done)),H',⟨by have:=HK1.out;omega⟩,⟨by (with_reducible repeat (first|refine blk_drewN ?_ _|refine blk_drew ?_|refine blk_alloc ?_ _));exact BK384.out⟩,⟨by (with_reducible repeat (first|refine blk_drewN ?_ _|refine blk_drew ?_|refine blk_alloc ?_ _));exact BK385.out⟩,⟨by (with_reducible repeat (first|refine blk_drewN ?_ _|refine blk_drew ?_|refine blk_alloc ?_ _));exact BK386.out⟩,⟨by (with_reducible repeat (first|refine blk_drewN ?_ _|refine blk_drew ?_|refine blk_alloc ?_ _));exact BK387.out⟩,⟨by repeat (first|(with_reducible first|exact HB.out|apply below_alloc|apply pw_below_drewN|apply below_drew1|refine below_set ?_ GE384.out|refine below_set ?_ GE385.out|refine below_set ?_ GE386.out|refine below_set ?_ GE387.out)|exact HB.out)⟩⟩
     ·rw [if_neg c20] at H
      exact absurd H (by simp)
    ·rw [if_neg c19] at H
     exact absurd H (by simp)
   ·rw [if_neg c18] at H
    have c18b0:decide (x24_1< (l1.length:Int))=false:=decide_eq_false c18
    clear c18
    by_cases c62:0≤a3
    ·rw [if_pos c62] at H
     have c62b0:=eq_true c62
     have c62b1:decide (0≤a3)=true:=decide_eq_true c62
     clear c62
     obtain ⟨ji63,hji63⟩:∃ j_:Int,(shr .i64 a2 a3)=j_:=⟨_,rfl⟩
     replace H:(if a0_1=true then (spec_trBelow.j1 k1 a4 (wrap64 ((wrap64 ((Int.tmod (ji63) 2)+a5))+a4)) x387000_1 x387001_1 x388000_1 x388001_1) else (spec_trBelow.j1 k1 a4 (wrap64 ((Int.tmod (ji63) 2)+a5)) x387000_1 x387001_1 x388000_1 x388001_1))=some (r1,r2):=by first|(rw [hji63] at H;exact H)|(simp only [hji63] at H ⊢;exact H)
     have hji63_:(a2 / 2 ^ min a3.toNat 64)=ji63:=hji63
     have hji63z:a3≤64→(a2 / 2 ^ a3.toNat)=ji63:=shr_small hji63
     have HC64:=Aside0.mk H
     clear H
     have hnb65:=NB384_385.out
     have hnc65:=NB385_384.out
     have hnb66:=NB384_386.out
     have hnc66:=NB386_384.out
     have hnb67:=NB384_387.out
     have hnc67:=NB387_384.out
     have hcz68_0:wr.cell? ⟨gb384,0,none⟩=some (.slice A0_0 l0_0.length c0_0):=(blk_cell BK384.out 0).trans rfl
     have hcz68_1:wr.cell? ⟨gb384,1,none⟩=some (.bool a0_1):=(blk_cell BK384.out 1).trans rfl
     have hfz68_0:=blk_frozen BK384.out 0
     have hfz68_1:=blk_frozen BK384.out 1
     go_upto_if 66 with (fail)
     go_cut [19] (fun v19 wc=>∃ (kq:Nat) (x19_63:Int),v19=.int .i64 x19_63∧Aside0 (spec_trBelow.j1 kq a4 x19_63 x387000_1 x387001_1 x388000_1 x388001_1=some (r1,r2))∧Aside0 (kq≤k1)∧Aside0 (wc.heap[gb384]?=some (.cells #[(.slice A0_0 l0_0.length c0_0),.bool a0_1] 28 (0,0)))∧Aside0 (wc.heap[gb385]?=some (.cells #[.int .i64 0,.int .i64 0] 55 (0,0)))∧Aside0 (wc.heap[gb386]?=some (.cells #[.int .i64 x387000_1,.int .i64 x387001_1] 55 (0,0)))∧Aside0 (wc.heap[gb387]?=some (.cells #[.int .i64 x388000_1,.int .i64 x388001_1] 55 (0,0)))∧Aside0 (Below w.heap.size w wc))
     case first=>
      have H:=HC64.out
      clear HC64
      by_cases c69:a0_1=true
      ·subst c69
       have H1:(spec_trBelow.j1 k1 a4 (wrap64 ((wrap64 ((Int.tmod (ji63) 2)+a5))+a4)) x387000_1 x387001_1 x388000_1 x388001_1)=some (r1,r2):=by rw [if_pos rfl] at H;exact H
       clear H
       have H:=H1
       clear H1
       have H':=Aside0.mk H
       clear H
       go_wp2
       go_meet
       case rel=>exact ⟨_,(wrap64 ((wrap64 ((Int.tmod (ji63) 2)+a5))+a4)),(by first|rfl|(simp;done)|(simp only [← hji63]<;>(first|rfl|simp))|(simp [*];done)),H',⟨by have:=HK1.out;first|omega|exact Nat.le_refl _⟩,⟨by (with_reducible repeat (first|refine blk_drewN ?_ _|refine blk_drew ?_|refine blk_alloc ?_ _));exact BK384.out⟩,⟨by (with_reducible repeat (first|refine blk_drewN ?_ _|refine blk_drew ?_|refine blk_alloc ?_ _));exact BK385.out⟩,⟨by (with_reducible repeat (first|refine blk_drewN ?_ _|refine blk_drew ?_|refine blk_alloc ?_ _));exact BK386.out⟩,⟨by (with_reducible repeat (first|refine blk_drewN ?_ _|refine blk_drew ?_|refine blk_alloc ?_ _));exact BK387.out⟩,⟨by repeat (first|(with_reducible first|exact HB.out|apply below_alloc|apply pw_below_drewN|apply below_drew1|refine below_set ?_ GE384.out|refine below_set ?_ GE385.out|refine below_set ?_ GE386.out|refine below_set ?_ GE387.out)|exact HB.out)⟩⟩
      ·replace c69:=Bool.eq_false_iff.mpr c69
       subst c69
       have H1:(spec_trBelow.j1 k1 a4 (wrap64 ((Int.tmod (ji63) 2)+a5)) x387000_1 x387001_1 x388000_1 x388001_1)=some (r1,r2):=by rw [if_neg (show ¬ (false=true) by decide)] at H;exact H
       clear H
       have H:=H1
       clear H1
       have H':=Aside0.mk H
       clear H
       go_wp2
       go_meet
       case rel=>exact ⟨_,(wrap64 ((Int.tmod (ji63) 2)+a5)),(by first|rfl|(simp;done)|(simp only [← hji63]<;>(first|rfl|simp))|(simp [*];done)),H',⟨by have:=HK1.out;first|omega|exact Nat.le_refl _⟩,⟨by (with_reducible repeat (first|refine blk_drewN ?_ _|refine blk_drew ?_|refine blk_alloc ?_ _));exact BK384.out⟩,⟨by (with_reducible repeat (first|refine blk_drewN ?_ _|refine blk_drew ?_|refine blk_alloc ?_ _));exact BK385.out⟩,⟨by (with_reducible repeat (first|refine blk_drewN ?_ _|refine blk_drew ?_|refine blk_alloc ?_ _));exact BK386.out⟩,⟨by (with_reducible repeat (first|refine blk_drewN ?_ _|refine blk_drew ?_|refine blk_alloc ?_ _));exact BK387.out⟩,⟨by repeat (first|(with_reducible first|exact HB.out|apply below_alloc|apply pw_below_drewN|apply below_drew1|refine below_set ?_ GE384.out|refine below_set ?_ GE385.out|refine below_set ?_ GE386.out|refine below_set ?_ GE387.out)|exact HB.out)⟩⟩
     case rest=>
      clear HC64;(try clear c1);(try clear c2);(try clear p2);(try clear c3);(try clear p3);(try clear q3);(try clear hx3);(try clear c4);(try clear c6);(try clear p6);(try clear c8);(try clear c11);(try clear c12);(try clear c13);(try clear c15);(try clear c16);(try clear c18);(try clear c18b0);(try clear c19);(try clear c19b0);(try clear c20);(try clear c20b0);(try clear c21);(try clear c21b0);(try clear c21b1);(try clear c30);(try clear c31);(try clear c32);(try clear c36);(try clear c37);(try clear c38);(try clear p38);(try clear q38);(try clear hx38);(try clear c39);(try clear c44);(try clear c45);(try clear c46);(try clear c47);(try clear c48);(try clear c62);(try clear c62b0);(try clear c62b1);(try clear p64);(try clear c65);(try clear c66);(try clear c67);(try clear c69);(try clear hcz14_0);(try clear hcz14_1);(try clear hcz17_0);(try clear hcz17_1);(try clear hcz33_0);(try clear hcz33_1);(try clear hcz40_0);(try clear hcz40_1);(try clear hcz41_0);(try clear hcz41_1);(try clear hcz49_0);(try clear hcz49_1);(try clear hcz68_0);(try clear hcz68_1);(try clear hfz14_0);(try clear hfz14_1);(try clear hfz17_0);(try clear hfz17_1);(try clear hfz33_0);(try clear hfz33_1);(try clear hfz40_0);(try clear hfz40_1);(try clear hfz41_0);(try clear hfz41_1);(try clear hfz49_0);(try clear hfz49_1);(try clear hfz68_0);(try clear hfz68_1);(try clear hx388_0);(try clear p2);(try clear p388);(try clear q388)
      obtain ⟨kq,x19_63,rfl,HA,HJ63,BK384,BK385,BK386,BK387,HB⟩:=hcut
      cases kq with
      |zero=>exact absurd HA.out (by simp [spec_trBelow.j1])
      |succ kj63=>
       have H:=HA.out
       clear HA
       simp only [spec_trBelow.j1] at H
       by_cases c70:(Int.tmod x19_63 2)=1
       ·rw [if_pos c70] at H
        have c70b0:((Int.tmod x19_63 2)==1)=true:=beq_iff_eq.mpr c70
        have c70b1:((Int.tmod x19_63 2) !=1)=false:=bne_eq_false_iff_eq.mpr c70
        clear c70
        by_cases c71:x388000_1>0
        ·rw [if_pos c71] at H
         have c71b0:decide (0< x388000_1)=true:=decide_eq_true c71
         clear c71
         simp only [Option.some.injEq,Prod.mk.injEq] at H
         obtain ⟨rfl,rfl⟩:=H
         have hnb72:=NB387_384.out
         have hnc72:=NB384_387.out
         have hnb73:=NB387_385.out
         have hnc73:=NB385_387.out
         have hnb74:=NB387_386.out
         have hnc74:=NB386_387.out
         have hcz75_0:wc.cell? ⟨gb387,0,none⟩=some (.int .i64 x388000_1):=(blk_cell BK387.out 0).trans rfl
         have hcz75_1:wc.cell? ⟨gb387,1,none⟩=some (.int .i64 x388001_1):=(blk_cell BK387.out 1).trans rfl
         have hfz75_0:=blk_frozen BK387.out 0
         have hfz75_1:=blk_frozen BK387.out 1
         have hnb76:=NB386_384.out
         have hnc76:=NB384_386.out
         have hnb77:=NB386_385.out
         have hnc77:=NB385_386.out
         have hcz78_0:wc.cell? ⟨gb386,0,none⟩=some (.int .i64 x387000_1):=(blk_cell BK386.out 0).trans rfl
         have hcz78_1:wc.cell? ⟨gb386,1,none⟩=some (.int .i64 x387001_1):=(blk_cell BK386.out 1).trans rfl
         have hfz78_0:=blk_frozen BK386.out 0
         have hfz78_1:=blk_frozen BK386.out 1
         have hnb79:=NB385_384.out
         have hnc79:=NB384_385.out
         have hcz80_0:wc.cell? ⟨gb385,0,none⟩=some (.int .i64 0):=(blk_cell BK385.out 0).trans rfl
         have hcz80_1:wc.cell? ⟨gb385,1,none⟩=some (.int .i64 0):=(blk_cell BK385.out 1).trans rfl
         have hfz80_0:=blk_frozen BK385.out 0
         have hfz80_1:=blk_frozen BK385.out 1
         go_wp2
         refine bodyPost_ret (results_cell_row rfl _ _ gb385 55 #[.int .i64 x388000_1,.int .i64 (wrap64 (x388001_1+a4))] (0,0) _ rfl (by (with_reducible repeat (first|refine blk_drewN ?_ _|refine blk_drew ?_|refine blk_alloc ?_ _));refine blk_put (cs:=#[.int .i64 x388000_1,.int .i64 0]) ?_ 1 _ rfl;(with_reducible repeat (first|refine blk_drewN ?_ _|refine blk_drew ?_|refine blk_alloc ?_ _));refine blk_put (cs:=#[.int .i64 0,.int .i64 0]) ?_ 0 _ rfl;(with_reducible repeat (first|refine blk_drewN ?_ _|refine blk_drew ?_|refine blk_alloc ?_ _));refine blk_far ?_ NB385_386.out _;(with_reducible repeat (first|refine blk_drewN ?_ _|refine blk_drew ?_|refine blk_alloc ?_ _));refine blk_far ?_ NB385_386.out _;(with_reducible repeat (first|refine blk_drewN ?_ _|refine blk_drew ?_|refine blk_alloc ?_ _));refine blk_far ?_ NB385_386.out _;(with_reducible repeat (first|refine blk_drewN ?_ _|refine blk_drew ?_|refine blk_alloc ?_ _));exact BK385.out) Try.underlying55 rfl (by kernel_rfl)) rfl ?_
         exact ⟨by first|rfl|(simp [errW_none,errW_some]<;>rfl)|(simp only [← hji63];first|rfl|(simp [errW_none,errW_some]<;>rfl))|(simp [*,errW_none,errW_some]<;>rfl),by repeat (first|(with_reducible first|exact HB.out|apply below_alloc|apply pw_below_drewN|apply below_drew1|refine below_set ?_ GE384.out|refine below_set ?_ GE385.out|refine below_set ?_ GE386.out|refine below_set ?_ GE387.out)|exact HB.out)⟩
        ·rw [if_neg c71] at H
         have c71b0:decide (0< x388000_1)=false:=decide_eq_false c71
         clear c71
         simp only [Option.some.injEq,Prod.mk.injEq] at H
         obtain ⟨rfl,rfl⟩:=H
         have hnb81:=NB387_384.out
         have hnc81:=NB384_387.out
         have hnb82:=NB387_385.out
         have hnc82:=NB385_387.out
         have hnb83:=NB387_386.out
         have hnc83:=NB386_387.out
         have hcz84_0:wc.cell? ⟨gb387,0,none⟩=some (.int .i64 x388000_1):=(blk_cell BK387.out 0).trans rfl
         have hcz84_1:wc.cell? ⟨gb387,1,none⟩=some (.int .i64 x388001_1):=(blk_cell BK387.out 1).trans rfl
         have hfz84_0:=blk_frozen BK387.out 0
         have hfz84_1:=blk_frozen BK387.out 1
         have hnb85:=NB386_384.out
         have hnc85:=NB384_386.out
         have hnb86:=NB386_385.out
         have hnc86:=NB385_386.out
         have hcz87_0:wc.cell? ⟨gb386,0,none⟩=some (.int .i64 x387000_1):=(blk_cell BK386.out 0).trans rfl
         have hcz87_1:wc.cell? ⟨gb386,1,none⟩=some (.int .i64 x387001_1):=(blk_cell BK386.out 1).trans rfl
         have hfz87_0:=blk_frozen BK386.out 0
         have hfz87_1:=blk_frozen BK386.out 1
         have hnb88:=NB385_384.out
         have hnc88:=NB384_385.out
         have hcz89_0:wc.cell? ⟨gb385,0,none⟩=some (.int .i64 0):=(blk_cell BK385.out 0).trans rfl
         have hcz89_1:wc.cell? ⟨gb385,1,none⟩=some (.int .i64 0):=(blk_cell BK385.out 1).trans rfl
         have hfz89_0:=blk_frozen BK385.out 0
         have hfz89_1:=blk_frozen BK385.out 1
         go_wp2
         refine bodyPost_ret (results_cell_row rfl _ _ gb385 55 #[.int .i64 x388000_1,.int .i64 x388001_1] (0,0) _ rfl (by (with_reducible repeat (first|refine blk_drewN ?_ _|refine blk_drew ?_|refine blk_alloc ?_ _));refine blk_put (cs:=#[.int .i64 x388000_1,.int .i64 0]) ?_ 1 _ rfl;(with_reducible repeat (first|refine blk_drewN ?_ _|refine blk_drew ?_|refine blk_alloc ?_ _));refine blk_put (cs:=#[.int .i64 0,.int .i64 0]) ?_ 0 _ rfl;(with_reducible repeat (first|refine blk_drewN ?_ _|refine blk_drew ?_|refine blk_alloc ?_ _));refine blk_far ?_ NB385_386.out _;(with_reducible repeat (first|refine blk_drewN ?_ _|refine blk_drew ?_|refine blk_alloc ?_ _));refine blk_far ?_ NB385_386.out _;(with_reducible repeat (first|refine blk_drewN ?_ _|refine blk_drew ?_|refine blk_alloc ?_ _));exact BK385.out) Try.underlying55 rfl (by kernel_rfl)) rfl ?_
         exact ⟨by first|rfl|(simp [errW_none,errW_some]<;>rfl)|(simp only [← hji63];first|rfl|(simp [errW_none,errW_some]<;>rfl))|(simp [*,errW_none,errW_some]<;>rfl),by repeat (first|(with_reducible first|exact HB.out|apply below_alloc|apply pw_below_drewN|apply below_drew1|refine below_set ?_ GE384.out|refine below_set ?_ GE385.out|refine below_set ?_ GE386.out|refine below_set ?_ GE387.out)|exact HB.out)⟩
       ·rw [if_neg c70] at H
        have c70b0:((Int.tmod x19_63 2)==1)=false:=beq_eq_false_iff_ne.mpr c70
        have c70b1:((Int.tmod x19_63 2) !=1)=true:=bne_iff_ne.mpr c70
        by_cases c90:x387000_1>0
        ·rw [if_pos c90] at H
         have c90b0:decide (0< x387000_1)=true:=decide_eq_true c90
         clear c90
         simp only [Option.some.injEq,Prod.mk.injEq] at H
         obtain ⟨rfl,rfl⟩:=H
         have hnb91:=NB386_384.out
         have hnc91:=NB384_386.out
         have hnb92:=NB386_385.out
         have hnc92:=NB385_386.out
         have hnb93:=NB386_387.out
         have hnc93:=NB387_386.out
         have hcz94_0:wc.cell? ⟨gb386,0,none⟩=some (.int .i64 x387000_1):=(blk_cell BK386.out 0).trans rfl
         have hcz94_1:wc.cell? ⟨gb386,1,none⟩=some (.int .i64 x387001_1):=(blk_cell BK386.out 1).trans rfl
         have hfz94_0:=blk_frozen BK386.out 0
         have hfz94_1:=blk_frozen BK386.out 1
         have hnb95:=NB385_384.out
         have hnc95:=NB384_385.out
         have hnb96:=NB385_387.out
         have hnc96:=NB387_385.out
         have hcz97_0:wc.cell? ⟨gb385,0,none⟩=some (.int .i64 0):=(blk_cell BK385.out 0).trans rfl
         have hcz97_1:wc.cell? ⟨gb385,1,none⟩=some (.int .i64 0):=(blk_cell BK385.out 1).trans rfl
         have hfz97_0:=blk_frozen BK385.out 0
         have hfz97_1:=blk_frozen BK385.out 1
         go_wp2
         refine bodyPost_ret (results_cell_row rfl _ _ gb385 55 #[.int .i64 x387000_1,.int .i64 (wrap64 (x387001_1+a4))] (0,0) _ rfl (by (with_reducible repeat (first|refine blk_drewN ?_ _|refine blk_drew ?_|refine blk_alloc ?_ _));refine blk_put (cs:=#[.int .i64 x387000_1,.int .i64 0]) ?_ 1 _ rfl;(with_reducible repeat (first|refine blk_drewN ?_ _|refine blk_drew ?_|refine blk_alloc ?_ _));refine blk_put (cs:=#[.int .i64 0,.int .i64 0]) ?_ 0 _ rfl;(with_reducible repeat (first|refine blk_drewN ?_ _|refine blk_drew ?_|refine blk_alloc ?_ _));refine blk_far ?_ NB385_386.out _;(with_reducible repeat (first|refine blk_drewN ?_ _|refine blk_drew ?_|refine blk_alloc ?_ _));exact BK385.out) Try.underlying55 rfl (by kernel_rfl)) rfl ?_
         exact ⟨by first|rfl|(simp [errW_none,errW_some]<;>rfl)|(simp only [← hji63];first|rfl|(simp [errW_none,errW_some]<;>rfl))|(simp [*,errW_none,errW_some]<;>rfl),by repeat (first|(with_reducible first|exact HB.out|apply below_alloc|apply pw_below_drewN|apply below_drew1|refine below_set ?_ GE384.out|refine below_set ?_ GE385.out|refine below_set ?_ GE386.out|refine below_set ?_ GE387.out)|exact HB.out)⟩
        ·rw [if_neg c90] at H
         have c90b0:decide (0< x387000_1)=false:=decide_eq_false c90
         clear c90
         simp only [Option.some.injEq,Prod.mk.injEq] at H
         obtain ⟨rfl,rfl⟩:=H
         have hnb98:=NB386_384.out
         have hnc98:=NB384_386.out
         have hnb99:=NB386_385.out
         have hnc99:=NB385_386.out
         have hnb100:=NB386_387.out
         have hnc100:=NB387_386.out
         have hcz101_0:wc.cell? ⟨gb386,0,none⟩=some (.int .i64 x387000_1):=(blk_cell BK386.out 0).trans rfl
         have hcz101_1:wc.cell? ⟨gb386,1,none⟩=some (.int .i64 x387001_1):=(blk_cell BK386.out 1).trans rfl
         have hfz101_0:=blk_frozen BK386.out 0
         have hfz101_1:=blk_frozen BK386.out 1
         have hnb102:=NB385_384.out
         have hnc102:=NB384_385.out
         have hnb103:=NB385_387.out
         have hnc103:=NB387_385.out
         have hcz104_0:wc.cell? ⟨gb385,0,none⟩=some (.int .i64 0):=(blk_cell BK385.out 0).trans rfl
         have hcz104_1:wc.cell? ⟨gb385,1,none⟩=some (.int .i64 0):=(blk_cell BK385.out 1).trans rfl
         have hfz104_0:=blk_frozen BK385.out 0
         have hfz104_1:=blk_frozen BK385.out 1
         go_wp2
         refine bodyPost_ret (results_cell_row rfl _ _ gb385 55 #[.int .i64 x387000_1,.int .i64 x387001_1] (0,0) _ rfl (by (with_reducible repeat (first|refine blk_drewN ?_ _|refine blk_drew ?_|refine blk_alloc ?_ _));refine blk_put (cs:=#[.int .i64 x387000_1,.int .i64 0]) ?_ 1 _ rfl;(with_reducible repeat (first|refine blk_drewN ?_ _|refine blk_drew ?_|refine blk_alloc ?_ _));refine blk_put (cs:=#[.int .i64 0,.int .i64 0]) ?_ 0 _ rfl;(with_reducible repeat (first|refine blk_drewN ?_ _|refine blk_drew ?_|refine blk_alloc ?_ _));exact BK385.out) Try.underlying55 rfl (by kernel_rfl)) rfl ?_
         exact ⟨by first|rfl|(simp [errW_none,errW_some]<;>rfl)|(simp only [← hji63];first|rfl|(simp [errW_none,errW_some]<;>rfl))|(simp [*,errW_none,errW_some]<;>rfl),by repeat (first|(with_reducible first|exact HB.out|apply below_alloc|apply pw_below_drewN|apply below_drew1|refine below_set ?_ GE384.out|refine below_set ?_ GE385.out|refine below_set ?_ GE386.out|refine below_set ?_ GE387.out)|exact HB.out)⟩
    ·rw [if_neg c62] at H
     exact absurd H (by simp)
/-! ### spec_trAll: function 55 -/
def spec_trAll.l0:Nat→List Int→Int→List Int→Int→Int→List Int→Bool→Int→Int→Option (Int × Int)
 |0,_,_,_,_,_,_,_,_,_=>none
 |k+1,x1,x2,x11,x12,x13,x408000,x408001,x410000,x410001=>if x13< x12 then (if 0≤x13 then (if x13< (x11.length:Int) then (if (rd x11 x13)< 0 then ((spec_trBelow.f k x408000 x408001 x1 x2 x13 0 0).bind fun bt411=>((spec_trBelow.f k x408000 x408001 x1 x2 x13 1 0).bind fun bt413=>((spec_trBoth.f bt411.1 bt411.2 bt413.1 bt413.2).bind fun bt415=>((spec_trNext.f x410000 x410001 bt415.1 bt415.2).bind fun bt417=>(spec_trAll.l0 k x1 x2 x11 x12 (wrap64 (x13+1)) x408000 x408001 bt417.1 bt417.2))))) else (spec_trAll.l0 k x1 x2 x11 x12 (wrap64 (x13+1)) x408000 x408001 x410000 x410001)) else (none)) else (none)) else (some (x410000,x410001))
def spec_trAll.f (k:Nat) (l0_0:List Int) (a0_1:Bool) (l1:List Int) (a2:Int):Option (Int × Int):=spec_trAll.l0 k l1 a2 l1 (l1.length:Int) 0 l0_0 a0_1 1 0
def spec_trAll.T6:Bool × List (List Nat × List Nat):=(true,[([],[]),([],[]),([],[]),([],[]),([],[]),([1,2,3,4],[1,2,3,4]),([],[]),([],[]),([],[]),([],[]),([6,7,8,9,5],[6,7,8,9]),([5,10,10],[5,10]),([0,11,11],[0,11]),([12,12,0,1,2,3,4,5,6,7,8,9,10,11,12],[12])])
def spec_trAll.B6:List Nat:=[0,0,0,0,0,30,0,0,0,0,1022,2046,4095,8191]
theorem spec_trAll.tab6:rtab .any (opsOf Try.f55 6)=spec_trAll.T6:=by kernel_rfl
theorem spec_trAll.bits6:waitsOk spec_trAll.T6.2 spec_trAll.B6=true:=by kernel_rfl
set_option maxHeartbeats 8000000 in
set_option maxRecDepth 100000 in
theorem spec_trAll.calls (k:Nat) (A0_0:Option Addr) (c0_0:Nat) (l0_0:List Int) (a0_1:Bool) (A1:Option Addr) (c1:Nat) (l1:List Int) (a2:Int) (r1:Int) (r2:Int) (w:World) (hr0_0:Kd.C (Kd.int .i64) w A0_0 l0_0.length l0_0) (hc0_0:l0_0.length≤c0_0) (hr1:Kd.C (Kd.int .i64) w A1 l1.length l1) (hc1:l1.length≤c1) (h:spec_trAll.f k l0_0 a0_1 l1 a2=some (r1,r2)):
  Calls Try.prog 55 #[.agg #[.slice A0_0 l0_0.length c0_0,.bool a0_1],.slice A1 l1.length c1,.int .i64 a2] w fun e w'=>e=.returned (.agg #[.int .i64 r1,.int .i64 r2])∧Below w.heap.size w w':=by
 have hu28:=Try.underlying28
 have hu55:=Try.underlying55
 have HR0_0:=Aside0.mk hr0_0
 have HC0_0:=Aside0.mk hc0_0
 clear hr0_0 hc0_0
 have HR1:=Aside0.mk hr1
 have HC1:=Aside0.mk hc1
 clear hr1 hc1
 have HB:=Aside0.mk (Below.refl w.heap.size w)
 have H:(spec_trAll.l0 k l1 a2 l1 (l1.length:Int) 0 l0_0 a0_1 1 0)=some (r1,r2):=h
 clear h
 have H':=Aside0.mk H
 clear H
 go_enter Try.func55,Try.ntmps55
 go_wp2_with (first|((with_reducible refine gate_dst (N:=3) rfl ?_);refine box_event ?hg (N:=3) ?hd (cs:=#[.slice A0_0 l0_0.length c0_0,.bool a0_1]) (t:=28) ?hr ?_;(case hd=>rfl);(case hg=>rfl);(case hr=>first|(go_simp;done)|(go_simp;rfl));intro gb407 hg w4 hbox hb;have n0_:=Aside0.mk (below_step (by repeat (first|(with_reducible first|exact HB.out|apply below_alloc|apply pw_below_drewN|apply below_drew1)|exact HB.out)) hb);have n1_:=Aside0.mk (hbox);have n2_:=Aside0.mk ((by rw [hg];exact (below_size (by repeat (first|(with_reducible first|exact HB.out|apply below_alloc|apply pw_below_drewN|apply below_drew1)|exact HB.out))):w.heap.size≤gb407));have n3_:=Aside0.mk ((by rw [hg];exact (below_size (by repeat (first|(with_reducible first|exact HB.out|apply below_alloc|apply pw_below_drewN|apply below_drew1)|exact HB.out))):w.heap.size≤gb407));clear HB;have HB:=n0_;have BK407:=n1_;have GW407:=n2_;have GE407:=n3_;clear n0_ n1_ n2_ n3_;clear hb hbox hg)|((with_reducible refine gate_dst (N:=6) rfl ?_);refine box_event ?hg (N:=6) ?hd (cs:=#[.int .i64 0,.int .i64 0]) (t:=55) ?hr ?_;(case hd=>rfl);(case hg=>rfl);(case hr=>first|(go_simp;done)|(go_simp;rfl));intro gb408 hg w5 hbox hb;have n0_:=Aside0.mk (blk_below (g:=gb407) (o:=.cells #[.slice A0_0 l0_0.length c0_0,.bool a0_1] 28 (0,0)) (by (with_reducible repeat (first|refine blk_drewN ?_ _|refine blk_drew ?_|refine blk_alloc ?_ _));exact BK407.out) hb);have n1_:=Aside0.mk (below_step (by repeat (first|(with_reducible first|exact HB.out|apply below_alloc|apply pw_below_drewN|apply below_drew1|refine below_set ?_ GE407.out)|exact HB.out)) hb);have n2_:=Aside0.mk (hbox);have n3_:=Aside0.mk ((by rw [hg];exact (below_size (by repeat (first|(with_reducible first|exact HB.out|apply below_alloc|apply pw_below_drewN|apply below_drew1|refine below_set ?_ GE407.out)|exact HB.out))):w.heap.size≤gb408));have n4_:=Aside0.mk ((by rw [hg];exact (below_size (by repeat (first|(with_reducible first|exact HB.out|apply below_alloc|apply pw_below_drewN|apply below_drew1|refine below_set ?_ GE407.out)|exact HB.out))):w.heap.size≤gb408));have n5_:=Aside0.mk ((by rw [hg];exact Nat.ne_of_lt (blk_lt (g:=gb407) (o:=.cells #[.slice A0_0 l0_0.length c0_0,.bool a0_1] 28 (0,0)) (by (with_reducible repeat (first|refine blk_drewN ?_ _|refine blk_drew ?_|refine blk_alloc ?_ _));exact BK407.out)):gb407≠gb408));have n6_:=Aside0.mk ((by rw [hg];exact Nat.ne_of_gt (blk_lt (g:=gb407) (o:=.cells #[.slice A0_0 l0_0.length c0_0,.bool a0_1] 28 (0,0)) (by (with_reducible repeat (first|refine blk_drewN ?_ _|refine blk_drew ?_|refine blk_alloc ?_ _));exact BK407.out)):gb408≠gb407));clear BK407;clear HB;have BK407:=n0_;have HB:=n1_;have BK408:=n2_;have GW408:=n3_;have GE408:=n4_;have NB407_408:=n5_;have NB408_407:=n6_;clear n0_ n1_ n2_ n3_ n4_ n5_ n6_;clear hb hbox hg)|((with_reducible refine gate_dst (N:=7) rfl ?_);refine box_event ?hg (N:=7) ?hd (cs:=#[.int .i64 0,.int .i64 0]) (t:=55) ?hr ?_;(case hd=>rfl);(case hg=>rfl);(case hr=>first|(go_simp;done)|(go_simp;rfl));intro gb409 hg w6 hbox hb;have n0_:=Aside0.mk (blk_below (g:=gb407) (o:=.cells #[.slice A0_0 l0_0.length c0_0,.bool a0_1] 28 (0,0)) (by (with_reducible repeat (first|refine blk_drewN ?_ _|refine blk_drew ?_|refine blk_alloc ?_ _));exact BK407.out) hb);have n1_:=Aside0.mk (blk_below (g:=gb408) (o:=.cells #[.int .i64 0,.int .i64 0] 55 (0,0)) (by (with_reducible repeat (first|refine blk_drewN ?_ _|refine blk_drew ?_|refine blk_alloc ?_ _));exact BK408.out) hb);have n2_:=Aside0.mk (below_step (by repeat (first|(with_reducible first|exact HB.out|apply below_alloc|apply pw_below_drewN|apply below_drew1|refine below_set ?_ GE407.out|refine below_set ?_ GE408.out)|exact HB.out)) hb);have n3_:=Aside0.mk (hbox);have n4_:=Aside0.mk ((by rw [hg];exact (below_size (by repeat (first|(with_reducible first|exact HB.out|apply below_alloc|apply pw_below_drewN|apply below_drew1|refine below_set ?_ GE407.out|refine below_set ?_ GE408.out)|exact HB.out))):w.heap.size≤gb409));have n5_:=Aside0.mk ((by rw [hg];exact (below_size (by repeat (first|(with_reducible first|exact HB.out|apply below_alloc|apply pw_below_drewN|apply below_drew1|refine below_set ?_ GE407.out|refine below_set ?_ GE408.out)|exact HB.out))):w.heap.size≤gb409));have n6_:=Aside0.mk ((by rw [hg];exact Nat.ne_of_lt (blk_lt (g:=gb407) (o:=.cells #[.slice A0_0 l0_0.length c0_0,.bool a0_1] 28 (0,0)) (by (with_reducible repeat (first|refine blk_drewN ?_ _|refine blk_drew ?_|refine blk_alloc ?_ _));exact BK407.out)):gb407≠gb409));have n7_:=Aside0.mk ((by rw [hg];exact Nat.ne_of_gt (blk_lt (g:=gb407) (o:=.cells #[.slice A0_0 l0_0.length c0_0,.bool a0_1] 28 (0,0)) (by (with_reducible repeat (first|refine blk_drewN ?_ _|refine blk_drew ?_|refine blk_alloc ?_ _));exact BK407.out)):gb409≠gb407));have n8_:=Aside0.mk ((by rw [hg];exact Nat.ne_of_lt (blk_lt (g:=gb408) (o:=.cells #[.int .i64 0,.int .i64 0] 55 (0,0)) (by (with_reducible repeat (first|refine blk_drewN ?_ _|refine blk_drew ?_|refine blk_alloc ?_ _));exact BK408.out)):gb408≠gb409));have n9_:=Aside0.mk ((by rw [hg];exact Nat.ne_of_gt (blk_lt (g:=gb408) (o:=.cells #[.int .i64 0,.int .i64 0] 55 (0,0)) (by (with_reducible repeat (first|refine blk_drewN ?_ _|refine blk_drew ?_|refine blk_alloc ?_ _));exact BK408.out)):gb409≠gb408));clear BK407;clear BK408;clear HB;have BK407:=n0_;have BK408:=n1_;have HB:=n2_;have BK409:=n3_;have GW409:=n4_;have GE409:=n5_;have NB407_409:=n6_;have NB409_407:=n7_;have NB408_409:=n8_;have NB409_408:=n9_;clear n0_ n1_ n2_ n3_ n4_ n5_ n6_ n7_ n8_ n9_;clear hb hbox hg;have hnb7:=NB409_407.out;have hnc7:=NB407_409.out;have hnb8:=NB409_408.out;have hnc8:=NB408_409.out;have hcz9_0:w6.cell? ⟨gb409,0,none⟩=some (.int .i64 0):=(blk_cell BK409.out 0).trans rfl;have hcz9_1:w6.cell? ⟨gb409,1,none⟩=some (.int .i64 0):=(blk_cell BK409.out 1).trans rfl;have hfz9_0:=blk_frozen BK409.out 0;have hfz9_1:=blk_frozen BK409.out 1))
 go_loopg [13] k (fun kq v13 w'=>∃ (x13_1:Int) (x410000_1:Int) (x410001_1:Int),v13=.int .i64 x13_1∧Aside0 (spec_trAll.l0 kq l1 a2 l1 (l1.length:Int) x13_1 l0_0 a0_1 x410000_1 x410001_1=some (r1,r2))∧Aside0 (kq≤k)∧Aside0 (w'.heap[gb407]?=some (.cells #[(.slice A0_0 l0_0.length c0_0),.bool a0_1] 28 (0,0)))∧Aside0 (w'.heap[gb408]?=some (.cells #[.int .i64 0,.int .i64 0] 55 (0,0)))∧Aside0 (w'.heap[gb409]?=some (.cells #[.int .i64 x410000_1,.int .i64 x410001_1] 55 (0,0)))∧Aside0 (Below w.heap.size w w'))
 case atStart=>exact ⟨(0),(1),(0),(by first|rfl|(simp;done)|(simp [*];done)),H',⟨Nat.le_refl _⟩,⟨by (with_reducible repeat (first|refine blk_drewN ?_ _|refine blk_drew ?_|refine blk_alloc ?_ _));refine blk_far ?_ NB407_409.out _;(with_reducible repeat (first|refine blk_drewN ?_ _|refine blk_drew ?_|refine blk_alloc ?_ _));refine blk_far ?_ NB407_409.out _;(with_reducible repeat (first|refine blk_drewN ?_ _|refine blk_drew ?_|refine blk_alloc ?_ _));exact BK407.out⟩,⟨by (with_reducible repeat (first|refine blk_drewN ?_ _|refine blk_drew ?_|refine blk_alloc ?_ _));refine blk_far ?_ NB408_409.out _;(with_reducible repeat (first|refine blk_drewN ?_ _|refine blk_drew ?_|refine blk_alloc ?_ _));refine blk_far ?_ NB408_409.out _;(with_reducible repeat (first|refine blk_drewN ?_ _|refine blk_drew ?_|refine blk_alloc ?_ _));exact BK408.out⟩,⟨by (with_reducible repeat (first|refine blk_drewN ?_ _|refine blk_drew ?_|refine blk_alloc ?_ _));refine blk_put (cs:=#[.int .i64 1,.int .i64 0]) ?_ 1 _ rfl;(with_reducible repeat (first|refine blk_drewN ?_ _|refine blk_drew ?_|refine blk_alloc ?_ _));refine blk_put (cs:=#[.int .i64 0,.int .i64 0]) ?_ 0 _ rfl;(with_reducible repeat (first|refine blk_drewN ?_ _|refine blk_drew ?_|refine blk_alloc ?_ _));exact BK409.out⟩,⟨by repeat (first|(with_reducible first|exact HB.out|apply below_alloc|apply pw_below_drewN|apply below_drew1|refine below_set ?_ GE407.out|refine below_set ?_ GE408.out|refine below_set ?_ GE409.out)|exact HB.out)⟩⟩
 case round=>
  clear H'
  (try clear c1);(try clear p2);(try clear c5);(try clear c7);(try clear c8);(try clear hcz9_0);(try clear hcz9_1);(try clear hfz9_0);(try clear hfz9_1)
  obtain ⟨x13_1,x410000_1,x410001_1,rfl,HA,HK1,BK407,BK408,BK409,HB⟩:=hrel
  cases gk with
  |zero=>exact absurd HA.out (by simp [spec_trAll.l0])
  |succ k1=>
   have H:=HA.out
   clear HA
   simp only [spec_trAll.l0] at H
   by_cases c10:x13_1< (l1.length:Int)
   ·rw [if_pos c10] at H
    have c10b0:decide (x13_1< (l1.length:Int))=true:=decide_eq_true c10
    clear c10
    by_cases c11:0≤x13_1
    ·rw [if_pos c11] at H
     have c11b0:decide (0≤x13_1)=true:=decide_eq_true c11
     clear c11
     by_cases c12:x13_1< (l1.length:Int)
     ·rw [if_pos c12] at H
      have c12b0:decide (x13_1< (l1.length:Int))=true:=decide_eq_true c12
      clear c12
      by_cases c13:(rd l1 x13_1)< 0
      ·rw [if_pos c13] at H
       have c13b0:decide ((rd l1 x13_1)< 0)=true:=decide_eq_true c13
       clear c13
       replace H:=Option.bind_eq_some_iff.mp H
       obtain ⟨⟨t411,t412⟩,A140,H⟩:=H
       replace H:((spec_trBelow.f k1 l0_0 a0_1 l1 a2 x13_1 1 0).bind fun bt413=>((spec_trBoth.f t411 t412 bt413.1 bt413.2).bind fun bt415=>((spec_trNext.f x410000_1 x410001_1 bt415.1 bt415.2).bind fun bt417=>(spec_trAll.l0 k1 l1 a2 l1 (l1.length:Int) (wrap64 (x13_1+1)) l0_0 a0_1 bt417.1 bt417.2))))=some (r1,r2):=H
       have A14:=Aside0.mk A140
       clear A140
       replace H:=Option.bind_eq_some_iff.mp H
       obtain ⟨⟨t413,t414⟩,A150,H⟩:=H
       replace H:((spec_trBoth.f t411 t412 t413 t414).bind fun bt415=>((spec_trNext.f x410000_1 x410001_1 bt415.1 bt415.2).bind fun bt417=>(spec_trAll.l0 k1 l1 a2 l1 (l1.length:Int) (wrap64 (x13_1+1)) l0_0 a0_1 bt417.1 bt417.2)))=some (r1,r2):=H
       have A15:=Aside0.mk A150
       clear A150
       replace H:=Option.bind_eq_some_iff.mp H
       obtain ⟨⟨t415,t416⟩,A160,H⟩:=H
       replace H:((spec_trNext.f x410000_1 x410001_1 t415 t416).bind fun bt417=>(spec_trAll.l0 k1 l1 a2 l1 (l1.length:Int) (wrap64 (x13_1+1)) l0_0 a0_1 bt417.1 bt417.2))=some (r1,r2):=H
       have A16:=Aside0.mk A160
       clear A160
       replace H:=Option.bind_eq_some_iff.mp H
       obtain ⟨⟨t417,t418⟩,A170,H⟩:=H
       replace H:(spec_trAll.l0 k1 l1 a2 l1 (l1.length:Int) (wrap64 (x13_1+1)) l0_0 a0_1 t417 t418)=some (r1,r2):=H
       have A17:=Aside0.mk A170
       clear A170
       have H':=Aside0.mk H
       clear H
       have p410:0≤(x13_1:Int):=of_decide_eq_true (by first|(with_reducible assumption)|assumption)
       have q410:x13_1< (l1.length:Int):=of_decide_eq_true (by first|(with_reducible assumption)|assumption)
       obtain ⟨ad410,e410,hx410_0⟩:=Kd.at_int HR1.out x13_1 p410 q410
       cases e410
       replace hx410_0:=(HB.out.cell (World.block_lt_of_cell? w _ hx410_0)).trans hx410_0
       replace p410:=eq_true p410
       replace q410:=eq_true q410
       try go_wp2
       have n0_:=Aside0.mk (blk_drew BK407.out)
       have n1_:=Aside0.mk (blk_drew BK408.out)
       have n2_:=Aside0.mk (blk_drew BK409.out)
       have n3_:=Aside0.mk (below_drew1 HB.out)
       clear BK407;clear BK408;clear BK409;clear HB
       have BK407:=n0_
       have BK408:=n1_
       have BK409:=n2_
       have HB:=n3_
       clear n0_ n1_ n2_ n3_
       refine start_ (n:=14) (S:=fun w'=>w'.cell? ⟨gb409,0,none⟩=some (.int .i64 x410000_1)∧w'.cell? ⟨gb409,1,none⟩=some (.int .i64 x410001_1)∧w'.cell? ⟨gb407,0,none⟩=some (.slice A0_0 l0_0.length c0_0)∧w'.cell? ⟨gb407,1,none⟩=some (.bool a0_1)) (ds:=[13]) #[false,false,false,false,false,false,false,false,false,false,false,false,false,false] (by kernel_rfl) rfl rfl ⟨(blk_cell BK409.out 0).trans rfl,(blk_cell BK409.out 1).trans rfl,(blk_cell BK407.out 0).trans rfl,(blk_cell BK407.out 1).trans rfl⟩ (fun hHeld=>?_);refine with_tabW spec_trAll.tab6 spec_trAll.bits6 (fun HT_ HW_=>?_)
       generalize wr.drew=w18 at BK407 BK408 BK409 HB hHeld ⊢
       refine pure_ (i:=2) (N:=some 22) (v:=?_) (a':=?_) #[false,false,true,false,false,false,false,false,false,false,false,false,false,false] rfl rfl (any_of HT_.out (by kernel_rfl)) (fun _ _ _ h=>h) (Or.inl ⟨by rfl,?_⟩) ?_ ?_
       rotate_left
       ·intro w'
        go_simp
        with_reducible rfl
       rotate_left
       ·simp only [Act.put,List.setIfInBounds_toArray,List.set_cons_zero,List.set_cons_succ,i64_w,i32_w]
        rfl
       refine pure_ (i:=3) (N:=some 23) (v:=?_) (a':=?_) #[false,false,true,true,false,false,false,false,false,false,false,false,false,false] rfl rfl (any_of HT_.out (by kernel_rfl)) (fun _ _ _ h=>h) (Or.inl ⟨by rfl,?_⟩) ?_ ?_
       rotate_left
       ·intro w'
        go_simp
        with_reducible rfl
       rotate_left
       ·simp only [Act.put,List.setIfInBounds_toArray,List.set_cons_zero,List.set_cons_succ,i64_w,i32_w]
        rfl
       refine pure_ (i:=4) (N:=some 24) (v:=?_) (a':=?_) #[false,false,true,true,true,false,false,false,false,false,false,false,false,false] rfl rfl (any_of HT_.out (by kernel_rfl)) (fun _ _ _ h=>h) (Or.inl ⟨by rfl,?_⟩) ?_ ?_
       rotate_left
       ·intro w'
        go_simp
        with_reducible rfl
       rotate_left
       ·simp only [Act.put,List.setIfInBounds_toArray,List.set_cons_zero,List.set_cons_succ,i64_w,i32_w]
        rfl
       refine pure_ (i:=7) (N:=some 27) (v:=?_) (a':=?_) #[false,false,true,true,true,false,false,true,false,false,false,false,false,false] rfl rfl (any_of HT_.out (by kernel_rfl)) (fun _ _ _ h=>h) (Or.inl ⟨by rfl,?_⟩) ?_ ?_
       rotate_left
       ·intro w'
        go_simp
        with_reducible rfl
       rotate_left
       ·simp only [Act.put,List.setIfInBounds_toArray,List.set_cons_zero,List.set_cons_succ,i64_w,i32_w]
        rfl
       refine pure_ (i:=8) (N:=some 28) (v:=?_) (a':=?_) #[false,false,true,true,true,false,false,true,true,false,false,false,false,false] rfl rfl (any_of HT_.out (by kernel_rfl)) (fun _ _ _ h=>h) (Or.inl ⟨by rfl,?_⟩) ?_ ?_
       rotate_left
       ·intro w'
        go_simp
        with_reducible rfl
       rotate_left
       ·simp only [Act.put,List.setIfInBounds_toArray,List.set_cons_zero,List.set_cons_succ,i64_w,i32_w]
        rfl
       refine pure_ (i:=9) (N:=some 29) (v:=?_) (a':=?_) #[false,false,true,true,true,false,false,true,true,true,false,false,false,false] rfl rfl (any_of HT_.out (by kernel_rfl)) (fun _ _ _ h=>h) (Or.inl ⟨by rfl,?_⟩) ?_ ?_
       rotate_left
       ·intro w'
        go_simp
        with_reducible rfl
       rotate_left
       ·simp only [Act.put,List.setIfInBounds_toArray,List.set_cons_zero,List.set_cons_succ,i64_w,i32_w]
        rfl
       refine take_ (i:=0) (N:=some 20) (v:=?_) (a':=?_) #[true,false,true,true,true,false,false,true,true,true,false,false,false,false] rfl rfl (take_ofW HT_.out HW_.out (by kernel_rfl)) (fun _ _ _ h=>h) (Or.inl ⟨by rfl,?_⟩) hHeld ?_ ?_
       rotate_left
       ·rintro w' ⟨s0,s1,s2,s3⟩
        go_simp
        with_reducible rfl
       rotate_left
       ·simp only [Act.put,List.setIfInBounds_toArray,List.set_cons_zero,List.set_cons_succ,i64_w,i32_w]
        rfl
       refine take_ (i:=1) (N:=some 21) (v:=?_) (a':=?_) #[true,true,true,true,true,false,false,true,true,true,false,false,false,false] rfl rfl (take_ofW HT_.out HW_.out (by kernel_rfl)) (fun _ _ _ h=>h) (Or.inl ⟨by rfl,?_⟩) hHeld ?_ ?_
       rotate_left
       ·rintro w' ⟨s0,s1,s2,s3⟩
        go_simp
        with_reducible rfl
       rotate_left
       ·simp only [Act.put,List.setIfInBounds_toArray,List.set_cons_zero,List.set_cons_succ,i64_w,i32_w]
        rfl
       refine take_ (i:=6) (N:=some 26) (v:=?_) (a':=?_) #[true,true,true,true,true,false,true,true,true,true,false,false,false,false] rfl rfl (take_ofW HT_.out HW_.out (by kernel_rfl)) (fun _ _ _ h=>h) (Or.inl ⟨by rfl,?_⟩) hHeld ?_ ?_
       rotate_left
       ·rintro w' ⟨s0,s1,s2,s3⟩
        go_simp
        with_reducible rfl
       rotate_left
       ·simp only [Act.put,List.setIfInBounds_toArray,List.set_cons_zero,List.set_cons_succ,i64_w,i32_w]
        rfl
       refine one_ (i:=5) (N:=some 25) #[true,true,true,true,true,true,true,true,true,true,false,false,false,false] rfl rfl (one_of HT_.out (by kernel_rfl)) (by decide) (fun K hK=>?_)
       refine goes_ Try.func84 (by kernel_rfl) rfl #[.agg #[.slice A0_0 l0_0.length c0_0,.bool a0_1],.slice (some ad410) l1.length c1,.int .i64 a2,.int .i64 x13_1,.int .i64 0,.int .i64 0] (by rfl) rfl rfl (by (try simp only [List.map_toArray,List.map_cons,List.map_nil]);first|done|rfl|(simp only [List.length_drop,List.length_take];rfl)) ?_
       with_reducible refine (spec_trBelow.calls k1 _ _ l0_0 a0_1 _ _ l1 a2 x13_1 0 0 t411 t412 _ ?side1 ?side2 ?side3 ?side4 A14.out).mono ?_
       (case side1=>repeat (first|exact (Kd.C_below HR0_0.out HB.out)|(with_reducible refine Kd.C_alloc ?_ _)|(with_reducible refine Kd.C_drewN ?_ _)|(with_reducible refine Kd.C_drew ?_)))
       (case side2=>exact HC0_0.out)
       (case side3=>repeat (first|exact (Kd.C_below HR1.out HB.out)|(with_reducible refine Kd.C_alloc ?_ _)|(with_reducible refine Kd.C_drewN ?_ _)|(with_reducible refine Kd.C_drew ?_)))
       (case side4=>exact HC1.out)
       rintro e w19 ⟨rfl,hb⟩
       refine ⟨_,rfl,?_⟩
       have n0_:=Aside0.mk (blk_below (g:=gb407) (o:=.cells #[.slice A0_0 l0_0.length c0_0,.bool a0_1] 28 (0,0)) (by (with_reducible repeat (first|refine blk_drewN ?_ _|refine blk_drew ?_|refine blk_alloc ?_ _));exact BK407.out) hb)
       have n1_:=Aside0.mk (blk_below (g:=gb408) (o:=.cells #[.int .i64 0,.int .i64 0] 55 (0,0)) (by (with_reducible repeat (first|refine blk_drewN ?_ _|refine blk_drew ?_|refine blk_alloc ?_ _));exact BK408.out) hb)
       have n2_:=Aside0.mk (blk_below (g:=gb409) (o:=.cells #[.int .i64 x410000_1,.int .i64 x410001_1] 55 (0,0)) (by (with_reducible repeat (first|refine blk_drewN ?_ _|refine blk_drew ?_|refine blk_alloc ?_ _));exact BK409.out) hb)
       have n3_:=Aside0.mk (below_step (by repeat (first|(with_reducible first|exact HB.out|apply below_alloc|apply pw_below_drewN|apply below_drew1|refine below_set ?_ GE407.out|refine below_set ?_ GE408.out|refine below_set ?_ GE409.out)|exact HB.out)) hb)
       clear BK407;clear BK408;clear BK409;clear HB
       have BK407:=n0_
       have BK408:=n1_
       have BK409:=n2_
       have HB:=n3_
       clear n0_ n1_ n2_ n3_;(try clear hb);(try clear hb2);(try clear hk);(try clear hi)
       refine hK.out _ _ ⟨(blk_cell BK409.out 0).trans rfl,(blk_cell BK409.out 1).trans rfl,(blk_cell BK407.out 0).trans rfl,(blk_cell BK407.out 1).trans rfl⟩ (fun hHeld=>?_)
       clear hK K
       refine norm_ (a':=?_) ?_ ?_
       rotate_left
       ·show Act.put _ (some 25) _=_
        simp only [Act.put,List.setIfInBounds_toArray,List.set_cons_zero,List.set_cons_succ,i64_w,i32_w]
        rfl
       refine one_ (i:=10) (N:=some 30) #[true,true,true,true,true,true,true,true,true,true,true,false,false,false] rfl rfl (one_of HT_.out (by kernel_rfl)) (by decide) (fun K hK=>?_)
       refine goes_ Try.func84 (by kernel_rfl) rfl #[.agg #[.slice A0_0 l0_0.length c0_0,.bool a0_1],.slice (some ad410) l1.length c1,.int .i64 a2,.int .i64 x13_1,.int .i64 1,.int .i64 0] (by rfl) rfl rfl (by (try simp only [List.map_toArray,List.map_cons,List.map_nil]);first|done|rfl|(simp only [List.length_drop,List.length_take];rfl)) ?_
       with_reducible refine (spec_trBelow.calls k1 _ _ l0_0 a0_1 _ _ l1 a2 x13_1 1 0 t413 t414 _ ?side1 ?side2 ?side3 ?side4 A15.out).mono ?_
       (case side1=>repeat (first|exact (Kd.C_below HR0_0.out HB.out)|(with_reducible refine Kd.C_alloc ?_ _)|(with_reducible refine Kd.C_drewN ?_ _)|(with_reducible refine Kd.C_drew ?_)))
       (case side2=>exact HC0_0.out)
       (case side3=>repeat (first|exact (Kd.C_below HR1.out HB.out)|(with_reducible refine Kd.C_alloc ?_ _)|(with_reducible refine Kd.C_drewN ?_ _)|(with_reducible refine Kd.C_drew ?_)))
       (case side4=>exact HC1.out)
       rintro e w20 ⟨rfl,hb⟩
       refine ⟨_,rfl,?_⟩
       have n0_:=Aside0.mk (blk_below (g:=gb407) (o:=.cells #[.slice A0_0 l0_0.length c0_0,.bool a0_1] 28 (0,0)) (by (with_reducible repeat (first|refine blk_drewN ?_ _|refine blk_drew ?_|refine blk_alloc ?_ _));exact BK407.out) hb)
       have n1_:=Aside0.mk (blk_below (g:=gb408) (o:=.cells #[.int .i64 0,.int .i64 0] 55 (0,0)) (by (with_reducible repeat (first|refine blk_drewN ?_ _|refine blk_drew ?_|refine blk_alloc ?_ _));exact BK408.out) hb)
       have n2_:=Aside0.mk (blk_below (g:=gb409) (o:=.cells #[.int .i64 x410000_1,.int .i64 x410001_1] 55 (0,0)) (by (with_reducible repeat (first|refine blk_drewN ?_ _|refine blk_drew ?_|refine blk_alloc ?_ _));exact BK409.out) hb)
       have n3_:=Aside0.mk (below_step (by repeat (first|(with_reducible first|exact HB.out|apply below_alloc|apply pw_below_drewN|apply below_drew1|refine below_set ?_ GE407.out|refine below_set ?_ GE408.out|refine below_set ?_ GE409.out)|exact HB.out)) hb)
       clear BK407;clear BK408;clear BK409;clear HB
       have BK407:=n0_
       have BK408:=n1_
       have BK409:=n2_
       have HB:=n3_
       clear n0_ n1_ n2_ n3_;(try clear hb);(try clear hb2);(try clear hk);(try clear hi)
       refine hK.out _ _ ⟨(blk_cell BK409.out 0).trans rfl,(blk_cell BK409.out 1).trans rfl,(blk_cell BK407.out 0).trans rfl,(blk_cell BK407.out 1).trans rfl⟩ (fun hHeld=>?_)
       clear hK K
       refine norm_ (a':=?_) ?_ ?_
       rotate_left
       ·show Act.put _ (some 30) _=_
        simp only [Act.put,List.setIfInBounds_toArray,List.set_cons_zero,List.set_cons_succ,i64_w,i32_w]
        rfl
       refine one_ (i:=11) (N:=some 31) #[true,true,true,true,true,true,true,true,true,true,true,true,false,false] rfl rfl (one_of HT_.out (by kernel_rfl)) (by decide) (fun K hK=>?_)
       refine goes_ Try.func83 (by kernel_rfl) rfl #[.agg #[.int .i64 t411,.int .i64 t412],.agg #[.int .i64 t413,.int .i64 t414]] (by rfl) rfl rfl (by (try simp only [List.map_toArray,List.map_cons,List.map_nil]);first|done|rfl|(simp only [List.length_drop,List.length_take];rfl)) ?_
       with_reducible refine (spec_trBoth.calls t411 t412 t413 t414 t415 t416 _ A16.out).mono ?_
       rintro e w21 ⟨rfl,hb⟩
       refine ⟨_,rfl,?_⟩
       have n0_:=Aside0.mk (blk_below (g:=gb407) (o:=.cells #[.slice A0_0 l0_0.length c0_0,.bool a0_1] 28 (0,0)) (by (with_reducible repeat (first|refine blk_drewN ?_ _|refine blk_drew ?_|refine blk_alloc ?_ _));exact BK407.out) hb)
       have n1_:=Aside0.mk (blk_below (g:=gb408) (o:=.cells #[.int .i64 0,.int .i64 0] 55 (0,0)) (by (with_reducible repeat (first|refine blk_drewN ?_ _|refine blk_drew ?_|refine blk_alloc ?_ _));exact BK408.out) hb)
       have n2_:=Aside0.mk (blk_below (g:=gb409) (o:=.cells #[.int .i64 x410000_1,.int .i64 x410001_1] 55 (0,0)) (by (with_reducible repeat (first|refine blk_drewN ?_ _|refine blk_drew ?_|refine blk_alloc ?_ _));exact BK409.out) hb)
       have n3_:=Aside0.mk (below_step (by repeat (first|(with_reducible first|exact HB.out|apply below_alloc|apply pw_below_drewN|apply below_drew1|refine below_set ?_ GE407.out|refine below_set ?_ GE408.out|refine below_set ?_ GE409.out)|exact HB.out)) hb)
       clear BK407;clear BK408;clear BK409;clear HB
       have BK407:=n0_
       have BK408:=n1_
       have BK409:=n2_
       have HB:=n3_
       clear n0_ n1_ n2_ n3_;(try clear hb);(try clear hb2);(try clear hk);(try clear hi)
       refine hK.out _ _ ⟨(blk_cell BK409.out 0).trans rfl,(blk_cell BK409.out 1).trans rfl,(blk_cell BK407.out 0).trans rfl,(blk_cell BK407.out 1).trans rfl⟩ (fun hHeld=>?_)
       clear hK K
       refine norm_ (a':=?_) ?_ ?_
       rotate_left
       ·show Act.put _ (some 31) _=_
        simp only [Act.put,List.setIfInBounds_toArray,List.set_cons_zero,List.set_cons_succ,i64_w,i32_w]
        rfl
       refine one_ (i:=12) (N:=some 32) #[true,true,true,true,true,true,true,true,true,true,true,true,true,false] rfl rfl (one_of HT_.out (by kernel_rfl)) (by decide) (fun K hK=>?_)
       refine goes_ Try.func82 (by kernel_rfl) rfl #[.agg #[.int .i64 x410000_1,.int .i64 x410001_1],.agg #[.int .i64 t415,.int .i64 t416]] (by rfl) rfl rfl (by (try simp only [List.map_toArray,List.map_cons,List.map_nil]);first|done|rfl|(simp only [List.length_drop,List.length_take];rfl)) ?_
       with_reducible refine (spec_trNext.calls x410000_1 x410001_1 t415 t416 t417 t418 _ A17.out).mono ?_
       rintro e w22 ⟨rfl,hb⟩
       refine ⟨_,rfl,?_⟩
       have n0_:=Aside0.mk (blk_below (g:=gb407) (o:=.cells #[.slice A0_0 l0_0.length c0_0,.bool a0_1] 28 (0,0)) (by (with_reducible repeat (first|refine blk_drewN ?_ _|refine blk_drew ?_|refine blk_alloc ?_ _));exact BK407.out) hb)
       have n1_:=Aside0.mk (blk_below (g:=gb408) (o:=.cells #[.int .i64 0,.int .i64 0] 55 (0,0)) (by (with_reducible repeat (first|refine blk_drewN ?_ _|refine blk_drew ?_|refine blk_alloc ?_ _));exact BK408.out) hb)
       have n2_:=Aside0.mk (blk_below (g:=gb409) (o:=.cells #[.int .i64 x410000_1,.int .i64 x410001_1] 55 (0,0)) (by (with_reducible repeat (first|refine blk_drewN ?_ _|refine blk_drew ?_|refine blk_alloc ?_ _));exact BK409.out) hb)
       have n3_:=Aside0.mk (below_step (by repeat (first|(with_reducible first|exact HB.out|apply below_alloc|apply pw_below_drewN|apply below_drew1|refine below_set ?_ GE407.out|refine below_set ?_ GE408.out|refine below_set ?_ GE409.out)|exact HB.out)) hb)
       clear BK407;clear BK408;clear BK409;clear HB
       have BK407:=n0_
       have BK408:=n1_
       have BK409:=n2_
       have HB:=n3_
       clear n0_ n1_ n2_ n3_;(try clear hb);(try clear hb2);(try clear hk);(try clear hi)
       refine hK.out _ _ ⟨(blk_cell BK409.out 0).trans rfl,(blk_cell BK409.out 1).trans rfl,(blk_cell BK407.out 0).trans rfl,(blk_cell BK407.out 1).trans rfl⟩ (fun hHeld=>?_)
       clear hK K
       refine norm_ (a':=?_) ?_ ?_
       rotate_left
       ·show Act.put _ (some 32) _=_
        simp only [Act.put,List.setIfInBounds_toArray,List.set_cons_zero,List.set_cons_succ,i64_w,i32_w]
        rfl
       refine last_ (i:=13) (N:=none) #[true,true,true,true,true,true,true,true,true,true,true,true,true,true] rfl rfl (one_of HT_.out (by kernel_rfl)) (by decide) (fun K hK=>?_)
       have hs23:w22.cell? ⟨gb409,0,none⟩=some (.int .i64 x410000_1):=(blk_cell BK409.out 0).trans rfl
       have hfs23:=blk_frozen BK409.out 0
       have hns23_0:=NB407_409.out
       have hns23_1:=NB408_409.out
       have hms23_0:=NB409_407.out
       have hms23_1:=NB409_408.out
       have hs24:w22.cell? ⟨gb409,1,none⟩=some (.int .i64 x410001_1):=(blk_cell BK409.out 1).trans rfl
       have hfs24:=blk_frozen BK409.out 1
       have hns24_0:=NB407_409.out
       have hns24_1:=NB408_409.out
       have hms24_0:=NB409_407.out
       have hms24_1:=NB409_408.out
       refine skip_ (w1:=?_) (by rfl) rfl ?_ ?_
       rotate_left
       ·go_simp
        rfl
       refine hK.out _ _ ?_
       clear hK K
       refine done_ (done_of HT_.out (by kernel_rfl)) ?_
       try go_wp2
       go_roundg k1
       case measure=>have:=HK1.out;omega
       case rel=>exact ⟨(wrap64 (x13_1+1)),(t417),(t418),(by first|rfl|(simp;done)|(simp [*];done)),H',⟨by have:=HK1.out;omega⟩,⟨by (with_reducible repeat (first|refine blk_drewN ?_ _|refine blk_drew ?_|refine blk_alloc ?_ _));refine blk_far ?_ NB407_409.out _;(with_reducible repeat (first|refine blk_drewN ?_ _|refine blk_drew ?_|refine blk_alloc ?_ _));refine blk_far ?_ NB407_409.out _;(with_reducible repeat (first|refine blk_drewN ?_ _|refine blk_drew ?_|refine blk_alloc ?_ _));exact BK407.out⟩,⟨by (with_reducible repeat (first|refine blk_drewN ?_ _|refine blk_drew ?_|refine blk_alloc ?_ _));refine blk_far ?_ NB408_409.out _;(with_reducible repeat (first|refine blk_drewN ?_ _|refine blk_drew ?_|refine blk_alloc ?_ _));refine blk_far ?_ NB408_409.out _;(with_reducible repeat (first|refine blk_drewN ?_ _|refine blk_drew ?_|refine blk_alloc ?_ _));exact BK408.out⟩,⟨by (with_reducible repeat (first|refine blk_drewN ?_ _|refine blk_drew ?_|refine blk_alloc ?_ _));refine blk_put (cs:=#[.int .i64 t417,.int .i64 x410001_1]) ?_ 1 _ rfl;(with_reducible repeat (first|refine blk_drewN ?_ _|refine blk_drew ?_|refine blk_alloc ?_ _));refine blk_put (cs:=#[.int .i64 x410000_1,.int .i64 x410001_1]) ?_ 0 _ rfl;(with_reducible repeat (first|refine blk_drewN ?_ _|refine blk_drew ?_|refine blk_alloc ?_ _));exact BK409.out⟩,⟨by repeat (first|(with_reducible first|exact HB.out|apply below_alloc|apply pw_below_drewN|apply below_drew1|refine below_set ?_ GE407.out|refine below_set ?_ GE408.out|refine below_set ?_ GE409.out)|exact HB.out)⟩⟩
      ·rw [if_neg c13] at H
       have c13b0:decide ((rd l1 x13_1)< 0)=false:=decide_eq_false c13
       clear c13
       have H':=Aside0.mk H
       clear H
       have p410:0≤(x13_1:Int):=of_decide_eq_true (by first|(with_reducible assumption)|assumption)
       have q410:x13_1< (l1.length:Int):=of_decide_eq_true (by first|(with_reducible assumption)|assumption)
       obtain ⟨ad410,e410,hx410_0⟩:=Kd.at_int HR1.out x13_1 p410 q410
       cases e410
       replace hx410_0:=(HB.out.cell (World.block_lt_of_cell? w _ hx410_0)).trans hx410_0
       replace p410:=eq_true p410
       replace q410:=eq_true q410
       go_wp2
       go_roundg k1
       case measure=>have:=HK1.out;omega
       case rel=>exact ⟨(wrap64 (x13_1+1)),(x410000_1),(x410001_1),(by first|rfl|(simp;done)|(simp [*];done)),H',⟨by have:=HK1.out;omega⟩,⟨by (with_reducible repeat (first|refine blk_drewN ?_ _|refine blk_drew ?_|refine blk_alloc ?_ _));exact BK407.out⟩,⟨by (with_reducible repeat (first|refine blk_drewN ?_ _|refine blk_drew ?_|refine blk_alloc ?_ _));exact BK408.out⟩,⟨by (with_reducible repeat (first|refine blk_drewN ?_ _|refine blk_drew ?_|refine blk_alloc ?_ _));exact BK409.out⟩,⟨by repeat (first|(with_reducible first|exact HB.out|apply below_alloc|apply pw_below_drewN|apply below_drew1|refine below_set ?_ GE407.out|refine below_set ?_ GE408.out|refine below_set ?_ GE409.out)|exact HB.out)⟩⟩
     ·rw [if_neg c12] at H
      exact absurd H (by simp)
    ·rw [if_neg c11] at H
     exact absurd H (by simp)
   ·rw [if_neg c10] at H
    have c10b0:decide (x13_1< (l1.length:Int))=false:=decide_eq_false c10
    clear c10
    simp only [Option.some.injEq,Prod.mk.injEq] at H
    obtain ⟨rfl,rfl⟩:=H
    have hnb25:=NB409_407.out
    have hnc25:=NB407_409.out
    have hnb26:=NB409_408.out
    have hnc26:=NB408_409.out
    have hcz27_0:wr.cell? ⟨gb409,0,none⟩=some (.int .i64 x410000_1):=(blk_cell BK409.out 0).trans rfl
    have hcz27_1:wr.cell? ⟨gb409,1,none⟩=some (.int .i64 x410001_1):=(blk_cell BK409.out 1).trans rfl
    have hfz27_0:=blk_frozen BK409.out 0
    have hfz27_1:=blk_frozen BK409.out 1
    have hnb28:=NB408_407.out
    have hnc28:=NB407_408.out
    have hcz29_0:wr.cell? ⟨gb408,0,none⟩=some (.int .i64 0):=(blk_cell BK408.out 0).trans rfl
    have hcz29_1:wr.cell? ⟨gb408,1,none⟩=some (.int .i64 0):=(blk_cell BK408.out 1).trans rfl
    have hfz29_0:=blk_frozen BK408.out 0
    have hfz29_1:=blk_frozen BK408.out 1
    go_wp2
    refine bodyPost_ret (results_cell_row rfl _ _ gb408 55 #[.int .i64 x410000_1,.int .i64 x410001_1] (0,0) _ rfl (by (with_reducible repeat (first|refine blk_drewN ?_ _|refine blk_drew ?_|refine blk_alloc ?_ _));refine blk_put (cs:=#[.int .i64 x410000_1,.int .i64 0]) ?_ 1 _ rfl;(with_reducible repeat (first|refine blk_drewN ?_ _|refine blk_drew ?_|refine blk_alloc ?_ _));refine blk_put (cs:=#[.int .i64 0,.int .i64 0]) ?_ 0 _ rfl;(with_reducible repeat (first|refine blk_drewN ?_ _|refine blk_drew ?_|refine blk_alloc ?_ _));exact BK408.out) Try.underlying55 rfl (by kernel_rfl)) rfl ?_
    exact ⟨by first|rfl|(simp [errW_none,errW_some]<;>rfl)|(simp [*,errW_none,errW_some]<;>rfl),by repeat (first|(with_reducible first|exact HB.out|apply below_alloc|apply pw_below_drewN|apply below_drew1|refine below_set ?_ GE407.out|refine below_set ?_ GE408.out|refine below_set ?_ GE409.out)|exact HB.out)⟩
end Go.Proofs.Ytoobofnpdiapgaa.P
