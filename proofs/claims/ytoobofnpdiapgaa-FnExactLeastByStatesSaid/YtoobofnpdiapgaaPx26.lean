-- Written by a program of this session (wip/mp.py), which runs the kit's print with contracts of the session's own.
import Derived.Test.YtoobofnpdiapgaaPx0
import Derived.Test.YtoobofnpdiapgaaPx1
namespace Go.Proofs.Ytoobofnpdiapgaa.P
open Go.RowKit Go.Proofs.YtoobofnpdiapgaaW.PrintWords Go.Proofs.YtoobofnpdiapgaaW.PrintLast Go.Proofs.YtoobofnpdiapgaaW.PrintMore
attribute [local go_sem] max2_int min2_int max_two min_two max_three min_three max_four min_four -- for this text's walks alone
set_option linter.unusedVariables false
set_option linter.unusedSimpArgs false
/-! ### spec_grSet: function 53 -/
def spec_grSet.f (k:Nat) (l0_0:List Int) (a0_1:Bool) (a1:Int):Option (Bool):=(spec_grGood.f k l0_0 a0_1).bind fun t357=>(if t357=true then ((spec_l1In.f a1 0 (wrap64 ((shl .i64 1 (l0_0.length:Int)) - 1))).bind fun t358=>(some t358)) else (some false))
set_option maxHeartbeats 8000000 in
set_option maxRecDepth 100000 in
theorem spec_grSet.calls (k:Nat) (A0_0:Option Addr) (c0_0:Nat) (l0_0:List Int) (a0_1:Bool) (a1:Int) (r:Bool) (w:World) (hr0_0:Kd.C (Kd.int .i64) w A0_0 l0_0.length l0_0) (hc0_0:l0_0.length≤c0_0) (h:spec_grSet.f k l0_0 a0_1 a1=some r):
  Calls Try.prog 53 #[.agg #[.slice A0_0 l0_0.length c0_0,.bool a0_1],.int .i64 a1] w fun e w'=>e=.returned (.bool r)∧Below w.heap.size w w':=by
 have hu28:=Try.underlying28
 have HR0_0:=Aside0.mk hr0_0
 have HC0_0:=Aside0.mk hc0_0
 clear hr0_0 hc0_0
 have HB:=Aside0.mk (Below.refl w.heap.size w)
 have H:((spec_grGood.f k l0_0 a0_1).bind fun t357=>(if t357=true then ((spec_l1In.f a1 0 (wrap64 ((shl .i64 1 (l0_0.length:Int)) - 1))).bind fun t358=>(some t358)) else (some false)))=some r:=h
 clear h
 replace H:=Option.bind_eq_some_iff.mp H
 obtain ⟨t357,A30,H⟩:=H
 replace H:(if t357=true then ((spec_l1In.f a1 0 (wrap64 ((shl .i64 1 (l0_0.length:Int)) - 1))).bind fun t358=>(some t358)) else (some false))=some r:=H
 have A3:=Aside0.mk A30
 clear A30
 by_cases c4:t357=true
 ·subst c4
  have H1:((spec_l1In.f a1 0 (wrap64 ((shl .i64 1 (l0_0.length:Int)) - 1))).bind fun t358=>(some t358))=some r:=by rw [if_pos rfl] at H;exact H
  clear H
  have H:=H1
  clear H1
  obtain ⟨ji5,hji5⟩:∃ j_:Int,(shl .i64 1 (l0_0.length:Int))=j_:=⟨_,rfl⟩
  replace H:((spec_l1In.f a1 0 (wrap64 ((ji5) - 1))).bind fun t358=>(some t358))=some r:=by first|(rw [hji5] at H;exact H)|(simp only [hji5] at H ⊢;exact H)
  (try rw [hji5] at A3)
  have hji5_:(IntKind.i64.wrap (1*2 ^ min (l0_0.length:Int).toNat 64))=ji5:=hji5
  have hji5z:(l0_0.length:Int)≤64→(IntKind.i64.wrap (1*2 ^ (l0_0.length:Int).toNat))=ji5:=shl_small hji5
  have hji5p:(IntKind.i64.wrap (1*2 ^ min l0_0.length 64))=ji5:=hji5_
  have hji5q:(l0_0.length:Int)≤64→(IntKind.i64.wrap (1*2 ^ l0_0.length))=ji5:=hji5z
  have hji5r:(IntKind.i64.wrap (2 ^ min l0_0.length 64))=ji5:=by have h_:=hji5p;rw [Int.one_mul] at h_;exact h_
  have hji5s:(l0_0.length:Int)≤64→(IntKind.i64.wrap (2 ^ l0_0.length))=ji5:=fun hle_=>by have h_:=hji5q hle_;rw [Int.one_mul] at h_;exact h_
  have hji5u:(IntKind.i64.wrap (2 ^ min (l0_0.length:Int).toNat 64))=ji5:=by have h_:=hji5_;rw [Int.one_mul] at h_;exact h_
  have hji5v:(l0_0.length:Int)≤64→(IntKind.i64.wrap (2 ^ (l0_0.length:Int).toNat))=ji5:=fun hle_=>by have h_:=hji5z hle_;rw [Int.one_mul] at h_;exact h_
  have hji5y:(wrap64 (1*2 ^ min (l0_0.length:Int).toNat 64))=ji5:=(i64_w _).symm.trans hji5_
  have hji5x:(l0_0.length:Int)≤64→(wrap64 (1*2 ^ (l0_0.length:Int).toNat))=ji5:=fun h_=>(i64_w _).symm.trans (hji5z h_)
  replace H:=Option.bind_eq_some_iff.mp H
  obtain ⟨t358,A60,H⟩:=H
  replace H:(some t358)=some r:=H
  have A6:=Aside0.mk A60
  clear A60
  obtain rfl:=Option.some.inj H
  go_enter Try.func53,Try.ntmps53
  go_wp2_with (first|((with_reducible refine gate_dst (N:=2) rfl ?_);(try (refine gate_guard (by rfl) ?_;dsimp only));refine box_event ?hg (N:=2) ?hd (cs:=#[.slice A0_0 l0_0.length c0_0,.bool a0_1]) (t:=28) ?hr ?_;(case hd=>rfl);(case hg=>rfl);(case hr=>first|(go_simp;done)|(go_simp;rfl));intro gb356 hg w7 hbox hb;have n0_:=Aside0.mk (below_step (by repeat (first|(with_reducible first|exact HB.out|apply below_alloc|apply pw_below_drewN|apply below_drew1)|exact HB.out)) hb);have n1_:=Aside0.mk (hbox);have n2_:=Aside0.mk ((by rw [hg];exact (below_size (by repeat (first|(with_reducible first|exact HB.out|apply below_alloc|apply pw_below_drewN|apply below_drew1)|exact HB.out))):w.heap.size≤gb356));have n3_:=Aside0.mk ((by rw [hg];exact (below_size (by repeat (first|(with_reducible first|exact HB.out|apply below_alloc|apply pw_below_drewN|apply below_drew1)|exact HB.out))):w.heap.size≤gb356));clear HB;have HB:=n0_;have BK356:=n1_;have GW356:=n2_;have GE356:=n3_;clear n0_ n1_ n2_ n3_;clear hb hbox hg;have hcz8_0:w7.cell? ⟨gb356,0,none⟩=some (.slice A0_0 l0_0.length c0_0):=(blk_cell BK356.out 0).trans rfl;have hcz8_1:w7.cell? ⟨gb356,1,none⟩=some (.bool a0_1):=(blk_cell BK356.out 1).trans rfl;have hfz8_0:=blk_frozen BK356.out 0;have hfz8_1:=blk_frozen BK356.out 1)|((with_reducible refine gate_callee (f:=44) rfl ?_);refine goesL_ (some 6) rfl rfl Try.func44 (by kernel_rfl) rfl #[.agg #[.slice A0_0 l0_0.length c0_0,.bool a0_1]] rfl (by (try simp only [List.map_toArray,List.map_cons,List.map_nil]);first|done|rfl|(simp only [List.length_drop,List.length_take];rfl)) ?_;(with_reducible refine (spec_grGood.calls k _ _ l0_0 a0_1 true _ ?side1 ?side2 A3.out).mono ?_);(case side1=>repeat (first|exact (Kd.C_below HR0_0.out HB.out)|(with_reducible refine Kd.C_alloc ?_ _)|(with_reducible refine Kd.C_drewN ?_ _)|(with_reducible refine Kd.C_drew ?_)));(case side2=>exact HC0_0.out);rintro e w9 ⟨rfl,hb⟩;refine ⟨_,rfl,?_⟩;have n0_:=Aside0.mk (blk_below (g:=gb356) (o:=.cells #[.slice A0_0 l0_0.length c0_0,.bool a0_1] 28 (0,0)) (by (with_reducible repeat (first|refine blk_drewN ?_ _|refine blk_drew ?_|refine blk_alloc ?_ _));exact BK356.out) hb);have n1_:=Aside0.mk (below_step (by repeat (first|(with_reducible first|exact HB.out|apply below_alloc|apply pw_below_drewN|apply below_drew1|refine below_set ?_ GE356.out)|exact HB.out)) hb);clear BK356;clear HB;have BK356:=n0_;have HB:=n1_;clear n0_ n1_;(try clear hb);(try clear hb2);(try clear hk);(try clear hi);have hcz10_0:w9.cell? ⟨gb356,0,none⟩=some (.slice A0_0 l0_0.length c0_0):=(blk_cell BK356.out 0).trans rfl;have hcz10_1:w9.cell? ⟨gb356,1,none⟩=some (.bool a0_1):=(blk_cell BK356.out 1).trans rfl;have hfz10_0:=blk_frozen BK356.out 0;have hfz10_1:=blk_frozen BK356.out 1)|(go_at_call 81;(with_reducible refine (spec_l1In.calls a1 0 (wrap64 ((ji5) - 1)) t358 _ A6.out).mono ?_);rintro e w' ⟨rfl,⟨nd,rfl⟩⟩))
  go_ret
  exact ⟨by first|rfl|(simp [errW_none,errW_some]<;>rfl)|(simp only [← hji5];first|rfl|(simp [errW_none,errW_some]<;>rfl))|(simp [*,errW_none,errW_some]<;>rfl),by repeat (first|(with_reducible first|exact HB.out|apply below_alloc|apply pw_below_drewN|apply below_drew1|refine below_set ?_ GE356.out)|exact HB.out)⟩
 ·replace c4:=Bool.eq_false_iff.mpr c4
  subst c4
  have H1:(some false)=some r:=by rw [if_neg (show ¬ (false=true) by decide)] at H;exact H
  clear H
  have H:=H1
  clear H1
  obtain rfl:=Option.some.inj H
  go_enter Try.func53,Try.ntmps53
  go_wp2_with (first|((with_reducible refine gate_dst (N:=2) rfl ?_);(try (refine gate_guard (by rfl) ?_;dsimp only));refine box_event ?hg (N:=2) ?hd (cs:=#[.slice A0_0 l0_0.length c0_0,.bool a0_1]) (t:=28) ?hr ?_;(case hd=>rfl);(case hg=>rfl);(case hr=>first|(go_simp;done)|(go_simp;rfl));intro gb356 hg w11 hbox hb;have n0_:=Aside0.mk (below_step (by repeat (first|(with_reducible first|exact HB.out|apply below_alloc|apply pw_below_drewN|apply below_drew1)|exact HB.out)) hb);have n1_:=Aside0.mk (hbox);have n2_:=Aside0.mk ((by rw [hg];exact (below_size (by repeat (first|(with_reducible first|exact HB.out|apply below_alloc|apply pw_below_drewN|apply below_drew1)|exact HB.out))):w.heap.size≤gb356));have n3_:=Aside0.mk ((by rw [hg];exact (below_size (by repeat (first|(with_reducible first|exact HB.out|apply below_alloc|apply pw_below_drewN|apply below_drew1)|exact HB.out))):w.heap.size≤gb356));clear HB;have HB:=n0_;have BK356:=n1_;have GW356:=n2_;have GE356:=n3_;clear n0_ n1_ n2_ n3_;clear hb hbox hg;have hcz12_0:w11.cell? ⟨gb356,0,none⟩=some (.slice A0_0 l0_0.length c0_0):=(blk_cell BK356.out 0).trans rfl;have hcz12_1:w11.cell? ⟨gb356,1,none⟩=some (.bool a0_1):=(blk_cell BK356.out 1).trans rfl;have hfz12_0:=blk_frozen BK356.out 0;have hfz12_1:=blk_frozen BK356.out 1)|((with_reducible refine gate_callee (f:=44) rfl ?_);refine goesL_ (some 6) rfl rfl Try.func44 (by kernel_rfl) rfl #[.agg #[.slice A0_0 l0_0.length c0_0,.bool a0_1]] rfl (by (try simp only [List.map_toArray,List.map_cons,List.map_nil]);first|done|rfl|(simp only [List.length_drop,List.length_take];rfl)) ?_;(with_reducible refine (spec_grGood.calls k _ _ l0_0 a0_1 false _ ?side1 ?side2 A3.out).mono ?_);(case side1=>repeat (first|exact (Kd.C_below HR0_0.out HB.out)|(with_reducible refine Kd.C_alloc ?_ _)|(with_reducible refine Kd.C_drewN ?_ _)|(with_reducible refine Kd.C_drew ?_)));(case side2=>exact HC0_0.out);rintro e w13 ⟨rfl,hb⟩;refine ⟨_,rfl,?_⟩;have n0_:=Aside0.mk (blk_below (g:=gb356) (o:=.cells #[.slice A0_0 l0_0.length c0_0,.bool a0_1] 28 (0,0)) (by (with_reducible repeat (first|refine blk_drewN ?_ _|refine blk_drew ?_|refine blk_alloc ?_ _));exact BK356.out) hb);have n1_:=Aside0.mk (below_step (by repeat (first|(with_reducible first|exact HB.out|apply below_alloc|apply pw_below_drewN|apply below_drew1|refine below_set ?_ GE356.out)|exact HB.out)) hb);clear BK356;clear HB;have BK356:=n0_;have HB:=n1_;clear n0_ n1_;(try clear hb);(try clear hb2);(try clear hk);(try clear hi)))
  go_ret
  exact ⟨by first|rfl|(simp [errW_none,errW_some]<;>rfl)|(simp [*,errW_none,errW_some]<;>rfl),by repeat (first|(with_reducible first|exact HB.out|apply below_alloc|apply pw_below_drewN|apply below_drew1|refine below_set ?_ GE356.out)|exact HB.out)⟩
/-! ### spec_trParents: function 54 -/
mutual
def spec_trParents.l0:Nat→Int→List Int→List Int→Int→Int→List Int→Bool→Option (List Int × List Int × Bool)
 |0,_,_,_,_,_,_,_=>none
 |k+1,x5,x6,x7,x8,x9,x360000,x360001=>if x9< x5 then ((spec_grIn.f x8 x9).bind fun t363=>(if t363=true then (spec_trParents.l0 k x5 x6 x7 x8 (wrap64 (x9+1)) x360000 x360001) else (if 0≤x9 then (if x9< (x6.length:Int) then (if x7.length< 17592186044416 then (spec_trParents.l1 k x5 (x6.set (x9:Int).toNat (-1)) (x7++[x9]) (Go.bits .or .i64 x8 (shl .i64 1 x9)) x9 (x7.length:Int) x360000 x360001) else (none)) else (none)) else (none)))) else (some (x6,x7,true))
def spec_trParents.l1:Nat→Int→List Int→List Int→Int→Int→Int→List Int→Bool→Option (List Int × List Int × Bool)
 |0,_,_,_,_,_,_,_,_=>none
 |k+1,x5,x6,x7,x8,x9,x10,x360000,x360001=>if x10< (x7.length:Int) then (if 0≤x10 then (spec_trParents.l2 k x5 x6 x7 x8 x9 x10 (rd x7 x10) 0 x360000 x360001) else (none)) else (spec_trParents.l0 k x5 x6 x7 x8 (wrap64 (x9+1)) x360000 x360001)
def spec_trParents.l2:Nat→Int→List Int→List Int→Int→Int→Int→Int→Int→List Int→Bool→Option (List Int × List Int × Bool)
 |0,_,_,_,_,_,_,_,_,_,_=>none
 |k+1,x5,x6,x7,x8,x9,x10,x11,x12,x360000,x360001=>if x12< x5 then (if 0≤x11 then (if x11< (x360000.length:Int) then ((spec_grIn.f (rd x360000 x11) x12).bind fun t370=>(if t370=true then (if x11< (x6.length:Int) then (spec_trParents.j3 k x5 x6 x7 x8 x9 x10 x11 x12 (x12==(rd x6 x11)) x360000 x360001) else (none)) else (spec_trParents.j3 k x5 x6 x7 x8 x9 x10 x11 x12 true x360000 x360001))) else (none)) else (none)) else (spec_trParents.l1 k x5 x6 x7 x8 x9 (wrap64 (x10+1)) x360000 x360001)
def spec_trParents.j3:Nat→Int→List Int→List Int→Int→Int→Int→Int→Int→Bool→List Int→Bool→Option (List Int × List Int × Bool)
 |0,_,_,_,_,_,_,_,_,_,_,_=>none
 |k+1,x5,x6,x7,x8,x9,x10,x11,x12,x69,x360000,x360001=>if x69=true then (spec_trParents.l2 k x5 x6 x7 x8 x9 x10 x11 (wrap64 (x12+1)) x360000 x360001) else ((spec_grIn.f x8 x12).bind fun t372=>(if t372=true then (some (([]:List Int),([]:List Int),false)) else (if 0≤x12 then (if x12< (x6.length:Int) then (if x7.length< 17592186044416 then (spec_trParents.l2 k x5 (x6.set (x12:Int).toNat x11) (x7++[x12]) (Go.bits .or .i64 x8 (shl .i64 1 x12)) x9 x10 x11 (wrap64 (x12+1)) x360000 x360001) else (none)) else (none)) else (none))))
end
def spec_trParents.f (k:Nat) (l0_0:List Int) (a0_1:Bool):Option (List Int × List Int × Bool):=if 0≤(l0_0.length:Int) then (if ((l0_0.length:Int):Int).toNat≤35184372088832 then (spec_trParents.l0 k (l0_0.length:Int) (List.replicate ((l0_0.length:Int):Int).toNat 0) ([]:List Int) 0 0 l0_0 a0_1) else (none)) else (none)
set_option maxHeartbeats 8000000 in
set_option maxRecDepth 100000 in
theorem spec_trParents.calls (k:Nat) (A0_0:Option Addr) (c0_0:Nat) (l0_0:List Int) (a0_1:Bool) (r1:List Int) (r2:List Int) (r3:Bool) (w:World) (hr0_0:Kd.C (Kd.int .i64) w A0_0 l0_0.length l0_0) (hc0_0:l0_0.length≤c0_0) (h:spec_trParents.f k l0_0 a0_1=some (r1,r2,r3)):
  Calls Try.prog 54 #[.agg #[.slice A0_0 l0_0.length c0_0,.bool a0_1]] w fun e w'=>∃ v0_ v1_:Value,e=.returned (.tuple #[v0_,v1_,.bool r3])∧Kd.R (Kd.int .i64) 3 w' w.heap.size (fun k_=>some k_≠(v1_:Value).ownBlock) v0_ r1∧Kd.R (Kd.int .i64) 3 w' w.heap.size (fun k_=>some k_≠(v0_:Value).ownBlock) v1_ r2∧Below w.heap.size w w':=by
 have hu28:=Try.underlying28
 have HR0_0:=Aside0.mk hr0_0
 have HC0_0:=Aside0.mk hc0_0
 clear hr0_0 hc0_0
 have HB:=Aside0.mk (Below.refl w.heap.size w)
 have H:(if 0≤(l0_0.length:Int) then (if ((l0_0.length:Int):Int).toNat≤35184372088832 then (spec_trParents.l0 k (l0_0.length:Int) (List.replicate ((l0_0.length:Int):Int).toNat 0) ([]:List Int) 0 0 l0_0 a0_1) else (none)) else (none))=some (r1,r2,r3):=h
 clear h
 by_cases c2:0≤(l0_0.length:Int)
 ·rw [if_pos c2] at H
  have c2b0:=eq_true c2
  have c2b1:decide (0≤(l0_0.length:Int))=true:=decide_eq_true c2
  clear c2
  by_cases c3:((l0_0.length:Int):Int).toNat≤35184372088832
  ·rw [if_pos c3] at H
   have c3b0:=eq_true c3
   have c3b1:decide (((l0_0.length:Int):Int).toNat≤35184372088832)=true:=decide_eq_true c3
   clear c3
   obtain ⟨y360,hy360⟩:∃ y_:List Int,y_=(List.replicate ((l0_0.length:Int):Int).toNat 0):=⟨_,rfl⟩
   replace H:(spec_trParents.l0 k (l0_0.length:Int) y360 ([]:List Int) 0 0 l0_0 a0_1)=some (r1,r2,r3):=by first|(rw [hy360];with_reducible exact H)|(have H2_:=(Option.bind_some _ _).symm.trans H;rw [hy360];with_reducible exact H2_)|(have H2_:=(Option.bind_some _ _).symm.trans H;with_reducible exact H2_)|with_reducible exact H|(rw [hy360];exact H)|exact H
   have Ny360:=Aside0.mk hy360
   clear hy360
   have H':=Aside0.mk H
   clear H
   go_enter Try.func54,Try.ntmps54
   go_wp2_with (first|((with_reducible refine gate_dst (N:=1) rfl ?_);refine box_event ?hg (N:=1) ?hd (cs:=#[.slice A0_0 l0_0.length c0_0,.bool a0_1]) (t:=28) ?hr ?_;(case hd=>rfl);(case hg=>rfl);(case hr=>first|(go_simp;done)|(go_simp;rfl));intro gb359 hg w4 hbox hb;have n0_:=Aside0.mk (below_step (by repeat (first|(with_reducible first|exact HB.out|apply below_alloc|apply pw_below_drewN|apply below_drew1)|exact HB.out)) hb);have n1_:=Aside0.mk (hbox);have n2_:=Aside0.mk ((by rw [hg];exact (below_size (by repeat (first|(with_reducible first|exact HB.out|apply below_alloc|apply pw_below_drewN|apply below_drew1)|exact HB.out))):w.heap.size≤gb359));have n3_:=Aside0.mk ((by rw [hg];exact (below_size (by repeat (first|(with_reducible first|exact HB.out|apply below_alloc|apply pw_below_drewN|apply below_drew1)|exact HB.out))):w.heap.size≤gb359));clear HB;have HB:=n0_;have BK359:=n1_;have GW359:=n2_;have GE359:=n3_;clear n0_ n1_ n2_ n3_;clear hb hbox hg;have hcz5_0:w4.cell? ⟨gb359,0,none⟩=some (.slice A0_0 l0_0.length c0_0):=(blk_cell BK359.out 0).trans rfl;have hcz5_1:w4.cell? ⟨gb359,1,none⟩=some (.bool a0_1):=(blk_cell BK359.out 1).trans rfl;have hfz5_0:=blk_frozen BK359.out 0;have hfz5_1:=blk_frozen BK359.out 1)|((with_reducible refine gate_dst (N:=17) rfl ?_);refine Kd.R_make (Kd.int .i64) _ 3 rfl (N:=17) rfl 22 _ _ rfl (l0_0.length:Int) rfl rfl Try.underlying22 (.int .i64 0) 8 info3 rfl (by decide) (by omega) 0 (ok:=fun _=>True) (okp:=fun _=>True) rfl (fun _ hk=>hk) trivial (of_decide_eq_true (by first|(with_reducible assumption)|assumption)) (Nat.le_trans (Nat.mul_le_mul_right _ (of_decide_eq_true (by first|(with_reducible assumption)|assumption):(l0_0.length:Int).toNat≤35184372088832)) (by omega)) (Below.refl _ _) (Nat.le_refl _) ?_;intro v361 w6 ho7 hb hg_ hnew_;clear hg_ hnew_;(first|rw [← Ny360.out] at ho7|(simp only [Int.reduceToNat] at ho7;rw [← Ny360.out] at ho7));have n0_:=Aside0.mk (Kd.R_lower ho7 (below_size (by repeat (first|(with_reducible first|exact HB.out|apply below_alloc|apply pw_below_drewN|apply below_drew1|refine below_set ?_ GE359.out)|exact HB.out))));have n1_:=Aside0.mk (blk_below (g:=gb359) (o:=.cells #[.slice A0_0 l0_0.length c0_0,.bool a0_1] 28 (0,0)) (by (with_reducible repeat (first|refine blk_drewN ?_ _|refine blk_drew ?_|refine blk_alloc ?_ _));exact BK359.out) hb);have n2_:=Aside0.mk (below_step (by repeat (first|(with_reducible first|exact HB.out|apply below_alloc|apply pw_below_drewN|apply below_drew1|refine below_set ?_ GE359.out)|exact HB.out)) hb);clear BK359;clear HB;have HO362:=n0_;have BK359:=n1_;have HB:=n2_;clear n0_ n1_ n2_;clear hb ho7))
   go_loopg [7,8,9] k (fun kq v7 v8 v9 w'=>∃ (x6_1:List Int) (x7_1:List Int) (x8_1:Int) (x9_1:Int),v8=.int .i64 x8_1∧v9=.int .i64 x9_1∧Aside0 (spec_trParents.l0 kq (l0_0.length:Int) x6_1 x7_1 x8_1 x9_1 l0_0 a0_1=some (r1,r2,r3))∧Aside0 (kq≤k)∧Aside0 (Kd.R (Kd.int .i64) 3 w' w.heap.size (fun k_=>some k_≠(v7:Value).ownBlock) v361 x6_1)∧Aside0 (Kd.R (Kd.int .i64) 3 w' w.heap.size (fun k_=>some k_≠(v361:Value).ownBlock) v7 x7_1)∧Aside0 (w'.heap[gb359]?=some (.cells #[(.slice A0_0 l0_0.length c0_0),.bool a0_1] 28 (0,0)))∧Aside0 (Below w.heap.size w w'))
   case atStart=>exact ⟨(y360),(([]:List Int)),(0),(0),(by first|rfl|(simp;done)|(simp [*];done)),(by first|rfl|(simp;done)|(simp [*];done)),H',⟨Nat.le_refl _⟩,⟨by (with_reducible repeat (first|apply Kd.R_alloc|apply Kd.R_drewN|apply Kd.R_drew));exact Kd.R_mono HO362.out (fun _ hk=>(by simp [Value.ownBlock]))⟩,⟨by first|exact Kd.R_nil _ _ _ _ _|exact Kd.N_nil _ _ _ _ _|exact Kd.V_nil _ _ _ _ _|exact Kd.Q_nil _ _ _ _ _|exact Kd.S_nil _ _ _ _ _⟩,⟨by (with_reducible repeat (first|refine blk_drewN ?_ _|refine blk_drew ?_|refine blk_alloc ?_ _));exact BK359.out⟩,⟨by repeat (first|(with_reducible first|exact HB.out|apply below_alloc|apply pw_below_drewN|apply below_drew1|refine below_set ?_ GE359.out)|exact HB.out)⟩⟩
   case round=>
    clear H'
    (try clear c2);(try clear c2b0);(try clear c2b1);(try clear p2);(try clear c3);(try clear c3b0);(try clear c3b1);(try clear c5);(try clear hcz5_0);(try clear hcz5_1);(try clear hfz5_0);(try clear hfz5_1)
    obtain ⟨x6_1,x7_1,x8_1,x9_1,rfl,rfl,HA,HK1,HO_6,HO_7,BK359,HB⟩:=hrel
    cases gk with
    |zero=>exact absurd HA.out (by simp [spec_trParents.l0])
    |succ k1=>
     have H:=HA.out
     clear HA
     simp only [spec_trParents.l0] at H
     by_cases c8:x9_1< (l0_0.length:Int)
     ·rw [if_pos c8] at H
      have c8b0:decide (x9_1< (l0_0.length:Int))=true:=decide_eq_true c8
      clear c8
      replace H:=Option.bind_eq_some_iff.mp H
      obtain ⟨t363,A90,H⟩:=H
      replace H:(if t363=true then (spec_trParents.l0 k1 (l0_0.length:Int) x6_1 x7_1 x8_1 (wrap64 (x9_1+1)) l0_0 a0_1) else (if 0≤x9_1 then (if x9_1< (x6_1.length:Int) then (if x7_1.length< 17592186044416 then (spec_trParents.l1 k1 (l0_0.length:Int) (x6_1.set (x9_1:Int).toNat (-1)) (x7_1++[x9_1]) (Go.bits .or .i64 x8_1 (shl .i64 1 x9_1)) x9_1 (x7_1.length:Int) l0_0 a0_1) else (none)) else (none)) else (none)))=some (r1,r2,r3):=H
      have A9:=Aside0.mk A90
      clear A90
      by_cases c10:t363=true
      ·subst c10
       have H1:(spec_trParents.l0 k1 (l0_0.length:Int) x6_1 x7_1 x8_1 (wrap64 (x9_1+1)) l0_0 a0_1)=some (r1,r2,r3):=by rw [if_pos rfl] at H;exact H
       clear H
       have H:=H1
       clear H1
       have H':=Aside0.mk H
       clear H
       go_wp2_with (first|((with_reducible refine gate_callee (f:=70) rfl ?_);refine goesL_ (some 25) rfl rfl Try.func70 (by kernel_rfl) rfl #[.int .i64 x8_1,.int .i64 x9_1] rfl (by (try simp only [List.map_toArray,List.map_cons,List.map_nil]);first|done|rfl|(simp only [List.length_drop,List.length_take];rfl)) ?_;(with_reducible refine (spec_grIn.calls x8_1 x9_1 true _ A9.out).mono ?_);rintro e w' ⟨rfl,⟨nd,rfl⟩⟩;refine ⟨_,rfl,?_⟩))
       go_roundg k1
       case measure=>have:=HK1.out;omega
       case rel=>exact ⟨(x6_1),(x7_1),(x8_1),(wrap64 (x9_1+1)),(by first|rfl|(simp;done)|(simp [*];done)),(by first|rfl|(simp;done)|(simp [*];done)),H',⟨by have:=HK1.out;omega⟩,⟨by (with_reducible repeat (first|apply Kd.R_alloc|apply Kd.R_drewN|apply Kd.R_drew));exact HO_6.out⟩,⟨by (with_reducible repeat (first|apply Kd.R_alloc|apply Kd.R_drewN|apply Kd.R_drew));exact HO_7.out⟩,⟨by (with_reducible repeat (first|refine blk_drewN ?_ _|refine blk_drew ?_|refine blk_alloc ?_ _));exact BK359.out⟩,⟨by repeat (first|(with_reducible first|exact HB.out|apply below_alloc|apply pw_below_drewN|apply below_drew1|refine below_set ?_ GE359.out)|exact HB.out)⟩⟩
      ·replace c10:=Bool.eq_false_iff.mpr c10
       subst c10
       have H1:(if 0≤x9_1 then (if x9_1< (x6_1.length:Int) then (if x7_1.length< 17592186044416 then (spec_trParents.l1 k1 (l0_0.length:Int) (x6_1.set (x9_1:Int).toNat (-1)) (x7_1++[x9_1]) (Go.bits .or .i64 x8_1 (shl .i64 1 x9_1)) x9_1 (x7_1.length:Int) l0_0 a0_1) else (none)) else (none)) else (none))=some (r1,r2,r3):=by rw [if_neg (show ¬ (false=true) by decide)] at H;exact H
       clear H
       have H:=H1
       clear H1
       by_cases c11:0≤x9_1
       ·rw [if_pos c11] at H
        have c11b0:decide (0≤x9_1)=true:=decide_eq_true c11
        clear c11
        by_cases c12:x9_1< (x6_1.length:Int)
        ·rw [if_pos c12] at H
         have c12b0:decide (x9_1< (x6_1.length:Int))=true:=decide_eq_true c12
         clear c12
         obtain ⟨y364,hy364⟩:∃ y_:List Int,y_=(x6_1.set (x9_1:Int).toNat (-1)):=⟨_,rfl⟩
         replace H:(if x7_1.length< 17592186044416 then (spec_trParents.l1 k1 (l0_0.length:Int) y364 (x7_1++[x9_1]) (Go.bits .or .i64 x8_1 (shl .i64 1 x9_1)) x9_1 (x7_1.length:Int) l0_0 a0_1) else (none))=some (r1,r2,r3):=by first|(rw [hy364];with_reducible exact H)|(have H2_:=(Option.bind_some _ _).symm.trans H;rw [hy364];with_reducible exact H2_)|(have H2_:=(Option.bind_some _ _).symm.trans H;with_reducible exact H2_)|with_reducible exact H|(rw [hy364];exact H)|exact H
         have Ny364:=Aside0.mk hy364
         clear hy364
         have c14b0:=eq_true (of_decide_eq_true (by first|(with_reducible assumption)|assumption):0≤x9_1)
         obtain ⟨ji15,hji15⟩:∃ j_:Int,(shl .i64 1 x9_1)=j_:=⟨_,rfl⟩
         replace H:(if x7_1.length< 17592186044416 then (spec_trParents.l1 k1 (l0_0.length:Int) y364 (x7_1++[x9_1]) (Go.bits .or .i64 x8_1 (ji15)) x9_1 (x7_1.length:Int) l0_0 a0_1) else (none))=some (r1,r2,r3):=by first|(rw [hji15] at H;exact H)|(simp only [hji15] at H ⊢;exact H)
         (try rw [hji15] at A9)
         have hji15_:(IntKind.i64.wrap (1*2 ^ min x9_1.toNat 64))=ji15:=hji15
         have hji15z:x9_1≤64→(IntKind.i64.wrap (1*2 ^ x9_1.toNat))=ji15:=shl_small hji15
         have hji15u:(IntKind.i64.wrap (2 ^ min x9_1.toNat 64))=ji15:=by have h_:=hji15_;rw [Int.one_mul] at h_;exact h_
         have hji15v:x9_1≤64→(IntKind.i64.wrap (2 ^ x9_1.toNat))=ji15:=fun hle_=>by have h_:=hji15z hle_;rw [Int.one_mul] at h_;exact h_
         have hji15y:(wrap64 (1*2 ^ min x9_1.toNat 64))=ji15:=(i64_w _).symm.trans hji15_
         have hji15x:x9_1≤64→(wrap64 (1*2 ^ x9_1.toNat))=ji15:=fun h_=>(i64_w _).symm.trans (hji15z h_)
         by_cases c16:x7_1.length< 17592186044416
         ·rw [if_pos c16] at H
          have LMc16:=Aside0.mk c16
          clear c16
          obtain ⟨y365,hy365⟩:∃ y_:List Int,y_=(x7_1++[x9_1]):=⟨_,rfl⟩
          replace H:(spec_trParents.l1 k1 (l0_0.length:Int) y364 y365 (Go.bits .or .i64 x8_1 (ji15)) x9_1 (x7_1.length:Int) l0_0 a0_1)=some (r1,r2,r3):=by first|(rw [hy365];with_reducible exact H)|(have H2_:=(Option.bind_some _ _).symm.trans H;rw [hy365];with_reducible exact H2_)|(have H2_:=(Option.bind_some _ _).symm.trans H;with_reducible exact H2_)|with_reducible exact H|(rw [hy365];exact H)|exact H
          have Ny365:=Aside0.mk hy365
          clear hy365
          have H':=Aside0.mk H
          clear H
          go_wp2_with (first|((with_reducible refine gate_callee (f:=70) rfl ?_);refine goesL_ (some 25) rfl rfl Try.func70 (by kernel_rfl) rfl #[.int .i64 x8_1,.int .i64 x9_1] rfl (by (try simp only [List.map_toArray,List.map_cons,List.map_nil]);first|done|rfl|(simp only [List.length_drop,List.length_take];rfl)) ?_;(with_reducible refine (spec_grIn.calls x8_1 x9_1 false _ A9.out).mono ?_);rintro e w' ⟨rfl,⟨nd,rfl⟩⟩;refine ⟨_,rfl,?_⟩;(try (rw [drewN_self wr];generalize hq_:World.drewN wr _=wr;have n0_:Aside0 (Kd.R (Kd.int .i64) 3 wr w.heap.size (fun k_=>some k_≠(u7:Value).ownBlock) v361 x6_1):=⟨by rw [← hq_];exact (by (with_reducible repeat (first|apply Kd.R_alloc|apply Kd.R_drewN|apply Kd.R_drew));exact HO_6.out)⟩;have n1_:Aside0 (Kd.R (Kd.int .i64) 3 wr w.heap.size (fun k_=>some k_≠(v361:Value).ownBlock) u7 x7_1):=⟨by rw [← hq_];exact (by (with_reducible repeat (first|apply Kd.R_alloc|apply Kd.R_drewN|apply Kd.R_drew));exact HO_7.out)⟩;have n2_:Aside0 (wr.heap[gb359]?=some (.cells #[.slice A0_0 l0_0.length c0_0,.bool a0_1] 28 (0,0))):=⟨by rw [← hq_];exact (by (with_reducible repeat (first|refine blk_drewN ?_ _|refine blk_drew ?_|refine blk_alloc ?_ _));exact BK359.out)⟩;have n3_:Aside0 (Below w.heap.size w wr):=⟨by rw [← hq_];exact (by repeat (first|(with_reducible first|exact HB.out|apply below_alloc|apply pw_below_drewN|apply below_drew1|refine below_set ?_ GE359.out)|exact HB.out))⟩;clear HO_6 HO_7 BK359 HB hq_;have HO_6:=n0_;have HO_7:=n1_;have BK359:=n2_;have HB:=n3_;clear n0_ n1_ n2_ n3_));have p13:0≤(x9_1:Int):=of_decide_eq_true (by first|(with_reducible assumption)|assumption);have q13:(x9_1:Int)< ((x6_1.length:Int):Int):=of_decide_eq_true (by first|(with_reducible assumption)|assumption);obtain ⟨go13,co13,eo13,gb13,gl13,cl13,HG13⟩:=Kd.R_form HO_6.out (by omega);(first|cases eo13|(injection eo13 with ea_ en_ ec_;(first|subst ea_|(injection ea_ with ea_;subst ea_));subst ec_;clear en_));have GB13:=Aside0.mk gb13;have GG13:=Aside0.mk HG13;clear gb13 gl13 HG13;obtain ⟨hx13_0,hf13_0⟩:=Kd.R_celln 0 HO_6.out (x9_1:Int) p13 q13;replace p13:=eq_true p13;replace q13:=eq_true q13;obtain ⟨hy17_,hz17_⟩:=Kd.R_celln 0 HO_6.out (x9_1:Int) (of_decide_eq_true (by first|(with_reducible assumption)|assumption)) (of_decide_eq_true (by first|(with_reducible assumption)|assumption));have HP17:=Kd.R_putg HO_6.out (x9_1:Int) (-1))|((with_reducible refine gate_store (t:=3) (p:=28) rfl ?_);refine store_event (t:=3) (p:=28) (v:=?vo_w18) (w1:=(wr.setCell ⟨go13,(x9_1:Int).toNat,none⟩ (.int .i64 (-1)))) ?hg ?ho ?hn ?hr ?_;(case ho=>rfl);(case hg=>rfl);(case hn=>rfl);(case hr=>first|(go_simp;done)|(go_simp;rfl));intro w18 hw;have hg:wr.grownBy w18 (some go13):=(by rw [hw];exact HP17.2);have hp_:Kd.R (Kd.int .i64) 3 w18 w.heap.size (fun k_=>some k_≠(u7:Value).ownBlock) (.slice (some ⟨go13,0,none⟩) x6_1.length co13) y364:=(by rw [hw,Ny364.out];exact HP17.1);clear HP17;have n0_:=Aside0.mk (hp_);have n1_:=Aside0.mk (Kd.R_after (v:=(.slice (some ⟨go13,0,none⟩) x6_1.length co13)) (v1:=(.slice (some ⟨go13,0,none⟩) x6_1.length co13)) (ok:=(fun _=>True)) (by (with_reducible repeat (first|apply Kd.R_alloc|apply Kd.R_drewN|apply Kd.R_drew));exact Kd.R_mono HO_7.out (fun _ hk=>⟨trivial,hk⟩)) hg (.inl rfl));have n2_:=Aside0.mk (blk_grown (g:=gb359) (o:=.cells #[.slice A0_0 l0_0.length c0_0,.bool a0_1] 28 (0,0)) (by (with_reducible repeat (first|refine blk_drewN ?_ _|refine blk_drew ?_|refine blk_alloc ?_ _));exact BK359.out) hg (Kd.R_ne HO_6.out BK359.out (by decide)));have n3_:=Aside0.mk ((by rw [hw];exact below_set (HB.out) GB13.out:Below w.heap.size w w18));clear HO_6;clear HO_7;clear BK359;clear HB;have HO_6:=n0_;have HO_7:=n1_;have BK359:=n2_;have HB:=n3_;clear n0_ n1_ n2_ n3_;clear hg hw hp_;obtain ⟨Ao19,co19,eo19⟩:=Kd.R_slice HO_7.out;subst eo19)|((with_reducible refine gate_builtin (b:=.append) (xs:=#[.tmp 35,.tmp 37]) rfl ?_);at_builtin;refine Kd.R_append (Kd.int .i64) (w0:=w) w.heap.size rfl (.tmp 35) (.tmp 37) 22 3 (.int .i64 0) 8 rfl Try.underlying22 info3 rfl (by decide) (by omega) (.slice Ao19 x7_1.length co19) x7_1 x9_1 [.int .i64 x9_1] (fun k_=>some k_≠(.slice (some ⟨go13,0,none⟩) x6_1.length co13:Value).ownBlock) (fun _=>False) rfl rfl ?aP (fun _ hk=>hk.elim) ?aF ?aO ?aB ?aS ?aL ?_;(case aP=>exact rfl);(case aB=>exact (by repeat (first|(with_reducible first|exact HB.out|apply below_alloc|apply pw_below_drewN|apply below_drew1|refine below_set ?_ GE359.out)|exact HB.out)));(case aF=>exact (fun k_ hk=>Kd.fresh' (Kd.R_lt (by (with_reducible repeat (first|apply Kd.R_alloc|apply Kd.R_drewN|apply Kd.R_drew));exact HO_6.out)) k_ hk));(case aO=>exact (by (with_reducible repeat (first|apply Kd.R_alloc|apply Kd.R_drewN|apply Kd.R_drew));exact Kd.R_mono HO_7.out (fun _ hk=>hk.2)));(case aS=>exact (below_size (by repeat (first|(with_reducible first|exact HB.out|apply below_alloc|apply pw_below_drewN|apply below_drew1|refine below_set ?_ GE359.out)|exact HB.out))));(case aL=>have:=LMc16.out;omega);intro v366 w20 ho hb hg hat;rw [← Ny365.out] at ho;have n0_:=Aside0.mk (Kd.R_after (ok:=(fun _=>True)) (by (with_reducible repeat (first|apply Kd.R_alloc|apply Kd.R_drewN|apply Kd.R_drew));exact Kd.R_mono HO_6.out (fun _ hk=>⟨trivial,hk⟩)) hg hat);have n1_:=Aside0.mk (blk_grown (g:=gb359) (o:=.cells #[.slice A0_0 l0_0.length c0_0,.bool a0_1] 28 (0,0)) (by (with_reducible repeat (first|refine blk_drewN ?_ _|refine blk_drew ?_|refine blk_alloc ?_ _));exact BK359.out) hg (Kd.R_ne HO_7.out BK359.out (by decide)));have n2_:=Aside0.mk (hb);have n3_:=Aside0.mk (ho);clear HO_6;clear BK359;clear HB;clear HO_7;have HO_6:=n0_;have BK359:=n1_;have HB:=n2_;have HO367:=n3_;clear n0_ n1_ n2_ n3_;clear ho hb hg hat))
          go_loopg [7,8,10] k1 (fun kq v7 v8 v10 w'=>∃ (x6_2:List Int) (x7_2:List Int) (x8_2:Int) (x10_2:Int),v8=.int .i64 x8_2∧v10=.int .i64 x10_2∧Aside0 (spec_trParents.l1 kq (l0_0.length:Int) x6_2 x7_2 x8_2 x9_1 x10_2 l0_0 a0_1=some (r1,r2,r3))∧Aside0 (kq≤k1)∧Aside0 (Kd.R (Kd.int .i64) 3 w' w.heap.size (fun k_=>some k_≠(v7:Value).ownBlock) (.slice (some ⟨go13,0,none⟩) x6_1.length co13) x6_2)∧Aside0 (Kd.R (Kd.int .i64) 3 w' w.heap.size (fun k_=>some k_≠((.slice (some ⟨go13,0,none⟩) x6_1.length co13):Value).ownBlock) v7 x7_2)∧Aside0 (w'.heap[gb359]?=some (.cells #[(.slice A0_0 l0_0.length c0_0),.bool a0_1] 28 (0,0)))∧Aside0 (Below w.heap.size w w'))
          case atStart=>exact ⟨(y364),(y365),(Go.bits .or .i64 x8_1 (ji15)),((x7_1.length:Int)),(by first|rfl|(simp;done)|(simp only [← hji15]<;>(first|rfl|simp))|(simp [*];done)),(by first|rfl|(simp;done)|(simp [*];done)),H',⟨Nat.le_refl _⟩,⟨by (with_reducible repeat (first|apply Kd.R_alloc|apply Kd.R_drewN|apply Kd.R_drew));exact Kd.R_mono HO_6.out (fun _ hk=>hk.2)⟩,⟨by (with_reducible repeat (first|apply Kd.R_alloc|apply Kd.R_drewN|apply Kd.R_drew));exact HO367.out⟩,⟨by (with_reducible repeat (first|refine blk_drewN ?_ _|refine blk_drew ?_|refine blk_alloc ?_ _));exact BK359.out⟩,⟨by repeat (first|(with_reducible first|exact HB.out|apply below_alloc|apply pw_below_drewN|apply below_drew1|refine below_set ?_ GE359.out)|exact HB.out)⟩⟩
          case round=>
           clear H'
           (try clear c1);(try clear p1);(try clear q1);(try clear hx1);(try clear hf1);(try clear c2);(try clear c2b0);(try clear c2b1);(try clear p2);(try clear c3);(try clear c3b0);(try clear c3b1);(try clear c5);(try clear p6);(try clear c7);(try clear c8);(try clear c8b0);(try clear c10);(try clear c11);(try clear c11b0);(try clear c12);(try clear c12b0);(try clear p13);(try clear q13);(try clear hx13);(try clear hf13);(try clear c14);(try clear c14b0);(try clear c16);(try clear hcz5_0);(try clear hcz5_1);(try clear hfz5_0);(try clear hfz5_1);(try clear hx13_0);(try clear p13);(try clear p2);(try clear q13)
           obtain ⟨x6_2,x7_2,x8_2,x10_2,rfl,rfl,HA,HK2,HO_6,HO_7,BK359,HB⟩:=hrel
           have hl6_2:=(Kd.R_reads' HO_6.out).1
           rw [hl6_2] at HO_6
           (try simp only [hl6_2])
           (try simp only [hl6_2] at BK359)
           (try simp only [hl6_2] at HO_7)
           cases gk with
           |zero=>exact absurd HA.out (by simp [spec_trParents.l1])
           |succ k2=>
            have H:=HA.out
            clear HA
            simp only [spec_trParents.l1] at H
            by_cases c21:x10_2< (x7_2.length:Int)
            ·rw [if_pos c21] at H
             have c21b0:decide (x10_2< (x7_2.length:Int))=true:=decide_eq_true c21
             clear c21
             by_cases c22:0≤x10_2
             ·rw [if_pos c22] at H
              have c22b0:decide (0≤x10_2)=true:=decide_eq_true c22
              clear c22
              have H':=Aside0.mk H
              clear H
              obtain ⟨Ao23,co23,eo23⟩:=Kd.R_slice HO_7.out
              subst eo23
              have p368:0≤(x10_2:Int):=of_decide_eq_true (by first|(with_reducible assumption)|assumption)
              have q368:x10_2< (x7_2.length:Int):=of_decide_eq_true (by first|(with_reducible assumption)|assumption)
              obtain ⟨ad368,e368,hx368_0⟩:=Kd.at_int (Kd.R_reads' HO_7.out).2.2 x10_2 p368 q368
              cases e368
              replace p368:=eq_true p368
              replace q368:=eq_true q368
              go_wp2
              go_loopg [7,8,12] k2 (fun kq v7 v8 v12 w'=>∃ (x6_3:List Int) (x7_3:List Int) (x8_3:Int) (x12_3:Int),v8=.int .i64 x8_3∧v12=.int .i64 x12_3∧Aside0 (spec_trParents.l2 kq (l0_0.length:Int) x6_3 x7_3 x8_3 x9_1 x10_2 (rd x7_2 x10_2) x12_3 l0_0 a0_1=some (r1,r2,r3))∧Aside0 (kq≤k2)∧Aside0 (Kd.R (Kd.int .i64) 3 w' w.heap.size (fun k_=>some k_≠(v7:Value).ownBlock) (.slice (some ⟨go13,0,none⟩) x6_2.length co13) x6_3)∧Aside0 (Kd.R (Kd.int .i64) 3 w' w.heap.size (fun k_=>some k_≠((.slice (some ⟨go13,0,none⟩) x6_2.length co13):Value).ownBlock) v7 x7_3)∧Aside0 (w'.heap[gb359]?=some (.cells #[(.slice A0_0 l0_0.length c0_0),.bool a0_1] 28 (0,0)))∧Aside0 (Below w.heap.size w w'))
              case atStart=>exact ⟨(x6_2),(x7_2),(x8_2),(0),(by first|rfl|(simp;done)|(simp [*];done)),(by first|rfl|(simp;done)|(simp [*];done)),H',⟨Nat.le_refl _⟩,⟨by (try simp only [hl6_2]);(with_reducible repeat (first|apply Kd.R_alloc|apply Kd.R_drewN|apply Kd.R_drew));exact HO_6.out⟩,⟨by (try simp only [hl6_2]);(with_reducible repeat (first|apply Kd.R_alloc|apply Kd.R_drewN|apply Kd.R_drew));exact HO_7.out⟩,⟨by (try simp only [hl6_2]);(with_reducible repeat (first|refine blk_drewN ?_ _|refine blk_drew ?_|refine blk_alloc ?_ _));exact BK359.out⟩,⟨by repeat (first|(with_reducible first|exact HB.out|apply below_alloc|apply pw_below_drewN|apply below_drew1|refine below_set ?_ GE359.out)|exact HB.out)⟩⟩
              case round=>
               clear H'
               (try clear c1);(try clear p1);(try clear q1);(try clear hx1);(try clear hf1);(try clear c2);(try clear c2b0);(try clear c2b1);(try clear p2);(try clear c3);(try clear c3b0);(try clear c3b1);(try clear p3);(try clear q3);(try clear hx3);(try clear c5);(try clear p6);(try clear c7);(try clear c8);(try clear c8b0);(try clear c10);(try clear c11);(try clear c11b0);(try clear c12);(try clear c12b0);(try clear p13);(try clear q13);(try clear hx13);(try clear hf13);(try clear c14);(try clear c14b0);(try clear c16);(try clear c21);(try clear c21b0);(try clear c22);(try clear c22b0);(try clear hcz5_0);(try clear hcz5_1);(try clear hfz5_0);(try clear hfz5_1);(try clear hx13_0);(try clear hx368_0);(try clear p1);(try clear p13);(try clear p2);(try clear p368);(try clear p6);(try clear q1);(try clear q13);(try clear q368)
               obtain ⟨x6_3,x7_3,x8_3,x12_3,rfl,rfl,HA,HK3,HO_6,HO_7,BK359,HB⟩:=hrel
               have hl6_3:=(Kd.R_reads' HO_6.out).1
               rw [hl6_3] at HO_6
               (try simp only [hl6_3])
               (try simp only [hl6_3] at BK359)
               (try simp only [hl6_3] at HO_7)
               cases gk with
               |zero=>exact absurd HA.out (by simp [spec_trParents.l2])
               |succ k3=>
                have H:=HA.out
                clear HA
                simp only [spec_trParents.l2] at H
                by_cases c24:x12_3< (l0_0.length:Int)
                ·rw [if_pos c24] at H
                 have c24b0:decide (x12_3< (l0_0.length:Int))=true:=decide_eq_true c24
                 clear c24
                 have HC25:=Aside0.mk H
                 clear H
                 go_upto_region 19 with (fail)
                 go_cut [69] (fun v69 wc=>∃ (kq:Nat) (x69_24:Bool),v69=.bool x69_24∧Aside0 (spec_trParents.j3 kq (l0_0.length:Int) x6_3 x7_3 x8_3 x9_1 x10_2 (rd x7_2 x10_2) x12_3 x69_24 l0_0 a0_1=some (r1,r2,r3))∧Aside0 (kq≤k3)∧Aside0 (Kd.R (Kd.int .i64) 3 wc w.heap.size (fun k_=>some k_≠(u7:Value).ownBlock) (.slice (some ⟨go13,0,none⟩) x6_3.length co13) x6_3)∧Aside0 (Kd.R (Kd.int .i64) 3 wc w.heap.size (fun k_=>some k_≠((.slice (some ⟨go13,0,none⟩) x6_3.length co13):Value).ownBlock) u7 x7_3)∧Aside0 (wc.heap[gb359]?=some (.cells #[(.slice A0_0 l0_0.length c0_0),.bool a0_1] 28 (0,0)))∧Aside0 (Below w.heap.size w wc))
                 case first=>
                  have H:=HC25.out
                  clear HC25
                  by_cases c26:0≤(rd x7_2 x10_2)
                  ·rw [if_pos c26] at H
                   have c26b0:decide (0≤(rd x7_2 x10_2))=true:=decide_eq_true c26
                   clear c26
                   (first|rw [c26b0]|(simp only [i64_w,i32_w];rw [c26b0])|skip)
                   by_cases c27:(rd x7_2 x10_2)< (l0_0.length:Int)
                   ·rw [if_pos c27] at H
                    have c27b0:decide ((rd x7_2 x10_2)< (l0_0.length:Int))=true:=decide_eq_true c27
                    clear c27
                    replace H:=Option.bind_eq_some_iff.mp H
                    obtain ⟨t370,A280,H⟩:=H
                    replace H:(if t370=true then (if (rd x7_2 x10_2)< (x6_3.length:Int) then (spec_trParents.j3 k3 (l0_0.length:Int) x6_3 x7_3 x8_3 x9_1 x10_2 (rd x7_2 x10_2) x12_3 (x12_3==(rd x6_3 (rd x7_2 x10_2))) l0_0 a0_1) else (none)) else (spec_trParents.j3 k3 (l0_0.length:Int) x6_3 x7_3 x8_3 x9_1 x10_2 (rd x7_2 x10_2) x12_3 true l0_0 a0_1))=some (r1,r2,r3):=H
                    have A28:=Aside0.mk A280
                    clear A280
                    by_cases c29:t370=true
                    ·subst c29
                     have H1:(if (rd x7_2 x10_2)< (x6_3.length:Int) then (spec_trParents.j3 k3 (l0_0.length:Int) x6_3 x7_3 x8_3 x9_1 x10_2 (rd x7_2 x10_2) x12_3 (x12_3==(rd x6_3 (rd x7_2 x10_2))) l0_0 a0_1) else (none))=some (r1,r2,r3):=by rw [if_pos rfl] at H;exact H
                     clear H
                     have H:=H1
                     clear H1
                     by_cases c30:(rd x7_2 x10_2)< (x6_3.length:Int)
                     ·rw [if_pos c30] at H
                      have c30b0:decide ((rd x7_2 x10_2)< (x6_3.length:Int))=true:=decide_eq_true c30
                      clear c30
                      have H':=Aside0.mk H
                      clear H
                      have hcz31_0:wr.cell? ⟨gb359,0,none⟩=some (.slice A0_0 l0_0.length c0_0):=(blk_cell BK359.out 0).trans rfl
                      have hcz31_1:wr.cell? ⟨gb359,1,none⟩=some (.bool a0_1):=(blk_cell BK359.out 1).trans rfl
                      have hfz31_0:=blk_frozen BK359.out 0
                      have hfz31_1:=blk_frozen BK359.out 1
                      have p369:0≤((rd x7_2 x10_2):Int):=of_decide_eq_true (by first|(with_reducible assumption)|assumption)
                      have q369:(rd x7_2 x10_2)< (l0_0.length:Int):=of_decide_eq_true (by first|(with_reducible assumption)|assumption)
                      obtain ⟨ad369,e369,hx369_0⟩:=Kd.at_int HR0_0.out (rd x7_2 x10_2) p369 q369
                      cases e369
                      replace hx369_0:=(HB.out.cell (World.block_lt_of_cell? w _ hx369_0)).trans hx369_0
                      replace p369:=eq_true p369
                      replace q369:=eq_true q369
                      go_wp2_with (first|((with_reducible refine gate_callee (f:=70) rfl ?_);refine goesL_ (some 60) rfl rfl Try.func70 (by kernel_rfl) rfl #[.int .i64 (rd l0_0 (rd x7_2 x10_2)),.int .i64 x12_3] rfl (by (try simp only [List.map_toArray,List.map_cons,List.map_nil]);first|done|rfl|(simp only [List.length_drop,List.length_take];rfl)) ?_;(with_reducible refine (spec_grIn.calls (rd l0_0 (rd x7_2 x10_2)) x12_3 true _ A28.out).mono ?_);rintro e w' ⟨rfl,⟨nd,rfl⟩⟩;refine ⟨_,rfl,?_⟩;have p371:0≤((rd x7_2 x10_2):Int):=of_decide_eq_true (by first|(with_reducible assumption)|assumption);have q371:(rd x7_2 x10_2)< (x6_3.length:Int):=of_decide_eq_true (by first|(with_reducible assumption)|assumption);obtain ⟨ad371,e371,hx371_0⟩:=Kd.at_int (Kd.R_reads' HO_6.out).2.2 (rd x7_2 x10_2) p371 q371;obtain rfl:(⟨go13,0,none⟩:Addr)=ad371:=(by injection e371);(first|simp only [add_plain] at hx371_0|simp only [add_at] at hx371_0|simp only [Addr.add,Nat.zero_add] at hx371_0|skip);replace p371:=eq_true p371;replace q371:=eq_true q371))
                      go_meet
                      case rel=>exact ⟨_,((x12_3==(rd x6_3 (rd x7_2 x10_2)))),(by first|rfl|(simp;done)|(simp [*];done)),H',⟨by have:=HK1.out;have:=HK2.out;have:=HK3.out;first|omega|exact Nat.le_refl _⟩,⟨by (try simp only [hl6_2]);(try simp only [hl6_3]);(with_reducible repeat (first|apply Kd.R_alloc|apply Kd.R_drewN|apply Kd.R_drew));exact HO_6.out⟩,⟨by (try simp only [hl6_2]);(try simp only [hl6_3]);(with_reducible repeat (first|apply Kd.R_alloc|apply Kd.R_drewN|apply Kd.R_drew));exact HO_7.out⟩,⟨by (try simp only [hl6_2]);(try simp only [hl6_3]);(with_reducible repeat (first|refine blk_drewN ?_ _|refine blk_drew ?_|refine blk_alloc ?_ _));exact BK359.out⟩,⟨by repeat (first|(with_reducible first|exact HB.out|apply below_alloc|apply pw_below_drewN|apply below_drew1|refine below_set ?_ GE359.out)|exact HB.out)⟩⟩
                     ·rw [if_neg c30] at H
                      exact absurd H (by simp)
                    ·replace c29:=Bool.eq_false_iff.mpr c29
                     subst c29
                     have H1:(spec_trParents.j3 k3 (l0_0.length:Int) x6_3 x7_3 x8_3 x9_1 x10_2 (rd x7_2 x10_2) x12_3 true l0_0 a0_1)=some (r1,r2,r3):=by rw [if_neg (show ¬ (false=true) by decide)] at H;exact H
                     clear H
                     have H:=H1
                     clear H1
                     have H':=Aside0.mk H
                     clear H
                     have hcz32_0:wr.cell? ⟨gb359,0,none⟩=some (.slice A0_0 l0_0.length c0_0):=(blk_cell BK359.out 0).trans rfl
                     have hcz32_1:wr.cell? ⟨gb359,1,none⟩=some (.bool a0_1):=(blk_cell BK359.out 1).trans rfl
                     have hfz32_0:=blk_frozen BK359.out 0
                     have hfz32_1:=blk_frozen BK359.out 1
                     have p369:0≤((rd x7_2 x10_2):Int):=of_decide_eq_true (by first|(with_reducible assumption)|assumption)
                     have q369:(rd x7_2 x10_2)< (l0_0.length:Int):=of_decide_eq_true (by first|(with_reducible assumption)|assumption)
                     obtain ⟨ad369,e369,hx369_0⟩:=Kd.at_int HR0_0.out (rd x7_2 x10_2) p369 q369
                     cases e369
                     replace hx369_0:=(HB.out.cell (World.block_lt_of_cell? w _ hx369_0)).trans hx369_0
                     replace p369:=eq_true p369
                     replace q369:=eq_true q369
                     go_wp2_with (first|((with_reducible refine gate_callee (f:=70) rfl ?_);refine goesL_ (some 60) rfl rfl Try.func70 (by kernel_rfl) rfl #[.int .i64 (rd l0_0 (rd x7_2 x10_2)),.int .i64 x12_3] rfl (by (try simp only [List.map_toArray,List.map_cons,List.map_nil]);first|done|rfl|(simp only [List.length_drop,List.length_take];rfl)) ?_;(with_reducible refine (spec_grIn.calls (rd l0_0 (rd x7_2 x10_2)) x12_3 false _ A28.out).mono ?_);rintro e w' ⟨rfl,⟨nd,rfl⟩⟩;refine ⟨_,rfl,?_⟩))
                     go_meet
                     case rel=>exact ⟨_,(true),(by first|rfl|(simp;done)|(simp [*];done)),H',⟨by have:=HK1.out;have:=HK2.out;have:=HK3.out;first|omega|exact Nat.le_refl _⟩,⟨by (try simp only [hl6_2]);(try simp only [hl6_3]);(with_reducible repeat (first|apply Kd.R_alloc|apply Kd.R_drewN|apply Kd.R_drew));exact HO_6.out⟩,⟨by (try simp only [hl6_2]);(try simp only [hl6_3]);(with_reducible repeat (first|apply Kd.R_alloc|apply Kd.R_drewN|apply Kd.R_drew));exact HO_7.out⟩,⟨by (try simp only [hl6_2]);(try simp only [hl6_3]);(with_reducible repeat (first|refine blk_drewN ?_ _|refine blk_drew ?_|refine blk_alloc ?_ _));exact BK359.out⟩,⟨by repeat (first|(with_reducible first|exact HB.out|apply below_alloc|apply pw_below_drewN|apply below_drew1|refine below_set ?_ GE359.out)|exact HB.out)⟩⟩
                   ·rw [if_neg c27] at H
                    exact absurd H (by simp)
                  ·rw [if_neg c26] at H
                   exact absurd H (by simp)
                 case rest=>
                  clear HC25;(try clear c1);(try clear p1);(try clear q1);(try clear hx1);(try clear hf1);(try clear c2);(try clear c2b0);(try clear c2b1);(try clear p2);(try clear c3);(try clear c3b0);(try clear c3b1);(try clear p3);(try clear q3);(try clear hx3);(try clear c5);(try clear p6);(try clear c7);(try clear c8);(try clear c8b0);(try clear c10);(try clear c11);(try clear c11b0);(try clear c12);(try clear c12b0);(try clear p13);(try clear q13);(try clear hx13);(try clear hf13);(try clear c14);(try clear c14b0);(try clear c16);(try clear c21);(try clear c21b0);(try clear c22);(try clear c22b0);(try clear c24);(try clear c24b0);(try clear c26);(try clear c26b0);(try clear c27);(try clear c27b0);(try clear c29);(try clear c30);(try clear c30b0);(try clear hcz31_0);(try clear hcz31_1);(try clear hcz32_0);(try clear hcz32_1);(try clear hcz5_0);(try clear hcz5_1);(try clear hfz31_0);(try clear hfz31_1);(try clear hfz32_0);(try clear hfz32_1);(try clear hfz5_0);(try clear hfz5_1);(try clear hx13_0);(try clear hx368_0);(try clear hx369_0);(try clear hx371_0);(try clear p1);(try clear p13);(try clear p2);(try clear p3);(try clear p368);(try clear p369);(try clear p371);(try clear p6);(try clear q1);(try clear q13);(try clear q3);(try clear q368);(try clear q369);(try clear q371)
                  obtain ⟨kq,x69_24,rfl,HA,HJ24,HO_6,HO_7,BK359,HB⟩:=hcut
                  cases kq with
                  |zero=>exact absurd HA.out (by simp [spec_trParents.j3])
                  |succ kj24=>
                   have H:=HA.out
                   clear HA
                   simp only [spec_trParents.j3] at H
                   by_cases c33:x69_24=true
                   ·subst c33
                    have H1:(spec_trParents.l2 kj24 (l0_0.length:Int) x6_3 x7_3 x8_3 x9_1 x10_2 (rd x7_2 x10_2) (wrap64 (x12_3+1)) l0_0 a0_1)=some (r1,r2,r3):=by rw [if_pos rfl] at H;exact H
                    clear H
                    have H:=H1
                    clear H1
                    have H':=Aside0.mk H
                    clear H
                    go_wp2
                    (try simp only [← hl6_3])
                    go_roundg kj24
                    case measure=>have:=HK1.out;have:=HK2.out;have:=HK3.out;have:=HJ24.out;omega
                    case rel=>exact ⟨(x6_3),(x7_3),(x8_3),(wrap64 (x12_3+1)),(by first|rfl|(simp;done)|(simp [*];done)),(by first|rfl|(simp;done)|(simp [*];done)),H',⟨by have:=HK1.out;have:=HK2.out;have:=HK3.out;have:=HJ24.out;omega⟩,⟨by (try simp only [hl6_2]);(try simp only [hl6_3]);(with_reducible repeat (first|apply Kd.R_alloc|apply Kd.R_drewN|apply Kd.R_drew));exact HO_6.out⟩,⟨by (try simp only [hl6_2]);(try simp only [hl6_3]);(with_reducible repeat (first|apply Kd.R_alloc|apply Kd.R_drewN|apply Kd.R_drew));exact HO_7.out⟩,⟨by (try simp only [hl6_2]);(try simp only [hl6_3]);(with_reducible repeat (first|refine blk_drewN ?_ _|refine blk_drew ?_|refine blk_alloc ?_ _));exact BK359.out⟩,⟨by repeat (first|(with_reducible first|exact HB.out|apply below_alloc|apply pw_below_drewN|apply below_drew1|refine below_set ?_ GE359.out)|exact HB.out)⟩⟩
                   ·replace c33:=Bool.eq_false_iff.mpr c33
                    subst c33
                    have H1:((spec_grIn.f x8_3 x12_3).bind fun t372=>(if t372=true then (some (([]:List Int),([]:List Int),false)) else (if 0≤x12_3 then (if x12_3< (x6_3.length:Int) then (if x7_3.length< 17592186044416 then (spec_trParents.l2 kj24 (l0_0.length:Int) (x6_3.set (x12_3:Int).toNat (rd x7_2 x10_2)) (x7_3++[x12_3]) (Go.bits .or .i64 x8_3 (shl .i64 1 x12_3)) x9_1 x10_2 (rd x7_2 x10_2) (wrap64 (x12_3+1)) l0_0 a0_1) else (none)) else (none)) else (none))))=some (r1,r2,r3):=by rw [if_neg (show ¬ (false=true) by decide)] at H;exact H
                    clear H
                    have H:=H1
                    clear H1
                    replace H:=Option.bind_eq_some_iff.mp H
                    obtain ⟨t372,A340,H⟩:=H
                    replace H:(if t372=true then (some (([]:List Int),([]:List Int),false)) else (if 0≤x12_3 then (if x12_3< (x6_3.length:Int) then (if x7_3.length< 17592186044416 then (spec_trParents.l2 kj24 (l0_0.length:Int) (x6_3.set (x12_3:Int).toNat (rd x7_2 x10_2)) (x7_3++[x12_3]) (Go.bits .or .i64 x8_3 (shl .i64 1 x12_3)) x9_1 x10_2 (rd x7_2 x10_2) (wrap64 (x12_3+1)) l0_0 a0_1) else (none)) else (none)) else (none)))=some (r1,r2,r3):=H
                    have A34:=Aside0.mk A340
                    clear A340
                    by_cases c35:t372=true
                    ·subst c35
                     have H1:(some (([]:List Int),([]:List Int),false))=some (r1,r2,r3):=by rw [if_pos rfl] at H;exact H
                     clear H
                     have H:=H1
                     clear H1
                     simp only [Option.some.injEq,Prod.mk.injEq] at H
                     obtain ⟨rfl,rfl,rfl⟩:=H
                     go_wp2_with (first|((with_reducible refine gate_callee (f:=70) rfl ?_);refine goesL_ (some 72) rfl rfl Try.func70 (by kernel_rfl) rfl #[.int .i64 x8_3,.int .i64 x12_3] rfl (by (try simp only [List.map_toArray,List.map_cons,List.map_nil]);first|done|rfl|(simp only [List.length_drop,List.length_take];rfl)) ?_;(with_reducible refine (spec_grIn.calls x8_3 x12_3 true _ A34.out).mono ?_);rintro e w' ⟨rfl,⟨nd,rfl⟩⟩;refine ⟨_,rfl,?_⟩))
                     go_ret3
                     exact ⟨_,_,by first|rfl|(simp [errW_none,errW_some]<;>rfl)|(simp only [← hji15];first|rfl|(simp [errW_none,errW_some]<;>rfl))|(simp [*,errW_none,errW_some]<;>rfl),by first|exact Kd.R_nil _ _ _ _ _|exact Kd.N_nil _ _ _ _ _|exact Kd.V_nil _ _ _ _ _|exact Kd.Q_nil _ _ _ _ _|exact Kd.S_nil _ _ _ _ _,by first|exact Kd.R_nil _ _ _ _ _|exact Kd.N_nil _ _ _ _ _|exact Kd.V_nil _ _ _ _ _|exact Kd.Q_nil _ _ _ _ _|exact Kd.S_nil _ _ _ _ _,by repeat (first|(with_reducible first|exact HB.out|apply below_alloc|apply pw_below_drewN|apply below_drew1|refine below_set ?_ GE359.out)|exact HB.out)⟩
                    ·replace c35:=Bool.eq_false_iff.mpr c35
                     subst c35
                     have H1:(if 0≤x12_3 then (if x12_3< (x6_3.length:Int) then (if x7_3.length< 17592186044416 then (spec_trParents.l2 kj24 (l0_0.length:Int) (x6_3.set (x12_3:Int).toNat (rd x7_2 x10_2)) (x7_3++[x12_3]) (Go.bits .or .i64 x8_3 (shl .i64 1 x12_3)) x9_1 x10_2 (rd x7_2 x10_2) (wrap64 (x12_3+1)) l0_0 a0_1) else (none)) else (none)) else (none))=some (r1,r2,r3):=by rw [if_neg (show ¬ (false=true) by decide)] at H;exact H
                     clear H
                     have H:=H1
                     clear H1
                     by_cases c36:0≤x12_3
                     ·rw [if_pos c36] at H
                      have c36b0:=eq_true c36
                      have c36b1:decide (0≤x12_3)=true:=decide_eq_true c36
                      clear c36
                      obtain ⟨ji37,hji37⟩:∃ j_:Int,(shl .i64 1 x12_3)=j_:=⟨_,rfl⟩
                      replace H:(if x12_3< (x6_3.length:Int) then (if x7_3.length< 17592186044416 then (spec_trParents.l2 kj24 (l0_0.length:Int) (x6_3.set (x12_3:Int).toNat (rd x7_2 x10_2)) (x7_3++[x12_3]) (Go.bits .or .i64 x8_3 (ji37)) x9_1 x10_2 (rd x7_2 x10_2) (wrap64 (x12_3+1)) l0_0 a0_1) else (none)) else (none))=some (r1,r2,r3):=by first|(rw [hji37] at H;exact H)|(simp only [hji37] at H ⊢;exact H)
                      (try rw [hji37] at A34)
                      have hji37_:(IntKind.i64.wrap (1*2 ^ min x12_3.toNat 64))=ji37:=hji37
                      have hji37z:x12_3≤64→(IntKind.i64.wrap (1*2 ^ x12_3.toNat))=ji37:=shl_small hji37
                      have hji37u:(IntKind.i64.wrap (2 ^ min x12_3.toNat 64))=ji37:=by have h_:=hji37_;rw [Int.one_mul] at h_;exact h_
                      have hji37v:x12_3≤64→(IntKind.i64.wrap (2 ^ x12_3.toNat))=ji37:=fun hle_=>by have h_:=hji37z hle_;rw [Int.one_mul] at h_;exact h_
                      have hji37y:(wrap64 (1*2 ^ min x12_3.toNat 64))=ji37:=(i64_w _).symm.trans hji37_
                      have hji37x:x12_3≤64→(wrap64 (1*2 ^ x12_3.toNat))=ji37:=fun h_=>(i64_w _).symm.trans (hji37z h_)
                      by_cases c38:x12_3< (x6_3.length:Int)
                      ·rw [if_pos c38] at H
                       have c38b0:decide (x12_3< (x6_3.length:Int))=true:=decide_eq_true c38
                       clear c38
                       obtain ⟨y373,hy373⟩:∃ y_:List Int,y_=(x6_3.set (x12_3:Int).toNat (rd x7_2 x10_2)):=⟨_,rfl⟩
                       replace H:(if x7_3.length< 17592186044416 then (spec_trParents.l2 kj24 (l0_0.length:Int) y373 (x7_3++[x12_3]) (Go.bits .or .i64 x8_3 (ji37)) x9_1 x10_2 (rd x7_2 x10_2) (wrap64 (x12_3+1)) l0_0 a0_1) else (none))=some (r1,r2,r3):=by first|(rw [hy373];with_reducible exact H)|(have H2_:=(Option.bind_some _ _).symm.trans H;rw [hy373];with_reducible exact H2_)|(have H2_:=(Option.bind_some _ _).symm.trans H;with_reducible exact H2_)|with_reducible exact H|(rw [hy373];exact H)|exact H
                       have Ny373:=Aside0.mk hy373
                       clear hy373
                       by_cases c40:x7_3.length< 17592186044416
                       ·rw [if_pos c40] at H
                        have LMc40:=Aside0.mk c40
                        clear c40
                        obtain ⟨y374,hy374⟩:∃ y_:List Int,y_=(x7_3++[x12_3]):=⟨_,rfl⟩
                        replace H:(spec_trParents.l2 kj24 (l0_0.length:Int) y373 y374 (Go.bits .or .i64 x8_3 (ji37)) x9_1 x10_2 (rd x7_2 x10_2) (wrap64 (x12_3+1)) l0_0 a0_1)=some (r1,r2,r3):=by first|(rw [hy374];with_reducible exact H)|(have H2_:=(Option.bind_some _ _).symm.trans H;rw [hy374];with_reducible exact H2_)|(have H2_:=(Option.bind_some _ _).symm.trans H;with_reducible exact H2_)|with_reducible exact H|(rw [hy374];exact H)|exact H
                        have Ny374:=Aside0.mk hy374
                        clear hy374
                        have H':=Aside0.mk H
                        clear H
                        go_wp2_with (first|((with_reducible refine gate_callee (f:=70) rfl ?_);refine goesL_ (some 72) rfl rfl Try.func70 (by kernel_rfl) rfl #[.int .i64 x8_3,.int .i64 x12_3] rfl (by (try simp only [List.map_toArray,List.map_cons,List.map_nil]);first|done|rfl|(simp only [List.length_drop,List.length_take];rfl)) ?_;(with_reducible refine (spec_grIn.calls x8_3 x12_3 false _ A34.out).mono ?_);rintro e w' ⟨rfl,⟨nd,rfl⟩⟩;refine ⟨_,rfl,?_⟩;(try (rw [drewN_self wc];generalize hq_:World.drewN wc _=wc;have n0_:Aside0 (Kd.R (Kd.int .i64) 3 wc w.heap.size (fun k_=>some k_≠(u7:Value).ownBlock) (.slice (some ⟨go13,0,none⟩) x6_3.length co13) x6_3):=⟨by rw [← hq_];exact (by (with_reducible repeat (first|apply Kd.R_alloc|apply Kd.R_drewN|apply Kd.R_drew));exact HO_6.out)⟩;have n1_:Aside0 (Kd.R (Kd.int .i64) 3 wc w.heap.size (fun k_=>some k_≠(.slice (some ⟨go13,0,none⟩) x6_3.length co13:Value).ownBlock) u7 x7_3):=⟨by rw [← hq_];exact (by (with_reducible repeat (first|apply Kd.R_alloc|apply Kd.R_drewN|apply Kd.R_drew));exact HO_7.out)⟩;have n2_:Aside0 (wc.heap[gb359]?=some (.cells #[.slice A0_0 l0_0.length c0_0,.bool a0_1] 28 (0,0))):=⟨by rw [← hq_];exact (by (with_reducible repeat (first|refine blk_drewN ?_ _|refine blk_drew ?_|refine blk_alloc ?_ _));exact BK359.out)⟩;have n3_:Aside0 (Below w.heap.size w wc):=⟨by rw [← hq_];exact (by repeat (first|(with_reducible first|exact HB.out|apply below_alloc|apply pw_below_drewN|apply below_drew1|refine below_set ?_ GE359.out)|exact HB.out))⟩;clear HO_6 HO_7 BK359 HB hq_;have HO_6:=n0_;have HO_7:=n1_;have BK359:=n2_;have HB:=n3_;clear n0_ n1_ n2_ n3_));have p39:0≤(x12_3:Int):=of_decide_eq_true (by first|(with_reducible assumption)|assumption);have q39:(x12_3:Int)< ((x6_3.length:Int):Int):=of_decide_eq_true (by first|(with_reducible assumption)|assumption);obtain ⟨hx39_0,hf39_0⟩:=Kd.R_celln 0 HO_6.out (x12_3:Int) p39 q39;replace p39:=eq_true p39;replace q39:=eq_true q39;obtain ⟨hy41_,hz41_⟩:=Kd.R_celln 0 HO_6.out (x12_3:Int) (of_decide_eq_true (by first|(with_reducible assumption)|assumption)) (of_decide_eq_true (by first|(with_reducible assumption)|assumption));have HP41:=Kd.R_putg HO_6.out (x12_3:Int) (rd x7_2 x10_2))|((with_reducible refine gate_store (t:=3) (p:=80) rfl ?_);refine store_event (t:=3) (p:=80) (v:=?vo_w42) (w1:=(wc.setCell ⟨go13,(x12_3:Int).toNat,none⟩ (.int .i64 (rd x7_2 x10_2)))) ?hg ?ho ?hn ?hr ?_;(case ho=>rfl);(case hg=>rfl);(case hn=>rfl);(case hr=>first|(go_simp;done)|(go_simp;rfl));intro w42 hw;have hg:wc.grownBy w42 (some go13):=(by rw [hw];exact HP41.2);have hp_:Kd.R (Kd.int .i64) 3 w42 w.heap.size (fun k_=>some k_≠(u7:Value).ownBlock) (.slice (some ⟨go13,0,none⟩) x6_3.length co13) y373:=(by rw [hw,Ny373.out];exact HP41.1);clear HP41;have n0_:=Aside0.mk (hp_);have n1_:=Aside0.mk (Kd.R_after (v:=(.slice (some ⟨go13,0,none⟩) x6_3.length co13)) (v1:=(.slice (some ⟨go13,0,none⟩) x6_3.length co13)) (ok:=(fun _=>True)) (by (with_reducible repeat (first|apply Kd.R_alloc|apply Kd.R_drewN|apply Kd.R_drew));exact Kd.R_mono HO_7.out (fun _ hk=>⟨trivial,hk⟩)) hg (.inl rfl));have n2_:=Aside0.mk (blk_grown (g:=gb359) (o:=.cells #[.slice A0_0 l0_0.length c0_0,.bool a0_1] 28 (0,0)) (by (with_reducible repeat (first|refine blk_drewN ?_ _|refine blk_drew ?_|refine blk_alloc ?_ _));exact BK359.out) hg (Kd.R_ne HO_6.out BK359.out (by decide)));have n3_:=Aside0.mk ((by rw [hw];exact below_set (HB.out) GB13.out:Below w.heap.size w w42));clear HO_6;clear HO_7;clear BK359;clear HB;have HO_6:=n0_;have HO_7:=n1_;have BK359:=n2_;have HB:=n3_;clear n0_ n1_ n2_ n3_;clear hg hw hp_)|((with_reducible refine gate_builtin (b:=.append) (xs:=#[.tmp 81,.tmp 83]) rfl ?_);at_builtin;refine Kd.R_append (Kd.int .i64) (w0:=w) w.heap.size rfl (.tmp 81) (.tmp 83) 22 3 (.int .i64 0) 8 rfl Try.underlying22 info3 rfl (by decide) (by omega) u7 x7_3 x12_3 [.int .i64 x12_3] (fun k_=>some k_≠(.slice (some ⟨go13,0,none⟩) x6_3.length co13:Value).ownBlock) (fun _=>False) rfl rfl ?aP (fun _ hk=>hk.elim) ?aF ?aO ?aB ?aS ?aL ?_;(case aP=>exact rfl);(case aB=>exact (by repeat (first|(with_reducible first|exact HB.out|apply below_alloc|apply pw_below_drewN|apply below_drew1|refine below_set ?_ GE359.out)|exact HB.out)));(case aF=>exact (fun k_ hk=>Kd.fresh' (Kd.R_lt (by (with_reducible repeat (first|apply Kd.R_alloc|apply Kd.R_drewN|apply Kd.R_drew));exact HO_6.out)) k_ hk));(case aO=>exact (by (with_reducible repeat (first|apply Kd.R_alloc|apply Kd.R_drewN|apply Kd.R_drew));exact Kd.R_mono HO_7.out (fun _ hk=>hk.2)));(case aS=>exact (below_size (by repeat (first|(with_reducible first|exact HB.out|apply below_alloc|apply pw_below_drewN|apply below_drew1|refine below_set ?_ GE359.out)|exact HB.out))));(case aL=>have:=LMc40.out;omega);intro v375 w43 ho hb hg hat;rw [← Ny374.out] at ho;have n0_:=Aside0.mk (Kd.R_after (ok:=(fun _=>True)) (by (with_reducible repeat (first|apply Kd.R_alloc|apply Kd.R_drewN|apply Kd.R_drew));exact Kd.R_mono HO_6.out (fun _ hk=>⟨trivial,hk⟩)) hg hat);have n1_:=Aside0.mk (blk_grown (g:=gb359) (o:=.cells #[.slice A0_0 l0_0.length c0_0,.bool a0_1] 28 (0,0)) (by (with_reducible repeat (first|refine blk_drewN ?_ _|refine blk_drew ?_|refine blk_alloc ?_ _));exact BK359.out) hg (Kd.R_ne HO_7.out BK359.out (by decide)));have n2_:=Aside0.mk (hb);have n3_:=Aside0.mk (ho);clear HO_6;clear BK359;clear HB;clear HO_7;have HO_6:=n0_;have BK359:=n1_;have HB:=n2_;have HO376:=n3_;clear n0_ n1_ n2_ n3_;clear ho hb hg hat))
                        (try simp only [← hl6_3])
                        go_roundg kj24
                        case measure=>have:=HK1.out;have:=HK2.out;have:=HK3.out;have:=HJ24.out;omega
                        case rel=>exact ⟨(y373),(y374),(Go.bits .or .i64 x8_3 (ji37)),(wrap64 (x12_3+1)),(by first|rfl|(simp;done)|(simp only [← hji37]<;>(first|rfl|simp))|(simp [*];done)),(by first|rfl|(simp;done)|(simp [*];done)),H',⟨by have:=HK1.out;have:=HK2.out;have:=HK3.out;have:=HJ24.out;omega⟩,⟨by (try simp only [hl6_2]);(try simp only [hl6_3]);(with_reducible repeat (first|apply Kd.R_alloc|apply Kd.R_drewN|apply Kd.R_drew));exact Kd.R_mono HO_6.out (fun _ hk=>hk.2)⟩,⟨by (try simp only [hl6_2]);(try simp only [hl6_3]);(with_reducible repeat (first|apply Kd.R_alloc|apply Kd.R_drewN|apply Kd.R_drew));exact HO376.out⟩,⟨by (try simp only [hl6_2]);(try simp only [hl6_3]);(with_reducible repeat (first|refine blk_drewN ?_ _|refine blk_drew ?_|refine blk_alloc ?_ _));exact BK359.out⟩,⟨by repeat (first|(with_reducible first|exact HB.out|apply below_alloc|apply pw_below_drewN|apply below_drew1|refine below_set ?_ GE359.out)|exact HB.out)⟩⟩
                       ·rw [if_neg c40] at H
                        exact absurd H (by simp)
                      ·rw [if_neg c38] at H
                       exact absurd H (by simp)
                     ·rw [if_neg c36] at H
                      exact absurd H (by simp)
                ·rw [if_neg c24] at H
                 have c24b0:decide (x12_3< (l0_0.length:Int))=false:=decide_eq_false c24
                 clear c24
                 have H':=Aside0.mk H
                 clear H
                 go_wp2
                 (try simp only [← hl6_2,← hl6_3])
                 go_roundg k3
                 case measure=>have:=HK1.out;have:=HK2.out;have:=HK3.out;omega
                 case rel=>exact ⟨(x6_3),(x7_3),(x8_3),(wrap64 (x10_2+1)),(by first|rfl|(simp;done)|(simp [*];done)),(by first|rfl|(simp;done)|(simp [*];done)),H',⟨by have:=HK1.out;have:=HK2.out;have:=HK3.out;omega⟩,⟨by (try simp only [hl6_2]);(try simp only [hl6_3]);(with_reducible repeat (first|apply Kd.R_alloc|apply Kd.R_drewN|apply Kd.R_drew));exact HO_6.out⟩,⟨by (try simp only [hl6_2]);(try simp only [hl6_3]);(with_reducible repeat (first|apply Kd.R_alloc|apply Kd.R_drewN|apply Kd.R_drew));exact HO_7.out⟩,⟨by (try simp only [hl6_2]);(try simp only [hl6_3]);(with_reducible repeat (first|refine blk_drewN ?_ _|refine blk_drew ?_|refine blk_alloc ?_ _));exact BK359.out⟩,⟨by repeat (first|(with_reducible first|exact HB.out|apply below_alloc|apply pw_below_drewN|apply below_drew1|refine below_set ?_ GE359.out)|exact HB.out)⟩⟩
             ·rw [if_neg c22] at H
              exact absurd H (by simp)
            ·rw [if_neg c21] at H
             have c21b0:decide (x10_2< (x7_2.length:Int))=false:=decide_eq_false c21
             clear c21
             have H':=Aside0.mk H
             clear H
             obtain ⟨Ao44,co44,eo44⟩:=Kd.R_slice HO_7.out
             subst eo44
             go_wp2
             (try simp only [← hl6_2])
             go_roundg k2
             case measure=>have:=HK1.out;have:=HK2.out;omega
             case rel=>exact ⟨(x6_2),(x7_2),(x8_2),(wrap64 (x9_1+1)),(by first|rfl|(simp;done)|(simp [*];done)),(by first|rfl|(simp;done)|(simp [*];done)),H',⟨by have:=HK1.out;have:=HK2.out;omega⟩,⟨by (try simp only [hl6_2]);(with_reducible repeat (first|apply Kd.R_alloc|apply Kd.R_drewN|apply Kd.R_drew));exact HO_6.out⟩,⟨by (try simp only [hl6_2]);(with_reducible repeat (first|apply Kd.R_alloc|apply Kd.R_drewN|apply Kd.R_drew));exact HO_7.out⟩,⟨by (try simp only [hl6_2]);(with_reducible repeat (first|refine blk_drewN ?_ _|refine blk_drew ?_|refine blk_alloc ?_ _));exact BK359.out⟩,⟨by repeat (first|(with_reducible first|exact HB.out|apply below_alloc|apply pw_below_drewN|apply below_drew1|refine below_set ?_ GE359.out)|exact HB.out)⟩⟩
         ·rw [if_neg c16] at H
          exact absurd H (by simp)
        ·rw [if_neg c12] at H
         exact absurd H (by simp)
       ·rw [if_neg c11] at H
        exact absurd H (by simp)
     ·rw [if_neg c8] at H
      have c8b0:decide (x9_1< (l0_0.length:Int))=false:=decide_eq_false c8
      clear c8
      simp only [Option.some.injEq,Prod.mk.injEq] at H
      obtain ⟨rfl,rfl,rfl⟩:=H
      go_wp2
      go_ret3
      exact ⟨_,_,by first|rfl|(simp [errW_none,errW_some]<;>rfl)|(simp [*,errW_none,errW_some]<;>rfl),by (with_reducible repeat (first|apply Kd.R_alloc|apply Kd.R_drewN|apply Kd.R_drew));exact HO_6.out,by (with_reducible repeat (first|apply Kd.R_alloc|apply Kd.R_drewN|apply Kd.R_drew));exact HO_7.out,by repeat (first|(with_reducible first|exact HB.out|apply below_alloc|apply pw_below_drewN|apply below_drew1|refine below_set ?_ GE359.out)|exact HB.out)⟩
  ·rw [if_neg c3] at H
   exact absurd H (by simp)
 ·rw [if_neg c2] at H
  exact absurd H (by simp)
/-! ### spec_trNext: function 82 -/
def spec_trNext.f (a0_0:Int) (a0_1:Int) (a1_0:Int) (a1_1:Int):Option (Int × Int):=if a0_0=0 then (some (0,0)) else (if a1_0=0 then (some (0,0)) else (some (wrap64 (a0_0*a1_0),wrap64 (a0_1+a1_1))))
set_option maxHeartbeats 8000000 in
set_option maxRecDepth 100000 in
theorem spec_trNext.calls (a0_0:Int) (a0_1:Int) (a1_0:Int) (a1_1:Int) (r1:Int) (r2:Int) (w:World) (h:spec_trNext.f a0_0 a0_1 a1_0 a1_1=some (r1,r2)):
  Calls Try.prog 82 #[.agg #[.int .i64 a0_0,.int .i64 a0_1],.agg #[.int .i64 a1_0,.int .i64 a1_1]] w fun e w'=>e=.returned (.agg #[.int .i64 r1,.int .i64 r2])∧Below w.heap.size w w':=by
 have hu55:=Try.underlying55
 have HB:=Aside0.mk (Below.refl w.heap.size w)
 have H:(if a0_0=0 then (some (0,0)) else (if a1_0=0 then (some (0,0)) else (some (wrap64 (a0_0*a1_0),wrap64 (a0_1+a1_1)))))=some (r1,r2):=h
 clear h
 by_cases c3:a0_0=0
 ·rw [if_pos c3] at H
  have c3b0:(a0_0==0)=true:=beq_iff_eq.mpr c3
  have c3b1:(a0_0 !=0)=false:=bne_eq_false_iff_eq.mpr c3
  clear c3
  simp only [Option.some.injEq,Prod.mk.injEq] at H
  obtain ⟨rfl,rfl⟩:=H
  go_enter Try.func82,Try.ntmps82
  go_wp2_with (first|((with_reducible refine gate_dst (N:=2) rfl ?_);refine box_event ?hg (N:=2) ?hd (cs:=#[.int .i64 a0_0,.int .i64 a0_1]) (t:=55) ?hr ?_;(case hd=>rfl);(case hg=>rfl);(case hr=>first|(go_simp;done)|(go_simp;rfl));intro gb377 hg w4 hbox hb;have n0_:=Aside0.mk (below_step (by repeat (first|(with_reducible first|exact HB.out|apply below_alloc|apply pw_below_drewN|apply below_drew1)|exact HB.out)) hb);have n1_:=Aside0.mk (hbox);have n2_:=Aside0.mk ((by rw [hg];exact (below_size (by repeat (first|(with_reducible first|exact HB.out|apply below_alloc|apply pw_below_drewN|apply below_drew1)|exact HB.out))):w.heap.size≤gb377));have n3_:=Aside0.mk ((by rw [hg];exact (below_size (by repeat (first|(with_reducible first|exact HB.out|apply below_alloc|apply pw_below_drewN|apply below_drew1)|exact HB.out))):w.heap.size≤gb377));clear HB;have HB:=n0_;have BK377:=n1_;have GW377:=n2_;have GE377:=n3_;clear n0_ n1_ n2_ n3_;clear hb hbox hg)|((with_reducible refine gate_dst (N:=3) rfl ?_);refine box_event ?hg (N:=3) ?hd (cs:=#[.int .i64 a1_0,.int .i64 a1_1]) (t:=55) ?hr ?_;(case hd=>rfl);(case hg=>rfl);(case hr=>first|(go_simp;done)|(go_simp;rfl));intro gb378 hg w5 hbox hb;have n0_:=Aside0.mk (blk_below (g:=gb377) (o:=.cells #[.int .i64 a0_0,.int .i64 a0_1] 55 (0,0)) (by (with_reducible repeat (first|refine blk_drewN ?_ _|refine blk_drew ?_|refine blk_alloc ?_ _));exact BK377.out) hb);have n1_:=Aside0.mk (below_step (by repeat (first|(with_reducible first|exact HB.out|apply below_alloc|apply pw_below_drewN|apply below_drew1|refine below_set ?_ GE377.out)|exact HB.out)) hb);have n2_:=Aside0.mk (hbox);have n3_:=Aside0.mk ((by rw [hg];exact (below_size (by repeat (first|(with_reducible first|exact HB.out|apply below_alloc|apply pw_below_drewN|apply below_drew1|refine below_set ?_ GE377.out)|exact HB.out))):w.heap.size≤gb378));have n4_:=Aside0.mk ((by rw [hg];exact (below_size (by repeat (first|(with_reducible first|exact HB.out|apply below_alloc|apply pw_below_drewN|apply below_drew1|refine below_set ?_ GE377.out)|exact HB.out))):w.heap.size≤gb378));have n5_:=Aside0.mk ((by rw [hg];exact Nat.ne_of_lt (blk_lt (g:=gb377) (o:=.cells #[.int .i64 a0_0,.int .i64 a0_1] 55 (0,0)) (by (with_reducible repeat (first|refine blk_drewN ?_ _|refine blk_drew ?_|refine blk_alloc ?_ _));exact BK377.out)):gb377≠gb378));have n6_:=Aside0.mk ((by rw [hg];exact Nat.ne_of_gt (blk_lt (g:=gb377) (o:=.cells #[.int .i64 a0_0,.int .i64 a0_1] 55 (0,0)) (by (with_reducible repeat (first|refine blk_drewN ?_ _|refine blk_drew ?_|refine blk_alloc ?_ _));exact BK377.out)):gb378≠gb377));clear BK377;clear HB;have BK377:=n0_;have HB:=n1_;have BK378:=n2_;have GW378:=n3_;have GE378:=n4_;have NB377_378:=n5_;have NB378_377:=n6_;clear n0_ n1_ n2_ n3_ n4_ n5_ n6_;clear hb hbox hg)|((with_reducible refine gate_dst (N:=4) rfl ?_);refine box_event ?hg (N:=4) ?hd (cs:=#[.int .i64 0,.int .i64 0]) (t:=55) ?hr ?_;(case hd=>rfl);(case hg=>rfl);(case hr=>first|(go_simp;done)|(go_simp;rfl));intro gb379 hg w6 hbox hb;have n0_:=Aside0.mk (blk_below (g:=gb377) (o:=.cells #[.int .i64 a0_0,.int .i64 a0_1] 55 (0,0)) (by (with_reducible repeat (first|refine blk_drewN ?_ _|refine blk_drew ?_|refine blk_alloc ?_ _));exact BK377.out) hb);have n1_:=Aside0.mk (blk_below (g:=gb378) (o:=.cells #[.int .i64 a1_0,.int .i64 a1_1] 55 (0,0)) (by (with_reducible repeat (first|refine blk_drewN ?_ _|refine blk_drew ?_|refine blk_alloc ?_ _));exact BK378.out) hb);have n2_:=Aside0.mk (below_step (by repeat (first|(with_reducible first|exact HB.out|apply below_alloc|apply pw_below_drewN|apply below_drew1|refine below_set ?_ GE377.out|refine below_set ?_ GE378.out)|exact HB.out)) hb);have n3_:=Aside0.mk (hbox);have n4_:=Aside0.mk ((by rw [hg];exact (below_size (by repeat (first|(with_reducible first|exact HB.out|apply below_alloc|apply pw_below_drewN|apply below_drew1|refine below_set ?_ GE377.out|refine below_set ?_ GE378.out)|exact HB.out))):w.heap.size≤gb379));have n5_:=Aside0.mk ((by rw [hg];exact (below_size (by repeat (first|(with_reducible first|exact HB.out|apply below_alloc|apply pw_below_drewN|apply below_drew1|refine below_set ?_ GE377.out|refine below_set ?_ GE378.out)|exact HB.out))):w.heap.size≤gb379));have n6_:=Aside0.mk ((by rw [hg];exact Nat.ne_of_lt (blk_lt (g:=gb377) (o:=.cells #[.int .i64 a0_0,.int .i64 a0_1] 55 (0,0)) (by (with_reducible repeat (first|refine blk_drewN ?_ _|refine blk_drew ?_|refine blk_alloc ?_ _));exact BK377.out)):gb377≠gb379));have n7_:=Aside0.mk ((by rw [hg];exact Nat.ne_of_gt (blk_lt (g:=gb377) (o:=.cells #[.int .i64 a0_0,.int .i64 a0_1] 55 (0,0)) (by (with_reducible repeat (first|refine blk_drewN ?_ _|refine blk_drew ?_|refine blk_alloc ?_ _));exact BK377.out)):gb379≠gb377));have n8_:=Aside0.mk ((by rw [hg];exact Nat.ne_of_lt (blk_lt (g:=gb378) (o:=.cells #[.int .i64 a1_0,.int .i64 a1_1] 55 (0,0)) (by (with_reducible repeat (first|refine blk_drewN ?_ _|refine blk_drew ?_|refine blk_alloc ?_ _));exact BK378.out)):gb378≠gb379));have n9_:=Aside0.mk ((by rw [hg];exact Nat.ne_of_gt (blk_lt (g:=gb378) (o:=.cells #[.int .i64 a1_0,.int .i64 a1_1] 55 (0,0)) (by (with_reducible repeat (first|refine blk_drewN ?_ _|refine blk_drew ?_|refine blk_alloc ?_ _));exact BK378.out)):gb379≠gb378));clear BK377;clear BK378;clear HB;have BK377:=n0_;have BK378:=n1_;have HB:=n2_;have BK379:=n3_;have GW379:=n4_;have GE379:=n5_;have NB377_379:=n6_;have NB379_377:=n7_;have NB378_379:=n8_;have NB379_378:=n9_;clear n0_ n1_ n2_ n3_ n4_ n5_ n6_ n7_ n8_ n9_;clear hb hbox hg;have hnb7:=NB377_378.out;have hnc7:=NB378_377.out;have hnb8:=NB377_379.out;have hnc8:=NB379_377.out;have hcz9_0:w6.cell? ⟨gb377,0,none⟩=some (.int .i64 a0_0):=(blk_cell BK377.out 0).trans rfl;have hcz9_1:w6.cell? ⟨gb377,1,none⟩=some (.int .i64 a0_1):=(blk_cell BK377.out 1).trans rfl;have hfz9_0:=blk_frozen BK377.out 0;have hfz9_1:=blk_frozen BK377.out 1;have hnb10:=NB379_378.out;have hnc10:=NB378_379.out;have hcz11_0:w6.cell? ⟨gb379,0,none⟩=some (.int .i64 0):=(blk_cell BK379.out 0).trans rfl;have hcz11_1:w6.cell? ⟨gb379,1,none⟩=some (.int .i64 0):=(blk_cell BK379.out 1).trans rfl;have hfz11_0:=blk_frozen BK379.out 0;have hfz11_1:=blk_frozen BK379.out 1))
  refine bodyPost_ret (results_cell_row rfl _ _ gb379 55 #[.int .i64 0,.int .i64 0] (0,0) _ rfl (by (with_reducible repeat (first|refine blk_drewN ?_ _|refine blk_drew ?_|refine blk_alloc ?_ _));refine blk_put (cs:=#[.int .i64 0,.int .i64 0]) ?_ 1 _ rfl;(with_reducible repeat (first|refine blk_drewN ?_ _|refine blk_drew ?_|refine blk_alloc ?_ _));refine blk_put (cs:=#[.int .i64 0,.int .i64 0]) ?_ 0 _ rfl;(with_reducible repeat (first|refine blk_drewN ?_ _|refine blk_drew ?_|refine blk_alloc ?_ _));exact BK379.out) Try.underlying55 rfl (by kernel_rfl)) rfl ?_
  exact ⟨by first|rfl|(simp [errW_none,errW_some]<;>rfl)|(simp [*,errW_none,errW_some]<;>rfl),by repeat (first|(with_reducible first|exact HB.out|apply below_alloc|apply pw_below_drewN|apply below_drew1|refine below_set ?_ GE377.out|refine below_set ?_ GE378.out|refine below_set ?_ GE379.out)|exact HB.out)⟩
 ·rw [if_neg c3] at H
  have c3b0:(a0_0==0)=false:=beq_eq_false_iff_ne.mpr c3
  have c3b1:(a0_0 !=0)=true:=bne_iff_ne.mpr c3
  by_cases c12:a1_0=0
  ·rw [if_pos c12] at H
   have c12b0:(a1_0==0)=true:=beq_iff_eq.mpr c12
   have c12b1:(a1_0 !=0)=false:=bne_eq_false_iff_eq.mpr c12
   clear c12
   simp only [Option.some.injEq,Prod.mk.injEq] at H
   obtain ⟨rfl,rfl⟩:=H
   go_enter Try.func82,Try.ntmps82
   go_wp2_with (first|((with_reducible refine gate_dst (N:=2) rfl ?_);refine box_event ?hg (N:=2) ?hd (cs:=#[.int .i64 a0_0,.int .i64 a0_1]) (t:=55) ?hr ?_;(case hd=>rfl);(case hg=>rfl);(case hr=>first|(go_simp;done)|(go_simp;rfl));intro gb377 hg w13 hbox hb;have n0_:=Aside0.mk (below_step (by repeat (first|(with_reducible first|exact HB.out|apply below_alloc|apply pw_below_drewN|apply below_drew1)|exact HB.out)) hb);have n1_:=Aside0.mk (hbox);have n2_:=Aside0.mk ((by rw [hg];exact (below_size (by repeat (first|(with_reducible first|exact HB.out|apply below_alloc|apply pw_below_drewN|apply below_drew1)|exact HB.out))):w.heap.size≤gb377));have n3_:=Aside0.mk ((by rw [hg];exact (below_size (by repeat (first|(with_reducible first|exact HB.out|apply below_alloc|apply pw_below_drewN|apply below_drew1)|exact HB.out))):w.heap.size≤gb377));clear HB;have HB:=n0_;have BK377:=n1_;have GW377:=n2_;have GE377:=n3_;clear n0_ n1_ n2_ n3_;clear hb hbox hg)|((with_reducible refine gate_dst (N:=3) rfl ?_);refine box_event ?hg (N:=3) ?hd (cs:=#[.int .i64 a1_0,.int .i64 a1_1]) (t:=55) ?hr ?_;(case hd=>rfl);(case hg=>rfl);(case hr=>first|(go_simp;done)|(go_simp;rfl));intro gb378 hg w14 hbox hb;have n0_:=Aside0.mk (blk_below (g:=gb377) (o:=.cells #[.int .i64 a0_0,.int .i64 a0_1] 55 (0,0)) (by (with_reducible repeat (first|refine blk_drewN ?_ _|refine blk_drew ?_|refine blk_alloc ?_ _));exact BK377.out) hb);have n1_:=Aside0.mk (below_step (by repeat (first|(with_reducible first|exact HB.out|apply below_alloc|apply pw_below_drewN|apply below_drew1|refine below_set ?_ GE377.out)|exact HB.out)) hb);have n2_:=Aside0.mk (hbox);have n3_:=Aside0.mk ((by rw [hg];exact (below_size (by repeat (first|(with_reducible first|exact HB.out|apply below_alloc|apply pw_below_drewN|apply below_drew1|refine below_set ?_ GE377.out)|exact HB.out))):w.heap.size≤gb378));have n4_:=Aside0.mk ((by rw [hg];exact (below_size (by repeat (first|(with_reducible first|exact HB.out|apply below_alloc|apply pw_below_drewN|apply below_drew1|refine below_set ?_ GE377.out)|exact HB.out))):w.heap.size≤gb378));have n5_:=Aside0.mk ((by rw [hg];exact Nat.ne_of_lt (blk_lt (g:=gb377) (o:=.cells #[.int .i64 a0_0,.int .i64 a0_1] 55 (0,0)) (by (with_reducible repeat (first|refine blk_drewN ?_ _|refine blk_drew ?_|refine blk_alloc ?_ _));exact BK377.out)):gb377≠gb378));have n6_:=Aside0.mk ((by rw [hg];exact Nat.ne_of_gt (blk_lt (g:=gb377) (o:=.cells #[.int .i64 a0_0,.int .i64 a0_1] 55 (0,0)) (by (with_reducible repeat (first|refine blk_drewN ?_ _|refine blk_drew ?_|refine blk_alloc ?_ _));exact BK377.out)):gb378≠gb377));clear BK377;clear HB;have BK377:=n0_;have HB:=n1_;have BK378:=n2_;have GW378:=n3_;have GE378:=n4_;have NB377_378:=n5_;have NB378_377:=n6_;clear n0_ n1_ n2_ n3_ n4_ n5_ n6_;clear hb hbox hg)|((with_reducible refine gate_dst (N:=4) rfl ?_);refine box_event ?hg (N:=4) ?hd (cs:=#[.int .i64 0,.int .i64 0]) (t:=55) ?hr ?_;(case hd=>rfl);(case hg=>rfl);(case hr=>first|(go_simp;done)|(go_simp;rfl));intro gb379 hg w15 hbox hb;have n0_:=Aside0.mk (blk_below (g:=gb377) (o:=.cells #[.int .i64 a0_0,.int .i64 a0_1] 55 (0,0)) (by (with_reducible repeat (first|refine blk_drewN ?_ _|refine blk_drew ?_|refine blk_alloc ?_ _));exact BK377.out) hb);have n1_:=Aside0.mk (blk_below (g:=gb378) (o:=.cells #[.int .i64 a1_0,.int .i64 a1_1] 55 (0,0)) (by (with_reducible repeat (first|refine blk_drewN ?_ _|refine blk_drew ?_|refine blk_alloc ?_ _));exact BK378.out) hb);have n2_:=Aside0.mk (below_step (by repeat (first|(with_reducible first|exact HB.out|apply below_alloc|apply pw_below_drewN|apply below_drew1|refine below_set ?_ GE377.out|refine below_set ?_ GE378.out)|exact HB.out)) hb);have n3_:=Aside0.mk (hbox);have n4_:=Aside0.mk ((by rw [hg];exact (below_size (by repeat (first|(with_reducible first|exact HB.out|apply below_alloc|apply pw_below_drewN|apply below_drew1|refine below_set ?_ GE377.out|refine below_set ?_ GE378.out)|exact HB.out))):w.heap.size≤gb379));have n5_:=Aside0.mk ((by rw [hg];exact (below_size (by repeat (first|(with_reducible first|exact HB.out|apply below_alloc|apply pw_below_drewN|apply below_drew1|refine below_set ?_ GE377.out|refine below_set ?_ GE378.out)|exact HB.out))):w.heap.size≤gb379));have n6_:=Aside0.mk ((by rw [hg];exact Nat.ne_of_lt (blk_lt (g:=gb377) (o:=.cells #[.int .i64 a0_0,.int .i64 a0_1] 55 (0,0)) (by (with_reducible repeat (first|refine blk_drewN ?_ _|refine blk_drew ?_|refine blk_alloc ?_ _));exact BK377.out)):gb377≠gb379));have n7_:=Aside0.mk ((by rw [hg];exact Nat.ne_of_gt (blk_lt (g:=gb377) (o:=.cells #[.int .i64 a0_0,.int .i64 a0_1] 55 (0,0)) (by (with_reducible repeat (first|refine blk_drewN ?_ _|refine blk_drew ?_|refine blk_alloc ?_ _));exact BK377.out)):gb379≠gb377));have n8_:=Aside0.mk ((by rw [hg];exact Nat.ne_of_lt (blk_lt (g:=gb378) (o:=.cells #[.int .i64 a1_0,.int .i64 a1_1] 55 (0,0)) (by (with_reducible repeat (first|refine blk_drewN ?_ _|refine blk_drew ?_|refine blk_alloc ?_ _));exact BK378.out)):gb378≠gb379));have n9_:=Aside0.mk ((by rw [hg];exact Nat.ne_of_gt (blk_lt (g:=gb378) (o:=.cells #[.int .i64 a1_0,.int .i64 a1_1] 55 (0,0)) (by (with_reducible repeat (first|refine blk_drewN ?_ _|refine blk_drew ?_|refine blk_alloc ?_ _));exact BK378.out)):gb379≠gb378));clear BK377;clear BK378;clear HB;have BK377:=n0_;have BK378:=n1_;have HB:=n2_;have BK379:=n3_;have GW379:=n4_;have GE379:=n5_;have NB377_379:=n6_;have NB379_377:=n7_;have NB378_379:=n8_;have NB379_378:=n9_;clear n0_ n1_ n2_ n3_ n4_ n5_ n6_ n7_ n8_ n9_;clear hb hbox hg;have hnb16:=NB377_378.out;have hnc16:=NB378_377.out;have hnb17:=NB377_379.out;have hnc17:=NB379_377.out;have hcz18_0:w15.cell? ⟨gb377,0,none⟩=some (.int .i64 a0_0):=(blk_cell BK377.out 0).trans rfl;have hcz18_1:w15.cell? ⟨gb377,1,none⟩=some (.int .i64 a0_1):=(blk_cell BK377.out 1).trans rfl;have hfz18_0:=blk_frozen BK377.out 0;have hfz18_1:=blk_frozen BK377.out 1;have hnb19:=NB378_379.out;have hnc19:=NB379_378.out;have hcz20_0:w15.cell? ⟨gb378,0,none⟩=some (.int .i64 a1_0):=(blk_cell BK378.out 0).trans rfl;have hcz20_1:w15.cell? ⟨gb378,1,none⟩=some (.int .i64 a1_1):=(blk_cell BK378.out 1).trans rfl;have hfz20_0:=blk_frozen BK378.out 0;have hfz20_1:=blk_frozen BK378.out 1;have hcz21_0:w15.cell? ⟨gb379,0,none⟩=some (.int .i64 0):=(blk_cell BK379.out 0).trans rfl;have hcz21_1:w15.cell? ⟨gb379,1,none⟩=some (.int .i64 0):=(blk_cell BK379.out 1).trans rfl;have hfz21_0:=blk_frozen BK379.out 0;have hfz21_1:=blk_frozen BK379.out 1))
   refine bodyPost_ret (results_cell_row rfl _ _ gb379 55 #[.int .i64 0,.int .i64 0] (0,0) _ rfl (by (with_reducible repeat (first|refine blk_drewN ?_ _|refine blk_drew ?_|refine blk_alloc ?_ _));refine blk_put (cs:=#[.int .i64 0,.int .i64 0]) ?_ 1 _ rfl;(with_reducible repeat (first|refine blk_drewN ?_ _|refine blk_drew ?_|refine blk_alloc ?_ _));refine blk_put (cs:=#[.int .i64 0,.int .i64 0]) ?_ 0 _ rfl;(with_reducible repeat (first|refine blk_drewN ?_ _|refine blk_drew ?_|refine blk_alloc ?_ _));exact BK379.out) Try.underlying55 rfl (by kernel_rfl)) rfl ?_
   exact ⟨by first|rfl|(simp [errW_none,errW_some]<;>rfl)|(simp [*,errW_none,errW_some]<;>rfl),by repeat (first|(with_reducible first|exact HB.out|apply below_alloc|apply pw_below_drewN|apply below_drew1|refine below_set ?_ GE377.out|refine below_set ?_ GE378.out|refine below_set ?_ GE379.out)|exact HB.out)⟩
  ·rw [if_neg c12] at H
   have c12b0:(a1_0==0)=false:=beq_eq_false_iff_ne.mpr c12
   have c12b1:(a1_0 !=0)=true:=bne_iff_ne.mpr c12
   simp only [Option.some.injEq,Prod.mk.injEq] at H
   obtain ⟨rfl,rfl⟩:=H
   go_enter Try.func82,Try.ntmps82
   go_wp2_with (first|((with_reducible refine gate_dst (N:=2) rfl ?_);refine box_event ?hg (N:=2) ?hd (cs:=#[.int .i64 a0_0,.int .i64 a0_1]) (t:=55) ?hr ?_;(case hd=>rfl);(case hg=>rfl);(case hr=>first|(go_simp;done)|(go_simp;rfl));intro gb377 hg w22 hbox hb;have n0_:=Aside0.mk (below_step (by repeat (first|(with_reducible first|exact HB.out|apply below_alloc|apply pw_below_drewN|apply below_drew1)|exact HB.out)) hb);have n1_:=Aside0.mk (hbox);have n2_:=Aside0.mk ((by rw [hg];exact (below_size (by repeat (first|(with_reducible first|exact HB.out|apply below_alloc|apply pw_below_drewN|apply below_drew1)|exact HB.out))):w.heap.size≤gb377));have n3_:=Aside0.mk ((by rw [hg];exact (below_size (by repeat (first|(with_reducible first|exact HB.out|apply below_alloc|apply pw_below_drewN|apply below_drew1)|exact HB.out))):w.heap.size≤gb377));clear HB;have HB:=n0_;have BK377:=n1_;have GW377:=n2_;have GE377:=n3_;clear n0_ n1_ n2_ n3_;clear hb hbox hg)|((with_reducible refine gate_dst (N:=3) rfl ?_);refine box_event ?hg (N:=3) ?hd (cs:=#[.int .i64 a1_0,.int .i64 a1_1]) (t:=55) ?hr ?_;(case hd=>rfl);(case hg=>rfl);(case hr=>first|(go_simp;done)|(go_simp;rfl));intro gb378 hg w23 hbox hb;have n0_:=Aside0.mk (blk_below (g:=gb377) (o:=.cells #[.int .i64 a0_0,.int .i64 a0_1] 55 (0,0)) (by (with_reducible repeat (first|refine blk_drewN ?_ _|refine blk_drew ?_|refine blk_alloc ?_ _));exact BK377.out) hb);have n1_:=Aside0.mk (below_step (by repeat (first|(with_reducible first|exact HB.out|apply below_alloc|apply pw_below_drewN|apply below_drew1|refine below_set ?_ GE377.out)|exact HB.out)) hb);have n2_:=Aside0.mk (hbox);have n3_:=Aside0.mk ((by rw [hg];exact (below_size (by repeat (first|(with_reducible first|exact HB.out|apply below_alloc|apply pw_below_drewN|apply below_drew1|refine below_set ?_ GE377.out)|exact HB.out))):w.heap.size≤gb378));have n4_:=Aside0.mk ((by rw [hg];exact (below_size (by repeat (first|(with_reducible first|exact HB.out|apply below_alloc|apply pw_below_drewN|apply below_drew1|refine below_set ?_ GE377.out)|exact HB.out))):w.heap.size≤gb378));have n5_:=Aside0.mk ((by rw [hg];exact Nat.ne_of_lt (blk_lt (g:=gb377) (o:=.cells #[.int .i64 a0_0,.int .i64 a0_1] 55 (0,0)) (by (with_reducible repeat (first|refine blk_drewN ?_ _|refine blk_drew ?_|refine blk_alloc ?_ _));exact BK377.out)):gb377≠gb378));have n6_:=Aside0.mk ((by rw [hg];exact Nat.ne_of_gt (blk_lt (g:=gb377) (o:=.cells #[.int .i64 a0_0,.int .i64 a0_1] 55 (0,0)) (by (with_reducible repeat (first|refine blk_drewN ?_ _|refine blk_drew ?_|refine blk_alloc ?_ _));exact BK377.out)):gb378≠gb377));clear BK377;clear HB;have BK377:=n0_;have HB:=n1_;have BK378:=n2_;have GW378:=n3_;have GE378:=n4_;have NB377_378:=n5_;have NB378_377:=n6_;clear n0_ n1_ n2_ n3_ n4_ n5_ n6_;clear hb hbox hg)|((with_reducible refine gate_dst (N:=4) rfl ?_);refine box_event ?hg (N:=4) ?hd (cs:=#[.int .i64 0,.int .i64 0]) (t:=55) ?hr ?_;(case hd=>rfl);(case hg=>rfl);(case hr=>first|(go_simp;done)|(go_simp;rfl));intro gb379 hg w24 hbox hb;have n0_:=Aside0.mk (blk_below (g:=gb377) (o:=.cells #[.int .i64 a0_0,.int .i64 a0_1] 55 (0,0)) (by (with_reducible repeat (first|refine blk_drewN ?_ _|refine blk_drew ?_|refine blk_alloc ?_ _));exact BK377.out) hb);have n1_:=Aside0.mk (blk_below (g:=gb378) (o:=.cells #[.int .i64 a1_0,.int .i64 a1_1] 55 (0,0)) (by (with_reducible repeat (first|refine blk_drewN ?_ _|refine blk_drew ?_|refine blk_alloc ?_ _));exact BK378.out) hb);have n2_:=Aside0.mk (below_step (by repeat (first|(with_reducible first|exact HB.out|apply below_alloc|apply pw_below_drewN|apply below_drew1|refine below_set ?_ GE377.out|refine below_set ?_ GE378.out)|exact HB.out)) hb);have n3_:=Aside0.mk (hbox);have n4_:=Aside0.mk ((by rw [hg];exact (below_size (by repeat (first|(with_reducible first|exact HB.out|apply below_alloc|apply pw_below_drewN|apply below_drew1|refine below_set ?_ GE377.out|refine below_set ?_ GE378.out)|exact HB.out))):w.heap.size≤gb379));have n5_:=Aside0.mk ((by rw [hg];exact (below_size (by repeat (first|(with_reducible first|exact HB.out|apply below_alloc|apply pw_below_drewN|apply below_drew1|refine below_set ?_ GE377.out|refine below_set ?_ GE378.out)|exact HB.out))):w.heap.size≤gb379));have n6_:=Aside0.mk ((by rw [hg];exact Nat.ne_of_lt (blk_lt (g:=gb377) (o:=.cells #[.int .i64 a0_0,.int .i64 a0_1] 55 (0,0)) (by (with_reducible repeat (first|refine blk_drewN ?_ _|refine blk_drew ?_|refine blk_alloc ?_ _));exact BK377.out)):gb377≠gb379));have n7_:=Aside0.mk ((by rw [hg];exact Nat.ne_of_gt (blk_lt (g:=gb377) (o:=.cells #[.int .i64 a0_0,.int .i64 a0_1] 55 (0,0)) (by (with_reducible repeat (first|refine blk_drewN ?_ _|refine blk_drew ?_|refine blk_alloc ?_ _));exact BK377.out)):gb379≠gb377));have n8_:=Aside0.mk ((by rw [hg];exact Nat.ne_of_lt (blk_lt (g:=gb378) (o:=.cells #[.int .i64 a1_0,.int .i64 a1_1] 55 (0,0)) (by (with_reducible repeat (first|refine blk_drewN ?_ _|refine blk_drew ?_|refine blk_alloc ?_ _));exact BK378.out)):gb378≠gb379));have n9_:=Aside0.mk ((by rw [hg];exact Nat.ne_of_gt (blk_lt (g:=gb378) (o:=.cells #[.int .i64 a1_0,.int .i64 a1_1] 55 (0,0)) (by (with_reducible repeat (first|refine blk_drewN ?_ _|refine blk_drew ?_|refine blk_alloc ?_ _));exact BK378.out)):gb379≠gb378));clear BK377;clear BK378;clear HB;have BK377:=n0_;have BK378:=n1_;have HB:=n2_;have BK379:=n3_;have GW379:=n4_;have GE379:=n5_;have NB377_379:=n6_;have NB379_377:=n7_;have NB378_379:=n8_;have NB379_378:=n9_;clear n0_ n1_ n2_ n3_ n4_ n5_ n6_ n7_ n8_ n9_;clear hb hbox hg;have hnb25:=NB377_378.out;have hnc25:=NB378_377.out;have hnb26:=NB377_379.out;have hnc26:=NB379_377.out;have hcz27_0:w24.cell? ⟨gb377,0,none⟩=some (.int .i64 a0_0):=(blk_cell BK377.out 0).trans rfl;have hcz27_1:w24.cell? ⟨gb377,1,none⟩=some (.int .i64 a0_1):=(blk_cell BK377.out 1).trans rfl;have hfz27_0:=blk_frozen BK377.out 0;have hfz27_1:=blk_frozen BK377.out 1;have hnb28:=NB378_379.out;have hnc28:=NB379_378.out;have hcz29_0:w24.cell? ⟨gb378,0,none⟩=some (.int .i64 a1_0):=(blk_cell BK378.out 0).trans rfl;have hcz29_1:w24.cell? ⟨gb378,1,none⟩=some (.int .i64 a1_1):=(blk_cell BK378.out 1).trans rfl;have hfz29_0:=blk_frozen BK378.out 0;have hfz29_1:=blk_frozen BK378.out 1;have hcz30_0:w24.cell? ⟨gb379,0,none⟩=some (.int .i64 0):=(blk_cell BK379.out 0).trans rfl;have hcz30_1:w24.cell? ⟨gb379,1,none⟩=some (.int .i64 0):=(blk_cell BK379.out 1).trans rfl;have hfz30_0:=blk_frozen BK379.out 0;have hfz30_1:=blk_frozen BK379.out 1))
   refine bodyPost_ret (results_cell_row rfl _ _ gb379 55 #[.int .i64 (wrap64 (a0_0*a1_0)),.int .i64 (wrap64 (a0_1+a1_1))] (0,0) _ rfl (by (with_reducible repeat (first|refine blk_drewN ?_ _|refine blk_drew ?_|refine blk_alloc ?_ _));refine blk_put (cs:=#[.int .i64 (wrap64 (a0_0*a1_0)),.int .i64 0]) ?_ 1 _ rfl;(with_reducible repeat (first|refine blk_drewN ?_ _|refine blk_drew ?_|refine blk_alloc ?_ _));refine blk_put (cs:=#[.int .i64 0,.int .i64 0]) ?_ 0 _ rfl;(with_reducible repeat (first|refine blk_drewN ?_ _|refine blk_drew ?_|refine blk_alloc ?_ _));exact BK379.out) Try.underlying55 rfl (by kernel_rfl)) rfl ?_
   exact ⟨by first|rfl|(simp [errW_none,errW_some]<;>rfl)|(simp [*,errW_none,errW_some]<;>rfl),by repeat (first|(with_reducible first|exact HB.out|apply below_alloc|apply pw_below_drewN|apply below_drew1|refine below_set ?_ GE377.out|refine below_set ?_ GE378.out|refine below_set ?_ GE379.out)|exact HB.out)⟩
/-! ### spec_l1Least: function 111 -/
def spec_l1Least.f (a0:Int) (a1:Int):Option (Int):=if a0< a1 then (some a0) else (some a1)
set_option maxHeartbeats 8000000 in
set_option maxRecDepth 100000 in
theorem spec_l1Least.calls (a0:Int) (a1:Int) (r:Int) (w:World) (h:spec_l1Least.f a0 a1=some r):
  Calls Try.prog 111 #[.int .i64 a0,.int .i64 a1] w fun e w'=>e=.returned (.int .i64 r)∧Drawn0 w w':=by
 have H:(if a0< a1 then (some a0) else (some a1))=some r:=h
 clear h
 by_cases c3:a0< a1
 ·rw [if_pos c3] at H
  have c3b0:decide (a0< a1)=true:=decide_eq_true c3
  clear c3
  obtain rfl:=Option.some.inj H
  go_enter Try.func111,Try.ntmps111
  go_wp2
  go_ret
  exact ⟨by first|rfl|(simp;done)|(simp [*];done),by repeat (first|exact Drawn0.refl _|apply Drawn0.step)⟩
 ·rw [if_neg c3] at H
  have c3b0:decide (a0< a1)=false:=decide_eq_false c3
  clear c3
  obtain rfl:=Option.some.inj H
  go_enter Try.func111,Try.ntmps111
  go_wp2
  go_ret
  exact ⟨by first|rfl|(simp;done)|(simp [*];done),by repeat (first|exact Drawn0.refl _|apply Drawn0.step)⟩
/-! ### spec_trBoth: function 83 -/
def spec_trBoth.f (a0_0:Int) (a0_1:Int) (a1_0:Int) (a1_1:Int):Option (Int × Int):=if a0_0=0 then (some (a1_0,a1_1)) else (if a1_0=0 then (some (a0_0,a0_1)) else ((spec_l1Least.f a0_1 a1_1).bind fun t383=>(some (wrap64 (a0_0+a1_0),t383))))
def spec_trBoth.T5:Bool × List (List Nat × List Nat):=(true,[([],[]),([0],[0]),([],[]),([2],[2]),([1,3],[1,3]),([],[]),([5],[5]),([],[]),([7],[7]),([6,8],[6,8]),([4,9],[4,9]),([10,9,0,1,2,3,4,5,6,7,8,9,10],[10])])
def spec_trBoth.B5:List Nat:=[0,1,0,4,15,0,32,0,128,480,1023,2047]
theorem spec_trBoth.tab5:rtab .any (opsOf Try.f83 5)=spec_trBoth.T5:=by kernel_rfl
theorem spec_trBoth.bits5:waitsOk spec_trBoth.T5.2 spec_trBoth.B5=true:=by kernel_rfl
set_option maxHeartbeats 8000000 in
set_option maxRecDepth 100000 in
theorem spec_trBoth.calls (a0_0:Int) (a0_1:Int) (a1_0:Int) (a1_1:Int) (r1:Int) (r2:Int) (w:World) (h:spec_trBoth.f a0_0 a0_1 a1_0 a1_1=some (r1,r2)):
  Calls Try.prog 83 #[.agg #[.int .i64 a0_0,.int .i64 a0_1],.agg #[.int .i64 a1_0,.int .i64 a1_1]] w fun e w'=>e=.returned (.agg #[.int .i64 r1,.int .i64 r2])∧Below w.heap.size w w':=by
 have hu55:=Try.underlying55
 have HB:=Aside0.mk (Below.refl w.heap.size w)
 have H:(if a0_0=0 then (some (a1_0,a1_1)) else (if a1_0=0 then (some (a0_0,a0_1)) else ((spec_l1Least.f a0_1 a1_1).bind fun t383=>(some (wrap64 (a0_0+a1_0),t383)))))=some (r1,r2):=h
 clear h
 by_cases c3:a0_0=0
 ·rw [if_pos c3] at H
  have c3b0:(a0_0==0)=true:=beq_iff_eq.mpr c3
  have c3b1:(a0_0 !=0)=false:=bne_eq_false_iff_eq.mpr c3
  clear c3
  simp only [Option.some.injEq,Prod.mk.injEq] at H
  obtain ⟨rfl,rfl⟩:=H
  go_enter Try.func83,Try.ntmps83
  go_wp2_with (first|((with_reducible refine gate_dst (N:=2) rfl ?_);refine box_event ?hg (N:=2) ?hd (cs:=#[.int .i64 a0_0,.int .i64 a0_1]) (t:=55) ?hr ?_;(case hd=>rfl);(case hg=>rfl);(case hr=>first|(go_simp;done)|(go_simp;rfl));intro gb380 hg w4 hbox hb;have n0_:=Aside0.mk (below_step (by repeat (first|(with_reducible first|exact HB.out|apply below_alloc|apply pw_below_drewN|apply below_drew1)|exact HB.out)) hb);have n1_:=Aside0.mk (hbox);have n2_:=Aside0.mk ((by rw [hg];exact (below_size (by repeat (first|(with_reducible first|exact HB.out|apply below_alloc|apply pw_below_drewN|apply below_drew1)|exact HB.out))):w.heap.size≤gb380));have n3_:=Aside0.mk ((by rw [hg];exact (below_size (by repeat (first|(with_reducible first|exact HB.out|apply below_alloc|apply pw_below_drewN|apply below_drew1)|exact HB.out))):w.heap.size≤gb380));clear HB;have HB:=n0_;have BK380:=n1_;have GW380:=n2_;have GE380:=n3_;clear n0_ n1_ n2_ n3_;clear hb hbox hg)|((with_reducible refine gate_dst (N:=3) rfl ?_);refine box_event ?hg (N:=3) ?hd (cs:=#[.int .i64 a1_0,.int .i64 a1_1]) (t:=55) ?hr ?_;(case hd=>rfl);(case hg=>rfl);(case hr=>first|(go_simp;done)|(go_simp;rfl));intro gb381 hg w5 hbox hb;have n0_:=Aside0.mk (blk_below (g:=gb380) (o:=.cells #[.int .i64 a0_0,.int .i64 a0_1] 55 (0,0)) (by (with_reducible repeat (first|refine blk_drewN ?_ _|refine blk_drew ?_|refine blk_alloc ?_ _));exact BK380.out) hb);have n1_:=Aside0.mk (below_step (by repeat (first|(with_reducible first|exact HB.out|apply below_alloc|apply pw_below_drewN|apply below_drew1|refine below_set ?_ GE380.out)|exact HB.out)) hb);have n2_:=Aside0.mk (hbox);have n3_:=Aside0.mk ((by rw [hg];exact (below_size (by repeat (first|(with_reducible first|exact HB.out|apply below_alloc|apply pw_below_drewN|apply below_drew1|refine below_set ?_ GE380.out)|exact HB.out))):w.heap.size≤gb381));have n4_:=Aside0.mk ((by rw [hg];exact (below_size (by repeat (first|(with_reducible first|exact HB.out|apply below_alloc|apply pw_below_drewN|apply below_drew1|refine below_set ?_ GE380.out)|exact HB.out))):w.heap.size≤gb381));have n5_:=Aside0.mk ((by rw [hg];exact Nat.ne_of_lt (blk_lt (g:=gb380) (o:=.cells #[.int .i64 a0_0,.int .i64 a0_1] 55 (0,0)) (by (with_reducible repeat (first|refine blk_drewN ?_ _|refine blk_drew ?_|refine blk_alloc ?_ _));exact BK380.out)):gb380≠gb381));have n6_:=Aside0.mk ((by rw [hg];exact Nat.ne_of_gt (blk_lt (g:=gb380) (o:=.cells #[.int .i64 a0_0,.int .i64 a0_1] 55 (0,0)) (by (with_reducible repeat (first|refine blk_drewN ?_ _|refine blk_drew ?_|refine blk_alloc ?_ _));exact BK380.out)):gb381≠gb380));clear BK380;clear HB;have BK380:=n0_;have HB:=n1_;have BK381:=n2_;have GW381:=n3_;have GE381:=n4_;have NB380_381:=n5_;have NB381_380:=n6_;clear n0_ n1_ n2_ n3_ n4_ n5_ n6_;clear hb hbox hg)|((with_reducible refine gate_dst (N:=4) rfl ?_);refine box_event ?hg (N:=4) ?hd (cs:=#[.int .i64 0,.int .i64 0]) (t:=55) ?hr ?_;(case hd=>rfl);(case hg=>rfl);(case hr=>first|(go_simp;done)|(go_simp;rfl));intro gb382 hg w6 hbox hb;have n0_:=Aside0.mk (blk_below (g:=gb380) (o:=.cells #[.int .i64 a0_0,.int .i64 a0_1] 55 (0,0)) (by (with_reducible repeat (first|refine blk_drewN ?_ _|refine blk_drew ?_|refine blk_alloc ?_ _));exact BK380.out) hb);have n1_:=Aside0.mk (blk_below (g:=gb381) (o:=.cells #[.int .i64 a1_0,.int .i64 a1_1] 55 (0,0)) (by (with_reducible repeat (first|refine blk_drewN ?_ _|refine blk_drew ?_|refine blk_alloc ?_ _));exact BK381.out) hb);have n2_:=Aside0.mk (below_step (by repeat (first|(with_reducible first|exact HB.out|apply below_alloc|apply pw_below_drewN|apply below_drew1|refine below_set ?_ GE380.out|refine below_set ?_ GE381.out)|exact HB.out)) hb);have n3_:=Aside0.mk (hbox);have n4_:=Aside0.mk ((by rw [hg];exact (below_size (by repeat (first|(with_reducible first|exact HB.out|apply below_alloc|apply pw_below_drewN|apply below_drew1|refine below_set ?_ GE380.out|refine below_set ?_ GE381.out)|exact HB.out))):w.heap.size≤gb382));have n5_:=Aside0.mk ((by rw [hg];exact (below_size (by repeat (first|(with_reducible first|exact HB.out|apply below_alloc|apply pw_below_drewN|apply below_drew1|refine below_set ?_ GE380.out|refine below_set ?_ GE381.out)|exact HB.out))):w.heap.size≤gb382));have n6_:=Aside0.mk ((by rw [hg];exact Nat.ne_of_lt (blk_lt (g:=gb380) (o:=.cells #[.int .i64 a0_0,.int .i64 a0_1] 55 (0,0)) (by (with_reducible repeat (first|refine blk_drewN ?_ _|refine blk_drew ?_|refine blk_alloc ?_ _));exact BK380.out)):gb380≠gb382));have n7_:=Aside0.mk ((by rw [hg];exact Nat.ne_of_gt (blk_lt (g:=gb380) (o:=.cells #[.int .i64 a0_0,.int .i64 a0_1] 55 (0,0)) (by (with_reducible repeat (first|refine blk_drewN ?_ _|refine blk_drew ?_|refine blk_alloc ?_ _));exact BK380.out)):gb382≠gb380));have n8_:=Aside0.mk ((by rw [hg];exact Nat.ne_of_lt (blk_lt (g:=gb381) (o:=.cells #[.int .i64 a1_0,.int .i64 a1_1] 55 (0,0)) (by (with_reducible repeat (first|refine blk_drewN ?_ _|refine blk_drew ?_|refine blk_alloc ?_ _));exact BK381.out)):gb381≠gb382));have n9_:=Aside0.mk ((by rw [hg];exact Nat.ne_of_gt (blk_lt (g:=gb381) (o:=.cells #[.int .i64 a1_0,.int .i64 a1_1] 55 (0,0)) (by (with_reducible repeat (first|refine blk_drewN ?_ _|refine blk_drew ?_|refine blk_alloc ?_ _));exact BK381.out)):gb382≠gb381));clear BK380;clear BK381;clear HB;have BK380:=n0_;have BK381:=n1_;have HB:=n2_;have BK382:=n3_;have GW382:=n4_;have GE382:=n5_;have NB380_382:=n6_;have NB382_380:=n7_;have NB381_382:=n8_;have NB382_381:=n9_;clear n0_ n1_ n2_ n3_ n4_ n5_ n6_ n7_ n8_ n9_;clear hb hbox hg;have hnb7:=NB380_381.out;have hnc7:=NB381_380.out;have hnb8:=NB380_382.out;have hnc8:=NB382_380.out;have hcz9_0:w6.cell? ⟨gb380,0,none⟩=some (.int .i64 a0_0):=(blk_cell BK380.out 0).trans rfl;have hcz9_1:w6.cell? ⟨gb380,1,none⟩=some (.int .i64 a0_1):=(blk_cell BK380.out 1).trans rfl;have hfz9_0:=blk_frozen BK380.out 0;have hfz9_1:=blk_frozen BK380.out 1;have hnb10:=NB381_382.out;have hnc10:=NB382_381.out;have hcz11_0:w6.cell? ⟨gb381,0,none⟩=some (.int .i64 a1_0):=(blk_cell BK381.out 0).trans rfl;have hcz11_1:w6.cell? ⟨gb381,1,none⟩=some (.int .i64 a1_1):=(blk_cell BK381.out 1).trans rfl;have hfz11_0:=blk_frozen BK381.out 0;have hfz11_1:=blk_frozen BK381.out 1;have hcz12_0:w6.cell? ⟨gb382,0,none⟩=some (.int .i64 0):=(blk_cell BK382.out 0).trans rfl;have hcz12_1:w6.cell? ⟨gb382,1,none⟩=some (.int .i64 0):=(blk_cell BK382.out 1).trans rfl;have hfz12_0:=blk_frozen BK382.out 0;have hfz12_1:=blk_frozen BK382.out 1))
  refine bodyPost_ret (results_cell_row rfl _ _ gb382 55 #[.int .i64 a1_0,.int .i64 a1_1] (0,0) _ rfl (by (with_reducible repeat (first|refine blk_drewN ?_ _|refine blk_drew ?_|refine blk_alloc ?_ _));refine blk_put (cs:=#[.int .i64 a1_0,.int .i64 0]) ?_ 1 _ rfl;(with_reducible repeat (first|refine blk_drewN ?_ _|refine blk_drew ?_|refine blk_alloc ?_ _));refine blk_put (cs:=#[.int .i64 0,.int .i64 0]) ?_ 0 _ rfl;(with_reducible repeat (first|refine blk_drewN ?_ _|refine blk_drew ?_|refine blk_alloc ?_ _));exact BK382.out) Try.underlying55 rfl (by kernel_rfl)) rfl ?_
  exact ⟨by first|rfl|(simp [errW_none,errW_some]<;>rfl)|(simp [*,errW_none,errW_some]<;>rfl),by repeat (first|(with_reducible first|exact HB.out|apply below_alloc|apply pw_below_drewN|apply below_drew1|refine below_set ?_ GE380.out|refine below_set ?_ GE381.out|refine below_set ?_ GE382.out)|exact HB.out)⟩
 ·rw [if_neg c3] at H
  have c3b0:(a0_0==0)=false:=beq_eq_false_iff_ne.mpr c3
  have c3b1:(a0_0 !=0)=true:=bne_iff_ne.mpr c3
  by_cases c13:a1_0=0
  ·rw [if_pos c13] at H
   have c13b0:(a1_0==0)=true:=beq_iff_eq.mpr c13
   have c13b1:(a1_0 !=0)=false:=bne_eq_false_iff_eq.mpr c13
   clear c13
   simp only [Option.some.injEq,Prod.mk.injEq] at H
   obtain ⟨rfl,rfl⟩:=H
   go_enter Try.func83,Try.ntmps83
   go_wp2_with (first|((with_reducible refine gate_dst (N:=2) rfl ?_);refine box_event ?hg (N:=2) ?hd (cs:=#[.int .i64 a0_0,.int .i64 a0_1]) (t:=55) ?hr ?_;(case hd=>rfl);(case hg=>rfl);(case hr=>first|(go_simp;done)|(go_simp;rfl));intro gb380 hg w14 hbox hb;have n0_:=Aside0.mk (below_step (by repeat (first|(with_reducible first|exact HB.out|apply below_alloc|apply pw_below_drewN|apply below_drew1)|exact HB.out)) hb);have n1_:=Aside0.mk (hbox);have n2_:=Aside0.mk ((by rw [hg];exact (below_size (by repeat (first|(with_reducible first|exact HB.out|apply below_alloc|apply pw_below_drewN|apply below_drew1)|exact HB.out))):w.heap.size≤gb380));have n3_:=Aside0.mk ((by rw [hg];exact (below_size (by repeat (first|(with_reducible first|exact HB.out|apply below_alloc|apply pw_below_drewN|apply below_drew1)|exact HB.out))):w.heap.size≤gb380));clear HB;have HB:=n0_;have BK380:=n1_;have GW380:=n2_;have GE380:=n3_;clear n0_ n1_ n2_ n3_;clear hb hbox hg)|((with_reducible refine gate_dst (N:=3) rfl ?_);refine box_event ?hg (N:=3) ?hd (cs:=#[.int .i64 a1_0,.int .i64 a1_1]) (t:=55) ?hr ?_;(case hd=>rfl);(case hg=>rfl);(case hr=>first|(go_simp;done)|(go_simp;rfl));intro gb381 hg w15 hbox hb;have n0_:=Aside0.mk (blk_below (g:=gb380) (o:=.cells #[.int .i64 a0_0,.int .i64 a0_1] 55 (0,0)) (by (with_reducible repeat (first|refine blk_drewN ?_ _|refine blk_drew ?_|refine blk_alloc ?_ _));exact BK380.out) hb);have n1_:=Aside0.mk (below_step (by repeat (first|(with_reducible first|exact HB.out|apply below_alloc|apply pw_below_drewN|apply below_drew1|refine below_set ?_ GE380.out)|exact HB.out)) hb);have n2_:=Aside0.mk (hbox);have n3_:=Aside0.mk ((by rw [hg];exact (below_size (by repeat (first|(with_reducible first|exact HB.out|apply below_alloc|apply pw_below_drewN|apply below_drew1|refine below_set ?_ GE380.out)|exact HB.out))):w.heap.size≤gb381));have n4_:=Aside0.mk ((by rw [hg];exact (below_size (by repeat (first|(with_reducible first|exact HB.out|apply below_alloc|apply pw_below_drewN|apply below_drew1|refine below_set ?_ GE380.out)|exact HB.out))):w.heap.size≤gb381));have n5_:=Aside0.mk ((by rw [hg];exact Nat.ne_of_lt (blk_lt (g:=gb380) (o:=.cells #[.int .i64 a0_0,.int .i64 a0_1] 55 (0,0)) (by (with_reducible repeat (first|refine blk_drewN ?_ _|refine blk_drew ?_|refine blk_alloc ?_ _));exact BK380.out)):gb380≠gb381));have n6_:=Aside0.mk ((by rw [hg];exact Nat.ne_of_gt (blk_lt (g:=gb380) (o:=.cells #[.int .i64 a0_0,.int .i64 a0_1] 55 (0,0)) (by (with_reducible repeat (first|refine blk_drewN ?_ _|refine blk_drew ?_|refine blk_alloc ?_ _));exact BK380.out)):gb381≠gb380));clear BK380;clear HB;have BK380:=n0_;have HB:=n1_;have BK381:=n2_;have GW381:=n3_;have GE381:=n4_;have NB380_381:=n5_;have NB381_380:=n6_;clear n0_ n1_ n2_ n3_ n4_ n5_ n6_;clear hb hbox hg)|((with_reducible refine gate_dst (N:=4) rfl ?_);refine box_event ?hg (N:=4) ?hd (cs:=#[.int .i64 0,.int .i64 0]) (t:=55) ?hr ?_;(case hd=>rfl);(case hg=>rfl);(case hr=>first|(go_simp;done)|(go_simp;rfl));intro gb382 hg w16 hbox hb;have n0_:=Aside0.mk (blk_below (g:=gb380) (o:=.cells #[.int .i64 a0_0,.int .i64 a0_1] 55 (0,0)) (by (with_reducible repeat (first|refine blk_drewN ?_ _|refine blk_drew ?_|refine blk_alloc ?_ _));exact BK380.out) hb);have n1_:=Aside0.mk (blk_below (g:=gb381) (o:=.cells #[.int .i64 a1_0,.int .i64 a1_1] 55 (0,0)) (by (with_reducible repeat (first|refine blk_drewN ?_ _|refine blk_drew ?_|refine blk_alloc ?_ _));exact BK381.out) hb);have n2_:=Aside0.mk (below_step (by repeat (first|(with_reducible first|exact HB.out|apply below_alloc|apply pw_below_drewN|apply below_drew1|refine below_set ?_ GE380.out|refine below_set ?_ GE381.out)|exact HB.out)) hb);have n3_:=Aside0.mk (hbox);have n4_:=Aside0.mk ((by rw [hg];exact (below_size (by repeat (first|(with_reducible first|exact HB.out|apply below_alloc|apply pw_below_drewN|apply below_drew1|refine below_set ?_ GE380.out|refine below_set ?_ GE381.out)|exact HB.out))):w.heap.size≤gb382));have n5_:=Aside0.mk ((by rw [hg];exact (below_size (by repeat (first|(with_reducible first|exact HB.out|apply below_alloc|apply pw_below_drewN|apply below_drew1|refine below_set ?_ GE380.out|refine below_set ?_ GE381.out)|exact HB.out))):w.heap.size≤gb382));have n6_:=Aside0.mk ((by rw [hg];exact Nat.ne_of_lt (blk_lt (g:=gb380) (o:=.cells #[.int .i64 a0_0,.int .i64 a0_1] 55 (0,0)) (by (with_reducible repeat (first|refine blk_drewN ?_ _|refine blk_drew ?_|refine blk_alloc ?_ _));exact BK380.out)):gb380≠gb382));have n7_:=Aside0.mk ((by rw [hg];exact Nat.ne_of_gt (blk_lt (g:=gb380) (o:=.cells #[.int .i64 a0_0,.int .i64 a0_1] 55 (0,0)) (by (with_reducible repeat (first|refine blk_drewN ?_ _|refine blk_drew ?_|refine blk_alloc ?_ _));exact BK380.out)):gb382≠gb380));have n8_:=Aside0.mk ((by rw [hg];exact Nat.ne_of_lt (blk_lt (g:=gb381) (o:=.cells #[.int .i64 a1_0,.int .i64 a1_1] 55 (0,0)) (by (with_reducible repeat (first|refine blk_drewN ?_ _|refine blk_drew ?_|refine blk_alloc ?_ _));exact BK381.out)):gb381≠gb382));have n9_:=Aside0.mk ((by rw [hg];exact Nat.ne_of_gt (blk_lt (g:=gb381) (o:=.cells #[.int .i64 a1_0,.int .i64 a1_1] 55 (0,0)) (by (with_reducible repeat (first|refine blk_drewN ?_ _|refine blk_drew ?_|refine blk_alloc ?_ _));exact BK381.out)):gb382≠gb381));clear BK380;clear BK381;clear HB;have BK380:=n0_;have BK381:=n1_;have HB:=n2_;have BK382:=n3_;have GW382:=n4_;have GE382:=n5_;have NB380_382:=n6_;have NB382_380:=n7_;have NB381_382:=n8_;have NB382_381:=n9_;clear n0_ n1_ n2_ n3_ n4_ n5_ n6_ n7_ n8_ n9_;clear hb hbox hg;have hnb17:=NB380_381.out;have hnc17:=NB381_380.out;have hnb18:=NB380_382.out;have hnc18:=NB382_380.out;have hcz19_0:w16.cell? ⟨gb380,0,none⟩=some (.int .i64 a0_0):=(blk_cell BK380.out 0).trans rfl;have hcz19_1:w16.cell? ⟨gb380,1,none⟩=some (.int .i64 a0_1):=(blk_cell BK380.out 1).trans rfl;have hfz19_0:=blk_frozen BK380.out 0;have hfz19_1:=blk_frozen BK380.out 1;have hnb20:=NB381_382.out;have hnc20:=NB382_381.out;have hcz21_0:w16.cell? ⟨gb381,0,none⟩=some (.int .i64 a1_0):=(blk_cell BK381.out 0).trans rfl;have hcz21_1:w16.cell? ⟨gb381,1,none⟩=some (.int .i64 a1_1):=(blk_cell BK381.out 1).trans rfl;have hfz21_0:=blk_frozen BK381.out 0;have hfz21_1:=blk_frozen BK381.out 1;have hcz22_0:w16.cell? ⟨gb382,0,none⟩=some (.int .i64 0):=(blk_cell BK382.out 0).trans rfl;have hcz22_1:w16.cell? ⟨gb382,1,none⟩=some (.int .i64 0):=(blk_cell BK382.out 1).trans rfl;have hfz22_0:=blk_frozen BK382.out 0;have hfz22_1:=blk_frozen BK382.out 1))
   refine bodyPost_ret (results_cell_row rfl _ _ gb382 55 #[.int .i64 a0_0,.int .i64 a0_1] (0,0) _ rfl (by (with_reducible repeat (first|refine blk_drewN ?_ _|refine blk_drew ?_|refine blk_alloc ?_ _));refine blk_put (cs:=#[.int .i64 a0_0,.int .i64 0]) ?_ 1 _ rfl;(with_reducible repeat (first|refine blk_drewN ?_ _|refine blk_drew ?_|refine blk_alloc ?_ _));refine blk_put (cs:=#[.int .i64 0,.int .i64 0]) ?_ 0 _ rfl;(with_reducible repeat (first|refine blk_drewN ?_ _|refine blk_drew ?_|refine blk_alloc ?_ _));exact BK382.out) Try.underlying55 rfl (by kernel_rfl)) rfl ?_
   exact ⟨by first|rfl|(simp [errW_none,errW_some]<;>rfl)|(simp [*,errW_none,errW_some]<;>rfl),by repeat (first|(with_reducible first|exact HB.out|apply below_alloc|apply pw_below_drewN|apply below_drew1|refine below_set ?_ GE380.out|refine below_set ?_ GE381.out|refine below_set ?_ GE382.out)|exact HB.out)⟩
  ·rw [if_neg c13] at H
   have c13b0:(a1_0==0)=false:=beq_eq_false_iff_ne.mpr c13
   have c13b1:(a1_0 !=0)=true:=bne_iff_ne.mpr c13
   replace H:=Option.bind_eq_some_iff.mp H
   obtain ⟨t383,A230,H⟩:=H
   replace H:(some (wrap64 (a0_0+a1_0),t383))=some (r1,r2):=H
   have A23:=Aside0.mk A230
   clear A230
   simp only [Option.some.injEq,Prod.mk.injEq] at H
   obtain ⟨rfl,rfl⟩:=H
   go_enter Try.func83,Try.ntmps83
   try go_wp2_with (first|((with_reducible refine gate_dst (N:=2) rfl ?_);refine box_event ?hg (N:=2) ?hd (cs:=#[.int .i64 a0_0,.int .i64 a0_1]) (t:=55) ?hr ?_;(case hd=>rfl);(case hg=>rfl);(case hr=>first|(go_simp;done)|(go_simp;rfl));intro gb380 hg w24 hbox hb;have n0_:=Aside0.mk (below_step (by repeat (first|(with_reducible first|exact HB.out|apply below_alloc|apply pw_below_drewN|apply below_drew1)|exact HB.out)) hb);have n1_:=Aside0.mk (hbox);have n2_:=Aside0.mk ((by rw [hg];exact (below_size (by repeat (first|(with_reducible first|exact HB.out|apply below_alloc|apply pw_below_drewN|apply below_drew1)|exact HB.out))):w.heap.size≤gb380));have n3_:=Aside0.mk ((by rw [hg];exact (below_size (by repeat (first|(with_reducible first|exact HB.out|apply below_alloc|apply pw_below_drewN|apply below_drew1)|exact HB.out))):w.heap.size≤gb380));clear HB;have HB:=n0_;have BK380:=n1_;have GW380:=n2_;have GE380:=n3_;clear n0_ n1_ n2_ n3_;clear hb hbox hg)|((with_reducible refine gate_dst (N:=3) rfl ?_);refine box_event ?hg (N:=3) ?hd (cs:=#[.int .i64 a1_0,.int .i64 a1_1]) (t:=55) ?hr ?_;(case hd=>rfl);(case hg=>rfl);(case hr=>first|(go_simp;done)|(go_simp;rfl));intro gb381 hg w25 hbox hb;have n0_:=Aside0.mk (blk_below (g:=gb380) (o:=.cells #[.int .i64 a0_0,.int .i64 a0_1] 55 (0,0)) (by (with_reducible repeat (first|refine blk_drewN ?_ _|refine blk_drew ?_|refine blk_alloc ?_ _));exact BK380.out) hb);have n1_:=Aside0.mk (below_step (by repeat (first|(with_reducible first|exact HB.out|apply below_alloc|apply pw_below_drewN|apply below_drew1|refine below_set ?_ GE380.out)|exact HB.out)) hb);have n2_:=Aside0.mk (hbox);have n3_:=Aside0.mk ((by rw [hg];exact (below_size (by repeat (first|(with_reducible first|exact HB.out|apply below_alloc|apply pw_below_drewN|apply below_drew1|refine below_set ?_ GE380.out)|exact HB.out))):w.heap.size≤gb381));have n4_:=Aside0.mk ((by rw [hg];exact (below_size (by repeat (first|(with_reducible first|exact HB.out|apply below_alloc|apply pw_below_drewN|apply below_drew1|refine below_set ?_ GE380.out)|exact HB.out))):w.heap.size≤gb381));have n5_:=Aside0.mk ((by rw [hg];exact Nat.ne_of_lt (blk_lt (g:=gb380) (o:=.cells #[.int .i64 a0_0,.int .i64 a0_1] 55 (0,0)) (by (with_reducible repeat (first|refine blk_drewN ?_ _|refine blk_drew ?_|refine blk_alloc ?_ _));exact BK380.out)):gb380≠gb381));have n6_:=Aside0.mk ((by rw [hg];exact Nat.ne_of_gt (blk_lt (g:=gb380) (o:=.cells #[.int .i64 a0_0,.int .i64 a0_1] 55 (0,0)) (by (with_reducible repeat (first|refine blk_drewN ?_ _|refine blk_drew ?_|refine blk_alloc ?_ _));exact BK380.out)):gb381≠gb380));clear BK380;clear HB;have BK380:=n0_;have HB:=n1_;have BK381:=n2_;have GW381:=n3_;have GE381:=n4_;have NB380_381:=n5_;have NB381_380:=n6_;clear n0_ n1_ n2_ n3_ n4_ n5_ n6_;clear hb hbox hg)|((with_reducible refine gate_dst (N:=4) rfl ?_);refine box_event ?hg (N:=4) ?hd (cs:=#[.int .i64 0,.int .i64 0]) (t:=55) ?hr ?_;(case hd=>rfl);(case hg=>rfl);(case hr=>first|(go_simp;done)|(go_simp;rfl));intro gb382 hg w26 hbox hb;have n0_:=Aside0.mk (blk_below (g:=gb380) (o:=.cells #[.int .i64 a0_0,.int .i64 a0_1] 55 (0,0)) (by (with_reducible repeat (first|refine blk_drewN ?_ _|refine blk_drew ?_|refine blk_alloc ?_ _));exact BK380.out) hb);have n1_:=Aside0.mk (blk_below (g:=gb381) (o:=.cells #[.int .i64 a1_0,.int .i64 a1_1] 55 (0,0)) (by (with_reducible repeat (first|refine blk_drewN ?_ _|refine blk_drew ?_|refine blk_alloc ?_ _));exact BK381.out) hb);have n2_:=Aside0.mk (below_step (by repeat (first|(with_reducible first|exact HB.out|apply below_alloc|apply pw_below_drewN|apply below_drew1|refine below_set ?_ GE380.out|refine below_set ?_ GE381.out)|exact HB.out)) hb);have n3_:=Aside0.mk (hbox);have n4_:=Aside0.mk ((by rw [hg];exact (below_size (by repeat (first|(with_reducible first|exact HB.out|apply below_alloc|apply pw_below_drewN|apply below_drew1|refine below_set ?_ GE380.out|refine below_set ?_ GE381.out)|exact HB.out))):w.heap.size≤gb382));have n5_:=Aside0.mk ((by rw [hg];exact (below_size (by repeat (first|(with_reducible first|exact HB.out|apply below_alloc|apply pw_below_drewN|apply below_drew1|refine below_set ?_ GE380.out|refine below_set ?_ GE381.out)|exact HB.out))):w.heap.size≤gb382));have n6_:=Aside0.mk ((by rw [hg];exact Nat.ne_of_lt (blk_lt (g:=gb380) (o:=.cells #[.int .i64 a0_0,.int .i64 a0_1] 55 (0,0)) (by (with_reducible repeat (first|refine blk_drewN ?_ _|refine blk_drew ?_|refine blk_alloc ?_ _));exact BK380.out)):gb380≠gb382));have n7_:=Aside0.mk ((by rw [hg];exact Nat.ne_of_gt (blk_lt (g:=gb380) (o:=.cells #[.int .i64 a0_0,.int .i64 a0_1] 55 (0,0)) (by (with_reducible repeat (first|refine blk_drewN ?_ _|refine blk_drew ?_|refine blk_alloc ?_ _));exact BK380.out)):gb382≠gb380));have n8_:=Aside0.mk ((by rw [hg];exact Nat.ne_of_lt (blk_lt (g:=gb381) (o:=.cells #[.int .i64 a1_0,.int .i64 a1_1] 55 (0,0)) (by (with_reducible repeat (first|refine blk_drewN ?_ _|refine blk_drew ?_|refine blk_alloc ?_ _));exact BK381.out)):gb381≠gb382));have n9_:=Aside0.mk ((by rw [hg];exact Nat.ne_of_gt (blk_lt (g:=gb381) (o:=.cells #[.int .i64 a1_0,.int .i64 a1_1] 55 (0,0)) (by (with_reducible repeat (first|refine blk_drewN ?_ _|refine blk_drew ?_|refine blk_alloc ?_ _));exact BK381.out)):gb382≠gb381));clear BK380;clear BK381;clear HB;have BK380:=n0_;have BK381:=n1_;have HB:=n2_;have BK382:=n3_;have GW382:=n4_;have GE382:=n5_;have NB380_382:=n6_;have NB382_380:=n7_;have NB381_382:=n8_;have NB382_381:=n9_;clear n0_ n1_ n2_ n3_ n4_ n5_ n6_ n7_ n8_ n9_;clear hb hbox hg;have hnb27:=NB380_381.out;have hnc27:=NB381_380.out;have hnb28:=NB380_382.out;have hnc28:=NB382_380.out;have hcz29_0:w26.cell? ⟨gb380,0,none⟩=some (.int .i64 a0_0):=(blk_cell BK380.out 0).trans rfl;have hcz29_1:w26.cell? ⟨gb380,1,none⟩=some (.int .i64 a0_1):=(blk_cell BK380.out 1).trans rfl;have hfz29_0:=blk_frozen BK380.out 0;have hfz29_1:=blk_frozen BK380.out 1;have hnb30:=NB381_382.out;have hnc30:=NB382_381.out;have hcz31_0:w26.cell? ⟨gb381,0,none⟩=some (.int .i64 a1_0):=(blk_cell BK381.out 0).trans rfl;have hcz31_1:w26.cell? ⟨gb381,1,none⟩=some (.int .i64 a1_1):=(blk_cell BK381.out 1).trans rfl;have hfz31_0:=blk_frozen BK381.out 0;have hfz31_1:=blk_frozen BK381.out 1))
   have n0_:=Aside0.mk (blk_drew BK380.out)
   have n1_:=Aside0.mk (blk_drew BK381.out)
   have n2_:=Aside0.mk (blk_drew BK382.out)
   have n3_:=Aside0.mk (below_drew1 HB.out)
   clear BK380;clear BK381;clear BK382;clear HB
   have BK380:=n0_
   have BK381:=n1_
   have BK382:=n2_
   have HB:=n3_
   clear n0_ n1_ n2_ n3_
   refine start_ (n:=12) (S:=fun w'=>w'.cell? ⟨gb380,0,none⟩=some (.int .i64 a0_0)∧w'.cell? ⟨gb380,1,none⟩=some (.int .i64 a0_1)∧w'.cell? ⟨gb381,0,none⟩=some (.int .i64 a1_0)∧w'.cell? ⟨gb381,1,none⟩=some (.int .i64 a1_1)) (ds:=[]) #[false,false,false,false,false,false,false,false,false,false,false,false] (by kernel_rfl) rfl rfl ⟨(blk_cell BK380.out 0).trans rfl,(blk_cell BK380.out 1).trans rfl,(blk_cell BK381.out 0).trans rfl,(blk_cell BK381.out 1).trans rfl⟩ (fun hHeld=>?_);refine with_tabW spec_trBoth.tab5 spec_trBoth.bits5 (fun HT_ HW_=>?_)
   generalize w26.drew=w32 at BK380 BK381 BK382 HB hHeld ⊢
   refine pure_ (i:=0) (N:=some 13) (v:=?_) (a':=?_) #[true,false,false,false,false,false,false,false,false,false,false,false] rfl rfl (any_of HT_.out (by kernel_rfl)) (fun _ _ _ h=>h) (Or.inl ⟨by rfl,?_⟩) ?_ ?_
   rotate_left
   ·intro w'
    go_simp
    with_reducible rfl
   rotate_left
   ·simp only [Act.put,List.setIfInBounds_toArray,List.set_cons_zero,List.set_cons_succ,i64_w,i32_w]
    rfl
   refine pure_ (i:=2) (N:=some 15) (v:=?_) (a':=?_) #[true,false,true,false,false,false,false,false,false,false,false,false] rfl rfl (any_of HT_.out (by kernel_rfl)) (fun _ _ _ h=>h) (Or.inl ⟨by rfl,?_⟩) ?_ ?_
   rotate_left
   ·intro w'
    go_simp
    with_reducible rfl
   rotate_left
   ·simp only [Act.put,List.setIfInBounds_toArray,List.set_cons_zero,List.set_cons_succ,i64_w,i32_w]
    rfl
   refine pure_ (i:=5) (N:=some 18) (v:=?_) (a':=?_) #[true,false,true,false,false,true,false,false,false,false,false,false] rfl rfl (any_of HT_.out (by kernel_rfl)) (fun _ _ _ h=>h) (Or.inl ⟨by rfl,?_⟩) ?_ ?_
   rotate_left
   ·intro w'
    go_simp
    with_reducible rfl
   rotate_left
   ·simp only [Act.put,List.setIfInBounds_toArray,List.set_cons_zero,List.set_cons_succ,i64_w,i32_w]
    rfl
   refine pure_ (i:=7) (N:=some 20) (v:=?_) (a':=?_) #[true,false,true,false,false,true,false,true,false,false,false,false] rfl rfl (any_of HT_.out (by kernel_rfl)) (fun _ _ _ h=>h) (Or.inl ⟨by rfl,?_⟩) ?_ ?_
   rotate_left
   ·intro w'
    go_simp
    with_reducible rfl
   rotate_left
   ·simp only [Act.put,List.setIfInBounds_toArray,List.set_cons_zero,List.set_cons_succ,i64_w,i32_w]
    rfl
   refine take_ (i:=1) (N:=some 14) (v:=?_) (a':=?_) #[true,true,true,false,false,true,false,true,false,false,false,false] rfl rfl (take_ofW HT_.out HW_.out (by kernel_rfl)) (fun _ _ _ h=>h) (Or.inl ⟨by rfl,?_⟩) hHeld ?_ ?_
   rotate_left
   ·rintro w' ⟨s0,s1,s2,s3⟩
    go_simp
    with_reducible rfl
   rotate_left
   ·simp only [Act.put,List.setIfInBounds_toArray,List.set_cons_zero,List.set_cons_succ,i64_w,i32_w]
    rfl
   refine take_ (i:=3) (N:=some 16) (v:=?_) (a':=?_) #[true,true,true,true,false,true,false,true,false,false,false,false] rfl rfl (take_ofW HT_.out HW_.out (by kernel_rfl)) (fun _ _ _ h=>h) (Or.inl ⟨by rfl,?_⟩) hHeld ?_ ?_
   rotate_left
   ·rintro w' ⟨s0,s1,s2,s3⟩
    go_simp
    with_reducible rfl
   rotate_left
   ·simp only [Act.put,List.setIfInBounds_toArray,List.set_cons_zero,List.set_cons_succ,i64_w,i32_w]
    rfl
   refine pure_ (i:=4) (N:=some 17) (v:=?_) (a':=?_) #[true,true,true,true,true,true,false,true,false,false,false,false] rfl rfl (any_of HT_.out (by kernel_rfl)) (fun _ _ _ h=>h) (Or.inl ⟨by rfl,?_⟩) ?_ ?_
   rotate_left
   ·intro w'
    go_simp
    with_reducible rfl
   rotate_left
   ·simp only [Act.put,List.setIfInBounds_toArray,List.set_cons_zero,List.set_cons_succ,i64_w,i32_w]
    rfl
   refine take_ (i:=6) (N:=some 19) (v:=?_) (a':=?_) #[true,true,true,true,true,true,true,true,false,false,false,false] rfl rfl (take_ofW HT_.out HW_.out (by kernel_rfl)) (fun _ _ _ h=>h) (Or.inl ⟨by rfl,?_⟩) hHeld ?_ ?_
   rotate_left
   ·rintro w' ⟨s0,s1,s2,s3⟩
    go_simp
    with_reducible rfl
   rotate_left
   ·simp only [Act.put,List.setIfInBounds_toArray,List.set_cons_zero,List.set_cons_succ,i64_w,i32_w]
    rfl
   refine take_ (i:=8) (N:=some 21) (v:=?_) (a':=?_) #[true,true,true,true,true,true,true,true,true,false,false,false] rfl rfl (take_ofW HT_.out HW_.out (by kernel_rfl)) (fun _ _ _ h=>h) (Or.inl ⟨by rfl,?_⟩) hHeld ?_ ?_
   rotate_left
   ·rintro w' ⟨s0,s1,s2,s3⟩
    go_simp
    with_reducible rfl
   rotate_left
   ·simp only [Act.put,List.setIfInBounds_toArray,List.set_cons_zero,List.set_cons_succ,i64_w,i32_w]
    rfl
   refine one_ (i:=9) (N:=some 22) #[true,true,true,true,true,true,true,true,true,true,false,false] rfl rfl (one_of HT_.out (by kernel_rfl)) (by decide) (fun K hK=>?_)
   refine goes_ Try.func111 (by kernel_rfl) rfl #[.int .i64 a0_1,.int .i64 a1_1] (by rfl) rfl rfl (by (try simp only [List.map_toArray,List.map_cons,List.map_nil]);first|done|rfl|(simp only [List.length_drop,List.length_take];rfl)) ?_
   with_reducible refine (spec_l1Least.calls a0_1 a1_1 t383 _ A23.out).mono ?_
   rintro e w' ⟨rfl,⟨nd,rfl⟩⟩
   refine ⟨_,rfl,?_⟩
   refine hK.out _ _ ⟨(blk_cell BK380.out 0).trans rfl,(blk_cell BK380.out 1).trans rfl,(blk_cell BK381.out 0).trans rfl,(blk_cell BK381.out 1).trans rfl⟩ (fun hHeld=>?_)
   clear hK K
   refine norm_ (a':=?_) ?_ ?_
   rotate_left
   ·show Act.put _ (some 22) _=_
    simp only [Act.put,List.setIfInBounds_toArray,List.set_cons_zero,List.set_cons_succ,i64_w,i32_w]
    rfl
   refine pure_ (i:=10) (N:=some 23) (v:=?_) (a':=?_) #[true,true,true,true,true,true,true,true,true,true,true,false] rfl rfl (any_of HT_.out (by kernel_rfl)) (fun _ _ _ h=>h) (Or.inl ⟨by rfl,?_⟩) ?_ ?_
   rotate_left
   ·intro w'
    go_simp
    with_reducible rfl
   rotate_left
   ·simp only [Act.put,List.setIfInBounds_toArray,List.set_cons_zero,List.set_cons_succ,i64_w,i32_w]
    rfl
   refine one_ (i:=11) (N:=none) #[true,true,true,true,true,true,true,true,true,true,true,true] rfl rfl (one_of HT_.out (by kernel_rfl)) (by decide) (fun K hK=>?_)
   have hs33:w32.cell? ⟨gb382,0,none⟩=some (.int .i64 0):=(blk_cell BK382.out 0).trans rfl
   have hfs33:=blk_frozen BK382.out 0
   have hns33_0:=NB380_382.out
   have hns33_1:=NB381_382.out
   have hms33_0:=NB382_380.out
   have hms33_1:=NB382_381.out
   have hs34:w32.cell? ⟨gb382,1,none⟩=some (.int .i64 0):=(blk_cell BK382.out 1).trans rfl
   have hfs34:=blk_frozen BK382.out 1
   have hns34_0:=NB380_382.out
   have hns34_1:=NB381_382.out
   have hms34_0:=NB382_380.out
   have hms34_1:=NB382_381.out
   refine skip_ (w1:=?_) (by rfl) rfl ?_ ?_
   rotate_left
   ·go_simp
    rfl
   refine hK.out _ _ ⟨((cell_far (p:=⟨gb382,_,none⟩) NB380_382.out _).trans (((cell_far (p:=⟨gb382,_,none⟩) NB380_382.out _).trans (hHeld.1)))),((cell_far (p:=⟨gb382,_,none⟩) NB380_382.out _).trans (((cell_far (p:=⟨gb382,_,none⟩) NB380_382.out _).trans (hHeld.2.1)))),((cell_far (p:=⟨gb382,_,none⟩) NB381_382.out _).trans (((cell_far (p:=⟨gb382,_,none⟩) NB381_382.out _).trans (hHeld.2.2.1)))),((cell_far (p:=⟨gb382,_,none⟩) NB381_382.out _).trans (((cell_far (p:=⟨gb382,_,none⟩) NB381_382.out _).trans (hHeld.2.2.2))))⟩ (fun hHeld=>?_)
   clear hK K
   refine done_ (done_of HT_.out (by kernel_rfl)) ?_
   try go_wp2
   refine bodyPost_ret (results_cell_row rfl _ _ gb382 55 #[.int .i64 (wrap64 (a0_0+a1_0)),.int .i64 t383] (0,0) _ rfl (by (with_reducible repeat (first|refine blk_drewN ?_ _|refine blk_drew ?_|refine blk_alloc ?_ _));refine blk_put (cs:=#[.int .i64 (wrap64 (a0_0+a1_0)),.int .i64 0]) ?_ 1 _ rfl;(with_reducible repeat (first|refine blk_drewN ?_ _|refine blk_drew ?_|refine blk_alloc ?_ _));refine blk_put (cs:=#[.int .i64 0,.int .i64 0]) ?_ 0 _ rfl;(with_reducible repeat (first|refine blk_drewN ?_ _|refine blk_drew ?_|refine blk_alloc ?_ _));exact BK382.out) Try.underlying55 rfl (by kernel_rfl)) rfl ?_
   exact ⟨by first|rfl|(simp [errW_none,errW_some]<;>rfl)|(simp [*,errW_none,errW_some]<;>rfl),by repeat (first|(with_reducible first|exact HB.out|apply below_alloc|apply pw_below_drewN|apply below_drew1|refine below_set ?_ GE380.out|refine below_set ?_ GE381.out|refine below_set ?_ GE382.out)|exact HB.out)⟩
end Go.Proofs.Ytoobofnpdiapgaa.P
