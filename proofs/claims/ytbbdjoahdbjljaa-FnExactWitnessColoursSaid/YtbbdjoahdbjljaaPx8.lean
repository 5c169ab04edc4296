-- Written by a program of this session (wip/mp.py), which runs the kit's print with contracts of the session's own.
import Derived.Test.YtbbdjoahdbjljaaPx0
namespace Go.Proofs.Ytbbdjoahdbjljaa.P
open Go.RowKit Go.Proofs.YtbbdjoahdbjljaaW.PrintWords Go.Proofs.YtbbdjoahdbjljaaW.PrintLast Go.Proofs.YtbbdjoahdbjljaaW.PrintMore
attribute [local go_sem] max2_int min2_int max_two min_two max_three min_three max_four min_four -- for this text's walks alone
set_option linter.unusedVariables false
set_option linter.unusedSimpArgs false
/-! ### spec_grToggles: function 77 -/
def spec_grToggles.f (l0_0:List Int) (a0_1:Bool) (a1:Int):Option (Int):=if a0_1=true then (if 0≤a1 then (if a1< (l0_0.length:Int) then (some (Go.bits .or .i64 (rd l0_0 a1) (shl .i64 1 a1))) else (none)) else (none)) else (if 0≤a1 then (if a1< (l0_0.length:Int) then (some (rd l0_0 a1)) else (none)) else (none))
set_option maxHeartbeats 8000000 in
set_option maxRecDepth 100000 in
theorem spec_grToggles.calls (A0_0:Option Addr) (c0_0:Nat) (l0_0:List Int) (a0_1:Bool) (a1:Int) (r:Int) (w:World) (hr0_0:Kd.C (Kd.int .i64) w A0_0 l0_0.length l0_0) (hc0_0:l0_0.length≤c0_0) (h:spec_grToggles.f l0_0 a0_1 a1=some r):
  Calls Try.prog 77 #[.agg #[.slice A0_0 l0_0.length c0_0,.bool a0_1],.int .i64 a1] w fun e w'=>e=.returned (.int .i64 r)∧Below w.heap.size w w':=by
 have hu28:=Try.underlying28
 have HR0_0:=Aside0.mk hr0_0
 have HC0_0:=Aside0.mk hc0_0
 clear hr0_0 hc0_0
 have HB:=Aside0.mk (Below.refl w.heap.size w)
 have H:(if a0_1=true then (if 0≤a1 then (if a1< (l0_0.length:Int) then (some (Go.bits .or .i64 (rd l0_0 a1) (shl .i64 1 a1))) else (none)) else (none)) else (if 0≤a1 then (if a1< (l0_0.length:Int) then (some (rd l0_0 a1)) else (none)) else (none)))=some r:=h
 clear h
 by_cases c3:a0_1=true
 ·subst c3
  have H1:(if 0≤a1 then (if a1< (l0_0.length:Int) then (some (Go.bits .or .i64 (rd l0_0 a1) (shl .i64 1 a1))) else (none)) else (none))=some r:=by rw [if_pos rfl] at H;exact H
  clear H
  have H:=H1
  clear H1
  by_cases c4:0≤a1
  ·rw [if_pos c4] at H
   have c4b0:decide (0≤a1)=true:=decide_eq_true c4
   clear c4
   by_cases c5:a1< (l0_0.length:Int)
   ·rw [if_pos c5] at H
    have c5b0:decide (a1< (l0_0.length:Int))=true:=decide_eq_true c5
    clear c5
    have c6b0:=eq_true (of_decide_eq_true (by first|(with_reducible assumption)|assumption):0≤a1)
    obtain ⟨ji7,hji7⟩:∃ j_:Int,(shl .i64 1 a1)=j_:=⟨_,rfl⟩
    replace H:(some (Go.bits .or .i64 (rd l0_0 a1) (ji7)))=some r:=by first|(rw [hji7] at H;exact H)|(simp only [hji7] at H ⊢;exact H)
    have hji7_:(IntKind.i64.wrap (1*2 ^ min a1.toNat 64))=ji7:=hji7
    have hji7z:a1≤64→(IntKind.i64.wrap (1*2 ^ a1.toNat))=ji7:=shl_small hji7
    have hji7u:(IntKind.i64.wrap (2 ^ min a1.toNat 64))=ji7:=by have h_:=hji7_;rw [Int.one_mul] at h_;exact h_
    have hji7v:a1≤64→(IntKind.i64.wrap (2 ^ a1.toNat))=ji7:=fun hle_=>by have h_:=hji7z hle_;rw [Int.one_mul] at h_;exact h_
    have hji7y:(wrap64 (1*2 ^ min a1.toNat 64))=ji7:=(i64_w _).symm.trans hji7_
    have hji7x:a1≤64→(wrap64 (1*2 ^ a1.toNat))=ji7:=fun h_=>(i64_w _).symm.trans (hji7z h_)
    obtain rfl:=Option.some.inj H
    go_enter Try.func77,Try.ntmps77
    go_wp2_with (first|((with_reducible refine gate_dst (N:=2) rfl ?_);refine box_event ?hg (N:=2) ?hd (cs:=#[.slice A0_0 l0_0.length c0_0,.bool true]) (t:=28) ?hr ?_;(case hd=>rfl);(case hg=>rfl);(case hr=>first|(go_simp;done)|(go_simp;rfl));intro gb189 hg w8 hbox hb;have n0_:=Aside0.mk (below_step (by repeat (first|(with_reducible first|exact HB.out|apply below_alloc|apply pw_below_drewN|apply below_drew1)|exact HB.out)) hb);have n1_:=Aside0.mk (hbox);have n2_:=Aside0.mk ((by rw [hg];exact (below_size (by repeat (first|(with_reducible first|exact HB.out|apply below_alloc|apply pw_below_drewN|apply below_drew1)|exact HB.out))):w.heap.size≤gb189));have n3_:=Aside0.mk ((by rw [hg];exact (below_size (by repeat (first|(with_reducible first|exact HB.out|apply below_alloc|apply pw_below_drewN|apply below_drew1)|exact HB.out))):w.heap.size≤gb189));clear HB;have HB:=n0_;have BK189:=n1_;have GW189:=n2_;have GE189:=n3_;clear n0_ n1_ n2_ n3_;clear hb hbox hg;have hcz9_0:w8.cell? ⟨gb189,0,none⟩=some (.slice A0_0 l0_0.length c0_0):=(blk_cell BK189.out 0).trans rfl;have hcz9_1:w8.cell? ⟨gb189,1,none⟩=some (.bool true):=(blk_cell BK189.out 1).trans rfl;have hfz9_0:=blk_frozen BK189.out 0;have hfz9_1:=blk_frozen BK189.out 1;have p190:0≤(a1:Int):=of_decide_eq_true (by first|(with_reducible assumption)|assumption);have q190:a1< (l0_0.length:Int):=of_decide_eq_true (by first|(with_reducible assumption)|assumption);obtain ⟨ad190,e190,hx190_0⟩:=Kd.at_int HR0_0.out a1 p190 q190;cases e190;replace hx190_0:=(HB.out.cell (World.block_lt_of_cell? w _ hx190_0)).trans hx190_0;replace p190:=eq_true p190;replace q190:=eq_true q190))
    repeat (go_quiet (first|((with_reducible refine gate_dst (N:=2) rfl ?_);refine box_event ?hg (N:=2) ?hd (cs:=#[.slice A0_0 l0_0.length c0_0,.bool true]) (t:=28) ?hr ?_;(case hd=>rfl);(case hg=>rfl);(case hr=>first|(go_simp;done)|(go_simp;rfl));intro gb189 hg w8 hbox hb;have n0_:=Aside0.mk (below_step (by repeat (first|(with_reducible first|exact HB.out|apply below_alloc|apply pw_below_drewN|apply below_drew1)|exact HB.out)) hb);have n1_:=Aside0.mk (hbox);have n2_:=Aside0.mk ((by rw [hg];exact (below_size (by repeat (first|(with_reducible first|exact HB.out|apply below_alloc|apply pw_below_drewN|apply below_drew1)|exact HB.out))):w.heap.size≤gb189));have n3_:=Aside0.mk ((by rw [hg];exact (below_size (by repeat (first|(with_reducible first|exact HB.out|apply below_alloc|apply pw_below_drewN|apply below_drew1)|exact HB.out))):w.heap.size≤gb189));clear HB;have HB:=n0_;have BK189:=n1_;have GW189:=n2_;have GE189:=n3_;clear n0_ n1_ n2_ n3_;clear hb hbox hg;have hcz9_0:w8.cell? ⟨gb189,0,none⟩=some (.slice A0_0 l0_0.length c0_0):=(blk_cell BK189.out 0).trans rfl;have hcz9_1:w8.cell? ⟨gb189,1,none⟩=some (.bool true):=(blk_cell BK189.out 1).trans rfl;have hfz9_0:=blk_frozen BK189.out 0;have hfz9_1:=blk_frozen BK189.out 1;have p190:0≤(a1:Int):=of_decide_eq_true (by first|(with_reducible assumption)|assumption);have q190:a1< (l0_0.length:Int):=of_decide_eq_true (by first|(with_reducible assumption)|assumption);obtain ⟨ad190,e190,hx190_0⟩:=Kd.at_int HR0_0.out a1 p190 q190;cases e190;replace hx190_0:=(HB.out.cell (World.block_lt_of_cell? w _ hx190_0)).trans hx190_0;replace p190:=eq_true p190;replace q190:=eq_true q190));try go_wp2_with (first|((with_reducible refine gate_dst (N:=2) rfl ?_);refine box_event ?hg (N:=2) ?hd (cs:=#[.slice A0_0 l0_0.length c0_0,.bool true]) (t:=28) ?hr ?_;(case hd=>rfl);(case hg=>rfl);(case hr=>first|(go_simp;done)|(go_simp;rfl));intro gb189 hg w8 hbox hb;have n0_:=Aside0.mk (below_step (by repeat (first|(with_reducible first|exact HB.out|apply below_alloc|apply pw_below_drewN|apply below_drew1)|exact HB.out)) hb);have n1_:=Aside0.mk (hbox);have n2_:=Aside0.mk ((by rw [hg];exact (below_size (by repeat (first|(with_reducible first|exact HB.out|apply below_alloc|apply pw_below_drewN|apply below_drew1)|exact HB.out))):w.heap.size≤gb189));have n3_:=Aside0.mk ((by rw [hg];exact (below_size (by repeat (first|(with_reducible first|exact HB.out|apply below_alloc|apply pw_below_drewN|apply below_drew1)|exact HB.out))):w.heap.size≤gb189));clear HB;have HB:=n0_;have BK189:=n1_;have GW189:=n2_;have GE189:=n3_;clear n0_ n1_ n2_ n3_;clear hb hbox hg;have hcz9_0:w8.cell? ⟨gb189,0,none⟩=some (.slice A0_0 l0_0.length c0_0):=(blk_cell BK189.out 0).trans rfl;have hcz9_1:w8.cell? ⟨gb189,1,none⟩=some (.bool true):=(blk_cell BK189.out 1).trans rfl;have hfz9_0:=blk_frozen BK189.out 0;have hfz9_1:=blk_frozen BK189.out 1;have p190:0≤(a1:Int):=of_decide_eq_true (by first|(with_reducible assumption)|assumption);have q190:a1< (l0_0.length:Int):=of_decide_eq_true (by first|(with_reducible assumption)|assumption);obtain ⟨ad190,e190,hx190_0⟩:=Kd.at_int HR0_0.out a1 p190 q190;cases e190;replace hx190_0:=(HB.out.cell (World.block_lt_of_cell? w _ hx190_0)).trans hx190_0;replace p190:=eq_true p190;replace q190:=eq_true q190)))
    go_ret
    exact ⟨by first|rfl|(simp [errW_none,errW_some]<;>rfl)|(simp only [← hji7];first|rfl|(simp [errW_none,errW_some]<;>rfl))|(simp [*,errW_none,errW_some]<;>rfl),by repeat (first|(with_reducible first|exact HB.out|apply below_alloc|apply pw_below_drewN|apply below_drew1|refine below_set ?_ GE189.out)|exact HB.out)⟩
   ·rw [if_neg c5] at H
    exact absurd H (by simp)
  ·rw [if_neg c4] at H
   exact absurd H (by simp)
 ·replace c3:=Bool.eq_false_iff.mpr c3
  subst c3
  have H1:(if 0≤a1 then (if a1< (l0_0.length:Int) then (some (rd l0_0 a1)) else (none)) else (none))=some r:=by rw [if_neg (show ¬ (false=true) by decide)] at H;exact H
  clear H
  have H:=H1
  clear H1
  by_cases c10:0≤a1
  ·rw [if_pos c10] at H
   have c10b0:decide (0≤a1)=true:=decide_eq_true c10
   clear c10
   by_cases c11:a1< (l0_0.length:Int)
   ·rw [if_pos c11] at H
    have c11b0:decide (a1< (l0_0.length:Int))=true:=decide_eq_true c11
    clear c11
    obtain rfl:=Option.some.inj H
    go_enter Try.func77,Try.ntmps77
    go_wp2_with (first|((with_reducible refine gate_dst (N:=2) rfl ?_);refine box_event ?hg (N:=2) ?hd (cs:=#[.slice A0_0 l0_0.length c0_0,.bool false]) (t:=28) ?hr ?_;(case hd=>rfl);(case hg=>rfl);(case hr=>first|(go_simp;done)|(go_simp;rfl));intro gb189 hg w12 hbox hb;have n0_:=Aside0.mk (below_step (by repeat (first|(with_reducible first|exact HB.out|apply below_alloc|apply pw_below_drewN|apply below_drew1)|exact HB.out)) hb);have n1_:=Aside0.mk (hbox);have n2_:=Aside0.mk ((by rw [hg];exact (below_size (by repeat (first|(with_reducible first|exact HB.out|apply below_alloc|apply pw_below_drewN|apply below_drew1)|exact HB.out))):w.heap.size≤gb189));have n3_:=Aside0.mk ((by rw [hg];exact (below_size (by repeat (first|(with_reducible first|exact HB.out|apply below_alloc|apply pw_below_drewN|apply below_drew1)|exact HB.out))):w.heap.size≤gb189));clear HB;have HB:=n0_;have BK189:=n1_;have GW189:=n2_;have GE189:=n3_;clear n0_ n1_ n2_ n3_;clear hb hbox hg;have hcz13_0:w12.cell? ⟨gb189,0,none⟩=some (.slice A0_0 l0_0.length c0_0):=(blk_cell BK189.out 0).trans rfl;have hcz13_1:w12.cell? ⟨gb189,1,none⟩=some (.bool false):=(blk_cell BK189.out 1).trans rfl;have hfz13_0:=blk_frozen BK189.out 0;have hfz13_1:=blk_frozen BK189.out 1;have p191:0≤(a1:Int):=of_decide_eq_true (by first|(with_reducible assumption)|assumption);have q191:a1< (l0_0.length:Int):=of_decide_eq_true (by first|(with_reducible assumption)|assumption);obtain ⟨ad191,e191,hx191_0⟩:=Kd.at_int HR0_0.out a1 p191 q191;cases e191;replace hx191_0:=(HB.out.cell (World.block_lt_of_cell? w _ hx191_0)).trans hx191_0;replace p191:=eq_true p191;replace q191:=eq_true q191))
    repeat (go_quiet (first|((with_reducible refine gate_dst (N:=2) rfl ?_);refine box_event ?hg (N:=2) ?hd (cs:=#[.slice A0_0 l0_0.length c0_0,.bool false]) (t:=28) ?hr ?_;(case hd=>rfl);(case hg=>rfl);(case hr=>first|(go_simp;done)|(go_simp;rfl));intro gb189 hg w12 hbox hb;have n0_:=Aside0.mk (below_step (by repeat (first|(with_reducible first|exact HB.out|apply below_alloc|apply pw_below_drewN|apply below_drew1)|exact HB.out)) hb);have n1_:=Aside0.mk (hbox);have n2_:=Aside0.mk ((by rw [hg];exact (below_size (by repeat (first|(with_reducible first|exact HB.out|apply below_alloc|apply pw_below_drewN|apply below_drew1)|exact HB.out))):w.heap.size≤gb189));have n3_:=Aside0.mk ((by rw [hg];exact (below_size (by repeat (first|(with_reducible first|exact HB.out|apply below_alloc|apply pw_below_drewN|apply below_drew1)|exact HB.out))):w.heap.size≤gb189));clear HB;have HB:=n0_;have BK189:=n1_;have GW189:=n2_;have GE189:=n3_;clear n0_ n1_ n2_ n3_;clear hb hbox hg;have hcz13_0:w12.cell? ⟨gb189,0,none⟩=some (.slice A0_0 l0_0.length c0_0):=(blk_cell BK189.out 0).trans rfl;have hcz13_1:w12.cell? ⟨gb189,1,none⟩=some (.bool false):=(blk_cell BK189.out 1).trans rfl;have hfz13_0:=blk_frozen BK189.out 0;have hfz13_1:=blk_frozen BK189.out 1;have p191:0≤(a1:Int):=of_decide_eq_true (by first|(with_reducible assumption)|assumption);have q191:a1< (l0_0.length:Int):=of_decide_eq_true (by first|(with_reducible assumption)|assumption);obtain ⟨ad191,e191,hx191_0⟩:=Kd.at_int HR0_0.out a1 p191 q191;cases e191;replace hx191_0:=(HB.out.cell (World.block_lt_of_cell? w _ hx191_0)).trans hx191_0;replace p191:=eq_true p191;replace q191:=eq_true q191));try go_wp2_with (first|((with_reducible refine gate_dst (N:=2) rfl ?_);refine box_event ?hg (N:=2) ?hd (cs:=#[.slice A0_0 l0_0.length c0_0,.bool false]) (t:=28) ?hr ?_;(case hd=>rfl);(case hg=>rfl);(case hr=>first|(go_simp;done)|(go_simp;rfl));intro gb189 hg w12 hbox hb;have n0_:=Aside0.mk (below_step (by repeat (first|(with_reducible first|exact HB.out|apply below_alloc|apply pw_below_drewN|apply below_drew1)|exact HB.out)) hb);have n1_:=Aside0.mk (hbox);have n2_:=Aside0.mk ((by rw [hg];exact (below_size (by repeat (first|(with_reducible first|exact HB.out|apply below_alloc|apply pw_below_drewN|apply below_drew1)|exact HB.out))):w.heap.size≤gb189));have n3_:=Aside0.mk ((by rw [hg];exact (below_size (by repeat (first|(with_reducible first|exact HB.out|apply below_alloc|apply pw_below_drewN|apply below_drew1)|exact HB.out))):w.heap.size≤gb189));clear HB;have HB:=n0_;have BK189:=n1_;have GW189:=n2_;have GE189:=n3_;clear n0_ n1_ n2_ n3_;clear hb hbox hg;have hcz13_0:w12.cell? ⟨gb189,0,none⟩=some (.slice A0_0 l0_0.length c0_0):=(blk_cell BK189.out 0).trans rfl;have hcz13_1:w12.cell? ⟨gb189,1,none⟩=some (.bool false):=(blk_cell BK189.out 1).trans rfl;have hfz13_0:=blk_frozen BK189.out 0;have hfz13_1:=blk_frozen BK189.out 1;have p191:0≤(a1:Int):=of_decide_eq_true (by first|(with_reducible assumption)|assumption);have q191:a1< (l0_0.length:Int):=of_decide_eq_true (by first|(with_reducible assumption)|assumption);obtain ⟨ad191,e191,hx191_0⟩:=Kd.at_int HR0_0.out a1 p191 q191;cases e191;replace hx191_0:=(HB.out.cell (World.block_lt_of_cell? w _ hx191_0)).trans hx191_0;replace p191:=eq_true p191;replace q191:=eq_true q191)))
    go_ret
    exact ⟨by first|rfl|(simp [errW_none,errW_some]<;>rfl)|(simp [*,errW_none,errW_some]<;>rfl),by repeat (first|(with_reducible first|exact HB.out|apply below_alloc|apply pw_below_drewN|apply below_drew1|refine below_set ?_ GE189.out)|exact HB.out)⟩
   ·rw [if_neg c11] at H
    exact absurd H (by simp)
  ·rw [if_neg c10] at H
   exact absurd H (by simp)
/-! ### impl_Graph_toggles: function 79 -/
def impl_Graph_toggles.f (l0_0:List Int) (a0_1:Bool) (a1:Int):Option (Int):=if a0_1=true then (if 0≤a1 then (if a1< (l0_0.length:Int) then (some (Go.bits .or .i64 (rd l0_0 a1) (shl .i64 1 a1))) else (none)) else (none)) else (if 0≤a1 then (if a1< (l0_0.length:Int) then (some (rd l0_0 a1)) else (none)) else (none))
set_option maxHeartbeats 8000000 in
set_option maxRecDepth 100000 in
theorem impl_Graph_toggles.calls (A0_0:Option Addr) (c0_0:Nat) (l0_0:List Int) (a0_1:Bool) (a1:Int) (r:Int) (w:World) (hr0_0:Kd.C (Kd.int .i64) w A0_0 l0_0.length l0_0) (hc0_0:l0_0.length≤c0_0) (h:impl_Graph_toggles.f l0_0 a0_1 a1=some r):
  Calls Try.prog 79 #[.agg #[.slice A0_0 l0_0.length c0_0,.bool a0_1],.int .i64 a1] w fun e w'=>e=.returned (.int .i64 r)∧Below w.heap.size w w':=by
 have hu28:=Try.underlying28
 have HR0_0:=Aside0.mk hr0_0
 have HC0_0:=Aside0.mk hc0_0
 clear hr0_0 hc0_0
 have HB:=Aside0.mk (Below.refl w.heap.size w)
 have H:(if a0_1=true then (if 0≤a1 then (if a1< (l0_0.length:Int) then (some (Go.bits .or .i64 (rd l0_0 a1) (shl .i64 1 a1))) else (none)) else (none)) else (if 0≤a1 then (if a1< (l0_0.length:Int) then (some (rd l0_0 a1)) else (none)) else (none)))=some r:=h
 clear h
 by_cases c3:a0_1=true
 ·subst c3
  have H1:(if 0≤a1 then (if a1< (l0_0.length:Int) then (some (Go.bits .or .i64 (rd l0_0 a1) (shl .i64 1 a1))) else (none)) else (none))=some r:=by rw [if_pos rfl] at H;exact H
  clear H
  have H:=H1
  clear H1
  by_cases c4:0≤a1
  ·rw [if_pos c4] at H
   have c4b0:decide (0≤a1)=true:=decide_eq_true c4
   clear c4
   by_cases c5:a1< (l0_0.length:Int)
   ·rw [if_pos c5] at H
    have c5b0:decide (a1< (l0_0.length:Int))=true:=decide_eq_true c5
    clear c5
    have c6b0:=eq_true (of_decide_eq_true (by first|(with_reducible assumption)|assumption):0≤a1)
    obtain ⟨ji7,hji7⟩:∃ j_:Int,(shl .i64 1 a1)=j_:=⟨_,rfl⟩
    replace H:(some (Go.bits .or .i64 (rd l0_0 a1) (ji7)))=some r:=by first|(rw [hji7] at H;exact H)|(simp only [hji7] at H ⊢;exact H)
    have hji7_:(IntKind.i64.wrap (1*2 ^ min a1.toNat 64))=ji7:=hji7
    have hji7z:a1≤64→(IntKind.i64.wrap (1*2 ^ a1.toNat))=ji7:=shl_small hji7
    have hji7u:(IntKind.i64.wrap (2 ^ min a1.toNat 64))=ji7:=by have h_:=hji7_;rw [Int.one_mul] at h_;exact h_
    have hji7v:a1≤64→(IntKind.i64.wrap (2 ^ a1.toNat))=ji7:=fun hle_=>by have h_:=hji7z hle_;rw [Int.one_mul] at h_;exact h_
    have hji7y:(wrap64 (1*2 ^ min a1.toNat 64))=ji7:=(i64_w _).symm.trans hji7_
    have hji7x:a1≤64→(wrap64 (1*2 ^ a1.toNat))=ji7:=fun h_=>(i64_w _).symm.trans (hji7z h_)
    obtain rfl:=Option.some.inj H
    go_enter Try.func79,Try.ntmps79
    go_wp2_with (first|((with_reducible refine gate_dst (N:=2) rfl ?_);refine box_event ?hg (N:=2) ?hd (cs:=#[.slice A0_0 l0_0.length c0_0,.bool true]) (t:=28) ?hr ?_;(case hd=>rfl);(case hg=>rfl);(case hr=>first|(go_simp;done)|(go_simp;rfl));intro gb206 hg w8 hbox hb;have n0_:=Aside0.mk (below_step (by repeat (first|(with_reducible first|exact HB.out|apply below_alloc|apply pw_below_drewN|apply below_drew1)|exact HB.out)) hb);have n1_:=Aside0.mk (hbox);have n2_:=Aside0.mk ((by rw [hg];exact (below_size (by repeat (first|(with_reducible first|exact HB.out|apply below_alloc|apply pw_below_drewN|apply below_drew1)|exact HB.out))):w.heap.size≤gb206));have n3_:=Aside0.mk ((by rw [hg];exact (below_size (by repeat (first|(with_reducible first|exact HB.out|apply below_alloc|apply pw_below_drewN|apply below_drew1)|exact HB.out))):w.heap.size≤gb206));clear HB;have HB:=n0_;have BK206:=n1_;have GW206:=n2_;have GE206:=n3_;clear n0_ n1_ n2_ n3_;clear hb hbox hg;have hcz9_0:w8.cell? ⟨gb206,0,none⟩=some (.slice A0_0 l0_0.length c0_0):=(blk_cell BK206.out 0).trans rfl;have hcz9_1:w8.cell? ⟨gb206,1,none⟩=some (.bool true):=(blk_cell BK206.out 1).trans rfl;have hfz9_0:=blk_frozen BK206.out 0;have hfz9_1:=blk_frozen BK206.out 1;have p207:0≤(a1:Int):=of_decide_eq_true (by first|(with_reducible assumption)|assumption);have q207:a1< (l0_0.length:Int):=of_decide_eq_true (by first|(with_reducible assumption)|assumption);obtain ⟨ad207,e207,hx207_0⟩:=Kd.at_int HR0_0.out a1 p207 q207;cases e207;replace hx207_0:=(HB.out.cell (World.block_lt_of_cell? w _ hx207_0)).trans hx207_0;replace p207:=eq_true p207;replace q207:=eq_true q207))
    repeat (go_quiet (first|((with_reducible refine gate_dst (N:=2) rfl ?_);refine box_event ?hg (N:=2) ?hd (cs:=#[.slice A0_0 l0_0.length c0_0,.bool true]) (t:=28) ?hr ?_;(case hd=>rfl);(case hg=>rfl);(case hr=>first|(go_simp;done)|(go_simp;rfl));intro gb206 hg w8 hbox hb;have n0_:=Aside0.mk (below_step (by repeat (first|(with_reducible first|exact HB.out|apply below_alloc|apply pw_below_drewN|apply below_drew1)|exact HB.out)) hb);have n1_:=Aside0.mk (hbox);have n2_:=Aside0.mk ((by rw [hg];exact (below_size (by repeat (first|(with_reducible first|exact HB.out|apply below_alloc|apply pw_below_drewN|apply below_drew1)|exact HB.out))):w.heap.size≤gb206));have n3_:=Aside0.mk ((by rw [hg];exact (below_size (by repeat (first|(with_reducible first|exact HB.out|apply below_alloc|apply pw_below_drewN|apply below_drew1)|exact HB.out))):w.heap.size≤gb206));clear HB;have HB:=n0_;have BK206:=n1_;have GW206:=n2_;have GE206:=n3_;clear n0_ n1_ n2_ n3_;clear hb hbox hg;have hcz9_0:w8.cell? ⟨gb206,0,none⟩=some (.slice A0_0 l0_0.length c0_0):=(blk_cell BK206.out 0).trans rfl;have hcz9_1:w8.cell? ⟨gb206,1,none⟩=some (.bool true):=(blk_cell BK206.out 1).trans rfl;have hfz9_0:=blk_frozen BK206.out 0;have hfz9_1:=blk_frozen BK206.out 1;have p207:0≤(a1:Int):=of_decide_eq_true (by first|(with_reducible assumption)|assumption);have q207:a1< (l0_0.length:Int):=of_decide_eq_true (by first|(with_reducible assumption)|assumption);obtain ⟨ad207,e207,hx207_0⟩:=Kd.at_int HR0_0.out a1 p207 q207;cases e207;replace hx207_0:=(HB.out.cell (World.block_lt_of_cell? w _ hx207_0)).trans hx207_0;replace p207:=eq_true p207;replace q207:=eq_true q207));try go_wp2_with (first|((with_reducible refine gate_dst (N:=2) rfl ?_);refine box_event ?hg (N:=2) ?hd (cs:=#[.slice A0_0 l0_0.length c0_0,.bool true]) (t:=28) ?hr ?_;(case hd=>rfl);(case hg=>rfl);(case hr=>first|(go_simp;done)|(go_simp;rfl));intro gb206 hg w8 hbox hb;have n0_:=Aside0.mk (below_step (by repeat (first|(with_reducible first|exact HB.out|apply below_alloc|apply pw_below_drewN|apply below_drew1)|exact HB.out)) hb);have n1_:=Aside0.mk (hbox);have n2_:=Aside0.mk ((by rw [hg];exact (below_size (by repeat (first|(with_reducible first|exact HB.out|apply below_alloc|apply pw_below_drewN|apply below_drew1)|exact HB.out))):w.heap.size≤gb206));have n3_:=Aside0.mk ((by rw [hg];exact (below_size (by repeat (first|(with_reducible first|exact HB.out|apply below_alloc|apply pw_below_drewN|apply below_drew1)|exact HB.out))):w.heap.size≤gb206));clear HB;have HB:=n0_;have BK206:=n1_;have GW206:=n2_;have GE206:=n3_;clear n0_ n1_ n2_ n3_;clear hb hbox hg;have hcz9_0:w8.cell? ⟨gb206,0,none⟩=some (.slice A0_0 l0_0.length c0_0):=(blk_cell BK206.out 0).trans rfl;have hcz9_1:w8.cell? ⟨gb206,1,none⟩=some (.bool true):=(blk_cell BK206.out 1).trans rfl;have hfz9_0:=blk_frozen BK206.out 0;have hfz9_1:=blk_frozen BK206.out 1;have p207:0≤(a1:Int):=of_decide_eq_true (by first|(with_reducible assumption)|assumption);have q207:a1< (l0_0.length:Int):=of_decide_eq_true (by first|(with_reducible assumption)|assumption);obtain ⟨ad207,e207,hx207_0⟩:=Kd.at_int HR0_0.out a1 p207 q207;cases e207;replace hx207_0:=(HB.out.cell (World.block_lt_of_cell? w _ hx207_0)).trans hx207_0;replace p207:=eq_true p207;replace q207:=eq_true q207)))
    go_ret
    exact ⟨by first|rfl|(simp [errW_none,errW_some]<;>rfl)|(simp only [← hji7];first|rfl|(simp [errW_none,errW_some]<;>rfl))|(simp [*,errW_none,errW_some]<;>rfl),by repeat (first|(with_reducible first|exact HB.out|apply below_alloc|apply pw_below_drewN|apply below_drew1|refine below_set ?_ GE206.out)|exact HB.out)⟩
   ·rw [if_neg c5] at H
    exact absurd H (by simp)
  ·rw [if_neg c4] at H
   exact absurd H (by simp)
 ·replace c3:=Bool.eq_false_iff.mpr c3
  subst c3
  have H1:(if 0≤a1 then (if a1< (l0_0.length:Int) then (some (rd l0_0 a1)) else (none)) else (none))=some r:=by rw [if_neg (show ¬ (false=true) by decide)] at H;exact H
  clear H
  have H:=H1
  clear H1
  by_cases c10:0≤a1
  ·rw [if_pos c10] at H
   have c10b0:decide (0≤a1)=true:=decide_eq_true c10
   clear c10
   by_cases c11:a1< (l0_0.length:Int)
   ·rw [if_pos c11] at H
    have c11b0:decide (a1< (l0_0.length:Int))=true:=decide_eq_true c11
    clear c11
    obtain rfl:=Option.some.inj H
    go_enter Try.func79,Try.ntmps79
    go_wp2_with (first|((with_reducible refine gate_dst (N:=2) rfl ?_);refine box_event ?hg (N:=2) ?hd (cs:=#[.slice A0_0 l0_0.length c0_0,.bool false]) (t:=28) ?hr ?_;(case hd=>rfl);(case hg=>rfl);(case hr=>first|(go_simp;done)|(go_simp;rfl));intro gb206 hg w12 hbox hb;have n0_:=Aside0.mk (below_step (by repeat (first|(with_reducible first|exact HB.out|apply below_alloc|apply pw_below_drewN|apply below_drew1)|exact HB.out)) hb);have n1_:=Aside0.mk (hbox);have n2_:=Aside0.mk ((by rw [hg];exact (below_size (by repeat (first|(with_reducible first|exact HB.out|apply below_alloc|apply pw_below_drewN|apply below_drew1)|exact HB.out))):w.heap.size≤gb206));have n3_:=Aside0.mk ((by rw [hg];exact (below_size (by repeat (first|(with_reducible first|exact HB.out|apply below_alloc|apply pw_below_drewN|apply below_drew1)|exact HB.out))):w.heap.size≤gb206));clear HB;have HB:=n0_;have BK206:=n1_;have GW206:=n2_;have GE206:=n3_;clear n0_ n1_ n2_ n3_;clear hb hbox hg;have hcz13_0:w12.cell? ⟨gb206,0,none⟩=some (.slice A0_0 l0_0.length c0_0):=(blk_cell BK206.out 0).trans rfl;have hcz13_1:w12.cell? ⟨gb206,1,none⟩=some (.bool false):=(blk_cell BK206.out 1).trans rfl;have hfz13_0:=blk_frozen BK206.out 0;have hfz13_1:=blk_frozen BK206.out 1;have p208:0≤(a1:Int):=of_decide_eq_true (by first|(with_reducible assumption)|assumption);have q208:a1< (l0_0.length:Int):=of_decide_eq_true (by first|(with_reducible assumption)|assumption);obtain ⟨ad208,e208,hx208_0⟩:=Kd.at_int HR0_0.out a1 p208 q208;cases e208;replace hx208_0:=(HB.out.cell (World.block_lt_of_cell? w _ hx208_0)).trans hx208_0;replace p208:=eq_true p208;replace q208:=eq_true q208))
    repeat (go_quiet (first|((with_reducible refine gate_dst (N:=2) rfl ?_);refine box_event ?hg (N:=2) ?hd (cs:=#[.slice A0_0 l0_0.length c0_0,.bool false]) (t:=28) ?hr ?_;(case hd=>rfl);(case hg=>rfl);(case hr=>first|(go_simp;done)|(go_simp;rfl));intro gb206 hg w12 hbox hb;have n0_:=Aside0.mk (below_step (by repeat (first|(with_reducible first|exact HB.out|apply below_alloc|apply pw_below_drewN|apply below_drew1)|exact HB.out)) hb);have n1_:=Aside0.mk (hbox);have n2_:=Aside0.mk ((by rw [hg];exact (below_size (by repeat (first|(with_reducible first|exact HB.out|apply below_alloc|apply pw_below_drewN|apply below_drew1)|exact HB.out))):w.heap.size≤gb206));have n3_:=Aside0.mk ((by rw [hg];exact (below_size (by repeat (first|(with_reducible first|exact HB.out|apply below_alloc|apply pw_below_drewN|apply below_drew1)|exact HB.out))):w.heap.size≤gb206));clear HB;have HB:=n0_;have BK206:=n1_;have GW206:=n2_;have GE206:=n3_;clear n0_ n1_ n2_ n3_;clear hb hbox hg;have hcz13_0:w12.cell? ⟨gb206,0,none⟩=some (.slice A0_0 l0_0.length c0_0):=(blk_cell BK206.out 0).trans rfl;have hcz13_1:w12.cell? ⟨gb206,1,none⟩=some (.bool false):=(blk_cell BK206.out 1).trans rfl;have hfz13_0:=blk_frozen BK206.out 0;have hfz13_1:=blk_frozen BK206.out 1;have p208:0≤(a1:Int):=of_decide_eq_true (by first|(with_reducible assumption)|assumption);have q208:a1< (l0_0.length:Int):=of_decide_eq_true (by first|(with_reducible assumption)|assumption);obtain ⟨ad208,e208,hx208_0⟩:=Kd.at_int HR0_0.out a1 p208 q208;cases e208;replace hx208_0:=(HB.out.cell (World.block_lt_of_cell? w _ hx208_0)).trans hx208_0;replace p208:=eq_true p208;replace q208:=eq_true q208));try go_wp2_with (first|((with_reducible refine gate_dst (N:=2) rfl ?_);refine box_event ?hg (N:=2) ?hd (cs:=#[.slice A0_0 l0_0.length c0_0,.bool false]) (t:=28) ?hr ?_;(case hd=>rfl);(case hg=>rfl);(case hr=>first|(go_simp;done)|(go_simp;rfl));intro gb206 hg w12 hbox hb;have n0_:=Aside0.mk (below_step (by repeat (first|(with_reducible first|exact HB.out|apply below_alloc|apply pw_below_drewN|apply below_drew1)|exact HB.out)) hb);have n1_:=Aside0.mk (hbox);have n2_:=Aside0.mk ((by rw [hg];exact (below_size (by repeat (first|(with_reducible first|exact HB.out|apply below_alloc|apply pw_below_drewN|apply below_drew1)|exact HB.out))):w.heap.size≤gb206));have n3_:=Aside0.mk ((by rw [hg];exact (below_size (by repeat (first|(with_reducible first|exact HB.out|apply below_alloc|apply pw_below_drewN|apply below_drew1)|exact HB.out))):w.heap.size≤gb206));clear HB;have HB:=n0_;have BK206:=n1_;have GW206:=n2_;have GE206:=n3_;clear n0_ n1_ n2_ n3_;clear hb hbox hg;have hcz13_0:w12.cell? ⟨gb206,0,none⟩=some (.slice A0_0 l0_0.length c0_0):=(blk_cell BK206.out 0).trans rfl;have hcz13_1:w12.cell? ⟨gb206,1,none⟩=some (.bool false):=(blk_cell BK206.out 1).trans rfl;have hfz13_0:=blk_frozen BK206.out 0;have hfz13_1:=blk_frozen BK206.out 1;have p208:0≤(a1:Int):=of_decide_eq_true (by first|(with_reducible assumption)|assumption);have q208:a1< (l0_0.length:Int):=of_decide_eq_true (by first|(with_reducible assumption)|assumption);obtain ⟨ad208,e208,hx208_0⟩:=Kd.at_int HR0_0.out a1 p208 q208;cases e208;replace hx208_0:=(HB.out.cell (World.block_lt_of_cell? w _ hx208_0)).trans hx208_0;replace p208:=eq_true p208;replace q208:=eq_true q208)))
    go_ret
    exact ⟨by first|rfl|(simp [errW_none,errW_some]<;>rfl)|(simp [*,errW_none,errW_some]<;>rfl),by repeat (first|(with_reducible first|exact HB.out|apply below_alloc|apply pw_below_drewN|apply below_drew1|refine below_set ?_ GE206.out)|exact HB.out)⟩
   ·rw [if_neg c11] at H
    exact absurd H (by simp)
  ·rw [if_neg c10] at H
   exact absurd H (by simp)
end Go.Proofs.Ytbbdjoahdbjljaa.P
