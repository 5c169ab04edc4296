-- Written by a program of this session (wip/mp.py), which runs the kit's print with contracts of the session's own.
import Derived.Test.YtbbdjoahdbjljaaPx0
import Derived.Test.YtbbdjoahdbjljaaPx1
namespace Go.Proofs.Ytbbdjoahdbjljaa.P
open Go.RowKit Go.Proofs.YtbbdjoahdbjljaaW.PrintWords Go.Proofs.YtbbdjoahdbjljaaW.PrintLast Go.Proofs.YtbbdjoahdbjljaaW.PrintMore
attribute [local go_sem] max2_int min2_int max_two min_two max_three min_three max_four min_four -- for this text's walks alone
set_option linter.unusedVariables false
set_option linter.unusedSimpArgs false
/-! ### impl_isGraph: function 71 -/
mutual
def impl_isGraph.l0:Nat→Int→List Int→Int→Int→List Int→Bool→Option (Bool)
 |0,_,_,_,_,_,_=>none
 |k+1,x3,x14,x15,x16,x140000,x140001=>if x16< x15 then (if 0≤x16 then (if x16< (x14.length:Int) then ((impl_whole.f x3).bind fun t142=>((impl_in.f (rd x14 x16) 0 t142).bind fun t143=>(if t143=true then ((impl_has.f (rd x14 x16) x16).bind fun t144=>(impl_isGraph.j1 k x3 x16 (rd x14 x16) x14 x15 x16 t144 x140000 x140001)) else (impl_isGraph.j1 k x3 x16 (rd x14 x16) x14 x15 x16 true x140000 x140001)))) else (none)) else (none)) else (some true)
def impl_isGraph.j1:Nat→Int→Int→Int→List Int→Int→Int→Bool→List Int→Bool→Option (Bool)
 |0,_,_,_,_,_,_,_,_,_=>none
 |k+1,x3,x4,x5,x14,x15,x16,x30,x140000,x140001=>if x30=true then (some false) else (impl_isGraph.l1 k x3 x4 x5 x14 x15 x16 x4 0 x140000 x140001)
def impl_isGraph.l1:Nat→Int→Int→Int→List Int→Int→Int→Int→Int→List Int→Bool→Option (Bool)
 |0,_,_,_,_,_,_,_,_,_,_=>none
 |k+1,x3,x4,x5,x14,x15,x16,x31,x32,x140000,x140001=>if x32< x31 then ((impl_has.f x5 x32).bind fun t145=>(if 0≤x32 then (if x32< (x140000.length:Int) then ((impl_has.f (rd x140000 x32) x4).bind fun t147=>(if (t145 !=t147)=true then (some false) else (impl_isGraph.l1 k x3 x4 x5 x14 x15 x16 x31 (wrap64 (x32+1)) x140000 x140001))) else (none)) else (none))) else (impl_isGraph.l0 k x3 x14 x15 (wrap64 (x16+1)) x140000 x140001)
end
def impl_isGraph.f (k:Nat) (l0_0:List Int) (a0_1:Bool):Option (Bool):=(impl_isCount.f (l0_0.length:Int)).bind fun t140=>(if t140=true then (impl_isGraph.l0 k (l0_0.length:Int) l0_0 (l0_0.length:Int) 0 l0_0 a0_1) else (some false))
set_option maxHeartbeats 8000000 in
set_option maxRecDepth 100000 in
theorem impl_isGraph.calls (k:Nat) (A0_0:Option Addr) (c0_0:Nat) (l0_0:List Int) (a0_1:Bool) (r:Bool) (w:World) (hr0_0:Kd.C (Kd.int .i64) w A0_0 l0_0.length l0_0) (hc0_0:l0_0.length≤c0_0) (h:impl_isGraph.f k l0_0 a0_1=some r):
  Calls Try.prog 71 #[.agg #[.slice A0_0 l0_0.length c0_0,.bool a0_1]] w fun e w'=>e=.returned (.bool r)∧Below w.heap.size w w':=by
 have hu28:=Try.underlying28
 have HR0_0:=Aside0.mk hr0_0
 have HC0_0:=Aside0.mk hc0_0
 clear hr0_0 hc0_0
 have HB:=Aside0.mk (Below.refl w.heap.size w)
 have H:((impl_isCount.f (l0_0.length:Int)).bind fun t140=>(if t140=true then (impl_isGraph.l0 k (l0_0.length:Int) l0_0 (l0_0.length:Int) 0 l0_0 a0_1) else (some false)))=some r:=h
 clear h
 replace H:=Option.bind_eq_some_iff.mp H
 obtain ⟨t140,A20,H⟩:=H
 replace H:(if t140=true then (impl_isGraph.l0 k (l0_0.length:Int) l0_0 (l0_0.length:Int) 0 l0_0 a0_1) else (some false))=some r:=H
 have A2:=Aside0.mk A20
 clear A20
 by_cases c3:t140=true
 ·subst c3
  have H1:(impl_isGraph.l0 k (l0_0.length:Int) l0_0 (l0_0.length:Int) 0 l0_0 a0_1)=some r:=by rw [if_pos rfl] at H;exact H
  clear H
  have H:=H1
  clear H1
  have H':=Aside0.mk H
  clear H
  go_enter Try.func71,Try.ntmps71
  go_wp2_with (first|((with_reducible refine gate_dst (N:=1) rfl ?_);refine box_event ?hg (N:=1) ?hd (cs:=#[.slice A0_0 l0_0.length c0_0,.bool a0_1]) (t:=28) ?hr ?_;(case hd=>rfl);(case hg=>rfl);(case hr=>first|(go_simp;done)|(go_simp;rfl));intro gb139 hg w4 hbox hb;have n0_:=Aside0.mk (below_step (by repeat (first|(with_reducible first|exact HB.out|apply below_alloc|apply pw_below_drewN|apply below_drew1)|exact HB.out)) hb);have n1_:=Aside0.mk (hbox);have n2_:=Aside0.mk ((by rw [hg];exact (below_size (by repeat (first|(with_reducible first|exact HB.out|apply below_alloc|apply pw_below_drewN|apply below_drew1)|exact HB.out))):w.heap.size≤gb139));have n3_:=Aside0.mk ((by rw [hg];exact (below_size (by repeat (first|(with_reducible first|exact HB.out|apply below_alloc|apply pw_below_drewN|apply below_drew1)|exact HB.out))):w.heap.size≤gb139));clear HB;have HB:=n0_;have BK139:=n1_;have GW139:=n2_;have GE139:=n3_;clear n0_ n1_ n2_ n3_;clear hb hbox hg;have hcz5_0:w4.cell? ⟨gb139,0,none⟩=some (.slice A0_0 l0_0.length c0_0):=(blk_cell BK139.out 0).trans rfl;have hcz5_1:w4.cell? ⟨gb139,1,none⟩=some (.bool a0_1):=(blk_cell BK139.out 1).trans rfl;have hfz5_0:=blk_frozen BK139.out 0;have hfz5_1:=blk_frozen BK139.out 1)|(go_at_call 95;(with_reducible refine (impl_isCount.calls (l0_0.length:Int) true _ A2.out).mono ?_);rintro e w' ⟨rfl,⟨nd,rfl⟩⟩;(try first|exact ⟨rfl,_,World.drewN_drewN _ _ _⟩|exact ⟨rfl,_,Eq.trans (World.drewN_drewN _ _ _) (congrArg (World.drewN _) (Nat.add_assoc _ _ _))⟩)))
  repeat (go_quiet (first|((with_reducible refine gate_dst (N:=1) rfl ?_);refine box_event ?hg (N:=1) ?hd (cs:=#[.slice A0_0 l0_0.length c0_0,.bool a0_1]) (t:=28) ?hr ?_;(case hd=>rfl);(case hg=>rfl);(case hr=>first|(go_simp;done)|(go_simp;rfl));intro gb139 hg w4 hbox hb;have n0_:=Aside0.mk (below_step (by repeat (first|(with_reducible first|exact HB.out|apply below_alloc|apply pw_below_drewN|apply below_drew1)|exact HB.out)) hb);have n1_:=Aside0.mk (hbox);have n2_:=Aside0.mk ((by rw [hg];exact (below_size (by repeat (first|(with_reducible first|exact HB.out|apply below_alloc|apply pw_below_drewN|apply below_drew1)|exact HB.out))):w.heap.size≤gb139));have n3_:=Aside0.mk ((by rw [hg];exact (below_size (by repeat (first|(with_reducible first|exact HB.out|apply below_alloc|apply pw_below_drewN|apply below_drew1)|exact HB.out))):w.heap.size≤gb139));clear HB;have HB:=n0_;have BK139:=n1_;have GW139:=n2_;have GE139:=n3_;clear n0_ n1_ n2_ n3_;clear hb hbox hg;have hcz5_0:w4.cell? ⟨gb139,0,none⟩=some (.slice A0_0 l0_0.length c0_0):=(blk_cell BK139.out 0).trans rfl;have hcz5_1:w4.cell? ⟨gb139,1,none⟩=some (.bool a0_1):=(blk_cell BK139.out 1).trans rfl;have hfz5_0:=blk_frozen BK139.out 0;have hfz5_1:=blk_frozen BK139.out 1)|(go_at_call 95;(with_reducible refine (impl_isCount.calls (l0_0.length:Int) true _ A2.out).mono ?_);rintro e w' ⟨rfl,⟨nd,rfl⟩⟩;(try first|exact ⟨rfl,_,World.drewN_drewN _ _ _⟩|exact ⟨rfl,_,Eq.trans (World.drewN_drewN _ _ _) (congrArg (World.drewN _) (Nat.add_assoc _ _ _))⟩)));try go_wp2_with (first|((with_reducible refine gate_dst (N:=1) rfl ?_);refine box_event ?hg (N:=1) ?hd (cs:=#[.slice A0_0 l0_0.length c0_0,.bool a0_1]) (t:=28) ?hr ?_;(case hd=>rfl);(case hg=>rfl);(case hr=>first|(go_simp;done)|(go_simp;rfl));intro gb139 hg w4 hbox hb;have n0_:=Aside0.mk (below_step (by repeat (first|(with_reducible first|exact HB.out|apply below_alloc|apply pw_below_drewN|apply below_drew1)|exact HB.out)) hb);have n1_:=Aside0.mk (hbox);have n2_:=Aside0.mk ((by rw [hg];exact (below_size (by repeat (first|(with_reducible first|exact HB.out|apply below_alloc|apply pw_below_drewN|apply below_drew1)|exact HB.out))):w.heap.size≤gb139));have n3_:=Aside0.mk ((by rw [hg];exact (below_size (by repeat (first|(with_reducible first|exact HB.out|apply below_alloc|apply pw_below_drewN|apply below_drew1)|exact HB.out))):w.heap.size≤gb139));clear HB;have HB:=n0_;have BK139:=n1_;have GW139:=n2_;have GE139:=n3_;clear n0_ n1_ n2_ n3_;clear hb hbox hg;have hcz5_0:w4.cell? ⟨gb139,0,none⟩=some (.slice A0_0 l0_0.length c0_0):=(blk_cell BK139.out 0).trans rfl;have hcz5_1:w4.cell? ⟨gb139,1,none⟩=some (.bool a0_1):=(blk_cell BK139.out 1).trans rfl;have hfz5_0:=blk_frozen BK139.out 0;have hfz5_1:=blk_frozen BK139.out 1)|(go_at_call 95;(with_reducible refine (impl_isCount.calls (l0_0.length:Int) true _ A2.out).mono ?_);rintro e w' ⟨rfl,⟨nd,rfl⟩⟩;(try first|exact ⟨rfl,_,World.drewN_drewN _ _ _⟩|exact ⟨rfl,_,Eq.trans (World.drewN_drewN _ _ _) (congrArg (World.drewN _) (Nat.add_assoc _ _ _))⟩))))
  go_loopg [16] k (fun kq v16 w'=>∃ (x16_1:Int),v16=.int .i64 x16_1∧Aside0 (impl_isGraph.l0 kq (l0_0.length:Int) l0_0 (l0_0.length:Int) x16_1 l0_0 a0_1=some r)∧Aside0 (kq≤k)∧Aside0 (w'.heap[gb139]?=some (.cells #[(.slice A0_0 l0_0.length c0_0),.bool a0_1] 28 (0,0)))∧Aside0 (Below w.heap.size w w'))
  case atStart=>exact ⟨(0),(by first|rfl|(simp;done)|(simp [*];done)),H',⟨Nat.le_refl _⟩,⟨by (with_reducible repeat (first|refine blk_drewN ?_ _|refine blk_drew ?_|refine blk_alloc ?_ _));exact BK139.out⟩,⟨by repeat (first|(with_reducible first|exact HB.out|apply below_alloc|apply pw_below_drewN|apply below_drew1|refine below_set ?_ GE139.out)|exact HB.out)⟩⟩
  case round=>
   clear H'
   (try clear p2);(try clear c3);(try clear hcz5_0);(try clear hcz5_1);(try clear hfz5_0);(try clear hfz5_1)
   obtain ⟨x16_1,rfl,HA,HK1,BK139,HB⟩:=hrel
   cases gk with
   |zero=>exact absurd HA.out (by simp [impl_isGraph.l0])
   |succ k1=>
    have H:=HA.out
    clear HA
    simp only [impl_isGraph.l0] at H
    by_cases c6:x16_1< (l0_0.length:Int)
    ·rw [if_pos c6] at H
     have c6b0:decide (x16_1< (l0_0.length:Int))=true:=decide_eq_true c6
     clear c6
     by_cases c7:0≤x16_1
     ·rw [if_pos c7] at H
      have c7b0:decide (0≤x16_1)=true:=decide_eq_true c7
      clear c7
      by_cases c8:x16_1< (l0_0.length:Int)
      ·rw [if_pos c8] at H
       have c8b0:decide (x16_1< (l0_0.length:Int))=true:=decide_eq_true c8
       clear c8
       have HC9:=Aside0.mk H
       clear H
       have p141:0≤(x16_1:Int):=of_decide_eq_true (by first|(with_reducible assumption)|assumption)
       have q141:x16_1< (l0_0.length:Int):=of_decide_eq_true (by first|(with_reducible assumption)|assumption)
       obtain ⟨ad141,e141,hx141_0⟩:=Kd.at_int HR0_0.out x16_1 p141 q141
       cases e141
       replace hx141_0:=(HB.out.cell (World.block_lt_of_cell? w _ hx141_0)).trans hx141_0
       replace p141:=eq_true p141
       replace q141:=eq_true q141
       go_upto_region 7 with (fail)
       repeat (go_quiet (fail);go_upto_region 7 with (fail))
       go_cut [30] (fun v30 wc=>∃ (kq:Nat) (x30_8:Bool),v30=.bool x30_8∧Aside0 (impl_isGraph.j1 kq (l0_0.length:Int) x16_1 (rd l0_0 x16_1) l0_0 (l0_0.length:Int) x16_1 x30_8 l0_0 a0_1=some r)∧Aside0 (kq≤k1)∧Aside0 (wc.heap[gb139]?=some (.cells #[(.slice (some ad141) l0_0.length c0_0),.bool a0_1] 28 (0,0)))∧Aside0 (Below w.heap.size w wc))
       case first=>
        have H:=HC9.out
        clear HC9
        replace H:=Option.bind_eq_some_iff.mp H
        obtain ⟨t142,A100,H⟩:=H
        replace H:((impl_in.f (rd l0_0 x16_1) 0 t142).bind fun t143=>(if t143=true then ((impl_has.f (rd l0_0 x16_1) x16_1).bind fun t144=>(impl_isGraph.j1 k1 (l0_0.length:Int) x16_1 (rd l0_0 x16_1) l0_0 (l0_0.length:Int) x16_1 t144 l0_0 a0_1)) else (impl_isGraph.j1 k1 (l0_0.length:Int) x16_1 (rd l0_0 x16_1) l0_0 (l0_0.length:Int) x16_1 true l0_0 a0_1)))=some r:=H
        have A10:=Aside0.mk A100
        clear A100
        replace H:=Option.bind_eq_some_iff.mp H
        obtain ⟨t143,A110,H⟩:=H
        replace H:(if t143=true then ((impl_has.f (rd l0_0 x16_1) x16_1).bind fun t144=>(impl_isGraph.j1 k1 (l0_0.length:Int) x16_1 (rd l0_0 x16_1) l0_0 (l0_0.length:Int) x16_1 t144 l0_0 a0_1)) else (impl_isGraph.j1 k1 (l0_0.length:Int) x16_1 (rd l0_0 x16_1) l0_0 (l0_0.length:Int) x16_1 true l0_0 a0_1))=some r:=H
        have A11:=Aside0.mk A110
        clear A110
        by_cases c12:t143=true
        ·subst c12
         have H1:((impl_has.f (rd l0_0 x16_1) x16_1).bind fun t144=>(impl_isGraph.j1 k1 (l0_0.length:Int) x16_1 (rd l0_0 x16_1) l0_0 (l0_0.length:Int) x16_1 t144 l0_0 a0_1))=some r:=by rw [if_pos rfl] at H;exact H
         clear H
         have H:=H1
         clear H1
         replace H:=Option.bind_eq_some_iff.mp H
         obtain ⟨t144,A130,H⟩:=H
         replace H:(impl_isGraph.j1 k1 (l0_0.length:Int) x16_1 (rd l0_0 x16_1) l0_0 (l0_0.length:Int) x16_1 t144 l0_0 a0_1)=some r:=H
         have A13:=Aside0.mk A130
         clear A130
         have H':=Aside0.mk H
         clear H
         go_wp2_with (first|(go_at_call 96;(with_reducible refine (impl_whole.calls (l0_0.length:Int) t142 _ A10.out).mono ?_);rintro e w' ⟨rfl,⟨nd,rfl⟩⟩;(try first|exact ⟨rfl,_,World.drewN_drewN _ _ _⟩|exact ⟨rfl,_,Eq.trans (World.drewN_drewN _ _ _) (congrArg (World.drewN _) (Nat.add_assoc _ _ _))⟩))|(go_at_call 75;(with_reducible refine (impl_in.calls (rd l0_0 x16_1) 0 t142 true _ A11.out).mono ?_);rintro e w' ⟨rfl,⟨nd,rfl⟩⟩;(try first|exact ⟨rfl,_,World.drewN_drewN _ _ _⟩|exact ⟨rfl,_,Eq.trans (World.drewN_drewN _ _ _) (congrArg (World.drewN _) (Nat.add_assoc _ _ _))⟩))|(go_at_call 78;(with_reducible refine (impl_has.calls (rd l0_0 x16_1) x16_1 t144 _ A13.out).mono ?_);rintro e w' ⟨rfl,⟨nd,rfl⟩⟩;(try first|exact ⟨rfl,_,World.drewN_drewN _ _ _⟩|exact ⟨rfl,_,Eq.trans (World.drewN_drewN _ _ _) (congrArg (World.drewN _) (Nat.add_assoc _ _ _))⟩)))
         repeat (go_quiet (first|(go_at_call 96;(with_reducible refine (impl_whole.calls (l0_0.length:Int) t142 _ A10.out).mono ?_);rintro e w' ⟨rfl,⟨nd,rfl⟩⟩;(try first|exact ⟨rfl,_,World.drewN_drewN _ _ _⟩|exact ⟨rfl,_,Eq.trans (World.drewN_drewN _ _ _) (congrArg (World.drewN _) (Nat.add_assoc _ _ _))⟩))|(go_at_call 75;(with_reducible refine (impl_in.calls (rd l0_0 x16_1) 0 t142 true _ A11.out).mono ?_);rintro e w' ⟨rfl,⟨nd,rfl⟩⟩;(try first|exact ⟨rfl,_,World.drewN_drewN _ _ _⟩|exact ⟨rfl,_,Eq.trans (World.drewN_drewN _ _ _) (congrArg (World.drewN _) (Nat.add_assoc _ _ _))⟩))|(go_at_call 78;(with_reducible refine (impl_has.calls (rd l0_0 x16_1) x16_1 t144 _ A13.out).mono ?_);rintro e w' ⟨rfl,⟨nd,rfl⟩⟩;(try first|exact ⟨rfl,_,World.drewN_drewN _ _ _⟩|exact ⟨rfl,_,Eq.trans (World.drewN_drewN _ _ _) (congrArg (World.drewN _) (Nat.add_assoc _ _ _))⟩)));try go_wp2_with (first|(go_at_call 96;(with_reducible refine (impl_whole.calls (l0_0.length:Int) t142 _ A10.out).mono ?_);rintro e w' ⟨rfl,⟨nd,rfl⟩⟩;(try first|exact ⟨rfl,_,World.drewN_drewN _ _ _⟩|exact ⟨rfl,_,Eq.trans (World.drewN_drewN _ _ _) (congrArg (World.drewN _) (Nat.add_assoc _ _ _))⟩))|(go_at_call 75;(with_reducible refine (impl_in.calls (rd l0_0 x16_1) 0 t142 true _ A11.out).mono ?_);rintro e w' ⟨rfl,⟨nd,rfl⟩⟩;(try first|exact ⟨rfl,_,World.drewN_drewN _ _ _⟩|exact ⟨rfl,_,Eq.trans (World.drewN_drewN _ _ _) (congrArg (World.drewN _) (Nat.add_assoc _ _ _))⟩))|(go_at_call 78;(with_reducible refine (impl_has.calls (rd l0_0 x16_1) x16_1 t144 _ A13.out).mono ?_);rintro e w' ⟨rfl,⟨nd,rfl⟩⟩;(try first|exact ⟨rfl,_,World.drewN_drewN _ _ _⟩|exact ⟨rfl,_,Eq.trans (World.drewN_drewN _ _ _) (congrArg (World.drewN _) (Nat.add_assoc _ _ _))⟩))))
         go_meet
         case rel=>exact ⟨_,(t144),(by first|rfl|(simp;done)|(simp [*];done)),H',⟨by have:=HK1.out;first|omega|exact Nat.le_refl _⟩,⟨by (with_reducible repeat (first|refine blk_drewN ?_ _|refine blk_drew ?_|refine blk_alloc ?_ _));exact BK139.out⟩,⟨by repeat (first|(with_reducible first|exact HB.out|apply below_alloc|apply pw_below_drewN|apply below_drew1|refine below_set ?_ GE139.out)|exact HB.out)⟩⟩
        ·replace c12:=Bool.eq_false_iff.mpr c12
         subst c12
         have H1:(impl_isGraph.j1 k1 (l0_0.length:Int) x16_1 (rd l0_0 x16_1) l0_0 (l0_0.length:Int) x16_1 true l0_0 a0_1)=some r:=by rw [if_neg (show ¬ (false=true) by decide)] at H;exact H
         clear H
         have H:=H1
         clear H1
         have H':=Aside0.mk H
         clear H
         go_wp2_with (first|(go_at_call 96;(with_reducible refine (impl_whole.calls (l0_0.length:Int) t142 _ A10.out).mono ?_);rintro e w' ⟨rfl,⟨nd,rfl⟩⟩;(try first|exact ⟨rfl,_,World.drewN_drewN _ _ _⟩|exact ⟨rfl,_,Eq.trans (World.drewN_drewN _ _ _) (congrArg (World.drewN _) (Nat.add_assoc _ _ _))⟩))|(go_at_call 75;(with_reducible refine (impl_in.calls (rd l0_0 x16_1) 0 t142 false _ A11.out).mono ?_);rintro e w' ⟨rfl,⟨nd,rfl⟩⟩;(try first|exact ⟨rfl,_,World.drewN_drewN _ _ _⟩|exact ⟨rfl,_,Eq.trans (World.drewN_drewN _ _ _) (congrArg (World.drewN _) (Nat.add_assoc _ _ _))⟩)))
         repeat (go_quiet (first|(go_at_call 96;(with_reducible refine (impl_whole.calls (l0_0.length:Int) t142 _ A10.out).mono ?_);rintro e w' ⟨rfl,⟨nd,rfl⟩⟩;(try first|exact ⟨rfl,_,World.drewN_drewN _ _ _⟩|exact ⟨rfl,_,Eq.trans (World.drewN_drewN _ _ _) (congrArg (World.drewN _) (Nat.add_assoc _ _ _))⟩))|(go_at_call 75;(with_reducible refine (impl_in.calls (rd l0_0 x16_1) 0 t142 false _ A11.out).mono ?_);rintro e w' ⟨rfl,⟨nd,rfl⟩⟩;(try first|exact ⟨rfl,_,World.drewN_drewN _ _ _⟩|exact ⟨rfl,_,Eq.trans (World.drewN_drewN _ _ _) (congrArg (World.drewN _) (Nat.add_assoc _ _ _))⟩)));try go_wp2_with (first|(go_at_call 96;(with_reducible refine (impl_whole.calls (l0_0.length:Int) t142 _ A10.out).mono ?_);rintro e w' ⟨rfl,⟨nd,rfl⟩⟩;(try first|exact ⟨rfl,_,World.drewN_drewN _ _ _⟩|exact ⟨rfl,_,Eq.trans (World.drewN_drewN _ _ _) (congrArg (World.drewN _) (Nat.add_assoc _ _ _))⟩))|(go_at_call 75;(with_reducible refine (impl_in.calls (rd l0_0 x16_1) 0 t142 false _ A11.out).mono ?_);rintro e w' ⟨rfl,⟨nd,rfl⟩⟩;(try first|exact ⟨rfl,_,World.drewN_drewN _ _ _⟩|exact ⟨rfl,_,Eq.trans (World.drewN_drewN _ _ _) (congrArg (World.drewN _) (Nat.add_assoc _ _ _))⟩))))
         go_meet
         case rel=>exact ⟨_,(true),(by first|rfl|(simp;done)|(simp [*];done)),H',⟨by have:=HK1.out;first|omega|exact Nat.le_refl _⟩,⟨by (with_reducible repeat (first|refine blk_drewN ?_ _|refine blk_drew ?_|refine blk_alloc ?_ _));exact BK139.out⟩,⟨by repeat (first|(with_reducible first|exact HB.out|apply below_alloc|apply pw_below_drewN|apply below_drew1|refine below_set ?_ GE139.out)|exact HB.out)⟩⟩
       case rest=>
        clear HC9;(try clear c1);(try clear p1);(try clear q1);(try clear hx1);(try clear p2);(try clear c3);(try clear c6);(try clear c6b0);(try clear c7);(try clear c7b0);(try clear c8);(try clear c8b0);(try clear c12);(try clear hcz5_0);(try clear hcz5_1);(try clear hfz5_0);(try clear hfz5_1);(try clear hx141_0);(try clear p141);(try clear p2);(try clear q141)
        obtain ⟨kq,x30_8,rfl,HA,HJ8,BK139,HB⟩:=hcut
        cases kq with
        |zero=>exact absurd HA.out (by simp [impl_isGraph.j1])
        |succ kj8=>
         have H:=HA.out
         clear HA
         simp only [impl_isGraph.j1] at H
         by_cases c14:x30_8=true
         ·subst c14
          have H1:(some false)=some r:=by rw [if_pos rfl] at H;exact H
          clear H
          have H:=H1
          clear H1
          obtain rfl:=Option.some.inj H
          go_wp2
          repeat (go_quiet (fail);try go_wp2)
          go_ret
          exact ⟨by first|rfl|(simp [errW_none,errW_some]<;>rfl)|(simp [*,errW_none,errW_some]<;>rfl),by repeat (first|(with_reducible first|exact HB.out|apply below_alloc|apply pw_below_drewN|apply below_drew1|refine below_set ?_ GE139.out)|exact HB.out)⟩
         ·replace c14:=Bool.eq_false_iff.mpr c14
          subst c14
          have H1:(impl_isGraph.l1 kj8 (l0_0.length:Int) x16_1 (rd l0_0 x16_1) l0_0 (l0_0.length:Int) x16_1 x16_1 0 l0_0 a0_1)=some r:=by rw [if_neg (show ¬ (false=true) by decide)] at H;exact H
          clear H
          have H:=H1
          clear H1
          have H':=Aside0.mk H
          clear H
          go_wp2
          repeat (go_quiet (fail);try go_wp2)
          go_loopg [32] kj8 (fun kq v32 w'=>∃ (x32_3:Int),v32=.int .i64 x32_3∧Aside0 (impl_isGraph.l1 kq (l0_0.length:Int) x16_1 (rd l0_0 x16_1) l0_0 (l0_0.length:Int) x16_1 x16_1 x32_3 l0_0 a0_1=some r)∧Aside0 (kq≤kj8)∧Aside0 (w'.heap[gb139]?=some (.cells #[(.slice (some ad141) l0_0.length c0_0),.bool a0_1] 28 (0,0)))∧Aside0 (Below w.heap.size w w'))
          case atStart=>exact ⟨(0),(by first|rfl|(simp;done)|(simp [*];done)),H',⟨Nat.le_refl _⟩,⟨by (with_reducible repeat (first|refine blk_drewN ?_ _|refine blk_drew ?_|refine blk_alloc ?_ _));exact BK139.out⟩,⟨by repeat (first|(with_reducible first|exact HB.out|apply below_alloc|apply pw_below_drewN|apply below_drew1|refine below_set ?_ GE139.out)|exact HB.out)⟩⟩
          case round=>
           clear H'
           (try clear c1);(try clear p1);(try clear q1);(try clear hx1);(try clear p2);(try clear c3);(try clear c6);(try clear c6b0);(try clear c7);(try clear c7b0);(try clear c8);(try clear c8b0);(try clear c12);(try clear c14);(try clear p14);(try clear q14);(try clear hx14);(try clear hcz5_0);(try clear hcz5_1);(try clear hfz5_0);(try clear hfz5_1);(try clear hx141_0);(try clear p1);(try clear p141);(try clear p2);(try clear q1);(try clear q141)
           obtain ⟨x32_3,rfl,HA,HK3,BK139,HB⟩:=hrel
           cases gk with
           |zero=>exact absurd HA.out (by simp [impl_isGraph.l1])
           |succ k3=>
            have H:=HA.out
            clear HA
            simp only [impl_isGraph.l1] at H
            by_cases c15:x32_3< x16_1
            ·rw [if_pos c15] at H
             have c15b0:decide (x32_3< x16_1)=true:=decide_eq_true c15
             clear c15
             replace H:=Option.bind_eq_some_iff.mp H
             obtain ⟨t145,A160,H⟩:=H
             replace H:(if 0≤x32_3 then (if x32_3< (l0_0.length:Int) then ((impl_has.f (rd l0_0 x32_3) x16_1).bind fun t147=>(if (t145 !=t147)=true then (some false) else (impl_isGraph.l1 k3 (l0_0.length:Int) x16_1 (rd l0_0 x16_1) l0_0 (l0_0.length:Int) x16_1 x16_1 (wrap64 (x32_3+1)) l0_0 a0_1))) else (none)) else (none))=some r:=H
             have A16:=Aside0.mk A160
             clear A160
             by_cases c17:0≤x32_3
             ·rw [if_pos c17] at H
              have c17b0:decide (0≤x32_3)=true:=decide_eq_true c17
              clear c17
              by_cases c18:x32_3< (l0_0.length:Int)
              ·rw [if_pos c18] at H
               have c18b0:decide (x32_3< (l0_0.length:Int))=true:=decide_eq_true c18
               clear c18
               replace H:=Option.bind_eq_some_iff.mp H
               obtain ⟨t147,A190,H⟩:=H
               replace H:(if (t145 !=t147)=true then (some false) else (impl_isGraph.l1 k3 (l0_0.length:Int) x16_1 (rd l0_0 x16_1) l0_0 (l0_0.length:Int) x16_1 x16_1 (wrap64 (x32_3+1)) l0_0 a0_1))=some r:=H
               have A19:=Aside0.mk A190
               clear A190
               by_cases c20:(t145 !=t147)=true
               ·rw [if_pos c20] at H
                have c20b0:(t145 !=t147)=true:=c20
                (try (have c20b1:decide (t145=t147)=false:=by simpa using c20))
                (try (have c20b2:(t145==t147)=false:=by simpa using c20))
                (try (have c20b3:¬ (t145=t147):=by simpa using c20))
                clear c20
                obtain rfl:=Option.some.inj H
                go_wp2_with (first|(go_at_call 78;(with_reducible refine (impl_has.calls (rd l0_0 x16_1) x32_3 t145 _ A16.out).mono ?_);rintro e w' ⟨rfl,⟨nd,rfl⟩⟩;(try first|exact ⟨rfl,_,World.drewN_drewN _ _ _⟩|exact ⟨rfl,_,Eq.trans (World.drewN_drewN _ _ _) (congrArg (World.drewN _) (Nat.add_assoc _ _ _))⟩);have hcz21_0:wr.cell? ⟨gb139,0,none⟩=some (.slice (some ad141) l0_0.length c0_0):=(blk_cell BK139.out 0).trans rfl;have hcz21_1:wr.cell? ⟨gb139,1,none⟩=some (.bool a0_1):=(blk_cell BK139.out 1).trans rfl;have hfz21_0:=blk_frozen BK139.out 0;have hfz21_1:=blk_frozen BK139.out 1;have p146:0≤(x32_3:Int):=of_decide_eq_true (by first|(with_reducible assumption)|assumption);have q146:x32_3< (l0_0.length:Int):=of_decide_eq_true (by first|(with_reducible assumption)|assumption);obtain ⟨ad146,e146,hx146_0⟩:=Kd.at_int HR0_0.out x32_3 p146 q146;obtain rfl:ad141=ad146:=(by injection e146);replace hx146_0:=(HB.out.cell (World.block_lt_of_cell? w _ hx146_0)).trans hx146_0;replace p146:=eq_true p146;replace q146:=eq_true q146)|(go_at_call 78;(with_reducible refine (impl_has.calls (rd l0_0 x32_3) x16_1 t147 _ A19.out).mono ?_);rintro e w' ⟨rfl,⟨nd,rfl⟩⟩;(try first|exact ⟨rfl,_,World.drewN_drewN _ _ _⟩|exact ⟨rfl,_,Eq.trans (World.drewN_drewN _ _ _) (congrArg (World.drewN _) (Nat.add_assoc _ _ _))⟩)))
                repeat (go_quiet (first|(go_at_call 78;(with_reducible refine (impl_has.calls (rd l0_0 x16_1) x32_3 t145 _ A16.out).mono ?_);rintro e w' ⟨rfl,⟨nd,rfl⟩⟩;(try first|exact ⟨rfl,_,World.drewN_drewN _ _ _⟩|exact ⟨rfl,_,Eq.trans (World.drewN_drewN _ _ _) (congrArg (World.drewN _) (Nat.add_assoc _ _ _))⟩);have hcz21_0:wr.cell? ⟨gb139,0,none⟩=some (.slice (some ad141) l0_0.length c0_0):=(blk_cell BK139.out 0).trans rfl;have hcz21_1:wr.cell? ⟨gb139,1,none⟩=some (.bool a0_1):=(blk_cell BK139.out 1).trans rfl;have hfz21_0:=blk_frozen BK139.out 0;have hfz21_1:=blk_frozen BK139.out 1;have p146:0≤(x32_3:Int):=of_decide_eq_true (by first|(with_reducible assumption)|assumption);have q146:x32_3< (l0_0.length:Int):=of_decide_eq_true (by first|(with_reducible assumption)|assumption);obtain ⟨ad146,e146,hx146_0⟩:=Kd.at_int HR0_0.out x32_3 p146 q146;obtain rfl:ad141=ad146:=(by injection e146);replace hx146_0:=(HB.out.cell (World.block_lt_of_cell? w _ hx146_0)).trans hx146_0;replace p146:=eq_true p146;replace q146:=eq_true q146)|(go_at_call 78;(with_reducible refine (impl_has.calls (rd l0_0 x32_3) x16_1 t147 _ A19.out).mono ?_);rintro e w' ⟨rfl,⟨nd,rfl⟩⟩;(try first|exact ⟨rfl,_,World.drewN_drewN _ _ _⟩|exact ⟨rfl,_,Eq.trans (World.drewN_drewN _ _ _) (congrArg (World.drewN _) (Nat.add_assoc _ _ _))⟩)));try go_wp2_with (first|(go_at_call 78;(with_reducible refine (impl_has.calls (rd l0_0 x16_1) x32_3 t145 _ A16.out).mono ?_);rintro e w' ⟨rfl,⟨nd,rfl⟩⟩;(try first|exact ⟨rfl,_,World.drewN_drewN _ _ _⟩|exact ⟨rfl,_,Eq.trans (World.drewN_drewN _ _ _) (congrArg (World.drewN _) (Nat.add_assoc _ _ _))⟩);have hcz21_0:wr.cell? ⟨gb139,0,none⟩=some (.slice (some ad141) l0_0.length c0_0):=(blk_cell BK139.out 0).trans rfl;have hcz21_1:wr.cell? ⟨gb139,1,none⟩=some (.bool a0_1):=(blk_cell BK139.out 1).trans rfl;have hfz21_0:=blk_frozen BK139.out 0;have hfz21_1:=blk_frozen BK139.out 1;have p146:0≤(x32_3:Int):=of_decide_eq_true (by first|(with_reducible assumption)|assumption);have q146:x32_3< (l0_0.length:Int):=of_decide_eq_true (by first|(with_reducible assumption)|assumption);obtain ⟨ad146,e146,hx146_0⟩:=Kd.at_int HR0_0.out x32_3 p146 q146;obtain rfl:ad141=ad146:=(by injection e146);replace hx146_0:=(HB.out.cell (World.block_lt_of_cell? w _ hx146_0)).trans hx146_0;replace p146:=eq_true p146;replace q146:=eq_true q146)|(go_at_call 78;(with_reducible refine (impl_has.calls (rd l0_0 x32_3) x16_1 t147 _ A19.out).mono ?_);rintro e w' ⟨rfl,⟨nd,rfl⟩⟩;(try first|exact ⟨rfl,_,World.drewN_drewN _ _ _⟩|exact ⟨rfl,_,Eq.trans (World.drewN_drewN _ _ _) (congrArg (World.drewN _) (Nat.add_assoc _ _ _))⟩))))
                go_ret
                exact ⟨by first|rfl|(simp [errW_none,errW_some]<;>rfl)|(simp [*,errW_none,errW_some]<;>rfl),by repeat (first|(with_reducible first|exact HB.out|apply below_alloc|apply pw_below_drewN|apply below_drew1|refine below_set ?_ GE139.out)|exact HB.out)⟩
               ·rw [if_neg c20] at H
                have c20b0:(t145 !=t147)=false:=by simpa using c20
                (try (have c20b1:decide (t145=t147)=true:=by simpa using c20))
                (try (have c20b2:(t145==t147)=true:=by simpa using c20))
                clear c20
                have H':=Aside0.mk H
                clear H
                go_wp2_with (first|(go_at_call 78;(with_reducible refine (impl_has.calls (rd l0_0 x16_1) x32_3 t145 _ A16.out).mono ?_);rintro e w' ⟨rfl,⟨nd,rfl⟩⟩;(try first|exact ⟨rfl,_,World.drewN_drewN _ _ _⟩|exact ⟨rfl,_,Eq.trans (World.drewN_drewN _ _ _) (congrArg (World.drewN _) (Nat.add_assoc _ _ _))⟩);have hcz22_0:wr.cell? ⟨gb139,0,none⟩=some (.slice (some ad141) l0_0.length c0_0):=(blk_cell BK139.out 0).trans rfl;have hcz22_1:wr.cell? ⟨gb139,1,none⟩=some (.bool a0_1):=(blk_cell BK139.out 1).trans rfl;have hfz22_0:=blk_frozen BK139.out 0;have hfz22_1:=blk_frozen BK139.out 1;have p146:0≤(x32_3:Int):=of_decide_eq_true (by first|(with_reducible assumption)|assumption);have q146:x32_3< (l0_0.length:Int):=of_decide_eq_true (by first|(with_reducible assumption)|assumption);obtain ⟨ad146,e146,hx146_0⟩:=Kd.at_int HR0_0.out x32_3 p146 q146;obtain rfl:ad141=ad146:=(by injection e146);replace hx146_0:=(HB.out.cell (World.block_lt_of_cell? w _ hx146_0)).trans hx146_0;replace p146:=eq_true p146;replace q146:=eq_true q146)|(go_at_call 78;(with_reducible refine (impl_has.calls (rd l0_0 x32_3) x16_1 t147 _ A19.out).mono ?_);rintro e w' ⟨rfl,⟨nd,rfl⟩⟩;(try first|exact ⟨rfl,_,World.drewN_drewN _ _ _⟩|exact ⟨rfl,_,Eq.trans (World.drewN_drewN _ _ _) (congrArg (World.drewN _) (Nat.add_assoc _ _ _))⟩)))
                repeat (go_quiet (first|(go_at_call 78;(with_reducible refine (impl_has.calls (rd l0_0 x16_1) x32_3 t145 _ A16.out).mono ?_);rintro e w' ⟨rfl,⟨nd,rfl⟩⟩;(try first|exact ⟨rfl,_,World.drewN_drewN _ _ _⟩|exact ⟨rfl,_,Eq.trans (World.drewN_drewN _ _ _) (congrArg (World.drewN _) (Nat.add_assoc _ _ _))⟩);have hcz22_0:wr.cell? ⟨gb139,0,none⟩=some (.slice (some ad141) l0_0.length c0_0):=(blk_cell BK139.out 0).trans rfl;have hcz22_1:wr.cell? ⟨gb139,1,none⟩=some (.bool a0_1):=(blk_cell BK139.out 1).trans rfl;have hfz22_0:=blk_frozen BK139.out 0;have hfz22_1:=blk_frozen BK139.out 1;have p146:0≤(x32_3:Int):=of_decide_eq_true (by first|(with_reducible assumption)|assumption);have q146:x32_3< (l0_0.length:Int):=of_decide_eq_true (by first|(with_reducible assumption)|assumption);obtain ⟨ad146,e146,hx146_0⟩:=Kd.at_int HR0_0.out x32_3 p146 q146;obtain rfl:ad141=ad146:=(by injection e146);replace hx146_0:=(HB.out.cell (World.block_lt_of_cell? w _ hx146_0)).trans hx146_0;replace p146:=eq_true p146;replace q146:=eq_true q146)|(go_at_call 78;(with_reducible refine (impl_has.calls (rd l0_0 x32_3) x16_1 t147 _ A19.out).mono ?_);rintro e w' ⟨rfl,⟨nd,rfl⟩⟩;(try first|exact ⟨rfl,_,World.drewN_drewN _ _ _⟩|exact ⟨rfl,_,Eq.trans (World.drewN_drewN _ _ _) (congrArg (World.drewN _) (Nat.add_assoc _ _ _))⟩)));try go_wp2_with (first|(go_at_call 78;(with_reducible refine (impl_has.calls (rd l0_0 x16_1) x32_3 t145 _ A16.out).mono ?_);rintro e w' ⟨rfl,⟨nd,rfl⟩⟩;(try first|exact ⟨rfl,_,World.drewN_drewN _ _ _⟩|exact ⟨rfl,_,Eq.trans (World.drewN_drewN _ _ _) (congrArg (World.drewN _) (Nat.add_assoc _ _ _))⟩);have hcz22_0:wr.cell? ⟨gb139,0,none⟩=some (.slice (some ad141) l0_0.length c0_0):=(blk_cell BK139.out 0).trans rfl;have hcz22_1:wr.cell? ⟨gb139,1,none⟩=some (.bool a0_1):=(blk_cell BK139.out 1).trans rfl;have hfz22_0:=blk_frozen BK139.out 0;have hfz22_1:=blk_frozen BK139.out 1;have p146:0≤(x32_3:Int):=of_decide_eq_true (by first|(with_reducible assumption)|assumption);have q146:x32_3< (l0_0.length:Int):=of_decide_eq_true (by first|(with_reducible assumption)|assumption);obtain ⟨ad146,e146,hx146_0⟩:=Kd.at_int HR0_0.out x32_3 p146 q146;obtain rfl:ad141=ad146:=(by injection e146);replace hx146_0:=(HB.out.cell (World.block_lt_of_cell? w _ hx146_0)).trans hx146_0;replace p146:=eq_true p146;replace q146:=eq_true q146)|(go_at_call 78;(with_reducible refine (impl_has.calls (rd l0_0 x32_3) x16_1 t147 _ A19.out).mono ?_);rintro e w' ⟨rfl,⟨nd,rfl⟩⟩;(try first|exact ⟨rfl,_,World.drewN_drewN _ _ _⟩|exact ⟨rfl,_,Eq.trans (World.drewN_drewN _ _ _) (congrArg (World.drewN _) (Nat.add_assoc _ _ _))⟩))))
                go_roundg k3
                case measure=>have:=HK1.out;have:=HJ8.out;have:=HK3.out;omega
                case rel=>exact ⟨(wrap64 (x32_3+1)),(by first|rfl|(simp;done)|(simp [*];done)),H',⟨by have:=HK1.out;have:=HJ8.out;have:=HK3.out;omega⟩,⟨by (with_reducible repeat (first|refine blk_drewN ?_ _|refine blk_drew ?_|refine blk_alloc ?_ _));exact BK139.out⟩,⟨by repeat (first|(with_reducible first|exact HB.out|apply below_alloc|apply pw_below_drewN|apply below_drew1|refine below_set ?_ GE139.out)|exact HB.out)⟩⟩
              ·rw [if_neg c18] at H
               exact absurd H (by simp)
             ·rw [if_neg c17] at H
              exact absurd H (by simp)
            ·rw [if_neg c15] at H
             have c15b0:decide (x32_3< x16_1)=false:=decide_eq_false c15
             clear c15
             have H':=Aside0.mk H
             clear H
             go_wp2
             repeat (go_quiet (fail);try go_wp2)
             go_roundg k3
             case measure=>have:=HK1.out;have:=HJ8.out;have:=HK3.out;omega
             case rel=>exact ⟨(wrap64 (x16_1+1)),(by first|rfl|(simp;done)|(simp [*];done)),H',⟨by have:=HK1.out;have:=HJ8.out;have:=HK3.out;omega⟩,⟨by (with_reducible repeat (first|refine blk_drewN ?_ _|refine blk_drew ?_|refine blk_alloc ?_ _));exact BK139.out⟩,⟨by repeat (first|(with_reducible first|exact HB.out|apply below_alloc|apply pw_below_drewN|apply below_drew1|refine below_set ?_ GE139.out)|exact HB.out)⟩⟩
      ·rw [if_neg c8] at H
       exact absurd H (by simp)
     ·rw [if_neg c7] at H
      exact absurd H (by simp)
    ·rw [if_neg c6] at H
     have c6b0:decide (x16_1< (l0_0.length:Int))=false:=decide_eq_false c6
     clear c6
     obtain rfl:=Option.some.inj H
     go_wp2
     repeat (go_quiet (fail);try go_wp2)
     go_ret
     exact ⟨by first|rfl|(simp [errW_none,errW_some]<;>rfl)|(simp [*,errW_none,errW_some]<;>rfl),by repeat (first|(with_reducible first|exact HB.out|apply below_alloc|apply pw_below_drewN|apply below_drew1|refine below_set ?_ GE139.out)|exact HB.out)⟩
 ·replace c3:=Bool.eq_false_iff.mpr c3
  subst c3
  have H1:(some false)=some r:=by rw [if_neg (show ¬ (false=true) by decide)] at H;exact H
  clear H
  have H:=H1
  clear H1
  obtain rfl:=Option.some.inj H
  go_enter Try.func71,Try.ntmps71
  go_wp2_with (first|((with_reducible refine gate_dst (N:=1) rfl ?_);refine box_event ?hg (N:=1) ?hd (cs:=#[.slice A0_0 l0_0.length c0_0,.bool a0_1]) (t:=28) ?hr ?_;(case hd=>rfl);(case hg=>rfl);(case hr=>first|(go_simp;done)|(go_simp;rfl));intro gb139 hg w23 hbox hb;have n0_:=Aside0.mk (below_step (by repeat (first|(with_reducible first|exact HB.out|apply below_alloc|apply pw_below_drewN|apply below_drew1)|exact HB.out)) hb);have n1_:=Aside0.mk (hbox);have n2_:=Aside0.mk ((by rw [hg];exact (below_size (by repeat (first|(with_reducible first|exact HB.out|apply below_alloc|apply pw_below_drewN|apply below_drew1)|exact HB.out))):w.heap.size≤gb139));have n3_:=Aside0.mk ((by rw [hg];exact (below_size (by repeat (first|(with_reducible first|exact HB.out|apply below_alloc|apply pw_below_drewN|apply below_drew1)|exact HB.out))):w.heap.size≤gb139));clear HB;have HB:=n0_;have BK139:=n1_;have GW139:=n2_;have GE139:=n3_;clear n0_ n1_ n2_ n3_;clear hb hbox hg;have hcz24_0:w23.cell? ⟨gb139,0,none⟩=some (.slice A0_0 l0_0.length c0_0):=(blk_cell BK139.out 0).trans rfl;have hcz24_1:w23.cell? ⟨gb139,1,none⟩=some (.bool a0_1):=(blk_cell BK139.out 1).trans rfl;have hfz24_0:=blk_frozen BK139.out 0;have hfz24_1:=blk_frozen BK139.out 1)|(go_at_call 95;(with_reducible refine (impl_isCount.calls (l0_0.length:Int) false _ A2.out).mono ?_);rintro e w' ⟨rfl,⟨nd,rfl⟩⟩;(try first|exact ⟨rfl,_,World.drewN_drewN _ _ _⟩|exact ⟨rfl,_,Eq.trans (World.drewN_drewN _ _ _) (congrArg (World.drewN _) (Nat.add_assoc _ _ _))⟩)))
  repeat (go_quiet (first|((with_reducible refine gate_dst (N:=1) rfl ?_);refine box_event ?hg (N:=1) ?hd (cs:=#[.slice A0_0 l0_0.length c0_0,.bool a0_1]) (t:=28) ?hr ?_;(case hd=>rfl);(case hg=>rfl);(case hr=>first|(go_simp;done)|(go_simp;rfl));intro gb139 hg w23 hbox hb;have n0_:=Aside0.mk (below_step (by repeat (first|(with_reducible first|exact HB.out|apply below_alloc|apply pw_below_drewN|apply below_drew1)|exact HB.out)) hb);have n1_:=Aside0.mk (hbox);have n2_:=Aside0.mk ((by rw [hg];exact (below_size (by repeat (first|(with_reducible first|exact HB.out|apply below_alloc|apply pw_below_drewN|apply below_drew1)|exact HB.out))):w.heap.size≤gb139));have n3_:=Aside0.mk ((by rw [hg];exact (below_size (by repeat (first|(with_reducible first|exact HB.out|apply below_alloc|apply pw_below_drewN|apply below_drew1)|exact HB.out))):w.heap.size≤gb139));clear HB;have HB:=n0_;have BK139:=n1_;have GW139:=n2_;have GE139:=n3_;clear n0_ n1_ n2_ n3_;clear hb hbox hg;have hcz24_0:w23.cell? ⟨gb139,0,none⟩=some (.slice A0_0 l0_0.length c0_0):=(blk_cell BK139.out 0).trans rfl;have hcz24_1:w23.cell? ⟨gb139,1,none⟩=some (.bool a0_1):=(blk_cell BK139.out 1).trans rfl;have hfz24_0:=blk_frozen BK139.out 0;have hfz24_1:=blk_frozen BK139.out 1)|(go_at_call 95;(with_reducible refine (impl_isCount.calls (l0_0.length:Int) false _ A2.out).mono ?_);rintro e w' ⟨rfl,⟨nd,rfl⟩⟩;(try first|exact ⟨rfl,_,World.drewN_drewN _ _ _⟩|exact ⟨rfl,_,Eq.trans (World.drewN_drewN _ _ _) (congrArg (World.drewN _) (Nat.add_assoc _ _ _))⟩)));try go_wp2_with (first|((with_reducible refine gate_dst (N:=1) rfl ?_);refine box_event ?hg (N:=1) ?hd (cs:=#[.slice A0_0 l0_0.length c0_0,.bool a0_1]) (t:=28) ?hr ?_;(case hd=>rfl);(case hg=>rfl);(case hr=>first|(go_simp;done)|(go_simp;rfl));intro gb139 hg w23 hbox hb;have n0_:=Aside0.mk (below_step (by repeat (first|(with_reducible first|exact HB.out|apply below_alloc|apply pw_below_drewN|apply below_drew1)|exact HB.out)) hb);have n1_:=Aside0.mk (hbox);have n2_:=Aside0.mk ((by rw [hg];exact (below_size (by repeat (first|(with_reducible first|exact HB.out|apply below_alloc|apply pw_below_drewN|apply below_drew1)|exact HB.out))):w.heap.size≤gb139));have n3_:=Aside0.mk ((by rw [hg];exact (below_size (by repeat (first|(with_reducible first|exact HB.out|apply below_alloc|apply pw_below_drewN|apply below_drew1)|exact HB.out))):w.heap.size≤gb139));clear HB;have HB:=n0_;have BK139:=n1_;have GW139:=n2_;have GE139:=n3_;clear n0_ n1_ n2_ n3_;clear hb hbox hg;have hcz24_0:w23.cell? ⟨gb139,0,none⟩=some (.slice A0_0 l0_0.length c0_0):=(blk_cell BK139.out 0).trans rfl;have hcz24_1:w23.cell? ⟨gb139,1,none⟩=some (.bool a0_1):=(blk_cell BK139.out 1).trans rfl;have hfz24_0:=blk_frozen BK139.out 0;have hfz24_1:=blk_frozen BK139.out 1)|(go_at_call 95;(with_reducible refine (impl_isCount.calls (l0_0.length:Int) false _ A2.out).mono ?_);rintro e w' ⟨rfl,⟨nd,rfl⟩⟩;(try first|exact ⟨rfl,_,World.drewN_drewN _ _ _⟩|exact ⟨rfl,_,Eq.trans (World.drewN_drewN _ _ _) (congrArg (World.drewN _) (Nat.add_assoc _ _ _))⟩))))
  go_ret
  exact ⟨by first|rfl|(simp [errW_none,errW_some]<;>rfl)|(simp [*,errW_none,errW_some]<;>rfl),by repeat (first|(with_reducible first|exact HB.out|apply below_alloc|apply pw_below_drewN|apply below_drew1|refine below_set ?_ GE139.out)|exact HB.out)⟩
/-! ### impl_isModulus: function 72 -/
def impl_isModulus.f (a0:Int):Option (Bool):=if a0=2 then (some true) else (if a0=3 then (some true) else (if a0=5 then (some true) else (some (a0==7))))
set_option maxHeartbeats 8000000 in
set_option maxRecDepth 100000 in
theorem impl_isModulus.calls (a0:Int) (r:Bool) (w:World) (h:impl_isModulus.f a0=some r):
  Calls Try.prog 72 #[.int .i64 a0] w fun e w'=>e=.returned (.bool r)∧Drawn0 w w':=by
 have H:(if a0=2 then (some true) else (if a0=3 then (some true) else (if a0=5 then (some true) else (some (a0==7)))))=some r:=h
 clear h
 by_cases c2:a0=2
 ·rw [if_pos c2] at H
  have c2b0:(a0==2)=true:=beq_iff_eq.mpr c2
  have c2b1:(a0 !=2)=false:=bne_eq_false_iff_eq.mpr c2
  clear c2
  obtain rfl:=Option.some.inj H
  go_enter Try.func72,Try.ntmps72
  go_wp2
  go_ret
  exact ⟨by first|rfl|(simp;done)|(simp [*];done),by repeat (first|exact Drawn0.refl _|apply Drawn0.step)⟩
 ·rw [if_neg c2] at H
  have c2b0:(a0==2)=false:=beq_eq_false_iff_ne.mpr c2
  have c2b1:(a0 !=2)=true:=bne_iff_ne.mpr c2
  by_cases c3:a0=3
  ·rw [if_pos c3] at H
   have c3b0:(a0==3)=true:=beq_iff_eq.mpr c3
   have c3b1:(a0 !=3)=false:=bne_eq_false_iff_eq.mpr c3
   clear c3
   obtain rfl:=Option.some.inj H
   go_enter Try.func72,Try.ntmps72
   go_wp2
   go_ret
   exact ⟨by first|rfl|(simp;done)|(simp [*];done),by repeat (first|exact Drawn0.refl _|apply Drawn0.step)⟩
  ·rw [if_neg c3] at H
   have c3b0:(a0==3)=false:=beq_eq_false_iff_ne.mpr c3
   have c3b1:(a0 !=3)=true:=bne_iff_ne.mpr c3
   by_cases c4:a0=5
   ·rw [if_pos c4] at H
    have c4b0:(a0==5)=true:=beq_iff_eq.mpr c4
    have c4b1:(a0 !=5)=false:=bne_eq_false_iff_eq.mpr c4
    clear c4
    obtain rfl:=Option.some.inj H
    go_enter Try.func72,Try.ntmps72
    go_wp2
    go_ret
    exact ⟨by first|rfl|(simp;done)|(simp [*];done),by repeat (first|exact Drawn0.refl _|apply Drawn0.step)⟩
   ·rw [if_neg c4] at H
    have c4b0:(a0==5)=false:=beq_eq_false_iff_ne.mpr c4
    have c4b1:(a0 !=5)=true:=bne_iff_ne.mpr c4
    obtain rfl:=Option.some.inj H
    go_enter Try.func72,Try.ntmps72
    go_wp2
    go_ret
    exact ⟨by first|rfl|(simp;done)|(simp [*];done),by repeat (first|exact Drawn0.refl _|apply Drawn0.step)⟩
/-! ### impl_isColoured: function 53 -/
def impl_isColoured.f (k:Nat) (l0_0:List Int) (a0_1:Bool) (a1:Int):Option (Bool):=(impl_isGraph.f k l0_0 a0_1).bind fun t149=>(if t149=true then (if (l0_0.length:Int)≤10 then ((impl_isModulus.f a1).bind fun t150=>(some t150)) else (some false)) else (some false))
set_option maxHeartbeats 8000000 in
set_option maxRecDepth 100000 in
theorem impl_isColoured.calls (k:Nat) (A0_0:Option Addr) (c0_0:Nat) (l0_0:List Int) (a0_1:Bool) (a1:Int) (r:Bool) (w:World) (hr0_0:Kd.C (Kd.int .i64) w A0_0 l0_0.length l0_0) (hc0_0:l0_0.length≤c0_0) (h:impl_isColoured.f k l0_0 a0_1 a1=some r):
  Calls Try.prog 53 #[.agg #[.slice A0_0 l0_0.length c0_0,.bool a0_1],.int .i64 a1] w fun e w'=>e=.returned (.bool r)∧Below w.heap.size w w':=by
 have hu28:=Try.underlying28
 have HR0_0:=Aside0.mk hr0_0
 have HC0_0:=Aside0.mk hc0_0
 clear hr0_0 hc0_0
 have HB:=Aside0.mk (Below.refl w.heap.size w)
 have H:((impl_isGraph.f k l0_0 a0_1).bind fun t149=>(if t149=true then (if (l0_0.length:Int)≤10 then ((impl_isModulus.f a1).bind fun t150=>(some t150)) else (some false)) else (some false)))=some r:=h
 clear h
 replace H:=Option.bind_eq_some_iff.mp H
 obtain ⟨t149,A30,H⟩:=H
 replace H:(if t149=true then (if (l0_0.length:Int)≤10 then ((impl_isModulus.f a1).bind fun t150=>(some t150)) else (some false)) else (some false))=some r:=H
 have A3:=Aside0.mk A30
 clear A30
 by_cases c4:t149=true
 ·subst c4
  have H1:(if (l0_0.length:Int)≤10 then ((impl_isModulus.f a1).bind fun t150=>(some t150)) else (some false))=some r:=by rw [if_pos rfl] at H;exact H
  clear H
  have H:=H1
  clear H1
  by_cases c5:(l0_0.length:Int)≤10
  ·rw [if_pos c5] at H
   have c5b0:decide ((l0_0.length:Int)≤10)=true:=decide_eq_true c5
   have c5b1:decide (l0_0.length≤10)=true:=decide_eq_true (by omega)
   clear c5
   replace H:=Option.bind_eq_some_iff.mp H
   obtain ⟨t150,A60,H⟩:=H
   replace H:(some t150)=some r:=H
   have A6:=Aside0.mk A60
   clear A60
   obtain rfl:=Option.some.inj H
   go_enter Try.func53,Try.ntmps53
   go_wp2_with (first|((with_reducible refine gate_dst (N:=2) rfl ?_);(try (refine gate_guard (by rfl) ?_;dsimp only));refine box_event ?hg (N:=2) ?hd (cs:=#[.slice A0_0 l0_0.length c0_0,.bool a0_1]) (t:=28) ?hr ?_;(case hd=>rfl);(case hg=>rfl);(case hr=>first|(go_simp;done)|(go_simp;rfl));intro gb148 hg w7 hbox hb;have n0_:=Aside0.mk (below_step (by repeat (first|(with_reducible first|exact HB.out|apply below_alloc|apply pw_below_drewN|apply below_drew1)|exact HB.out)) hb);have n1_:=Aside0.mk (hbox);have n2_:=Aside0.mk ((by rw [hg];exact (below_size (by repeat (first|(with_reducible first|exact HB.out|apply below_alloc|apply pw_below_drewN|apply below_drew1)|exact HB.out))):w.heap.size≤gb148));have n3_:=Aside0.mk ((by rw [hg];exact (below_size (by repeat (first|(with_reducible first|exact HB.out|apply below_alloc|apply pw_below_drewN|apply below_drew1)|exact HB.out))):w.heap.size≤gb148));clear HB;have HB:=n0_;have BK148:=n1_;have GW148:=n2_;have GE148:=n3_;clear n0_ n1_ n2_ n3_;clear hb hbox hg;have hcz8_0:w7.cell? ⟨gb148,0,none⟩=some (.slice A0_0 l0_0.length c0_0):=(blk_cell BK148.out 0).trans rfl;have hcz8_1:w7.cell? ⟨gb148,1,none⟩=some (.bool a0_1):=(blk_cell BK148.out 1).trans rfl;have hfz8_0:=blk_frozen BK148.out 0;have hfz8_1:=blk_frozen BK148.out 1)|((with_reducible refine gate_callee (f:=71) rfl ?_);refine goesL_ (some 6) rfl rfl Try.func71 (by kernel_rfl) rfl #[.agg #[.slice A0_0 l0_0.length c0_0,.bool a0_1]] rfl (by (try simp only [List.map_toArray,List.map_cons,List.map_nil]);first|done|rfl|(simp only [List.length_drop,List.length_take];rfl)) ?_;(with_reducible refine (impl_isGraph.calls k _ _ l0_0 a0_1 true _ ?side1 ?side2 A3.out).mono ?_);(case side1=>repeat (first|exact (Kd.C_below HR0_0.out HB.out)|(with_reducible refine Kd.C_alloc ?_ _)|(with_reducible refine Kd.C_drewN ?_ _)|(with_reducible refine Kd.C_drew ?_)));(case side2=>exact HC0_0.out);rintro e w9 ⟨rfl,hb⟩;refine ⟨_,rfl,?_⟩;have n0_:=Aside0.mk (blk_below (g:=gb148) (o:=.cells #[.slice A0_0 l0_0.length c0_0,.bool a0_1] 28 (0,0)) (by (with_reducible repeat (first|refine blk_drewN ?_ _|refine blk_drew ?_|refine blk_alloc ?_ _));exact BK148.out) hb);have n1_:=Aside0.mk (below_step (by repeat (first|(with_reducible first|exact HB.out|apply below_alloc|apply pw_below_drewN|apply below_drew1|refine below_set ?_ GE148.out)|exact HB.out)) hb);clear BK148;clear HB;have BK148:=n0_;have HB:=n1_;clear n0_ n1_;(try clear hb);(try clear hb2);(try clear hk);(try clear hi);have hcz10_0:w9.cell? ⟨gb148,0,none⟩=some (.slice A0_0 l0_0.length c0_0):=(blk_cell BK148.out 0).trans rfl;have hcz10_1:w9.cell? ⟨gb148,1,none⟩=some (.bool a0_1):=(blk_cell BK148.out 1).trans rfl;have hfz10_0:=blk_frozen BK148.out 0;have hfz10_1:=blk_frozen BK148.out 1)|(go_at_call 72;(with_reducible refine (impl_isModulus.calls a1 t150 _ A6.out).mono ?_);rintro e w' ⟨rfl,⟨nd,rfl⟩⟩))
   go_ret
   exact ⟨by first|rfl|(simp [errW_none,errW_some]<;>rfl)|(simp [*,errW_none,errW_some]<;>rfl),by repeat (first|(with_reducible first|exact HB.out|apply below_alloc|apply pw_below_drewN|apply below_drew1|refine below_set ?_ GE148.out)|exact HB.out)⟩
  ·rw [if_neg c5] at H
   have c5b0:decide ((l0_0.length:Int)≤10)=false:=decide_eq_false c5
   have c5b1:decide (l0_0.length≤10)=false:=decide_eq_false (by omega)
   clear c5
   obtain rfl:=Option.some.inj H
   go_enter Try.func53,Try.ntmps53
   go_wp2_with (first|((with_reducible refine gate_dst (N:=2) rfl ?_);(try (refine gate_guard (by rfl) ?_;dsimp only));refine box_event ?hg (N:=2) ?hd (cs:=#[.slice A0_0 l0_0.length c0_0,.bool a0_1]) (t:=28) ?hr ?_;(case hd=>rfl);(case hg=>rfl);(case hr=>first|(go_simp;done)|(go_simp;rfl));intro gb148 hg w11 hbox hb;have n0_:=Aside0.mk (below_step (by repeat (first|(with_reducible first|exact HB.out|apply below_alloc|apply pw_below_drewN|apply below_drew1)|exact HB.out)) hb);have n1_:=Aside0.mk (hbox);have n2_:=Aside0.mk ((by rw [hg];exact (below_size (by repeat (first|(with_reducible first|exact HB.out|apply below_alloc|apply pw_below_drewN|apply below_drew1)|exact HB.out))):w.heap.size≤gb148));have n3_:=Aside0.mk ((by rw [hg];exact (below_size (by repeat (first|(with_reducible first|exact HB.out|apply below_alloc|apply pw_below_drewN|apply below_drew1)|exact HB.out))):w.heap.size≤gb148));clear HB;have HB:=n0_;have BK148:=n1_;have GW148:=n2_;have GE148:=n3_;clear n0_ n1_ n2_ n3_;clear hb hbox hg;have hcz12_0:w11.cell? ⟨gb148,0,none⟩=some (.slice A0_0 l0_0.length c0_0):=(blk_cell BK148.out 0).trans rfl;have hcz12_1:w11.cell? ⟨gb148,1,none⟩=some (.bool a0_1):=(blk_cell BK148.out 1).trans rfl;have hfz12_0:=blk_frozen BK148.out 0;have hfz12_1:=blk_frozen BK148.out 1)|((with_reducible refine gate_callee (f:=71) rfl ?_);refine goesL_ (some 6) rfl rfl Try.func71 (by kernel_rfl) rfl #[.agg #[.slice A0_0 l0_0.length c0_0,.bool a0_1]] rfl (by (try simp only [List.map_toArray,List.map_cons,List.map_nil]);first|done|rfl|(simp only [List.length_drop,List.length_take];rfl)) ?_;(with_reducible refine (impl_isGraph.calls k _ _ l0_0 a0_1 true _ ?side1 ?side2 A3.out).mono ?_);(case side1=>repeat (first|exact (Kd.C_below HR0_0.out HB.out)|(with_reducible refine Kd.C_alloc ?_ _)|(with_reducible refine Kd.C_drewN ?_ _)|(with_reducible refine Kd.C_drew ?_)));(case side2=>exact HC0_0.out);rintro e w13 ⟨rfl,hb⟩;refine ⟨_,rfl,?_⟩;have n0_:=Aside0.mk (blk_below (g:=gb148) (o:=.cells #[.slice A0_0 l0_0.length c0_0,.bool a0_1] 28 (0,0)) (by (with_reducible repeat (first|refine blk_drewN ?_ _|refine blk_drew ?_|refine blk_alloc ?_ _));exact BK148.out) hb);have n1_:=Aside0.mk (below_step (by repeat (first|(with_reducible first|exact HB.out|apply below_alloc|apply pw_below_drewN|apply below_drew1|refine below_set ?_ GE148.out)|exact HB.out)) hb);clear BK148;clear HB;have BK148:=n0_;have HB:=n1_;clear n0_ n1_;(try clear hb);(try clear hb2);(try clear hk);(try clear hi);have hcz14_0:w13.cell? ⟨gb148,0,none⟩=some (.slice A0_0 l0_0.length c0_0):=(blk_cell BK148.out 0).trans rfl;have hcz14_1:w13.cell? ⟨gb148,1,none⟩=some (.bool a0_1):=(blk_cell BK148.out 1).trans rfl;have hfz14_0:=blk_frozen BK148.out 0;have hfz14_1:=blk_frozen BK148.out 1))
   go_ret
   exact ⟨by first|rfl|(simp [errW_none,errW_some]<;>rfl)|(simp [*,errW_none,errW_some]<;>rfl),by repeat (first|(with_reducible first|exact HB.out|apply below_alloc|apply pw_below_drewN|apply below_drew1|refine below_set ?_ GE148.out)|exact HB.out)⟩
 ·replace c4:=Bool.eq_false_iff.mpr c4
  subst c4
  have H1:(some false)=some r:=by rw [if_neg (show ¬ (false=true) by decide)] at H;exact H
  clear H
  have H:=H1
  clear H1
  obtain rfl:=Option.some.inj H
  go_enter Try.func53,Try.ntmps53
  go_wp2_with (first|((with_reducible refine gate_dst (N:=2) rfl ?_);(try (refine gate_guard (by rfl) ?_;dsimp only));refine box_event ?hg (N:=2) ?hd (cs:=#[.slice A0_0 l0_0.length c0_0,.bool a0_1]) (t:=28) ?hr ?_;(case hd=>rfl);(case hg=>rfl);(case hr=>first|(go_simp;done)|(go_simp;rfl));intro gb148 hg w15 hbox hb;have n0_:=Aside0.mk (below_step (by repeat (first|(with_reducible first|exact HB.out|apply below_alloc|apply pw_below_drewN|apply below_drew1)|exact HB.out)) hb);have n1_:=Aside0.mk (hbox);have n2_:=Aside0.mk ((by rw [hg];exact (below_size (by repeat (first|(with_reducible first|exact HB.out|apply below_alloc|apply pw_below_drewN|apply below_drew1)|exact HB.out))):w.heap.size≤gb148));have n3_:=Aside0.mk ((by rw [hg];exact (below_size (by repeat (first|(with_reducible first|exact HB.out|apply below_alloc|apply pw_below_drewN|apply below_drew1)|exact HB.out))):w.heap.size≤gb148));clear HB;have HB:=n0_;have BK148:=n1_;have GW148:=n2_;have GE148:=n3_;clear n0_ n1_ n2_ n3_;clear hb hbox hg;have hcz16_0:w15.cell? ⟨gb148,0,none⟩=some (.slice A0_0 l0_0.length c0_0):=(blk_cell BK148.out 0).trans rfl;have hcz16_1:w15.cell? ⟨gb148,1,none⟩=some (.bool a0_1):=(blk_cell BK148.out 1).trans rfl;have hfz16_0:=blk_frozen BK148.out 0;have hfz16_1:=blk_frozen BK148.out 1)|((with_reducible refine gate_callee (f:=71) rfl ?_);refine goesL_ (some 6) rfl rfl Try.func71 (by kernel_rfl) rfl #[.agg #[.slice A0_0 l0_0.length c0_0,.bool a0_1]] rfl (by (try simp only [List.map_toArray,List.map_cons,List.map_nil]);first|done|rfl|(simp only [List.length_drop,List.length_take];rfl)) ?_;(with_reducible refine (impl_isGraph.calls k _ _ l0_0 a0_1 false _ ?side1 ?side2 A3.out).mono ?_);(case side1=>repeat (first|exact (Kd.C_below HR0_0.out HB.out)|(with_reducible refine Kd.C_alloc ?_ _)|(with_reducible refine Kd.C_drewN ?_ _)|(with_reducible refine Kd.C_drew ?_)));(case side2=>exact HC0_0.out);rintro e w17 ⟨rfl,hb⟩;refine ⟨_,rfl,?_⟩;have n0_:=Aside0.mk (blk_below (g:=gb148) (o:=.cells #[.slice A0_0 l0_0.length c0_0,.bool a0_1] 28 (0,0)) (by (with_reducible repeat (first|refine blk_drewN ?_ _|refine blk_drew ?_|refine blk_alloc ?_ _));exact BK148.out) hb);have n1_:=Aside0.mk (below_step (by repeat (first|(with_reducible first|exact HB.out|apply below_alloc|apply pw_below_drewN|apply below_drew1|refine below_set ?_ GE148.out)|exact HB.out)) hb);clear BK148;clear HB;have BK148:=n0_;have HB:=n1_;clear n0_ n1_;(try clear hb);(try clear hb2);(try clear hk);(try clear hi)))
  go_ret
  exact ⟨by first|rfl|(simp [errW_none,errW_some]<;>rfl)|(simp [*,errW_none,errW_some]<;>rfl),by repeat (first|(with_reducible first|exact HB.out|apply below_alloc|apply pw_below_drewN|apply below_drew1|refine below_set ?_ GE148.out)|exact HB.out)⟩
/-! ### laws_eqIntS: function 21 -/
def laws_eqIntS.l0:Nat→List Int→List Int→Int→Option (Bool)
 |0,_,_,_=>none
 |k+1,x0,x1,x5=>if x5< (x0.length:Int) then (if 0≤x5 then (if x5< (x1.length:Int) then (if (rd x0 x5)=(rd x1 x5) then (laws_eqIntS.l0 k x0 x1 (wrap64 (x5+1))) else (some false)) else (none)) else (none)) else (some true)
def laws_eqIntS.f (k:Nat) (l0:List Int) (l1:List Int):Option (Bool):=if (l0.length:Int)=(l1.length:Int) then (laws_eqIntS.l0 k l0 l1 0) else (some false)
set_option maxHeartbeats 8000000 in
set_option maxRecDepth 100000 in
theorem laws_eqIntS.calls (k:Nat) (A0:Option Addr) (c0:Nat) (l0:List Int) (A1:Option Addr) (c1:Nat) (l1:List Int) (r:Bool) (w:World) (hr0:Kd.C (Kd.int .i64) w A0 l0.length l0) (hc0:l0.length≤c0) (hr1:Kd.C (Kd.int .i64) w A1 l1.length l1) (hc1:l1.length≤c1) (h:laws_eqIntS.f k l0 l1=some r):
  Calls Try.prog 21 #[.slice A0 l0.length c0,.slice A1 l1.length c1] w fun e w'=>e=.returned (.bool r)∧Drawn0 w w':=by
 have HR0:=Aside0.mk hr0
 have HC0:=Aside0.mk hc0
 clear hr0 hc0
 have HR1:=Aside0.mk hr1
 have HC1:=Aside0.mk hc1
 clear hr1 hc1
 have H:(if (l0.length:Int)=(l1.length:Int) then (laws_eqIntS.l0 k l0 l1 0) else (some false))=some r:=h
 clear h
 by_cases c3:(l0.length:Int)=(l1.length:Int)
 ·rw [if_pos c3] at H
  have c3b0:((l0.length:Int)==(l1.length:Int))=true:=beq_iff_eq.mpr c3
  have c3b1:((l0.length:Int) !=(l1.length:Int))=false:=bne_eq_false_iff_eq.mpr c3
  have c3b2:(l0.length==l1.length)=true:=by first|simpa using c3|(simp at c3 ⊢;omega)
  clear c3
  have H':=Aside0.mk H
  clear H
  go_enter Try.func21,Try.ntmps21
  go_wp2
  repeat (go_quiet (fail);try go_wp2)
  go_loopg [5] k (fun kq v5 w'=>∃ (x5_1:Int),v5=.int .i64 x5_1∧Aside0 (laws_eqIntS.l0 kq l0 l1 x5_1=some r)∧Aside0 (kq≤k)∧Drawn0 w w')
  case atStart=>exact ⟨(0),(by first|rfl|(simp;done)|(simp [*];done)),H',⟨Nat.le_refl _⟩,by repeat (first|exact Drawn0.refl _|apply Drawn0.step)⟩
  case round=>
   clear H'
   (try clear c1);(try clear c2);(try clear p2);(try clear c3);(try clear c3b0);(try clear c3b1);(try clear c3b2)
   obtain ⟨x5_1,rfl,HA,HK1,⟨m1,rfl⟩⟩:=hrel
   cases gk with
   |zero=>exact absurd HA.out (by simp [laws_eqIntS.l0])
   |succ k1=>
    have H:=HA.out
    clear HA
    simp only [laws_eqIntS.l0] at H
    by_cases c4:x5_1< (l0.length:Int)
    ·rw [if_pos c4] at H
     have c4b0:decide (x5_1< (l0.length:Int))=true:=decide_eq_true c4
     clear c4
     by_cases c5:0≤x5_1
     ·rw [if_pos c5] at H
      have c5b0:decide (0≤x5_1)=true:=decide_eq_true c5
      clear c5
      by_cases c6:x5_1< (l1.length:Int)
      ·rw [if_pos c6] at H
       have c6b0:decide (x5_1< (l1.length:Int))=true:=decide_eq_true c6
       clear c6
       by_cases c7:(rd l0 x5_1)=(rd l1 x5_1)
       ·rw [if_pos c7] at H
        have c7b0:((rd l0 x5_1)==(rd l1 x5_1))=true:=beq_iff_eq.mpr c7
        have c7b1:((rd l0 x5_1) !=(rd l1 x5_1))=false:=bne_eq_false_iff_eq.mpr c7
        clear c7
        have H':=Aside0.mk H
        clear H
        have p154:0≤(x5_1:Int):=of_decide_eq_true (by first|(with_reducible assumption)|assumption)
        have q154:x5_1< (l0.length:Int):=of_decide_eq_true (by first|(with_reducible assumption)|assumption)
        obtain ⟨ad154,e154,hx154_0⟩:=Kd.at_int HR0.out x5_1 p154 q154
        cases e154
        replace p154:=eq_true p154
        replace q154:=eq_true q154
        have p155:0≤(x5_1:Int):=of_decide_eq_true (by first|(with_reducible assumption)|assumption)
        have q155:x5_1< (l1.length:Int):=of_decide_eq_true (by first|(with_reducible assumption)|assumption)
        obtain ⟨ad155,e155,hx155_0⟩:=Kd.at_int HR1.out x5_1 p155 q155
        cases e155
        replace p155:=eq_true p155
        replace q155:=eq_true q155
        go_wp2
        repeat (go_quiet (fail);try go_wp2)
        go_roundg k1
        case measure=>have:=HK1.out;omega
        case rel=>exact ⟨(wrap64 (x5_1+1)),(by first|rfl|(simp;done)|(simp [*];done)),H',⟨by have:=HK1.out;omega⟩,by repeat (first|exact Drawn0.refl _|apply Drawn0.step)⟩
       ·rw [if_neg c7] at H
        have c7b0:((rd l0 x5_1)==(rd l1 x5_1))=false:=beq_eq_false_iff_ne.mpr c7
        have c7b1:((rd l0 x5_1) !=(rd l1 x5_1))=true:=bne_iff_ne.mpr c7
        obtain rfl:=Option.some.inj H
        have p154:0≤(x5_1:Int):=of_decide_eq_true (by first|(with_reducible assumption)|assumption)
        have q154:x5_1< (l0.length:Int):=of_decide_eq_true (by first|(with_reducible assumption)|assumption)
        obtain ⟨ad154,e154,hx154_0⟩:=Kd.at_int HR0.out x5_1 p154 q154
        cases e154
        replace p154:=eq_true p154
        replace q154:=eq_true q154
        have p155:0≤(x5_1:Int):=of_decide_eq_true (by first|(with_reducible assumption)|assumption)
        have q155:x5_1< (l1.length:Int):=of_decide_eq_true (by first|(with_reducible assumption)|assumption)
        obtain ⟨ad155,e155,hx155_0⟩:=Kd.at_int HR1.out x5_1 p155 q155
        cases e155
        replace p155:=eq_true p155
        replace q155:=eq_true q155
        go_wp2
        repeat (go_quiet (fail);try go_wp2)
        go_ret
        exact ⟨by first|rfl|(simp;done)|(simp [*];done),by repeat (first|exact Drawn0.refl _|apply Drawn0.step)⟩
      ·rw [if_neg c6] at H
       exact absurd H (by simp)
     ·rw [if_neg c5] at H
      exact absurd H (by simp)
    ·rw [if_neg c4] at H
     have c4b0:decide (x5_1< (l0.length:Int))=false:=decide_eq_false c4
     clear c4
     obtain rfl:=Option.some.inj H
     go_wp2
     repeat (go_quiet (fail);try go_wp2)
     go_ret
     exact ⟨by first|rfl|(simp;done)|(simp [*];done),by repeat (first|exact Drawn0.refl _|apply Drawn0.step)⟩
 ·rw [if_neg c3] at H
  have c3b0:((l0.length:Int)==(l1.length:Int))=false:=beq_eq_false_iff_ne.mpr c3
  have c3b1:((l0.length:Int) !=(l1.length:Int))=true:=bne_iff_ne.mpr c3
  have c3b2:(l0.length==l1.length)=false:=by first|simpa using c3|(simp at c3 ⊢;omega)
  obtain rfl:=Option.some.inj H
  go_enter Try.func21,Try.ntmps21
  go_wp2
  repeat (go_quiet (fail);try go_wp2)
  go_ret
  exact ⟨by first|rfl|(simp;done)|(simp [*];done),by repeat (first|exact Drawn0.refl _|apply Drawn0.step)⟩
/-! ### laws_eqGraph: function 20 -/
def laws_eqGraph.f (k:Nat) (l0_0:List Int) (a0_1:Bool) (l1_0:List Int) (a1_1:Bool):Option (Bool):=(laws_eqIntS.f k l0_0 l1_0).bind fun t158=>(if t158=true then (if (a0_1 !=a1_1)=true then (some false) else (some true)) else (some false))
set_option maxHeartbeats 8000000 in
set_option maxRecDepth 100000 in
theorem laws_eqGraph.calls (k:Nat) (A0_0:Option Addr) (c0_0:Nat) (l0_0:List Int) (a0_1:Bool) (A1_0:Option Addr) (c1_0:Nat) (l1_0:List Int) (a1_1:Bool) (r:Bool) (w:World) (hr0_0:Kd.C (Kd.int .i64) w A0_0 l0_0.length l0_0) (hc0_0:l0_0.length≤c0_0) (hr1_0:Kd.C (Kd.int .i64) w A1_0 l1_0.length l1_0) (hc1_0:l1_0.length≤c1_0) (h:laws_eqGraph.f k l0_0 a0_1 l1_0 a1_1=some r):
  Calls Try.prog 20 #[.agg #[.slice A0_0 l0_0.length c0_0,.bool a0_1],.agg #[.slice A1_0 l1_0.length c1_0,.bool a1_1]] w fun e w'=>e=.returned (.bool r)∧Below w.heap.size w w':=by
 have hu28:=Try.underlying28
 have HR0_0:=Aside0.mk hr0_0
 have HC0_0:=Aside0.mk hc0_0
 clear hr0_0 hc0_0
 have HR1_0:=Aside0.mk hr1_0
 have HC1_0:=Aside0.mk hc1_0
 clear hr1_0 hc1_0
 have HB:=Aside0.mk (Below.refl w.heap.size w)
 have H:((laws_eqIntS.f k l0_0 l1_0).bind fun t158=>(if t158=true then (if (a0_1 !=a1_1)=true then (some false) else (some true)) else (some false)))=some r:=h
 clear h
 replace H:=Option.bind_eq_some_iff.mp H
 obtain ⟨t158,A30,H⟩:=H
 replace H:(if t158=true then (if (a0_1 !=a1_1)=true then (some false) else (some true)) else (some false))=some r:=H
 have A3:=Aside0.mk A30
 clear A30
 by_cases c4:t158=true
 ·subst c4
  have H1:(if (a0_1 !=a1_1)=true then (some false) else (some true))=some r:=by rw [if_pos rfl] at H;exact H
  clear H
  have H:=H1
  clear H1
  by_cases c5:(a0_1 !=a1_1)=true
  ·rw [if_pos c5] at H
   have c5b0:(a0_1 !=a1_1)=true:=c5
   (try (have c5b1:decide (a0_1=a1_1)=false:=by simpa using c5))
   (try (have c5b2:(a0_1==a1_1)=false:=by simpa using c5))
   (try (have c5b3:¬ (a0_1=a1_1):=by simpa using c5))
   clear c5
   obtain rfl:=Option.some.inj H
   go_enter Try.func20,Try.ntmps20
   go_wp2_with (first|((with_reducible refine gate_dst (N:=2) rfl ?_);refine box_event ?hg (N:=2) ?hd (cs:=#[.slice A0_0 l0_0.length c0_0,.bool a0_1]) (t:=28) ?hr ?_;(case hd=>rfl);(case hg=>rfl);(case hr=>first|(go_simp;done)|(go_simp;rfl));intro gb156 hg w6 hbox hb;have n0_:=Aside0.mk (below_step (by repeat (first|(with_reducible first|exact HB.out|apply below_alloc|apply pw_below_drewN|apply below_drew1)|exact HB.out)) hb);have n1_:=Aside0.mk (hbox);have n2_:=Aside0.mk ((by rw [hg];exact (below_size (by repeat (first|(with_reducible first|exact HB.out|apply below_alloc|apply pw_below_drewN|apply below_drew1)|exact HB.out))):w.heap.size≤gb156));have n3_:=Aside0.mk ((by rw [hg];exact (below_size (by repeat (first|(with_reducible first|exact HB.out|apply below_alloc|apply pw_below_drewN|apply below_drew1)|exact HB.out))):w.heap.size≤gb156));clear HB;have HB:=n0_;have BK156:=n1_;have GW156:=n2_;have GE156:=n3_;clear n0_ n1_ n2_ n3_;clear hb hbox hg)|((with_reducible refine gate_dst (N:=3) rfl ?_);refine box_event ?hg (N:=3) ?hd (cs:=#[.slice A1_0 l1_0.length c1_0,.bool a1_1]) (t:=28) ?hr ?_;(case hd=>rfl);(case hg=>rfl);(case hr=>first|(go_simp;done)|(go_simp;rfl));intro gb157 hg w7 hbox hb;have n0_:=Aside0.mk (blk_below (g:=gb156) (o:=.cells #[.slice A0_0 l0_0.length c0_0,.bool a0_1] 28 (0,0)) (by (with_reducible repeat (first|refine blk_drewN ?_ _|refine blk_drew ?_|refine blk_alloc ?_ _));exact BK156.out) hb);have n1_:=Aside0.mk (below_step (by repeat (first|(with_reducible first|exact HB.out|apply below_alloc|apply pw_below_drewN|apply below_drew1|refine below_set ?_ GE156.out)|exact HB.out)) hb);have n2_:=Aside0.mk (hbox);have n3_:=Aside0.mk ((by rw [hg];exact (below_size (by repeat (first|(with_reducible first|exact HB.out|apply below_alloc|apply pw_below_drewN|apply below_drew1|refine below_set ?_ GE156.out)|exact HB.out))):w.heap.size≤gb157));have n4_:=Aside0.mk ((by rw [hg];exact (below_size (by repeat (first|(with_reducible first|exact HB.out|apply below_alloc|apply pw_below_drewN|apply below_drew1|refine below_set ?_ GE156.out)|exact HB.out))):w.heap.size≤gb157));have n5_:=Aside0.mk ((by rw [hg];exact Nat.ne_of_lt (blk_lt (g:=gb156) (o:=.cells #[.slice A0_0 l0_0.length c0_0,.bool a0_1] 28 (0,0)) (by (with_reducible repeat (first|refine blk_drewN ?_ _|refine blk_drew ?_|refine blk_alloc ?_ _));exact BK156.out)):gb156≠gb157));have n6_:=Aside0.mk ((by rw [hg];exact Nat.ne_of_gt (blk_lt (g:=gb156) (o:=.cells #[.slice A0_0 l0_0.length c0_0,.bool a0_1] 28 (0,0)) (by (with_reducible repeat (first|refine blk_drewN ?_ _|refine blk_drew ?_|refine blk_alloc ?_ _));exact BK156.out)):gb157≠gb156));clear BK156;clear HB;have BK156:=n0_;have HB:=n1_;have BK157:=n2_;have GW157:=n3_;have GE157:=n4_;have NB156_157:=n5_;have NB157_156:=n6_;clear n0_ n1_ n2_ n3_ n4_ n5_ n6_;clear hb hbox hg;have hnb8:=NB156_157.out;have hnc8:=NB157_156.out;have hcz9_0:w7.cell? ⟨gb156,0,none⟩=some (.slice A0_0 l0_0.length c0_0):=(blk_cell BK156.out 0).trans rfl;have hcz9_1:w7.cell? ⟨gb156,1,none⟩=some (.bool a0_1):=(blk_cell BK156.out 1).trans rfl;have hfz9_0:=blk_frozen BK156.out 0;have hfz9_1:=blk_frozen BK156.out 1;have hcz10_0:w7.cell? ⟨gb157,0,none⟩=some (.slice A1_0 l1_0.length c1_0):=(blk_cell BK157.out 0).trans rfl;have hcz10_1:w7.cell? ⟨gb157,1,none⟩=some (.bool a1_1):=(blk_cell BK157.out 1).trans rfl;have hfz10_0:=blk_frozen BK157.out 0;have hfz10_1:=blk_frozen BK157.out 1)|((with_reducible refine gate_callee (f:=21) rfl ?_);refine goesL_ (some 9) rfl rfl Try.func21 (by kernel_rfl) rfl #[.slice A0_0 l0_0.length c0_0,.slice A1_0 l1_0.length c1_0] rfl (by (try simp only [List.map_toArray,List.map_cons,List.map_nil]);first|done|rfl|(simp only [List.length_drop,List.length_take];rfl)) ?_;(with_reducible refine (laws_eqIntS.calls k _ _ l0_0 _ _ l1_0 true _ ?side1 ?side2 ?side3 ?side4 A3.out).mono ?_);(case side1=>repeat (first|exact (Kd.C_below HR0_0.out HB.out)|(with_reducible refine Kd.C_alloc ?_ _)|(with_reducible refine Kd.C_drewN ?_ _)|(with_reducible refine Kd.C_drew ?_)));(case side2=>exact HC0_0.out);(case side3=>repeat (first|exact (Kd.C_below HR1_0.out HB.out)|(with_reducible refine Kd.C_alloc ?_ _)|(with_reducible refine Kd.C_drewN ?_ _)|(with_reducible refine Kd.C_drew ?_)));(case side4=>exact HC1_0.out);rintro e w' ⟨rfl,⟨nd,rfl⟩⟩;refine ⟨_,rfl,?_⟩))
   go_ret
   exact ⟨by first|rfl|(simp [errW_none,errW_some]<;>rfl)|(simp [*,errW_none,errW_some]<;>rfl),by repeat (first|(with_reducible first|exact HB.out|apply below_alloc|apply pw_below_drewN|apply below_drew1|refine below_set ?_ GE156.out|refine below_set ?_ GE157.out)|exact HB.out)⟩
  ·rw [if_neg c5] at H
   have c5b0:(a0_1 !=a1_1)=false:=by simpa using c5
   (try (have c5b1:decide (a0_1=a1_1)=true:=by simpa using c5))
   (try (have c5b2:(a0_1==a1_1)=true:=by simpa using c5))
   clear c5
   obtain rfl:=Option.some.inj H
   go_enter Try.func20,Try.ntmps20
   go_wp2_with (first|((with_reducible refine gate_dst (N:=2) rfl ?_);refine box_event ?hg (N:=2) ?hd (cs:=#[.slice A0_0 l0_0.length c0_0,.bool a0_1]) (t:=28) ?hr ?_;(case hd=>rfl);(case hg=>rfl);(case hr=>first|(go_simp;done)|(go_simp;rfl));intro gb156 hg w11 hbox hb;have n0_:=Aside0.mk (below_step (by repeat (first|(with_reducible first|exact HB.out|apply below_alloc|apply pw_below_drewN|apply below_drew1)|exact HB.out)) hb);have n1_:=Aside0.mk (hbox);have n2_:=Aside0.mk ((by rw [hg];exact (below_size (by repeat (first|(with_reducible first|exact HB.out|apply below_alloc|apply pw_below_drewN|apply below_drew1)|exact HB.out))):w.heap.size≤gb156));have n3_:=Aside0.mk ((by rw [hg];exact (below_size (by repeat (first|(with_reducible first|exact HB.out|apply below_alloc|apply pw_below_drewN|apply below_drew1)|exact HB.out))):w.heap.size≤gb156));clear HB;have HB:=n0_;have BK156:=n1_;have GW156:=n2_;have GE156:=n3_;clear n0_ n1_ n2_ n3_;clear hb hbox hg)|((with_reducible refine gate_dst (N:=3) rfl ?_);refine box_event ?hg (N:=3) ?hd (cs:=#[.slice A1_0 l1_0.length c1_0,.bool a1_1]) (t:=28) ?hr ?_;(case hd=>rfl);(case hg=>rfl);(case hr=>first|(go_simp;done)|(go_simp;rfl));intro gb157 hg w12 hbox hb;have n0_:=Aside0.mk (blk_below (g:=gb156) (o:=.cells #[.slice A0_0 l0_0.length c0_0,.bool a0_1] 28 (0,0)) (by (with_reducible repeat (first|refine blk_drewN ?_ _|refine blk_drew ?_|refine blk_alloc ?_ _));exact BK156.out) hb);have n1_:=Aside0.mk (below_step (by repeat (first|(with_reducible first|exact HB.out|apply below_alloc|apply pw_below_drewN|apply below_drew1|refine below_set ?_ GE156.out)|exact HB.out)) hb);have n2_:=Aside0.mk (hbox);have n3_:=Aside0.mk ((by rw [hg];exact (below_size (by repeat (first|(with_reducible first|exact HB.out|apply below_alloc|apply pw_below_drewN|apply below_drew1|refine below_set ?_ GE156.out)|exact HB.out))):w.heap.size≤gb157));have n4_:=Aside0.mk ((by rw [hg];exact (below_size (by repeat (first|(with_reducible first|exact HB.out|apply below_alloc|apply pw_below_drewN|apply below_drew1|refine below_set ?_ GE156.out)|exact HB.out))):w.heap.size≤gb157));have n5_:=Aside0.mk ((by rw [hg];exact Nat.ne_of_lt (blk_lt (g:=gb156) (o:=.cells #[.slice A0_0 l0_0.length c0_0,.bool a0_1] 28 (0,0)) (by (with_reducible repeat (first|refine blk_drewN ?_ _|refine blk_drew ?_|refine blk_alloc ?_ _));exact BK156.out)):gb156≠gb157));have n6_:=Aside0.mk ((by rw [hg];exact Nat.ne_of_gt (blk_lt (g:=gb156) (o:=.cells #[.slice A0_0 l0_0.length c0_0,.bool a0_1] 28 (0,0)) (by (with_reducible repeat (first|refine blk_drewN ?_ _|refine blk_drew ?_|refine blk_alloc ?_ _));exact BK156.out)):gb157≠gb156));clear BK156;clear HB;have BK156:=n0_;have HB:=n1_;have BK157:=n2_;have GW157:=n3_;have GE157:=n4_;have NB156_157:=n5_;have NB157_156:=n6_;clear n0_ n1_ n2_ n3_ n4_ n5_ n6_;clear hb hbox hg;have hnb13:=NB156_157.out;have hnc13:=NB157_156.out;have hcz14_0:w12.cell? ⟨gb156,0,none⟩=some (.slice A0_0 l0_0.length c0_0):=(blk_cell BK156.out 0).trans rfl;have hcz14_1:w12.cell? ⟨gb156,1,none⟩=some (.bool a0_1):=(blk_cell BK156.out 1).trans rfl;have hfz14_0:=blk_frozen BK156.out 0;have hfz14_1:=blk_frozen BK156.out 1;have hcz15_0:w12.cell? ⟨gb157,0,none⟩=some (.slice A1_0 l1_0.length c1_0):=(blk_cell BK157.out 0).trans rfl;have hcz15_1:w12.cell? ⟨gb157,1,none⟩=some (.bool a1_1):=(blk_cell BK157.out 1).trans rfl;have hfz15_0:=blk_frozen BK157.out 0;have hfz15_1:=blk_frozen BK157.out 1)|((with_reducible refine gate_callee (f:=21) rfl ?_);refine goesL_ (some 9) rfl rfl Try.func21 (by kernel_rfl) rfl #[.slice A0_0 l0_0.length c0_0,.slice A1_0 l1_0.length c1_0] rfl (by (try simp only [List.map_toArray,List.map_cons,List.map_nil]);first|done|rfl|(simp only [List.length_drop,List.length_take];rfl)) ?_;(with_reducible refine (laws_eqIntS.calls k _ _ l0_0 _ _ l1_0 true _ ?side1 ?side2 ?side3 ?side4 A3.out).mono ?_);(case side1=>repeat (first|exact (Kd.C_below HR0_0.out HB.out)|(with_reducible refine Kd.C_alloc ?_ _)|(with_reducible refine Kd.C_drewN ?_ _)|(with_reducible refine Kd.C_drew ?_)));(case side2=>exact HC0_0.out);(case side3=>repeat (first|exact (Kd.C_below HR1_0.out HB.out)|(with_reducible refine Kd.C_alloc ?_ _)|(with_reducible refine Kd.C_drewN ?_ _)|(with_reducible refine Kd.C_drew ?_)));(case side4=>exact HC1_0.out);rintro e w' ⟨rfl,⟨nd,rfl⟩⟩;refine ⟨_,rfl,?_⟩))
   go_ret
   exact ⟨by first|rfl|(simp [errW_none,errW_some]<;>rfl)|(simp [*,errW_none,errW_some]<;>rfl),by repeat (first|(with_reducible first|exact HB.out|apply below_alloc|apply pw_below_drewN|apply below_drew1|refine below_set ?_ GE156.out|refine below_set ?_ GE157.out)|exact HB.out)⟩
 ·replace c4:=Bool.eq_false_iff.mpr c4
  subst c4
  have H1:(some false)=some r:=by rw [if_neg (show ¬ (false=true) by decide)] at H;exact H
  clear H
  have H:=H1
  clear H1
  obtain rfl:=Option.some.inj H
  go_enter Try.func20,Try.ntmps20
  go_wp2_with (first|((with_reducible refine gate_dst (N:=2) rfl ?_);refine box_event ?hg (N:=2) ?hd (cs:=#[.slice A0_0 l0_0.length c0_0,.bool a0_1]) (t:=28) ?hr ?_;(case hd=>rfl);(case hg=>rfl);(case hr=>first|(go_simp;done)|(go_simp;rfl));intro gb156 hg w16 hbox hb;have n0_:=Aside0.mk (below_step (by repeat (first|(with_reducible first|exact HB.out|apply below_alloc|apply pw_below_drewN|apply below_drew1)|exact HB.out)) hb);have n1_:=Aside0.mk (hbox);have n2_:=Aside0.mk ((by rw [hg];exact (below_size (by repeat (first|(with_reducible first|exact HB.out|apply below_alloc|apply pw_below_drewN|apply below_drew1)|exact HB.out))):w.heap.size≤gb156));have n3_:=Aside0.mk ((by rw [hg];exact (below_size (by repeat (first|(with_reducible first|exact HB.out|apply below_alloc|apply pw_below_drewN|apply below_drew1)|exact HB.out))):w.heap.size≤gb156));clear HB;have HB:=n0_;have BK156:=n1_;have GW156:=n2_;have GE156:=n3_;clear n0_ n1_ n2_ n3_;clear hb hbox hg)|((with_reducible refine gate_dst (N:=3) rfl ?_);refine box_event ?hg (N:=3) ?hd (cs:=#[.slice A1_0 l1_0.length c1_0,.bool a1_1]) (t:=28) ?hr ?_;(case hd=>rfl);(case hg=>rfl);(case hr=>first|(go_simp;done)|(go_simp;rfl));intro gb157 hg w17 hbox hb;have n0_:=Aside0.mk (blk_below (g:=gb156) (o:=.cells #[.slice A0_0 l0_0.length c0_0,.bool a0_1] 28 (0,0)) (by (with_reducible repeat (first|refine blk_drewN ?_ _|refine blk_drew ?_|refine blk_alloc ?_ _));exact BK156.out) hb);have n1_:=Aside0.mk (below_step (by repeat (first|(with_reducible first|exact HB.out|apply below_alloc|apply pw_below_drewN|apply below_drew1|refine below_set ?_ GE156.out)|exact HB.out)) hb);have n2_:=Aside0.mk (hbox);have n3_:=Aside0.mk ((by rw [hg];exact (below_size (by repeat (first|(with_reducible first|exact HB.out|apply below_alloc|apply pw_below_drewN|apply below_drew1|refine below_set ?_ GE156.out)|exact HB.out))):w.heap.size≤gb157));have n4_:=Aside0.mk ((by rw [hg];exact (below_size (by repeat (first|(with_reducible first|exact HB.out|apply below_alloc|apply pw_below_drewN|apply below_drew1|refine below_set ?_ GE156.out)|exact HB.out))):w.heap.size≤gb157));have n5_:=Aside0.mk ((by rw [hg];exact Nat.ne_of_lt (blk_lt (g:=gb156) (o:=.cells #[.slice A0_0 l0_0.length c0_0,.bool a0_1] 28 (0,0)) (by (with_reducible repeat (first|refine blk_drewN ?_ _|refine blk_drew ?_|refine blk_alloc ?_ _));exact BK156.out)):gb156≠gb157));have n6_:=Aside0.mk ((by rw [hg];exact Nat.ne_of_gt (blk_lt (g:=gb156) (o:=.cells #[.slice A0_0 l0_0.length c0_0,.bool a0_1] 28 (0,0)) (by (with_reducible repeat (first|refine blk_drewN ?_ _|refine blk_drew ?_|refine blk_alloc ?_ _));exact BK156.out)):gb157≠gb156));clear BK156;clear HB;have BK156:=n0_;have HB:=n1_;have BK157:=n2_;have GW157:=n3_;have GE157:=n4_;have NB156_157:=n5_;have NB157_156:=n6_;clear n0_ n1_ n2_ n3_ n4_ n5_ n6_;clear hb hbox hg;have hnb18:=NB156_157.out;have hnc18:=NB157_156.out;have hcz19_0:w17.cell? ⟨gb156,0,none⟩=some (.slice A0_0 l0_0.length c0_0):=(blk_cell BK156.out 0).trans rfl;have hcz19_1:w17.cell? ⟨gb156,1,none⟩=some (.bool a0_1):=(blk_cell BK156.out 1).trans rfl;have hfz19_0:=blk_frozen BK156.out 0;have hfz19_1:=blk_frozen BK156.out 1;have hcz20_0:w17.cell? ⟨gb157,0,none⟩=some (.slice A1_0 l1_0.length c1_0):=(blk_cell BK157.out 0).trans rfl;have hcz20_1:w17.cell? ⟨gb157,1,none⟩=some (.bool a1_1):=(blk_cell BK157.out 1).trans rfl;have hfz20_0:=blk_frozen BK157.out 0;have hfz20_1:=blk_frozen BK157.out 1)|((with_reducible refine gate_callee (f:=21) rfl ?_);refine goesL_ (some 9) rfl rfl Try.func21 (by kernel_rfl) rfl #[.slice A0_0 l0_0.length c0_0,.slice A1_0 l1_0.length c1_0] rfl (by (try simp only [List.map_toArray,List.map_cons,List.map_nil]);first|done|rfl|(simp only [List.length_drop,List.length_take];rfl)) ?_;(with_reducible refine (laws_eqIntS.calls k _ _ l0_0 _ _ l1_0 false _ ?side1 ?side2 ?side3 ?side4 A3.out).mono ?_);(case side1=>repeat (first|exact (Kd.C_below HR0_0.out HB.out)|(with_reducible refine Kd.C_alloc ?_ _)|(with_reducible refine Kd.C_drewN ?_ _)|(with_reducible refine Kd.C_drew ?_)));(case side2=>exact HC0_0.out);(case side3=>repeat (first|exact (Kd.C_below HR1_0.out HB.out)|(with_reducible refine Kd.C_alloc ?_ _)|(with_reducible refine Kd.C_drewN ?_ _)|(with_reducible refine Kd.C_drew ?_)));(case side4=>exact HC1_0.out);rintro e w' ⟨rfl,⟨nd,rfl⟩⟩;refine ⟨_,rfl,?_⟩))
  go_ret
  exact ⟨by first|rfl|(simp [errW_none,errW_some]<;>rfl)|(simp [*,errW_none,errW_some]<;>rfl),by repeat (first|(with_reducible first|exact HB.out|apply below_alloc|apply pw_below_drewN|apply below_drew1|refine below_set ?_ GE156.out|refine below_set ?_ GE157.out)|exact HB.out)⟩
end Go.Proofs.Ytbbdjoahdbjljaa.P
