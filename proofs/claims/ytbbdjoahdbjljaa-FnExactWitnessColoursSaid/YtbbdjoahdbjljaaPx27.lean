-- Written by a program of this session (wip/mp.py), which runs the kit's print with contracts of the session's own.
import Derived.Test.YtbbdjoahdbjljaaPx0
import Derived.Test.YtbbdjoahdbjljaaPx1
import Derived.Test.YtbbdjoahdbjljaaPx17
import Derived.Test.YtbbdjoahdbjljaaPx19
namespace Go.Proofs.Ytbbdjoahdbjljaa.P
open Go.RowKit Go.Proofs.YtbbdjoahdbjljaaW.PrintWords Go.Proofs.YtbbdjoahdbjljaaW.PrintLast Go.Proofs.YtbbdjoahdbjljaaW.PrintMore
attribute [local go_sem] max2_int min2_int max_two min_two max_three min_three max_four min_four -- for this text's walks alone
set_option linter.unusedVariables false
set_option linter.unusedSimpArgs false
/-! ### spec_clQuiet: function 64 -/
mutual
def spec_clQuiet.l0:Nat→Int→Int→List (List Int)→List Int→List (List Int)→Int→Option ((List (List Int)))
 |0,_,_,_,_,_,_=>none
 |k+1,x1,x5,x6,x7,x9,x10=>if x10< x5 then ((spec_l1Has.f k x7 x10).bind fun t694=>(if t694=true then (spec_clQuiet.l0 k x1 x5 x6 x7 x9 (wrap64 (x10+1))) else (if 0≤x5 then (if (x5:Int).toNat≤35184372088832 then ((some (List.replicate (x5:Int).toNat 0:List Int)).bind fun y695=>(if 0≤x10 then (if x10< (y695.length:Int) then (spec_clQuiet.l1 k x1 x5 x6 x7 x9 x10 (y695.set (x10:Int).toNat 1) x7 (x7.length:Int) 0) else (none)) else (none))) else (none)) else (none)))) else ((spec_clSteps.f k x9 x1 x5).bind fun bt687=>(some bt687.1))
def spec_clQuiet.l1:Nat→Int→Int→List (List Int)→List Int→List (List Int)→Int→List Int→List Int→Int→Int→Option ((List (List Int)))
 |0,_,_,_,_,_,_,_,_,_,_=>none
 |k+1,x1,x5,x6,x7,x9,x10,x11,x42,x43,x44=>if x44< x43 then (if 0≤x44 then (if x44< (x42.length:Int) then (if x44< (x6.length:Int) then (if 0≤x10 then (if x10< ((rd_L1 x6 x44).length:Int) then (if x1=0 then (none) else (if 0≤(rd x42 x44) then (if (rd x42 x44)< (x11.length:Int) then (spec_clQuiet.l1 k x1 x5 x6 x7 x9 x10 (x11.set ((rd x42 x44):Int).toNat (Int.tmod (wrap64 (x1 - (rd (rd_L1 x6 x44) x10))) x1)) x42 x43 (wrap64 (x44+1))) else (none)) else (none))) else (none)) else (none)) else (none)) else (none)) else (none)) else (if x9.length< 5864062014805 then (spec_clQuiet.l0 k x1 x5 x6 x7 (x9++[x11]) (wrap64 (x10+1))) else (none))
end
def spec_clQuiet.f (k:Nat) (l0_0:List Int) (a0_1:Bool) (a1:Int):Option ((List (List Int))):=(spec_clTable.f k l0_0 a0_1).bind fun t677=>((spec_clSteps.f k t677 a1 (l0_0.length:Int)).bind fun bt680=>(spec_clQuiet.l0 k a1 (l0_0.length:Int) bt680.1 bt680.2.1 ([]:List (List Int)) 0))
set_option maxHeartbeats 8000000 in
set_option maxRecDepth 100000 in
theorem spec_clQuiet.calls (k:Nat) (A0_0:Option Addr) (c0_0:Nat) (l0_0:List Int) (a0_1:Bool) (a1:Int) (r:List (List Int)) (w:World) (hr0_0:Kd.C (Kd.int .i64) w A0_0 l0_0.length l0_0) (hc0_0:l0_0.length≤c0_0) (h:spec_clQuiet.f k l0_0 a0_1 a1=some r):
  Calls Try.prog 64 #[.agg #[.slice A0_0 l0_0.length c0_0,.bool a0_1],.int .i64 a1] w fun e w'=>∃ v0_:Value,e=.returned (v0_)∧Kd.S (Kd.slice 3 (Kd.int .i64)) 22 w' w.heap.size (fun _=>True) v0_ r∧Below w.heap.size w w':=by
 have hu28:=Try.underlying28
 have HR0_0:=Aside0.mk hr0_0
 have HC0_0:=Aside0.mk hc0_0
 clear hr0_0 hc0_0
 have HB:=Aside0.mk (Below.refl w.heap.size w)
 have H:((spec_clTable.f k l0_0 a0_1).bind fun t677=>((spec_clSteps.f k t677 a1 (l0_0.length:Int)).bind fun bt680=>(spec_clQuiet.l0 k a1 (l0_0.length:Int) bt680.1 bt680.2.1 ([]:List (List Int)) 0)))=some r:=h
 clear h
 replace H:=Option.bind_eq_some_iff.mp H
 obtain ⟨t677,A30,H⟩:=H
 replace H:((spec_clSteps.f k t677 a1 (l0_0.length:Int)).bind fun bt680=>(spec_clQuiet.l0 k a1 (l0_0.length:Int) bt680.1 bt680.2.1 ([]:List (List Int)) 0))=some r:=H
 have A3:=Aside0.mk A30
 clear A30
 replace H:=Option.bind_eq_some_iff.mp H
 obtain ⟨⟨t680,t681,t682⟩,A40,H⟩:=H
 replace H:(spec_clQuiet.l0 k a1 (l0_0.length:Int) t680 t681 ([]:List (List Int)) 0)=some r:=H
 have A4:=Aside0.mk A40
 clear A40
 have H':=Aside0.mk H
 clear H
 go_enter Try.func64,Try.ntmps64
 go_wp2_with (first|((with_reducible refine gate_dst (N:=2) rfl ?_);refine box_event ?hg (N:=2) ?hd (cs:=#[.slice A0_0 l0_0.length c0_0,.bool a0_1]) (t:=28) ?hr ?_;(case hd=>rfl);(case hg=>rfl);(case hr=>first|(go_simp;done)|(go_simp;rfl));intro gb676 hg w5 hbox hb;have n0_:=Aside0.mk (below_step (by repeat (first|(with_reducible first|exact HB.out|apply below_alloc|apply pw_below_drewN|apply below_drew1)|exact HB.out)) hb);have n1_:=Aside0.mk (hbox);have n2_:=Aside0.mk ((by rw [hg];exact (below_size (by repeat (first|(with_reducible first|exact HB.out|apply below_alloc|apply pw_below_drewN|apply below_drew1)|exact HB.out))):w.heap.size≤gb676));have n3_:=Aside0.mk ((by rw [hg];exact (below_size (by repeat (first|(with_reducible first|exact HB.out|apply below_alloc|apply pw_below_drewN|apply below_drew1)|exact HB.out))):w.heap.size≤gb676));clear HB;have HB:=n0_;have BK676:=n1_;have GW676:=n2_;have GE676:=n3_;clear n0_ n1_ n2_ n3_;clear hb hbox hg;have hcz6_0:w5.cell? ⟨gb676,0,none⟩=some (.slice A0_0 l0_0.length c0_0):=(blk_cell BK676.out 0).trans rfl;have hcz6_1:w5.cell? ⟨gb676,1,none⟩=some (.bool a0_1):=(blk_cell BK676.out 1).trans rfl;have hfz6_0:=blk_frozen BK676.out 0;have hfz6_1:=blk_frozen BK676.out 1)|((with_reducible refine gate_callee (f:=62) rfl ?_);refine goesL_ (some 22) rfl rfl Try.func62 (by kernel_rfl) rfl #[.agg #[.slice A0_0 l0_0.length c0_0,.bool a0_1]] rfl (by (try simp only [List.map_toArray,List.map_cons,List.map_nil]);first|done|rfl|(simp only [List.length_drop,List.length_take];rfl)) ?_;(with_reducible refine (spec_clTable.calls k _ _ l0_0 a0_1 t677 _ ?side1 ?side2 A3.out).mono ?_);(case side1=>repeat (first|exact (Kd.C_below HR0_0.out HB.out)|(with_reducible refine Kd.C_alloc ?_ _)|(with_reducible refine Kd.C_drewN ?_ _)|(with_reducible refine Kd.C_drew ?_)));(case side2=>exact HC0_0.out);rintro e w7 ⟨v678,rfl,ho0,hb⟩;refine ⟨_,rfl,?_⟩;have n0_:=Aside0.mk (Kd.S_lower ho0 (below_size (by repeat (first|(with_reducible first|exact HB.out|apply below_alloc|apply pw_below_drewN|apply below_drew1|refine below_set ?_ GE676.out)|exact HB.out))));have n1_:=Aside0.mk (blk_below (g:=gb676) (o:=.cells #[.slice A0_0 l0_0.length c0_0,.bool a0_1] 28 (0,0)) (by (with_reducible repeat (first|refine blk_drewN ?_ _|refine blk_drew ?_|refine blk_alloc ?_ _));exact BK676.out) hb);have n2_:=Aside0.mk (below_step (by repeat (first|(with_reducible first|exact HB.out|apply below_alloc|apply pw_below_drewN|apply below_drew1|refine below_set ?_ GE676.out)|exact HB.out)) hb);clear BK676;clear HB;have HO679:=n0_;have BK676:=n1_;have HB:=n2_;clear n0_ n1_ n2_;(try clear hb);(try clear hb2);(try clear hk);(try clear hi);(try clear ho0);obtain ⟨Ao8,co8,eo8⟩:=Kd.S_slice HO679.out;subst eo8)|((with_reducible refine gate_callee (f:=61) rfl ?_);refine goesL_ (some 25) rfl rfl Try.func61 (by kernel_rfl) rfl #[.slice Ao8 t677.length co8,.int .i64 a1,.int .i64 (l0_0.length:Int)] rfl (by (try simp only [List.map_toArray,List.map_cons,List.map_nil]);first|done|rfl|(simp only [List.length_drop,List.length_take];rfl)) ?_;(with_reducible refine (spec_clSteps.calls k _ _ t677 a1 (l0_0.length:Int) t680 t681 t682 _ ?side1 ?side2 A4.out).mono ?_);(case side1=>repeat (first|exact (Kd.S_reads' HO679.out).2.2|(with_reducible refine Kd.C_alloc ?_ _)|(with_reducible refine Kd.C_drewN ?_ _)|(with_reducible refine Kd.C_drew ?_)));(case side2=>exact (Kd.S_reads' HO679.out).2.1);rintro e w9 ⟨v683,v685,rfl,ho0,ho1,hb⟩;refine ⟨_,rfl,?_⟩;have n0_:=Aside0.mk (Kd.S_mono (Kd.S_told (Kd.S_told (Kd.S_old (by (with_reducible repeat (first|apply Kd.S_alloc|apply Kd.S_drewN|apply Kd.S_drew));exact HO679.out) hb) (Kd.S_base ho0)) (Kd.R_base ho1)) (fun _ h_=>h_.1));have n1_:=Aside0.mk (Kd.S_lower (Kd.S_new' ho0 (Kd.S_lt (by (with_reducible repeat (first|apply Kd.S_alloc|apply Kd.S_drewN|apply Kd.S_drew));exact HO679.out))) (below_size (by repeat (first|(with_reducible first|exact HB.out|apply below_alloc|apply pw_below_drewN|apply below_drew1|refine below_set ?_ GE676.out)|exact HB.out))));have n2_:=Aside0.mk (Kd.R_lower ho1 (below_size (by repeat (first|(with_reducible first|exact HB.out|apply below_alloc|apply pw_below_drewN|apply below_drew1|refine below_set ?_ GE676.out)|exact HB.out))));have n3_:=Aside0.mk (blk_below (g:=gb676) (o:=.cells #[.slice A0_0 l0_0.length c0_0,.bool a0_1] 28 (0,0)) (by (with_reducible repeat (first|refine blk_drewN ?_ _|refine blk_drew ?_|refine blk_alloc ?_ _));exact BK676.out) hb);have n4_:=Aside0.mk (below_step (by repeat (first|(with_reducible first|exact HB.out|apply below_alloc|apply pw_below_drewN|apply below_drew1|refine below_set ?_ GE676.out)|exact HB.out)) hb);clear HO679;clear BK676;clear HB;have HO679:=n0_;have HO684:=n1_;have HO686:=n2_;have BK676:=n3_;have HB:=n4_;clear n0_ n1_ n2_ n3_ n4_;(try clear hb);(try clear hb2);(try clear hk);(try clear hi);(try clear ho0);(try clear ho1)))
 go_loopg [9,10] k (fun kq v9 v10 w'=>∃ (x7_1:List Int) (x9_1:List (List Int)) (x10_1:Int),v10=.int .i64 x10_1∧Aside0 (spec_clQuiet.l0 kq a1 (l0_0.length:Int) t680 x7_1 x9_1 x10_1=some r)∧Aside0 (kq≤k)∧Aside0 (Kd.S (Kd.slice 3 (Kd.int .i64)) 22 w' w.heap.size (fun k_=>some k_≠(v685:Value).ownBlock∧some k_≠(v9:Value).ownBlock) v683 t680)∧Aside0 (Kd.R (Kd.int .i64) 3 w' w.heap.size (fun _=>True) v685 x7_1)∧Aside0 (Kd.S (Kd.slice 3 (Kd.int .i64)) 22 w' w.heap.size (fun k_=>some k_≠(v683:Value).ownBlock∧some k_≠(v685:Value).ownBlock) v9 x9_1)∧Aside0 (w'.heap[gb676]?=some (.cells #[(.slice A0_0 l0_0.length c0_0),.bool a0_1] 28 (0,0)))∧Aside0 (Below w.heap.size w w'))
 case atStart=>exact ⟨(t681),(([]:List (List Int))),(0),(by first|rfl|(simp;done)|(simp [*];done)),H',⟨Nat.le_refl _⟩,⟨by (with_reducible repeat (first|apply Kd.S_alloc|apply Kd.S_drewN|apply Kd.S_drew));exact Kd.S_mono HO684.out (fun _ hk=>⟨hk.1,(by simp [Value.ownBlock])⟩)⟩,⟨by (with_reducible repeat (first|apply Kd.R_alloc|apply Kd.R_drewN|apply Kd.R_drew));exact HO686.out⟩,⟨by first|exact Kd.S_nil _ _ _ _ _|exact Kd.N_nil _ _ _ _ _|exact Kd.V_nil _ _ _ _ _|exact Kd.Q_nil _ _ _ _ _|exact Kd.R_nil _ _ _ _ _⟩,⟨by (with_reducible repeat (first|refine blk_drewN ?_ _|refine blk_drew ?_|refine blk_alloc ?_ _));exact BK676.out⟩,⟨by repeat (first|(with_reducible first|exact HB.out|apply below_alloc|apply pw_below_drewN|apply below_drew1|refine below_set ?_ GE676.out)|exact HB.out)⟩⟩
 case round=>
  clear H'
  (try clear p2);(try clear c6);(try clear hcz6_0);(try clear hcz6_1);(try clear hfz6_0);(try clear hfz6_1)
  obtain ⟨x7_1,x9_1,x10_1,rfl,HA,HK1,HO_6,HO_7,HO_9,BK676,HB⟩:=hrel
  cases gk with
  |zero=>exact absurd HA.out (by simp [spec_clQuiet.l0])
  |succ k1=>
   have H:=HA.out
   clear HA
   simp only [spec_clQuiet.l0] at H
   by_cases c10:x10_1< (l0_0.length:Int)
   ·rw [if_pos c10] at H
    have c10b0:decide (x10_1< (l0_0.length:Int))=true:=decide_eq_true c10
    clear c10
    replace H:=Option.bind_eq_some_iff.mp H
    obtain ⟨t694,A110,H⟩:=H
    replace H:(if t694=true then (spec_clQuiet.l0 k1 a1 (l0_0.length:Int) t680 x7_1 x9_1 (wrap64 (x10_1+1))) else (if 0≤(l0_0.length:Int) then (if ((l0_0.length:Int):Int).toNat≤35184372088832 then ((some (List.replicate ((l0_0.length:Int):Int).toNat 0:List Int)).bind fun y695=>(if 0≤x10_1 then (if x10_1< (y695.length:Int) then (spec_clQuiet.l1 k1 a1 (l0_0.length:Int) t680 x7_1 x9_1 x10_1 (y695.set (x10_1:Int).toNat 1) x7_1 (x7_1.length:Int) 0) else (none)) else (none))) else (none)) else (none)))=some r:=H
    have A11:=Aside0.mk A110
    clear A110
    by_cases c12:t694=true
    ·subst c12
     have H1:(spec_clQuiet.l0 k1 a1 (l0_0.length:Int) t680 x7_1 x9_1 (wrap64 (x10_1+1)))=some r:=by rw [if_pos rfl] at H;exact H
     clear H
     have H:=H1
     clear H1
     have H':=Aside0.mk H
     clear H
     obtain ⟨Ao13,co13,eo13⟩:=Kd.R_slice HO_7.out
     subst eo13
     go_wp2_with (first|((with_reducible refine gate_callee (f:=86) rfl ?_);refine goesL_ (some 36) rfl rfl Try.func86 (by kernel_rfl) rfl #[.slice Ao13 x7_1.length co13,.int .i64 x10_1] rfl (by (try simp only [List.map_toArray,List.map_cons,List.map_nil]);first|done|rfl|(simp only [List.length_drop,List.length_take];rfl)) ?_;(with_reducible refine (spec_l1Has.calls k1 _ _ x7_1 x10_1 true _ ?side1 ?side2 A11.out).mono ?_);(case side1=>repeat (first|exact (Kd.R_reads' HO_7.out).2.2|(with_reducible refine Kd.C_alloc ?_ _)|(with_reducible refine Kd.C_drewN ?_ _)|(with_reducible refine Kd.C_drew ?_)));(case side2=>exact (Kd.R_reads' HO_7.out).2.1);rintro e w' ⟨rfl,⟨nd,rfl⟩⟩;refine ⟨_,rfl,?_⟩))
     go_roundg k1
     case measure=>have:=HK1.out;omega
     case rel=>exact ⟨(x7_1),(x9_1),(wrap64 (x10_1+1)),(by first|rfl|(simp;done)|(simp [*];done)),H',⟨by have:=HK1.out;omega⟩,⟨by (with_reducible repeat (first|apply Kd.S_alloc|apply Kd.S_drewN|apply Kd.S_drew));exact HO_6.out⟩,⟨by (with_reducible repeat (first|apply Kd.R_alloc|apply Kd.R_drewN|apply Kd.R_drew));exact HO_7.out⟩,⟨by (with_reducible repeat (first|apply Kd.S_alloc|apply Kd.S_drewN|apply Kd.S_drew));exact HO_9.out⟩,⟨by (with_reducible repeat (first|refine blk_drewN ?_ _|refine blk_drew ?_|refine blk_alloc ?_ _));exact BK676.out⟩,⟨by repeat (first|(with_reducible first|exact HB.out|apply below_alloc|apply pw_below_drewN|apply below_drew1|refine below_set ?_ GE676.out)|exact HB.out)⟩⟩
    ·replace c12:=Bool.eq_false_iff.mpr c12
     subst c12
     have H1:(if 0≤(l0_0.length:Int) then (if ((l0_0.length:Int):Int).toNat≤35184372088832 then ((some (List.replicate ((l0_0.length:Int):Int).toNat 0:List Int)).bind fun y695=>(if 0≤x10_1 then (if x10_1< (y695.length:Int) then (spec_clQuiet.l1 k1 a1 (l0_0.length:Int) t680 x7_1 x9_1 x10_1 (y695.set (x10_1:Int).toNat 1) x7_1 (x7_1.length:Int) 0) else (none)) else (none))) else (none)) else (none))=some r:=by rw [if_neg (show ¬ (false=true) by decide)] at H;exact H
     clear H
     have H:=H1
     clear H1
     by_cases c14:0≤(l0_0.length:Int)
     ·rw [if_pos c14] at H
      have c14b0:=eq_true c14
      have c14b1:decide (0≤(l0_0.length:Int))=true:=decide_eq_true c14
      clear c14
      by_cases c15:((l0_0.length:Int):Int).toNat≤35184372088832
      ·rw [if_pos c15] at H
       have c15b0:=eq_true c15
       have c15b1:decide (((l0_0.length:Int):Int).toNat≤35184372088832)=true:=decide_eq_true c15
       clear c15
       obtain ⟨y695,hy695⟩:∃ y_:List Int,y_=(List.replicate ((l0_0.length:Int):Int).toNat 0):=⟨_,rfl⟩
       replace H:(if 0≤x10_1 then (if x10_1< (y695.length:Int) then (spec_clQuiet.l1 k1 a1 (l0_0.length:Int) t680 x7_1 x9_1 x10_1 (y695.set (x10_1:Int).toNat 1) x7_1 (x7_1.length:Int) 0) else (none)) else (none))=some r:=by first|(rw [hy695];with_reducible exact H)|(have H2_:=(Option.bind_some _ _).symm.trans H;rw [hy695];with_reducible exact H2_)|(have H2_:=(Option.bind_some _ _).symm.trans H;with_reducible exact H2_)|with_reducible exact H|(rw [hy695];exact H)|exact H
       have Ny695:=Aside0.mk hy695
       clear hy695
       by_cases c16:0≤x10_1
       ·rw [if_pos c16] at H
        have c16b0:decide (0≤x10_1)=true:=decide_eq_true c16
        clear c16
        by_cases c17:x10_1< (y695.length:Int)
        ·rw [if_pos c17] at H
         have c17b0:decide (x10_1< (y695.length:Int))=true:=decide_eq_true c17
         clear c17
         obtain ⟨y698,hy698⟩:∃ y_:List Int,y_=(y695.set (x10_1:Int).toNat 1):=⟨_,rfl⟩
         replace H:(spec_clQuiet.l1 k1 a1 (l0_0.length:Int) t680 x7_1 x9_1 x10_1 y698 x7_1 (x7_1.length:Int) 0)=some r:=by first|(rw [hy698];with_reducible exact H)|(have H2_:=(Option.bind_some _ _).symm.trans H;rw [hy698];with_reducible exact H2_)|(have H2_:=(Option.bind_some _ _).symm.trans H;with_reducible exact H2_)|with_reducible exact H|(rw [hy698];exact H)|exact H
         have Ny698:=Aside0.mk hy698
         clear hy698
         have H':=Aside0.mk H
         clear H
         obtain ⟨Ao19,co19,eo19⟩:=Kd.R_slice HO_7.out
         subst eo19
         go_wp2_with (first|((with_reducible refine gate_callee (f:=86) rfl ?_);refine goesL_ (some 36) rfl rfl Try.func86 (by kernel_rfl) rfl #[.slice Ao19 x7_1.length co19,.int .i64 x10_1] rfl (by (try simp only [List.map_toArray,List.map_cons,List.map_nil]);first|done|rfl|(simp only [List.length_drop,List.length_take];rfl)) ?_;(with_reducible refine (spec_l1Has.calls k1 _ _ x7_1 x10_1 false _ ?side1 ?side2 A11.out).mono ?_);(case side1=>repeat (first|exact (Kd.R_reads' HO_7.out).2.2|(with_reducible refine Kd.C_alloc ?_ _)|(with_reducible refine Kd.C_drewN ?_ _)|(with_reducible refine Kd.C_drew ?_)));(case side2=>exact (Kd.R_reads' HO_7.out).2.1);rintro e w' ⟨rfl,⟨nd,rfl⟩⟩;refine ⟨_,rfl,?_⟩;(try (rw [drewN_self wr];generalize hq_:World.drewN wr _=wr;have n0_:Aside0 (Kd.S (Kd.slice 3 (Kd.int .i64)) 22 wr w.heap.size (fun k_=>some k_≠(.slice Ao19 x7_1.length co19:Value).ownBlock∧some k_≠(u9:Value).ownBlock) v683 t680):=⟨by rw [← hq_];exact (by (with_reducible repeat (first|apply Kd.S_alloc|apply Kd.S_drewN|apply Kd.S_drew));exact HO_6.out)⟩;have n1_:Aside0 (Kd.R (Kd.int .i64) 3 wr w.heap.size (fun _=>True) (.slice Ao19 x7_1.length co19) x7_1):=⟨by rw [← hq_];exact (by (with_reducible repeat (first|apply Kd.R_alloc|apply Kd.R_drewN|apply Kd.R_drew));exact HO_7.out)⟩;have n2_:Aside0 (Kd.S (Kd.slice 3 (Kd.int .i64)) 22 wr w.heap.size (fun k_=>some k_≠(v683:Value).ownBlock∧some k_≠(.slice Ao19 x7_1.length co19:Value).ownBlock) u9 x9_1):=⟨by rw [← hq_];exact (by (with_reducible repeat (first|apply Kd.S_alloc|apply Kd.S_drewN|apply Kd.S_drew));exact HO_9.out)⟩;have n3_:Aside0 (wr.heap[gb676]?=some (.cells #[.slice A0_0 l0_0.length c0_0,.bool a0_1] 28 (0,0))):=⟨by rw [← hq_];exact (by (with_reducible repeat (first|refine blk_drewN ?_ _|refine blk_drew ?_|refine blk_alloc ?_ _));exact BK676.out)⟩;have n4_:Aside0 (Below w.heap.size w wr):=⟨by rw [← hq_];exact (by repeat (first|(with_reducible first|exact HB.out|apply below_alloc|apply pw_below_drewN|apply below_drew1|refine below_set ?_ GE676.out)|exact HB.out))⟩;clear HO_6 HO_7 HO_9 BK676 HB hq_;have HO_6:=n0_;have HO_7:=n1_;have HO_9:=n2_;have BK676:=n3_;have HB:=n4_;clear n0_ n1_ n2_ n3_ n4_)))|((with_reducible refine gate_dst (N:=38) rfl ?_);refine Kd.R_make (Kd.int .i64) _ 3 rfl (N:=38) rfl 22 _ _ rfl (l0_0.length:Int) rfl rfl Try.underlying22 (.int .i64 0) 8 info3 rfl (by decide) (by omega) 0 (ok:=fun _=>True) (okp:=fun _=>True) rfl (fun _ hk=>hk) trivial (of_decide_eq_true (by first|(with_reducible assumption)|assumption)) (Nat.le_trans (Nat.mul_le_mul_right _ (of_decide_eq_true (by first|(with_reducible assumption)|assumption):(l0_0.length:Int).toNat≤35184372088832)) (by omega)) (Below.refl _ _) (Nat.le_refl _) ?_;intro v696 w20 ho21 hb hg_ hnew_;clear hg_ hnew_;(first|rw [← Ny695.out] at ho21|(simp only [Int.reduceToNat] at ho21;rw [← Ny695.out] at ho21));have n0_:=Aside0.mk (Kd.S_elder' (by (with_reducible repeat (first|apply Kd.S_alloc|apply Kd.S_drewN|apply Kd.S_drew));exact HO_6.out) (Kd.R_base ho21) hb);have n1_:=Aside0.mk (Kd.R_elder' (by (with_reducible repeat (first|apply Kd.R_alloc|apply Kd.R_drewN|apply Kd.R_drew));exact HO_7.out) (Kd.R_base ho21) hb);have n2_:=Aside0.mk (Kd.S_elder' (by (with_reducible repeat (first|apply Kd.S_alloc|apply Kd.S_drewN|apply Kd.S_drew));exact HO_9.out) (Kd.R_base ho21) hb);have n3_:=Aside0.mk (Kd.R_lower (Kd.R_new' ho21 (Kd.R_lt (by (with_reducible repeat (first|apply Kd.R_alloc|apply Kd.R_drewN|apply Kd.R_drew));exact HO_7.out))) (below_size (by repeat (first|(with_reducible first|exact HB.out|apply below_alloc|apply pw_below_drewN|apply below_drew1|refine below_set ?_ GE676.out)|exact HB.out))));have n4_:=Aside0.mk (blk_below (g:=gb676) (o:=.cells #[.slice A0_0 l0_0.length c0_0,.bool a0_1] 28 (0,0)) (by (with_reducible repeat (first|refine blk_drewN ?_ _|refine blk_drew ?_|refine blk_alloc ?_ _));exact BK676.out) hb);have n5_:=Aside0.mk (below_step (by repeat (first|(with_reducible first|exact HB.out|apply below_alloc|apply pw_below_drewN|apply below_drew1|refine below_set ?_ GE676.out)|exact HB.out)) hb);clear HO_6;clear HO_7;clear HO_9;clear BK676;clear HB;have HO_6:=n0_;have HO_7:=n1_;have HO_9:=n2_;have HO697:=n3_;have BK676:=n4_;have HB:=n5_;clear n0_ n1_ n2_ n3_ n4_ n5_;clear hb ho21;have p18:0≤(x10_1:Int):=of_decide_eq_true (by first|(with_reducible assumption)|assumption);have q18:(x10_1:Int)< ((y695.length:Int):Int):=of_decide_eq_true (by first|(with_reducible assumption)|assumption);obtain ⟨go18,co18,eo18,gb18,gl18,cl18,HG18⟩:=Kd.R_form HO697.out (by omega);(first|cases eo18|(injection eo18 with ea_ en_ ec_;(first|subst ea_|(injection ea_ with ea_;subst ea_));subst ec_;clear en_));have GB18:=Aside0.mk gb18;have GG18:=Aside0.mk HG18;clear gb18 gl18 HG18;obtain ⟨hx18_0,hf18_0⟩:=Kd.R_celln 0 HO697.out (x10_1:Int) p18 q18;replace p18:=eq_true p18;replace q18:=eq_true q18;have n_:=Aside0.mk (Kd.R_mono (ok':=(fun k_=>some k_≠(.slice Ao19 x7_1.length co19:Value).ownBlock)) HO697.out (fun k_ hk=>hk.2));clear HO697;have HO697:=n_;clear n_;obtain ⟨hy22_,hz22_⟩:=Kd.R_celln 0 HO697.out (x10_1:Int) (of_decide_eq_true (by first|(with_reducible assumption)|assumption)) (of_decide_eq_true (by first|(with_reducible assumption)|assumption));have HP22:=Kd.R_putg HO697.out (x10_1:Int) 1)|((with_reducible refine gate_store (t:=3) (p:=41) rfl ?_);refine store_event (t:=3) (p:=41) (v:=?vo_w23) (w1:=(w20.setCell ⟨go18,(x10_1:Int).toNat,none⟩ (.int .i64 1))) ?hg ?ho ?hn ?hr ?_;(case ho=>rfl);(case hg=>rfl);(case hn=>rfl);(case hr=>first|(go_simp;done)|(go_simp;rfl));intro w23 hw;have hg:w20.grownBy w23 (some go18):=(by rw [hw];exact HP22.2);have hp_:Kd.R (Kd.int .i64) 3 w23 w.heap.size (fun k_=>some k_≠(.slice Ao19 x7_1.length co19:Value).ownBlock) (.slice (some ⟨go18,0,none⟩) y695.length co18) y698:=(by rw [hw,Ny698.out];exact HP22.1);clear HP22;have n0_:=Aside0.mk (Kd.S_after (v:=(.slice (some ⟨go18,0,none⟩) y695.length co18)) (v1:=(.slice (some ⟨go18,0,none⟩) y695.length co18)) (ok:=(fun k_=>some k_≠(.slice Ao19 x7_1.length co19:Value).ownBlock∧some k_≠(u9:Value).ownBlock)) (by (with_reducible repeat (first|apply Kd.S_alloc|apply Kd.S_drewN|apply Kd.S_drew));exact HO_6.out) hg (.inl rfl));have n1_:=Aside0.mk (Kd.R_after (v:=(.slice (some ⟨go18,0,none⟩) y695.length co18)) (v1:=(.slice (some ⟨go18,0,none⟩) y695.length co18)) (ok:=(fun _=>True)) (by (with_reducible repeat (first|apply Kd.R_alloc|apply Kd.R_drewN|apply Kd.R_drew));exact HO_7.out) hg (.inl rfl));have n2_:=Aside0.mk (Kd.S_after (v:=(.slice (some ⟨go18,0,none⟩) y695.length co18)) (v1:=(.slice (some ⟨go18,0,none⟩) y695.length co18)) (ok:=(fun k_=>some k_≠(v683:Value).ownBlock∧some k_≠(.slice Ao19 x7_1.length co19:Value).ownBlock)) (by (with_reducible repeat (first|apply Kd.S_alloc|apply Kd.S_drewN|apply Kd.S_drew));exact HO_9.out) hg (.inl rfl));have n3_:=Aside0.mk (blk_grown (g:=gb676) (o:=.cells #[.slice A0_0 l0_0.length c0_0,.bool a0_1] 28 (0,0)) (by (with_reducible repeat (first|refine blk_drewN ?_ _|refine blk_drew ?_|refine blk_alloc ?_ _));exact BK676.out) hg (Kd.R_ne HO697.out BK676.out (by decide)));have n4_:=Aside0.mk (hp_);have n5_:=Aside0.mk ((by rw [hw];exact below_set (HB.out) GB18.out:Below w.heap.size w w23));clear HO_6;clear HO_7;clear HO_9;clear BK676;clear HO697;clear HB;have HO_6:=n0_;have HO_7:=n1_;have HO_9:=n2_;have BK676:=n3_;have HO697:=n4_;have HB:=n5_;clear n0_ n1_ n2_ n3_ n4_ n5_;clear hg hw hp_))
         go_loopg [44] k1 (fun kq v44 w'=>∃ (x11_2:List Int) (x44_2:Int),v44=.int .i64 x44_2∧Aside0 (spec_clQuiet.l1 kq a1 (l0_0.length:Int) t680 x7_1 x9_1 x10_1 x11_2 x7_1 (x7_1.length:Int) x44_2=some r)∧Aside0 (kq≤k1)∧Aside0 (Kd.S (Kd.slice 3 (Kd.int .i64)) 22 w' w.heap.size (fun k_=>some k_≠((.slice Ao19 x7_1.length co19):Value).ownBlock∧some k_≠(u9:Value).ownBlock∧some k_≠((.slice (some ⟨go18,0,none⟩) y695.length co18):Value).ownBlock∧some k_≠((.slice Ao19 x7_1.length co19):Value).ownBlock) v683 t680)∧Aside0 (Kd.R (Kd.int .i64) 3 w' w.heap.size (fun k_=>some k_≠((.slice (some ⟨go18,0,none⟩) y695.length co18):Value).ownBlock) (.slice Ao19 x7_1.length co19) x7_1)∧Aside0 (Kd.S (Kd.slice 3 (Kd.int .i64)) 22 w' w.heap.size (fun k_=>some k_≠(v683:Value).ownBlock∧some k_≠((.slice Ao19 x7_1.length co19):Value).ownBlock∧some k_≠((.slice (some ⟨go18,0,none⟩) y695.length co18):Value).ownBlock∧some k_≠((.slice Ao19 x7_1.length co19):Value).ownBlock) u9 x9_1)∧Aside0 (Kd.R (Kd.int .i64) 3 w' w.heap.size (fun k_=>some k_≠((.slice Ao19 x7_1.length co19):Value).ownBlock∧some k_≠((.slice Ao19 x7_1.length co19):Value).ownBlock) (.slice (some ⟨go18,0,none⟩) y695.length co18) x11_2)∧Aside0 (Kd.R (Kd.int .i64) 3 w' w.heap.size (fun k_=>some k_≠((.slice (some ⟨go18,0,none⟩) y695.length co18):Value).ownBlock) (.slice Ao19 x7_1.length co19) x7_1)∧Aside0 (w'.heap[gb676]?=some (.cells #[(.slice A0_0 l0_0.length c0_0),.bool a0_1] 28 (0,0)))∧Aside0 (Below w.heap.size w w'))
         case atStart=>exact ⟨(y698),(0),(by first|rfl|(simp;done)|(simp [*];done)),H',⟨Nat.le_refl _⟩,⟨by (with_reducible repeat (first|apply Kd.S_alloc|apply Kd.S_drewN|apply Kd.S_drew));exact Kd.S_mono HO_6.out (fun _ hk=>⟨hk.1.1,⟨hk.1.2,⟨hk.2,hk.1.1⟩⟩⟩)⟩,⟨by (with_reducible repeat (first|apply Kd.R_alloc|apply Kd.R_drewN|apply Kd.R_drew));exact Kd.R_mono HO_7.out (fun _ hk=>hk.2)⟩,⟨by (with_reducible repeat (first|apply Kd.S_alloc|apply Kd.S_drewN|apply Kd.S_drew));exact Kd.S_mono HO_9.out (fun _ hk=>⟨hk.1.1,⟨hk.1.2,⟨hk.2,hk.1.2⟩⟩⟩)⟩,⟨by (with_reducible repeat (first|apply Kd.R_alloc|apply Kd.R_drewN|apply Kd.R_drew));exact Kd.R_mono HO697.out (fun _ hk=>⟨hk,hk⟩)⟩,⟨by (with_reducible repeat (first|apply Kd.R_alloc|apply Kd.R_drewN|apply Kd.R_drew));exact Kd.R_mono HO_7.out (fun _ hk=>hk.2)⟩,⟨by (with_reducible repeat (first|refine blk_drewN ?_ _|refine blk_drew ?_|refine blk_alloc ?_ _));exact BK676.out⟩,⟨by repeat (first|(with_reducible first|exact HB.out|apply below_alloc|apply pw_below_drewN|apply below_drew1|refine below_set ?_ GE676.out)|exact HB.out)⟩⟩
         case round=>
          clear H'
          (try clear c1);(try clear p1);(try clear q1);(try clear hx1);(try clear p2);(try clear c6);(try clear p6);(try clear c8);(try clear c10);(try clear c10b0);(try clear c12);(try clear c14);(try clear c14b0);(try clear c14b1);(try clear c15);(try clear c15b0);(try clear c15b1);(try clear c16);(try clear c16b0);(try clear c17);(try clear c17b0);(try clear p18);(try clear q18);(try clear hx18);(try clear hf18);(try clear hcz6_0);(try clear hcz6_1);(try clear hfz6_0);(try clear hfz6_1);(try clear hx18_0);(try clear p18);(try clear p2);(try clear q18)
          obtain ⟨x11_2,x44_2,rfl,HA,HK2,HO_6,HO_7,HO_9,HO_11,HO_42,BK676,HB⟩:=hrel
          have hl11_2:=(Kd.R_reads' HO_11.out).1
          rw [hl11_2] at HO_11
          (try simp only [hl11_2])
          (try simp only [hl11_2] at BK676)
          (try simp only [hl11_2] at HO_6)
          (try simp only [hl11_2] at HO_7)
          (try simp only [hl11_2] at HO_9)
          (try simp only [hl11_2] at HO_42)
          cases gk with
          |zero=>exact absurd HA.out (by simp [spec_clQuiet.l1])
          |succ k2=>
           have H:=HA.out
           clear HA
           simp only [spec_clQuiet.l1] at H
           by_cases c24:x44_2< (x7_1.length:Int)
           ·rw [if_pos c24] at H
            have c24b0:decide (x44_2< (x7_1.length:Int))=true:=decide_eq_true c24
            clear c24
            by_cases c25:0≤x44_2
            ·rw [if_pos c25] at H
             have c25b0:decide (0≤x44_2)=true:=decide_eq_true c25
             clear c25
             by_cases c26:x44_2< (x7_1.length:Int)
             ·rw [if_pos c26] at H
              have c26b0:decide (x44_2< (x7_1.length:Int))=true:=decide_eq_true c26
              clear c26
              by_cases c27:x44_2< (t680.length:Int)
              ·rw [if_pos c27] at H
               have c27b0:decide (x44_2< (t680.length:Int))=true:=decide_eq_true c27
               clear c27
               by_cases c28:0≤x10_1
               ·rw [if_pos c28] at H
                have c28b0:decide (0≤x10_1)=true:=decide_eq_true c28
                clear c28
                by_cases c29:x10_1< ((rd_L1 t680 x44_2).length:Int)
                ·rw [if_pos c29] at H
                 have c29b0:decide (x10_1< ((rd_L1 t680 x44_2).length:Int))=true:=decide_eq_true c29
                 clear c29
                 by_cases c30:a1=0
                 ·rw [if_pos c30] at H
                  exact absurd H (by simp)
                 ·rw [if_neg c30] at H
                  have c30b0:(a1==0)=false:=beq_eq_false_iff_ne.mpr c30
                  have c30b1:(a1 !=0)=true:=bne_iff_ne.mpr c30
                  by_cases c31:0≤(rd x7_1 x44_2)
                  ·rw [if_pos c31] at H
                   have c31b0:decide (0≤(rd x7_1 x44_2))=true:=decide_eq_true c31
                   clear c31
                   by_cases c32:(rd x7_1 x44_2)< (x11_2.length:Int)
                   ·rw [if_pos c32] at H
                    have c32b0:decide ((rd x7_1 x44_2)< (x11_2.length:Int))=true:=decide_eq_true c32
                    clear c32
                    obtain ⟨y702,hy702⟩:∃ y_:List Int,y_=(x11_2.set ((rd x7_1 x44_2):Int).toNat (Int.tmod (wrap64 (a1 - (rd (rd_L1 t680 x44_2) x10_1))) a1)):=⟨_,rfl⟩
                    replace H:(spec_clQuiet.l1 k2 a1 (l0_0.length:Int) t680 x7_1 x9_1 x10_1 y702 x7_1 (x7_1.length:Int) (wrap64 (x44_2+1)))=some r:=by first|(rw [hy702];with_reducible exact H)|(have H2_:=(Option.bind_some _ _).symm.trans H;rw [hy702];with_reducible exact H2_)|(have H2_:=(Option.bind_some _ _).symm.trans H;with_reducible exact H2_)|with_reducible exact H|(rw [hy702];exact H)|exact H
                    have Ny702:=Aside0.mk hy702
                    clear hy702
                    have H':=Aside0.mk H
                    clear H
                    have p699:0≤(x44_2:Int):=of_decide_eq_true (by first|(with_reducible assumption)|assumption)
                    have q699:x44_2< (x7_1.length:Int):=of_decide_eq_true (by first|(with_reducible assumption)|assumption)
                    obtain ⟨ad699,e699,hx699_0⟩:=Kd.at_int (Kd.R_reads' HO_42.out).2.2 x44_2 p699 q699
                    cases e699
                    replace p699:=eq_true p699
                    replace q699:=eq_true q699
                    obtain ⟨Ao34,co34,eo34⟩:=Kd.S_slice HO_6.out
                    subst eo34
                    have p700:0≤(x44_2:Int):=of_decide_eq_true (by first|(with_reducible assumption)|assumption)
                    have q700:x44_2< (t680.length:Int):=of_decide_eq_true (by first|(with_reducible assumption)|assumption)
                    obtain ⟨ad700,A700_0,c700_0,e700,hx700_0,hl700_0,hi700_0⟩:=at_L1 (Kd.S_reads' HO_6.out).2.2 x44_2 p700 q700
                    cases e700
                    obtain ⟨ce700,hce700,hMe700,hcc700⟩:=Kd.S_get HO_6.out [] x44_2 p700 (by first|exact q700|exact of_decide_eq_true (by first|(with_reducible assumption)|assumption)|(have e_:=(Kd.S_reads' HO_6.out).1;omega))
                    obtain ⟨ve700_0,rfl,ge700_0⟩:=hMe700
                    have hv700_0:=hcc700 0 _ rfl
                    rw [Nat.add_zero,show ((Kd.slice 3 (Kd.int .i64))).sz=1 from rfl,Nat.mul_one] at hv700_0
                    replace hv700_0:=Option.some.inj (hv700_0.symm.trans hx700_0)
                    rw [hv700_0] at ge700_0
                    have HL700_0:=Aside0.mk (show Kd.R (Kd.int .i64) 3 _ _ _ _ (rd_L1 t680 x44_2) from ge700_0)
                    clear hv700_0 ge700_0;clear hcc700 hce700
                    have HR700_0:=Aside0.mk hi700_0
                    have HC700_0:=Aside0.mk hl700_0
                    clear hi700_0 hl700_0
                    replace p700:=eq_true p700
                    replace q700:=eq_true q700
                    have p701:0≤(x10_1:Int):=of_decide_eq_true (by first|(with_reducible assumption)|assumption)
                    have q701:x10_1< ((rd_L1 t680 x44_2).length:Int):=of_decide_eq_true (by first|(with_reducible assumption)|assumption)
                    obtain ⟨ad701,e701,hx701_0⟩:=Kd.at_int (by repeat (first|(with_reducible exact HR700_0.out)|(with_reducible refine Kd.C_alloc ?_ _)|(with_reducible refine Kd.C_drewN ?_ _)|(with_reducible refine Kd.C_drew ?_)|exact HR700_0.out)) x10_1 p701 q701
                    cases e701
                    replace p701:=eq_true p701
                    replace q701:=eq_true q701
                    have p33:0≤((rd x7_1 x44_2):Int):=of_decide_eq_true (by first|(with_reducible assumption)|assumption)
                    have q33:((rd x7_1 x44_2):Int)< ((x11_2.length:Int):Int):=of_decide_eq_true (by first|(with_reducible assumption)|assumption)
                    obtain ⟨hx33_0,hf33_0⟩:=Kd.R_celln 0 HO_11.out ((rd x7_1 x44_2):Int) p33 q33
                    replace p33:=eq_true p33
                    replace q33:=eq_true q33
                    have HP35:=Kd.R_putg HO_11.out ((rd x7_1 x44_2):Int) (Int.tmod (wrap64 (a1 - (rd (rd_L1 t680 x44_2) x10_1))) a1)
                    go_wp2_with (first|((with_reducible refine gate_store (t:=3) (p:=62) rfl ?_);refine store_event (t:=3) (p:=62) (v:=?vo_w36) (w1:=(wr.setCell ⟨go18,((rd x7_1 x44_2):Int).toNat,none⟩ (.int .i64 (Int.tmod (wrap64 (a1 - (rd (rd_L1 t680 x44_2) x10_1))) a1)))) ?hg ?ho ?hn ?hr ?_;(case ho=>rfl);(case hg=>rfl);(case hn=>rfl);(case hr=>first|(go_simp;done)|(go_simp;rfl));intro w36 hw;have hg:wr.grownBy w36 (some go18):=(by rw [hw];exact HP35.2);have hp_:Kd.R (Kd.int .i64) 3 w36 w.heap.size (fun k_=>some k_≠(.slice (some ad699) x7_1.length co19:Value).ownBlock∧some k_≠(.slice (some ad699) x7_1.length co19:Value).ownBlock) (.slice (some ⟨go18,0,none⟩) x11_2.length co18) y702:=(by rw [hw,Ny702.out];exact HP35.1);clear HP35;have n0_:=Aside0.mk (Kd.S_after (v:=(.slice (some ⟨go18,0,none⟩) x11_2.length co18)) (v1:=(.slice (some ⟨go18,0,none⟩) x11_2.length co18)) (ok:=(fun k_=>some k_≠(.slice (some ad699) x7_1.length co19:Value).ownBlock∧some k_≠(u9:Value).ownBlock∧some k_≠(.slice (some ad699) x7_1.length co19:Value).ownBlock)) (by (with_reducible repeat (first|apply Kd.S_alloc|apply Kd.S_drewN|apply Kd.S_drew));exact Kd.S_mono HO_6.out (fun _ hk=>⟨⟨hk.1,⟨hk.2.1,hk.2.2.2⟩⟩,hk.2.2.1⟩)) hg (.inl rfl));have n1_:=Aside0.mk (Kd.R_after (v:=(.slice (some ⟨go18,0,none⟩) x11_2.length co18)) (v1:=(.slice (some ⟨go18,0,none⟩) x11_2.length co18)) (ok:=(fun _=>True)) (by (with_reducible repeat (first|apply Kd.R_alloc|apply Kd.R_drewN|apply Kd.R_drew));exact Kd.R_mono HO_7.out (fun _ hk=>⟨trivial,hk⟩)) hg (.inl rfl));have n2_:=Aside0.mk (Kd.S_after (v:=(.slice (some ⟨go18,0,none⟩) x11_2.length co18)) (v1:=(.slice (some ⟨go18,0,none⟩) x11_2.length co18)) (ok:=(fun k_=>some k_≠(.slice (some ad700) t680.length co34:Value).ownBlock∧some k_≠(.slice (some ad699) x7_1.length co19:Value).ownBlock∧some k_≠(.slice (some ad699) x7_1.length co19:Value).ownBlock)) (by (with_reducible repeat (first|apply Kd.S_alloc|apply Kd.S_drewN|apply Kd.S_drew));exact Kd.S_mono HO_9.out (fun _ hk=>⟨⟨hk.1,⟨hk.2.1,hk.2.2.2⟩⟩,hk.2.2.1⟩)) hg (.inl rfl));have n3_:=Aside0.mk (hp_);have n4_:=Aside0.mk (Kd.R_after (v:=(.slice (some ⟨go18,0,none⟩) x11_2.length co18)) (v1:=(.slice (some ⟨go18,0,none⟩) x11_2.length co18)) (ok:=(fun _=>True)) (by (with_reducible repeat (first|apply Kd.R_alloc|apply Kd.R_drewN|apply Kd.R_drew));exact Kd.R_mono HO_42.out (fun _ hk=>⟨trivial,hk⟩)) hg (.inl rfl));have n5_:=Aside0.mk (blk_grown (g:=gb676) (o:=.cells #[.slice A0_0 l0_0.length c0_0,.bool a0_1] 28 (0,0)) (by (with_reducible repeat (first|refine blk_drewN ?_ _|refine blk_drew ?_|refine blk_alloc ?_ _));exact BK676.out) hg (Kd.R_ne HO_11.out BK676.out (by decide)));have n6_:=Aside0.mk (Kd.R_after (v:=(.slice (some ⟨go18,0,none⟩) x11_2.length co18)) (v1:=(.slice (some ⟨go18,0,none⟩) x11_2.length co18)) (ok:=(fun k_=>some k_≠(.slice (some ad700) t680.length co34:Value).ownBlock∧some k_≠(.slice (some ad699) x7_1.length co19:Value).ownBlock∧some k_≠(u9:Value).ownBlock∧some k_≠(.slice (some ad699) x7_1.length co19:Value).ownBlock)) (by (with_reducible repeat (first|apply Kd.R_alloc|apply Kd.R_drewN|apply Kd.R_drew));exact Kd.R_mono HL700_0.out (fun _ hk=>⟨⟨hk.2,⟨hk.1.1,⟨hk.1.2.1,hk.1.2.2.2⟩⟩⟩,hk.1.2.2.1⟩)) hg (.inl rfl));have n7_:=Aside0.mk ((by rw [hw];exact below_set (HB.out) GB18.out:Below w.heap.size w w36));clear HO_6;clear HO_7;clear HO_9;clear HO_11;clear HO_42;clear BK676;clear HL700_0;clear HB;have HO_6:=n0_;have HO_7:=n1_;have HO_9:=n2_;have HO_11:=n3_;have HO_42:=n4_;have BK676:=n5_;have HL700_0:=n6_;have HB:=n7_;clear n0_ n1_ n2_ n3_ n4_ n5_ n6_ n7_;clear hg hw hp_))
                    (try simp only [← hl11_2])
                    go_roundg k2
                    case measure=>have:=HK1.out;have:=HK2.out;omega
                    case rel=>exact ⟨(y702),(wrap64 (x44_2+1)),(by first|rfl|(simp;done)|(simp [*];done)),H',⟨by have:=HK1.out;have:=HK2.out;omega⟩,⟨by (try simp only [hl11_2]);(with_reducible repeat (first|apply Kd.S_alloc|apply Kd.S_drewN|apply Kd.S_drew));exact Kd.S_mono HO_6.out (fun _ hk=>⟨hk.1.1,⟨hk.1.2.1,⟨hk.2,hk.1.2.2⟩⟩⟩)⟩,⟨by (try simp only [hl11_2]);(with_reducible repeat (first|apply Kd.R_alloc|apply Kd.R_drewN|apply Kd.R_drew));exact Kd.R_mono HO_7.out (fun _ hk=>hk.2)⟩,⟨by (try simp only [hl11_2]);(with_reducible repeat (first|apply Kd.S_alloc|apply Kd.S_drewN|apply Kd.S_drew));exact Kd.S_mono HO_9.out (fun _ hk=>⟨hk.1.1,⟨hk.1.2.1,⟨hk.2,hk.1.2.2⟩⟩⟩)⟩,⟨by (try simp only [hl11_2]);(with_reducible repeat (first|apply Kd.R_alloc|apply Kd.R_drewN|apply Kd.R_drew));exact HO_11.out⟩,⟨by (try simp only [hl11_2]);(with_reducible repeat (first|apply Kd.R_alloc|apply Kd.R_drewN|apply Kd.R_drew));exact Kd.R_mono HO_42.out (fun _ hk=>hk.2)⟩,⟨by (try simp only [hl11_2]);(with_reducible repeat (first|refine blk_drewN ?_ _|refine blk_drew ?_|refine blk_alloc ?_ _));exact BK676.out⟩,⟨by repeat (first|(with_reducible first|exact HB.out|apply below_alloc|apply pw_below_drewN|apply below_drew1|refine below_set ?_ GE676.out)|exact HB.out)⟩⟩
                   ·rw [if_neg c32] at H
                    exact absurd H (by simp)
                  ·rw [if_neg c31] at H
                   exact absurd H (by simp)
                ·rw [if_neg c29] at H
                 exact absurd H (by simp)
               ·rw [if_neg c28] at H
                exact absurd H (by simp)
              ·rw [if_neg c27] at H
               exact absurd H (by simp)
             ·rw [if_neg c26] at H
              exact absurd H (by simp)
            ·rw [if_neg c25] at H
             exact absurd H (by simp)
           ·rw [if_neg c24] at H
            have c24b0:decide (x44_2< (x7_1.length:Int))=false:=decide_eq_false c24
            clear c24
            by_cases c37:x9_1.length< 5864062014805
            ·rw [if_pos c37] at H
             have LMc37:=Aside0.mk c37
             clear c37
             obtain ⟨y703,hy703⟩:∃ y_:List (List Int),y_=(x9_1++[x11_2]):=⟨_,rfl⟩
             replace H:(spec_clQuiet.l0 k2 a1 (l0_0.length:Int) t680 x7_1 y703 (wrap64 (x10_1+1)))=some r:=by first|(rw [hy703];with_reducible exact H)|(have H2_:=(Option.bind_some _ _).symm.trans H;rw [hy703];with_reducible exact H2_)|(have H2_:=(Option.bind_some _ _).symm.trans H;with_reducible exact H2_)|with_reducible exact H|(rw [hy703];exact H)|exact H
             have Ny703:=Aside0.mk hy703
             clear hy703
             have H':=Aside0.mk H
             clear H
             go_wp2_with (first|((with_reducible refine gate_builtin (b:=.append) (xs:=#[.tmp 64,.tmp 66]) rfl ?_);at_builtin;refine Kd.S_append (Kd.slice 3 (Kd.int .i64)) (w0:=w) w.heap.size rfl (.tmp 64) (.tmp 66) 44 22 (.slice none 0 0) 24 rfl Try.underlying44 info22 rfl (by decide) (by omega) u9 x9_1 x11_2 [.slice (some ⟨go18,0,none⟩) x11_2.length co18] (fun k_=>some k_≠(v683:Value).ownBlock∧some k_≠(.slice Ao19 x7_1.length co19:Value).ownBlock∧some k_≠(.slice Ao19 x7_1.length co19:Value).ownBlock) (fun k_=>some k_=(.slice (some ⟨go18,0,none⟩) x11_2.length co18:Value).ownBlock) rfl rfl ?aP (fun k_ hk_=>((Kd.R_mono (ok':=fun k_=>((fun k_=>some k_≠(v683:Value).ownBlock∧some k_≠(.slice Ao19 x7_1.length co19:Value).ownBlock∧some k_≠(.slice Ao19 x7_1.length co19:Value).ownBlock)) k_∧some k_≠(u9:Value).ownBlock) (Kd.R_apart' (Kd.R_apart' (HO_11.out) (Kd.S_typed HO_6.out) (by decide)) (Kd.S_typed HO_9.out) (by decide)) (fun k_ hk=>⟨⟨hk.1.2,⟨hk.1.1.1,hk.1.1.2⟩⟩,hk.2⟩))).1 k_ hk_.symm) ?aF ?aO ?aB ?aS ?aL ?_;(case aP=>exact Kd.M_row (Kd.R_mono (Kd.R_tight rfl (Kd.R_mono (ok':=fun k_=>((fun k_=>some k_≠(v683:Value).ownBlock∧some k_≠(.slice Ao19 x7_1.length co19:Value).ownBlock∧some k_≠(.slice Ao19 x7_1.length co19:Value).ownBlock)) k_∧some k_≠(u9:Value).ownBlock) (Kd.R_apart' (Kd.R_apart' (HO_11.out) (Kd.S_typed HO_6.out) (by decide)) (Kd.S_typed HO_9.out) (by decide)) (fun k_ hk=>⟨⟨hk.1.2,⟨hk.1.1.1,hk.1.1.2⟩⟩,hk.2⟩))) (fun _ h_=>h_)));(case aB=>exact (by repeat (first|(with_reducible first|exact HB.out|apply below_alloc|apply pw_below_drewN|apply below_drew1|refine below_set ?_ GE676.out)|exact HB.out)));(case aF=>exact (fun k_ hk=>⟨Kd.fresh' (Kd.S_lt (by (with_reducible repeat (first|apply Kd.S_alloc|apply Kd.S_drewN|apply Kd.S_drew));exact HO_6.out)) k_ hk,Kd.fresh' (Kd.R_lt (by (with_reducible repeat (first|apply Kd.R_alloc|apply Kd.R_drewN|apply Kd.R_drew));exact HO_7.out)) k_ hk,Kd.fresh' (Kd.R_lt (by (with_reducible repeat (first|apply Kd.R_alloc|apply Kd.R_drewN|apply Kd.R_drew));exact HO_42.out)) k_ hk⟩));(case aO=>exact (by (with_reducible repeat (first|apply Kd.S_alloc|apply Kd.S_drewN|apply Kd.S_drew));exact Kd.S_mono HO_9.out (fun k_ hk=>⟨⟨hk.1,⟨hk.2.1,hk.2.2.2⟩⟩,fun e_=>hk.2.2.1 e_⟩)));(case aS=>exact (below_size (by repeat (first|(with_reducible first|exact HB.out|apply below_alloc|apply pw_below_drewN|apply below_drew1|refine below_set ?_ GE676.out)|exact HB.out))));(case aL=>have:=LMc37.out;omega);intro v704 w38 ho hb hg hat;rw [← Ny703.out] at ho;have n0_:=Aside0.mk (Kd.S_after (ok:=(fun k_=>some k_≠(.slice Ao19 x7_1.length co19:Value).ownBlock∧some k_≠(.slice (some ⟨go18,0,none⟩) x11_2.length co18:Value).ownBlock∧some k_≠(.slice Ao19 x7_1.length co19:Value).ownBlock)) (by (with_reducible repeat (first|apply Kd.S_alloc|apply Kd.S_drewN|apply Kd.S_drew));exact Kd.S_mono HO_6.out (fun _ hk=>⟨⟨hk.1,⟨hk.2.2.1,hk.2.2.2⟩⟩,hk.2.1⟩)) hg hat);have n1_:=Aside0.mk (Kd.R_over' (by (with_reducible repeat (first|apply Kd.R_alloc|apply Kd.R_drewN|apply Kd.R_drew));exact HO_7.out) (Kd.S_typed (by (with_reducible repeat (first|apply Kd.S_alloc|apply Kd.S_drewN|apply Kd.S_drew));exact HO_9.out)) (by decide) hg);have n2_:=Aside0.mk (Kd.R_over' (by (with_reducible repeat (first|apply Kd.R_alloc|apply Kd.R_drewN|apply Kd.R_drew));exact HO_42.out) (Kd.S_typed (by (with_reducible repeat (first|apply Kd.S_alloc|apply Kd.S_drewN|apply Kd.S_drew));exact HO_9.out)) (by decide) hg);have n3_:=Aside0.mk (blk_grown (g:=gb676) (o:=.cells #[.slice A0_0 l0_0.length c0_0,.bool a0_1] 28 (0,0)) (by (with_reducible repeat (first|refine blk_drewN ?_ _|refine blk_drew ?_|refine blk_alloc ?_ _));exact BK676.out) hg (Kd.S_ne HO_9.out BK676.out (by decide)));have n4_:=Aside0.mk (hb);have n5_:=Aside0.mk (ho);clear HO_6;clear HO_7;clear HO_42;clear BK676;clear HB;clear HO_9;clear HO_11;have HO_6:=n0_;have HO_7:=n1_;have HO_42:=n2_;have BK676:=n3_;have HB:=n4_;have HO705:=n5_;clear n0_ n1_ n2_ n3_ n4_ n5_;clear ho hb hg hat))
             (try simp only [← hl11_2])
             go_roundg k2
             case measure=>have:=HK1.out;have:=HK2.out;omega
             case rel=>exact ⟨(x7_1),(y703),(wrap64 (x10_1+1)),(by first|rfl|(simp;done)|(simp [*];done)),H',⟨by have:=HK1.out;have:=HK2.out;omega⟩,⟨by (try simp only [hl11_2]);(with_reducible repeat (first|apply Kd.S_alloc|apply Kd.S_drewN|apply Kd.S_drew));exact Kd.S_mono HO_6.out (fun _ hk=>⟨hk.1.1,hk.2⟩)⟩,⟨by (try simp only [hl11_2]);(with_reducible repeat (first|apply Kd.R_alloc|apply Kd.R_drewN|apply Kd.R_drew));exact Kd.R_mono HO_7.out (fun _ hk=>trivial)⟩,⟨by (try simp only [hl11_2]);(with_reducible repeat (first|apply Kd.S_alloc|apply Kd.S_drewN|apply Kd.S_drew));exact Kd.S_mono HO705.out (fun _ hk=>⟨hk.1,hk.2.1⟩)⟩,⟨by (try simp only [hl11_2]);(with_reducible repeat (first|refine blk_drewN ?_ _|refine blk_drew ?_|refine blk_alloc ?_ _));exact BK676.out⟩,⟨by repeat (first|(with_reducible first|exact HB.out|apply below_alloc|apply pw_below_drewN|apply below_drew1|refine below_set ?_ GE676.out)|exact HB.out)⟩⟩
            ·rw [if_neg c37] at H
             exact absurd H (by simp)
        ·rw [if_neg c17] at H
         exact absurd H (by simp)
       ·rw [if_neg c16] at H
        exact absurd H (by simp)
      ·rw [if_neg c15] at H
       exact absurd H (by simp)
     ·rw [if_neg c14] at H
      exact absurd H (by simp)
   ·rw [if_neg c10] at H
    have c10b0:decide (x10_1< (l0_0.length:Int))=false:=decide_eq_false c10
    clear c10
    replace H:=Option.bind_eq_some_iff.mp H
    obtain ⟨⟨t687,t688,t689⟩,A390,H⟩:=H
    replace H:(some t687)=some r:=H
    have A39:=Aside0.mk A390
    clear A390
    obtain rfl:=Option.some.inj H
    obtain ⟨Ao40,co40,eo40⟩:=Kd.S_slice HO_9.out
    subst eo40
    go_wp2_with (first|((with_reducible refine gate_callee (f:=61) rfl ?_);refine goesL_ (some 72) rfl rfl Try.func61 (by kernel_rfl) rfl #[.slice Ao40 x9_1.length co40,.int .i64 a1,.int .i64 (l0_0.length:Int)] rfl (by (try simp only [List.map_toArray,List.map_cons,List.map_nil]);first|done|rfl|(simp only [List.length_drop,List.length_take];rfl)) ?_;(with_reducible refine (spec_clSteps.calls k1 _ _ x9_1 a1 (l0_0.length:Int) t687 t688 t689 _ ?side1 ?side2 A39.out).mono ?_);(case side1=>repeat (first|exact (Kd.S_reads' HO_9.out).2.2|(with_reducible refine Kd.C_alloc ?_ _)|(with_reducible refine Kd.C_drewN ?_ _)|(with_reducible refine Kd.C_drew ?_)));(case side2=>exact (Kd.S_reads' HO_9.out).2.1);rintro e w41 ⟨v690,v692,rfl,ho0,ho1,hb⟩;refine ⟨_,rfl,?_⟩;have n0_:=Aside0.mk (Kd.S_mono (Kd.S_told (Kd.S_told (Kd.S_old (by (with_reducible repeat (first|apply Kd.S_alloc|apply Kd.S_drewN|apply Kd.S_drew));exact HO_6.out) hb) (Kd.S_base ho0)) (Kd.R_base ho1)) (fun _ h_=>h_.1));have n1_:=Aside0.mk (Kd.R_elder' (by (with_reducible repeat (first|apply Kd.R_alloc|apply Kd.R_drewN|apply Kd.R_drew));exact HO_7.out) (Kd.R_base ho1) hb);have n2_:=Aside0.mk (Kd.S_mono (Kd.S_told (Kd.S_told (Kd.S_old (by (with_reducible repeat (first|apply Kd.S_alloc|apply Kd.S_drewN|apply Kd.S_drew));exact HO_9.out) hb) (Kd.S_base ho0)) (Kd.R_base ho1)) (fun _ h_=>h_.1));have n3_:=Aside0.mk (Kd.S_lower (Kd.S_new' (Kd.S_new' (Kd.S_new' ho0 (Kd.S_lt (by (with_reducible repeat (first|apply Kd.S_alloc|apply Kd.S_drewN|apply Kd.S_drew));exact HO_6.out))) (Kd.R_lt (by (with_reducible repeat (first|apply Kd.R_alloc|apply Kd.R_drewN|apply Kd.R_drew));exact HO_7.out))) (Kd.S_lt (by (with_reducible repeat (first|apply Kd.S_alloc|apply Kd.S_drewN|apply Kd.S_drew));exact HO_9.out))) (below_size (by repeat (first|(with_reducible first|exact HB.out|apply below_alloc|apply pw_below_drewN|apply below_drew1|refine below_set ?_ GE676.out)|exact HB.out))));have n4_:=Aside0.mk (Kd.R_lower (Kd.R_new' ho1 (Kd.R_lt (by (with_reducible repeat (first|apply Kd.R_alloc|apply Kd.R_drewN|apply Kd.R_drew));exact HO_7.out))) (below_size (by repeat (first|(with_reducible first|exact HB.out|apply below_alloc|apply pw_below_drewN|apply below_drew1|refine below_set ?_ GE676.out)|exact HB.out))));have n5_:=Aside0.mk (blk_below (g:=gb676) (o:=.cells #[.slice A0_0 l0_0.length c0_0,.bool a0_1] 28 (0,0)) (by (with_reducible repeat (first|refine blk_drewN ?_ _|refine blk_drew ?_|refine blk_alloc ?_ _));exact BK676.out) hb);have n6_:=Aside0.mk (below_step (by repeat (first|(with_reducible first|exact HB.out|apply below_alloc|apply pw_below_drewN|apply below_drew1|refine below_set ?_ GE676.out)|exact HB.out)) hb);clear HO_6;clear HO_7;clear HO_9;clear BK676;clear HB;have HO_6:=n0_;have HO_7:=n1_;have HO_9:=n2_;have HO691:=n3_;have HO693:=n4_;have BK676:=n5_;have HB:=n6_;clear n0_ n1_ n2_ n3_ n4_ n5_ n6_;(try clear hb);(try clear hb2);(try clear hk);(try clear hi);(try clear ho0);(try clear ho1)))
    go_ret
    exact ⟨_,by first|rfl|(simp [errW_none,errW_some]<;>rfl)|(simp [*,errW_none,errW_some]<;>rfl),by (with_reducible repeat (first|apply Kd.S_alloc|apply Kd.S_drewN|apply Kd.S_drew));exact Kd.S_mono HO691.out (fun _ hk=>trivial),by repeat (first|(with_reducible first|exact HB.out|apply below_alloc|apply pw_below_drewN|apply below_drew1|refine below_set ?_ GE676.out)|exact HB.out)⟩
end Go.Proofs.Ytbbdjoahdbjljaa.P
