-- Written by a program of this session (wip/mp.py), which runs the kit's print with contracts of the session's own.
import Derived.Test.YtbbdjoahdbjljaaPx0
import Derived.Test.YtbbdjoahdbjljaaPx1
import Derived.Test.YtbbdjoahdbjljaaPx8
namespace Go.Proofs.Ytbbdjoahdbjljaa.P
open Go.RowKit Go.Proofs.YtbbdjoahdbjljaaW.PrintWords Go.Proofs.YtbbdjoahdbjljaaW.PrintLast Go.Proofs.YtbbdjoahdbjljaaW.PrintMore
attribute [local go_sem] max2_int min2_int max_two min_two max_three min_three max_four min_four -- for this text's walks alone
set_option linter.unusedVariables false
set_option linter.unusedSimpArgs false
/-! ### spec_l1Own: function 82 -/
def spec_l1Own.f (l0:List Int):Option (List Int):=(some (([]:List Int):List Int)).bind fun y444=>(if y444.length+l0.length< 17592186044416 then (some (y444++l0)) else (none))
set_option maxHeartbeats 8000000 in
set_option maxRecDepth 100000 in
theorem spec_l1Own.calls (A0:Option Addr) (c0:Nat) (l0:List Int) (r:List Int) (w:World) (hr0:Kd.C (Kd.int .i64) w A0 l0.length l0) (hc0:l0.length≤c0) (h:spec_l1Own.f l0=some r):
  Calls Try.prog 82 #[.slice A0 l0.length c0] w fun e w'=>∃ v0_:Value,e=.returned (v0_)∧Kd.R (Kd.int .i64) 3 w' w.heap.size (fun _=>True) v0_ r∧Below w.heap.size w w':=by
 have HR0:=Aside0.mk hr0
 have HC0:=Aside0.mk hc0
 clear hr0 hc0
 have HB:=Aside0.mk (Below.refl w.heap.size w)
 have H:((some (([]:List Int):List Int)).bind fun y444=>(if y444.length+l0.length< 17592186044416 then (some (y444++l0)) else (none)))=some r:=h
 clear h
 obtain ⟨y444,hy444⟩:∃ y_:List Int,y_=(([]:List Int)):=⟨_,rfl⟩
 replace H:(if y444.length+l0.length< 17592186044416 then (some (y444++l0)) else (none))=some r:=by first|(rw [hy444];with_reducible exact H)|(have H2_:=(Option.bind_some _ _).symm.trans H;rw [hy444];with_reducible exact H2_)|(have H2_:=(Option.bind_some _ _).symm.trans H;with_reducible exact H2_)|with_reducible exact H|(rw [hy444];exact H)|exact H
 have Ny444:=Aside0.mk hy444
 clear hy444
 by_cases c2:y444.length+l0.length< 17592186044416
 ·rw [if_pos c2] at H
  have LMc2:=Aside0.mk c2
  clear c2
  obtain ⟨y447,hy447⟩:∃ y_:List Int,y_=(y444++l0):=⟨_,rfl⟩
  replace H:(some y447)=some r:=by first|(rw [hy447];with_reducible exact H)|(have H2_:=(Option.bind_some _ _).symm.trans H;rw [hy447];with_reducible exact H2_)|(have H2_:=(Option.bind_some _ _).symm.trans H;with_reducible exact H2_)|with_reducible exact H|(rw [hy447];exact H)|exact H
  have Ny447:=Aside0.mk hy447
  clear hy447
  obtain rfl:=Option.some.inj H
  go_enter Try.func82,Try.ntmps82
  go_wp2_with (first|((with_reducible refine gate_dst (N:=3) rfl ?_);refine Kd.R_lit (Kd.int .i64) _ 3 ?hg (N:=3) ?hd (xs:=([]:List Int)) (inner:=[]) (ok:=fun _=>True) (okp:=fun _=>True) ?hr ?hp (fun _ hk=>hk) trivial (Below.refl _ _) (Nat.le_refl _) (by simp) ?_;(case hd=>rfl);(case hg=>rfl);(case hr=>first|(go_simp;done)|(go_simp;rfl));(case hp=>exact (Reps.none _ _));intro v445 w3 ho4 hb hg_ hnew_;clear hg_ hnew_;(first|rw [← Ny444.out] at ho4|(simp only [Int.reduceToNat] at ho4;rw [← Ny444.out] at ho4));have n0_:=Aside0.mk (Kd.R_lower ho4 (below_size (by repeat (first|(with_reducible first|exact HB.out|apply below_alloc|apply pw_below_drewN|apply below_drew1)|exact HB.out))));have n1_:=Aside0.mk (below_step (by repeat (first|(with_reducible first|exact HB.out|apply below_alloc|apply pw_below_drewN|apply below_drew1)|exact HB.out)) hb);clear HB;have HO446:=n0_;have HB:=n1_;clear n0_ n1_;clear hb ho4)|((with_reducible refine gate_builtin (b:=.append) (xs:=#[.tmp 3,.tmp 4]) rfl ?_);at_builtin;refine Kd.R_append_rows (Kd.int .i64) (w0:=w) w.heap.size rfl (.tmp 3) (.tmp 4) 22 3 (.int .i64 0) 8 rfl Try.underlying22 info3 rfl (by decide) (by omega) v445 y444 l0 _ _ _ (fun _=>True) (fun _=>False) rfl rfl ?aO ?aR (fun _ _ h=>h) (fun _ h=>h.elim) ?aF ?aB ?aS ?aL ?_;(case aR=>repeat (first|exact (Kd.C_below HR0.out HB.out)|(with_reducible refine Kd.C_alloc ?_ _)|(with_reducible refine Kd.C_drewN ?_ _)|(with_reducible refine Kd.C_drew ?_)));(case aB=>exact (by repeat (first|(with_reducible first|exact HB.out|apply below_alloc|apply pw_below_drewN|apply below_drew1)|exact HB.out)));(case aF=>exact (fun _ _=>trivial));(case aO=>exact (by (with_reducible repeat (first|apply Kd.R_alloc|apply Kd.R_drewN|apply Kd.R_drew));exact HO446.out));(case aS=>exact (below_size (by repeat (first|(with_reducible first|exact HB.out|apply below_alloc|apply pw_below_drewN|apply below_drew1)|exact HB.out))));(case aL=>have:=LMc2.out;omega);intro v448 w5 ho hb hg hat;rw [← Ny447.out] at ho;have n0_:=Aside0.mk (hb);have n1_:=Aside0.mk (ho);clear HB;clear HO446;have HB:=n0_;have HO449:=n1_;clear n0_ n1_;clear ho hb hg hat))
  go_ret
  exact ⟨_,by first|rfl|(simp [errW_none,errW_some]<;>rfl)|(simp [*,errW_none,errW_some]<;>rfl),by (with_reducible repeat (first|apply Kd.R_alloc|apply Kd.R_drewN|apply Kd.R_drew));exact HO449.out,by repeat (first|(with_reducible first|exact HB.out|apply below_alloc|apply pw_below_drewN|apply below_drew1)|exact HB.out)⟩
 ·rw [if_neg c2] at H
  exact absurd H (by simp)
/-! ### spec_clInverse: function 83 -/
def spec_clInverse.l0:Nat→Int→Int→Int→Option (Int)
 |0,_,_,_=>none
 |k+1,x0,x1,x5=>if x1=0 then (none) else (if (Int.tmod (wrap64 (x0*x5)) x1)=1 then (some x5) else (spec_clInverse.l0 k x0 x1 (wrap64 (x5+1))))
def spec_clInverse.f (k:Nat) (a0:Int) (a1:Int):Option (Int):=spec_clInverse.l0 k a0 a1 1
set_option maxHeartbeats 8000000 in
set_option maxRecDepth 100000 in
theorem spec_clInverse.calls (k:Nat) (a0:Int) (a1:Int) (r:Int) (w:World) (h:spec_clInverse.f k a0 a1=some r):
  Calls Try.prog 83 #[.int .i64 a0,.int .i64 a1] w fun e w'=>e=.returned (.int .i64 r)∧Drawn0 w w':=by
 have H:(spec_clInverse.l0 k a0 a1 1)=some r:=h
 clear h
 have H':=Aside0.mk H
 clear H
 go_enter Try.func83,Try.ntmps83
 go_wp2
 go_loopg [5] k (fun kq v5 w'=>∃ (x5_1:Int),v5=.int .i64 x5_1∧Aside0 (spec_clInverse.l0 kq a0 a1 x5_1=some r)∧Aside0 (kq≤k)∧Drawn0 w w')
 case atStart=>exact ⟨(1),(by first|rfl|(simp;done)|(simp [*];done)),H',⟨Nat.le_refl _⟩,by repeat (first|exact Drawn0.refl _|apply Drawn0.step)⟩
 case round=>
  clear H'
  (try clear p2)
  obtain ⟨x5_1,rfl,HA,HK1,⟨m1,rfl⟩⟩:=hrel
  cases gk with
  |zero=>exact absurd HA.out (by simp [spec_clInverse.l0])
  |succ k1=>
   have H:=HA.out
   clear HA
   simp only [spec_clInverse.l0] at H
   by_cases c3:a1=0
   ·rw [if_pos c3] at H
    exact absurd H (by simp)
   ·rw [if_neg c3] at H
    have c3b0:(a1==0)=false:=beq_eq_false_iff_ne.mpr c3
    have c3b1:(a1 !=0)=true:=bne_iff_ne.mpr c3
    by_cases c4:(Int.tmod (wrap64 (a0*x5_1)) a1)=1
    ·rw [if_pos c4] at H
     have c4b0:((Int.tmod (wrap64 (a0*x5_1)) a1)==1)=true:=beq_iff_eq.mpr c4
     have c4b1:((Int.tmod (wrap64 (a0*x5_1)) a1) !=1)=false:=bne_eq_false_iff_eq.mpr c4
     clear c4
     obtain rfl:=Option.some.inj H
     go_wp2
     go_ret
     exact ⟨by first|rfl|(simp;done)|(simp [*];done),by repeat (first|exact Drawn0.refl _|apply Drawn0.step)⟩
    ·rw [if_neg c4] at H
     have c4b0:((Int.tmod (wrap64 (a0*x5_1)) a1)==1)=false:=beq_eq_false_iff_ne.mpr c4
     have c4b1:((Int.tmod (wrap64 (a0*x5_1)) a1) !=1)=true:=bne_iff_ne.mpr c4
     have H':=Aside0.mk H
     clear H
     go_wp2
     go_roundg k1
     case measure=>have:=HK1.out;omega
     case rel=>exact ⟨(wrap64 (x5_1+1)),(by first|rfl|(simp;done)|(simp [*];done)),H',⟨by have:=HK1.out;omega⟩,by repeat (first|exact Drawn0.refl _|apply Drawn0.step)⟩
/-! ### spec_clTable: function 62 -/
mutual
def spec_clTable.l0:Nat→List (List Int)→Int→Int→List Int→Bool→Option ((List (List Int)))
 |0,_,_,_,_,_=>none
 |k+1,x3,x10,x11,x497000,x497001=>if x11< x10 then (spec_clTable.l1 k x3 x11 ([]:List Int) x10 x11 (x497000.length:Int) 0 x497000 x497001) else (some x3)
def spec_clTable.l1:Nat→List (List Int)→Int→List Int→Int→Int→Int→Int→List Int→Bool→Option ((List (List Int)))
 |0,_,_,_,_,_,_,_,_,_=>none
 |k+1,x3,x4,x5,x10,x11,x16,x17,x497000,x497001=>if x17< x16 then ((spec_grToggles.f x497000 x497001 x17).bind fun t500=>((spec_grIn.f t500 x4).bind fun t501=>(if t501=true then (if x5.length< 17592186044416 then (spec_clTable.l1 k x3 x4 (x5++[1]) x10 x11 x16 (wrap64 (x17+1)) x497000 x497001) else (none)) else (if x5.length< 17592186044416 then (spec_clTable.l1 k x3 x4 (x5++[0]) x10 x11 x16 (wrap64 (x17+1)) x497000 x497001) else (none))))) else (if x3.length< 5864062014805 then (spec_clTable.l0 k (x3++[x5]) x10 (wrap64 (x11+1)) x497000 x497001) else (none))
end
def spec_clTable.f (k:Nat) (l0_0:List Int) (a0_1:Bool):Option ((List (List Int))):=spec_clTable.l0 k ([]:List (List Int)) (l0_0.length:Int) 0 l0_0 a0_1
set_option maxHeartbeats 8000000 in
set_option maxRecDepth 100000 in
theorem spec_clTable.calls (k:Nat) (A0_0:Option Addr) (c0_0:Nat) (l0_0:List Int) (a0_1:Bool) (r:List (List Int)) (w:World) (hr0_0:Kd.C (Kd.int .i64) w A0_0 l0_0.length l0_0) (hc0_0:l0_0.length≤c0_0) (h:spec_clTable.f k l0_0 a0_1=some r):
  Calls Try.prog 62 #[.agg #[.slice A0_0 l0_0.length c0_0,.bool a0_1]] w fun e w'=>∃ v0_:Value,e=.returned (v0_)∧Kd.S (Kd.slice 3 (Kd.int .i64)) 22 w' w.heap.size (fun _=>True) v0_ r∧Below w.heap.size w w':=by
 have hu28:=Try.underlying28
 have HR0_0:=Aside0.mk hr0_0
 have HC0_0:=Aside0.mk hc0_0
 clear hr0_0 hc0_0
 have HB:=Aside0.mk (Below.refl w.heap.size w)
 have H:(spec_clTable.l0 k ([]:List (List Int)) (l0_0.length:Int) 0 l0_0 a0_1)=some r:=h
 clear h
 have H':=Aside0.mk H
 clear H
 go_enter Try.func62,Try.ntmps62
 go_wp2_with (first|((with_reducible refine gate_dst (N:=1) rfl ?_);refine box_event ?hg (N:=1) ?hd (cs:=#[.slice A0_0 l0_0.length c0_0,.bool a0_1]) (t:=28) ?hr ?_;(case hd=>rfl);(case hg=>rfl);(case hr=>first|(go_simp;done)|(go_simp;rfl));intro gb496 hg w2 hbox hb;have n0_:=Aside0.mk (below_step (by repeat (first|(with_reducible first|exact HB.out|apply below_alloc|apply pw_below_drewN|apply below_drew1)|exact HB.out)) hb);have n1_:=Aside0.mk (hbox);have n2_:=Aside0.mk ((by rw [hg];exact (below_size (by repeat (first|(with_reducible first|exact HB.out|apply below_alloc|apply pw_below_drewN|apply below_drew1)|exact HB.out))):w.heap.size≤gb496));have n3_:=Aside0.mk ((by rw [hg];exact (below_size (by repeat (first|(with_reducible first|exact HB.out|apply below_alloc|apply pw_below_drewN|apply below_drew1)|exact HB.out))):w.heap.size≤gb496));clear HB;have HB:=n0_;have BK496:=n1_;have GW496:=n2_;have GE496:=n3_;clear n0_ n1_ n2_ n3_;clear hb hbox hg;have hcz3_0:w2.cell? ⟨gb496,0,none⟩=some (.slice A0_0 l0_0.length c0_0):=(blk_cell BK496.out 0).trans rfl;have hcz3_1:w2.cell? ⟨gb496,1,none⟩=some (.bool a0_1):=(blk_cell BK496.out 1).trans rfl;have hfz3_0:=blk_frozen BK496.out 0;have hfz3_1:=blk_frozen BK496.out 1))
 go_loopg [3,11] k (fun kq v3 v11 w'=>∃ (x3_1:List (List Int)) (x11_1:Int),v11=.int .i64 x11_1∧Aside0 (spec_clTable.l0 kq x3_1 (l0_0.length:Int) x11_1 l0_0 a0_1=some r)∧Aside0 (kq≤k)∧Aside0 (Kd.S (Kd.slice 3 (Kd.int .i64)) 22 w' w.heap.size (fun _=>True) v3 x3_1)∧Aside0 (w'.heap[gb496]?=some (.cells #[(.slice A0_0 l0_0.length c0_0),.bool a0_1] 28 (0,0)))∧Aside0 (Below w.heap.size w w'))
 case atStart=>exact ⟨(([]:List (List Int))),(0),(by first|rfl|(simp;done)|(simp [*];done)),H',⟨Nat.le_refl _⟩,⟨by first|exact Kd.S_nil _ _ _ _ _|exact Kd.N_nil _ _ _ _ _|exact Kd.V_nil _ _ _ _ _|exact Kd.Q_nil _ _ _ _ _|exact Kd.R_nil _ _ _ _ _⟩,⟨by (with_reducible repeat (first|refine blk_drewN ?_ _|refine blk_drew ?_|refine blk_alloc ?_ _));exact BK496.out⟩,⟨by repeat (first|(with_reducible first|exact HB.out|apply below_alloc|apply pw_below_drewN|apply below_drew1|refine below_set ?_ GE496.out)|exact HB.out)⟩⟩
 case round=>
  clear H'
  (try clear p2);(try clear hcz3_0);(try clear hcz3_1);(try clear hfz3_0);(try clear hfz3_1)
  obtain ⟨x3_1,x11_1,rfl,HA,HK1,HO_3,BK496,HB⟩:=hrel
  cases gk with
  |zero=>exact absurd HA.out (by simp [spec_clTable.l0])
  |succ k1=>
   have H:=HA.out
   clear HA
   simp only [spec_clTable.l0] at H
   by_cases c4:x11_1< (l0_0.length:Int)
   ·rw [if_pos c4] at H
    have c4b0:decide (x11_1< (l0_0.length:Int))=true:=decide_eq_true c4
    clear c4
    have H':=Aside0.mk H
    clear H
    have hcz5_0:wr.cell? ⟨gb496,0,none⟩=some (.slice A0_0 l0_0.length c0_0):=(blk_cell BK496.out 0).trans rfl
    have hcz5_1:wr.cell? ⟨gb496,1,none⟩=some (.bool a0_1):=(blk_cell BK496.out 1).trans rfl
    have hfz5_0:=blk_frozen BK496.out 0
    have hfz5_1:=blk_frozen BK496.out 1
    go_wp2
    go_loopg [5,17] k1 (fun kq v5 v17 w'=>∃ (x5_2:List Int) (x17_2:Int),v17=.int .i64 x17_2∧Aside0 (spec_clTable.l1 kq x3_1 x11_1 x5_2 (l0_0.length:Int) x11_1 (l0_0.length:Int) x17_2 l0_0 a0_1=some r)∧Aside0 (kq≤k1)∧Aside0 (Kd.S (Kd.slice 3 (Kd.int .i64)) 22 w' w.heap.size (fun k_=>some k_≠(v5:Value).ownBlock) u3 x3_1)∧Aside0 (Kd.R (Kd.int .i64) 3 w' w.heap.size (fun _=>True) v5 x5_2)∧Aside0 (w'.heap[gb496]?=some (.cells #[(.slice A0_0 l0_0.length c0_0),.bool a0_1] 28 (0,0)))∧Aside0 (Below w.heap.size w w'))
    case atStart=>exact ⟨(([]:List Int)),(0),(by first|rfl|(simp;done)|(simp [*];done)),H',⟨Nat.le_refl _⟩,⟨by (with_reducible repeat (first|apply Kd.S_alloc|apply Kd.S_drewN|apply Kd.S_drew));exact Kd.S_mono HO_3.out (fun _ hk=>(by simp [Value.ownBlock]))⟩,⟨by first|exact Kd.R_nil _ _ _ _ _|exact Kd.N_nil _ _ _ _ _|exact Kd.V_nil _ _ _ _ _|exact Kd.Q_nil _ _ _ _ _|exact Kd.S_nil _ _ _ _ _⟩,⟨by (with_reducible repeat (first|refine blk_drewN ?_ _|refine blk_drew ?_|refine blk_alloc ?_ _));exact BK496.out⟩,⟨by repeat (first|(with_reducible first|exact HB.out|apply below_alloc|apply pw_below_drewN|apply below_drew1|refine below_set ?_ GE496.out)|exact HB.out)⟩⟩
    case round=>
     clear H'
     (try clear p2);(try clear c4);(try clear c4b0);(try clear hcz3_0);(try clear hcz3_1);(try clear hcz5_0);(try clear hcz5_1);(try clear hfz3_0);(try clear hfz3_1);(try clear hfz5_0);(try clear hfz5_1);(try clear p2)
     obtain ⟨x5_2,x17_2,rfl,HA,HK2,HO_3,HO_5,BK496,HB⟩:=hrel
     cases gk with
     |zero=>exact absurd HA.out (by simp [spec_clTable.l1])
     |succ k2=>
      have H:=HA.out
      clear HA
      simp only [spec_clTable.l1] at H
      by_cases c6:x17_2< (l0_0.length:Int)
      ·rw [if_pos c6] at H
       have c6b0:decide (x17_2< (l0_0.length:Int))=true:=decide_eq_true c6
       clear c6
       replace H:=Option.bind_eq_some_iff.mp H
       obtain ⟨t500,A70,H⟩:=H
       replace H:((spec_grIn.f t500 x11_1).bind fun t501=>(if t501=true then (if x5_2.length< 17592186044416 then (spec_clTable.l1 k2 x3_1 x11_1 (x5_2++[1]) (l0_0.length:Int) x11_1 (l0_0.length:Int) (wrap64 (x17_2+1)) l0_0 a0_1) else (none)) else (if x5_2.length< 17592186044416 then (spec_clTable.l1 k2 x3_1 x11_1 (x5_2++[0]) (l0_0.length:Int) x11_1 (l0_0.length:Int) (wrap64 (x17_2+1)) l0_0 a0_1) else (none))))=some r:=H
       have A7:=Aside0.mk A70
       clear A70
       replace H:=Option.bind_eq_some_iff.mp H
       obtain ⟨t501,A80,H⟩:=H
       replace H:(if t501=true then (if x5_2.length< 17592186044416 then (spec_clTable.l1 k2 x3_1 x11_1 (x5_2++[1]) (l0_0.length:Int) x11_1 (l0_0.length:Int) (wrap64 (x17_2+1)) l0_0 a0_1) else (none)) else (if x5_2.length< 17592186044416 then (spec_clTable.l1 k2 x3_1 x11_1 (x5_2++[0]) (l0_0.length:Int) x11_1 (l0_0.length:Int) (wrap64 (x17_2+1)) l0_0 a0_1) else (none)))=some r:=H
       have A8:=Aside0.mk A80
       clear A80
       by_cases c9:t501=true
       ·subst c9
        have H1:(if x5_2.length< 17592186044416 then (spec_clTable.l1 k2 x3_1 x11_1 (x5_2++[1]) (l0_0.length:Int) x11_1 (l0_0.length:Int) (wrap64 (x17_2+1)) l0_0 a0_1) else (none))=some r:=by rw [if_pos rfl] at H;exact H
        clear H
        have H:=H1
        clear H1
        by_cases c10:x5_2.length< 17592186044416
        ·rw [if_pos c10] at H
         have LMc10:=Aside0.mk c10
         clear c10
         obtain ⟨y502,hy502⟩:∃ y_:List Int,y_=(x5_2++[1]):=⟨_,rfl⟩
         replace H:(spec_clTable.l1 k2 x3_1 x11_1 y502 (l0_0.length:Int) x11_1 (l0_0.length:Int) (wrap64 (x17_2+1)) l0_0 a0_1)=some r:=by first|(rw [hy502];with_reducible exact H)|(have H2_:=(Option.bind_some _ _).symm.trans H;rw [hy502];with_reducible exact H2_)|(have H2_:=(Option.bind_some _ _).symm.trans H;with_reducible exact H2_)|with_reducible exact H|(rw [hy502];exact H)|exact H
         have Ny502:=Aside0.mk hy502
         clear hy502
         have H':=Aside0.mk H
         clear H
         have hcz11_0:wr.cell? ⟨gb496,0,none⟩=some (.slice A0_0 l0_0.length c0_0):=(blk_cell BK496.out 0).trans rfl
         have hcz11_1:wr.cell? ⟨gb496,1,none⟩=some (.bool a0_1):=(blk_cell BK496.out 1).trans rfl
         have hfz11_0:=blk_frozen BK496.out 0
         have hfz11_1:=blk_frozen BK496.out 1
         go_wp2_with (first|((with_reducible refine gate_callee (f:=77) rfl ?_);refine goesL_ (some 22) rfl rfl Try.func77 (by kernel_rfl) rfl #[.agg #[.slice A0_0 l0_0.length c0_0,.bool a0_1],.int .i64 x17_2] rfl (by (try simp only [List.map_toArray,List.map_cons,List.map_nil]);first|done|rfl|(simp only [List.length_drop,List.length_take];rfl)) ?_;(with_reducible refine (spec_grToggles.calls _ _ l0_0 a0_1 x17_2 t500 _ ?side1 ?side2 A7.out).mono ?_);(case side1=>repeat (first|exact (Kd.C_below HR0_0.out HB.out)|(with_reducible refine Kd.C_alloc ?_ _)|(with_reducible refine Kd.C_drewN ?_ _)|(with_reducible refine Kd.C_drew ?_)));(case side2=>exact HC0_0.out);rintro e w12 ⟨rfl,hb⟩;refine ⟨_,rfl,?_⟩;have n0_:=Aside0.mk (Kd.S_below (by (with_reducible repeat (first|apply Kd.S_alloc|apply Kd.S_drewN|apply Kd.S_drew));exact HO_3.out) hb);have n1_:=Aside0.mk (Kd.R_below (by (with_reducible repeat (first|apply Kd.R_alloc|apply Kd.R_drewN|apply Kd.R_drew));exact HO_5.out) hb);have n2_:=Aside0.mk (blk_below (g:=gb496) (o:=.cells #[.slice A0_0 l0_0.length c0_0,.bool a0_1] 28 (0,0)) (by (with_reducible repeat (first|refine blk_drewN ?_ _|refine blk_drew ?_|refine blk_alloc ?_ _));exact BK496.out) hb);have n3_:=Aside0.mk (below_step (by repeat (first|(with_reducible first|exact HB.out|apply below_alloc|apply pw_below_drewN|apply below_drew1|refine below_set ?_ GE496.out)|exact HB.out)) hb);clear HO_3;clear HO_5;clear BK496;clear HB;have HO_3:=n0_;have HO_5:=n1_;have BK496:=n2_;have HB:=n3_;clear n0_ n1_ n2_ n3_;(try clear hb);(try clear hb2);(try clear hk);(try clear hi))|((with_reducible refine gate_callee (f:=76) rfl ?_);refine goesL_ (some 24) rfl rfl Try.func76 (by kernel_rfl) rfl #[.int .i64 t500,.int .i64 x11_1] rfl (by (try simp only [List.map_toArray,List.map_cons,List.map_nil]);first|done|rfl|(simp only [List.length_drop,List.length_take];rfl)) ?_;(with_reducible refine (spec_grIn.calls t500 x11_1 true _ A8.out).mono ?_);rintro e w' ⟨rfl,⟨nd,rfl⟩⟩;refine ⟨_,rfl,?_⟩)|((with_reducible refine gate_builtin (b:=.append) (xs:=#[.tmp 25,.tmp 27]) rfl ?_);at_builtin;refine Kd.R_append (Kd.int .i64) (w0:=w) w.heap.size rfl (.tmp 25) (.tmp 27) 22 3 (.int .i64 0) 8 rfl Try.underlying22 info3 rfl (by decide) (by omega) u5 x5_2 1 [.int .i64 1] (fun _=>True) (fun _=>False) rfl rfl ?aP (fun _ hk=>hk.elim) ?aF ?aO ?aB ?aS ?aL ?_;(case aP=>exact rfl);(case aB=>exact (by repeat (first|(with_reducible first|exact HB.out|apply below_alloc|apply pw_below_drewN|apply below_drew1|refine below_set ?_ GE496.out)|exact HB.out)));(case aF=>exact (fun _ _=>trivial));(case aO=>exact (by (with_reducible repeat (first|apply Kd.R_alloc|apply Kd.R_drewN|apply Kd.R_drew));exact HO_5.out));(case aS=>exact (below_size (by repeat (first|(with_reducible first|exact HB.out|apply below_alloc|apply pw_below_drewN|apply below_drew1|refine below_set ?_ GE496.out)|exact HB.out))));(case aL=>have:=LMc10.out;omega);intro v503 w13 ho hb hg hat;rw [← Ny502.out] at ho;have n0_:=Aside0.mk (Kd.S_after (ok:=(fun _=>True)) (by (with_reducible repeat (first|apply Kd.S_alloc|apply Kd.S_drewN|apply Kd.S_drew));exact Kd.S_mono HO_3.out (fun _ hk=>⟨trivial,hk⟩)) hg hat);have n1_:=Aside0.mk (blk_grown (g:=gb496) (o:=.cells #[.slice A0_0 l0_0.length c0_0,.bool a0_1] 28 (0,0)) (by (with_reducible repeat (first|refine blk_drewN ?_ _|refine blk_drew ?_|refine blk_alloc ?_ _));exact BK496.out) hg (Kd.R_ne HO_5.out BK496.out (by decide)));have n2_:=Aside0.mk (hb);have n3_:=Aside0.mk (ho);clear HO_3;clear BK496;clear HB;clear HO_5;have HO_3:=n0_;have BK496:=n1_;have HB:=n2_;have HO504:=n3_;clear n0_ n1_ n2_ n3_;clear ho hb hg hat))
         go_roundg k2
         case measure=>have:=HK1.out;have:=HK2.out;omega
         case rel=>exact ⟨(y502),(wrap64 (x17_2+1)),(by first|rfl|(simp;done)|(simp [*];done)),H',⟨by have:=HK1.out;have:=HK2.out;omega⟩,⟨by (with_reducible repeat (first|apply Kd.S_alloc|apply Kd.S_drewN|apply Kd.S_drew));exact Kd.S_mono HO_3.out (fun _ hk=>hk.2)⟩,⟨by (with_reducible repeat (first|apply Kd.R_alloc|apply Kd.R_drewN|apply Kd.R_drew));exact HO504.out⟩,⟨by (with_reducible repeat (first|refine blk_drewN ?_ _|refine blk_drew ?_|refine blk_alloc ?_ _));exact BK496.out⟩,⟨by repeat (first|(with_reducible first|exact HB.out|apply below_alloc|apply pw_below_drewN|apply below_drew1|refine below_set ?_ GE496.out)|exact HB.out)⟩⟩
        ·rw [if_neg c10] at H
         exact absurd H (by simp)
       ·replace c9:=Bool.eq_false_iff.mpr c9
        subst c9
        have H1:(if x5_2.length< 17592186044416 then (spec_clTable.l1 k2 x3_1 x11_1 (x5_2++[0]) (l0_0.length:Int) x11_1 (l0_0.length:Int) (wrap64 (x17_2+1)) l0_0 a0_1) else (none))=some r:=by rw [if_neg (show ¬ (false=true) by decide)] at H;exact H
        clear H
        have H:=H1
        clear H1
        by_cases c14:x5_2.length< 17592186044416
        ·rw [if_pos c14] at H
         have LMc14:=Aside0.mk c14
         clear c14
         obtain ⟨y505,hy505⟩:∃ y_:List Int,y_=(x5_2++[0]):=⟨_,rfl⟩
         replace H:(spec_clTable.l1 k2 x3_1 x11_1 y505 (l0_0.length:Int) x11_1 (l0_0.length:Int) (wrap64 (x17_2+1)) l0_0 a0_1)=some r:=by first|(rw [hy505];with_reducible exact H)|(have H2_:=(Option.bind_some _ _).symm.trans H;rw [hy505];with_reducible exact H2_)|(have H2_:=(Option.bind_some _ _).symm.trans H;with_reducible exact H2_)|with_reducible exact H|(rw [hy505];exact H)|exact H
         have Ny505:=Aside0.mk hy505
         clear hy505
         have H':=Aside0.mk H
         clear H
         have hcz15_0:wr.cell? ⟨gb496,0,none⟩=some (.slice A0_0 l0_0.length c0_0):=(blk_cell BK496.out 0).trans rfl
         have hcz15_1:wr.cell? ⟨gb496,1,none⟩=some (.bool a0_1):=(blk_cell BK496.out 1).trans rfl
         have hfz15_0:=blk_frozen BK496.out 0
         have hfz15_1:=blk_frozen BK496.out 1
         go_wp2_with (first|((with_reducible refine gate_callee (f:=77) rfl ?_);refine goesL_ (some 22) rfl rfl Try.func77 (by kernel_rfl) rfl #[.agg #[.slice A0_0 l0_0.length c0_0,.bool a0_1],.int .i64 x17_2] rfl (by (try simp only [List.map_toArray,List.map_cons,List.map_nil]);first|done|rfl|(simp only [List.length_drop,List.length_take];rfl)) ?_;(with_reducible refine (spec_grToggles.calls _ _ l0_0 a0_1 x17_2 t500 _ ?side1 ?side2 A7.out).mono ?_);(case side1=>repeat (first|exact (Kd.C_below HR0_0.out HB.out)|(with_reducible refine Kd.C_alloc ?_ _)|(with_reducible refine Kd.C_drewN ?_ _)|(with_reducible refine Kd.C_drew ?_)));(case side2=>exact HC0_0.out);rintro e w16 ⟨rfl,hb⟩;refine ⟨_,rfl,?_⟩;have n0_:=Aside0.mk (Kd.S_below (by (with_reducible repeat (first|apply Kd.S_alloc|apply Kd.S_drewN|apply Kd.S_drew));exact HO_3.out) hb);have n1_:=Aside0.mk (Kd.R_below (by (with_reducible repeat (first|apply Kd.R_alloc|apply Kd.R_drewN|apply Kd.R_drew));exact HO_5.out) hb);have n2_:=Aside0.mk (blk_below (g:=gb496) (o:=.cells #[.slice A0_0 l0_0.length c0_0,.bool a0_1] 28 (0,0)) (by (with_reducible repeat (first|refine blk_drewN ?_ _|refine blk_drew ?_|refine blk_alloc ?_ _));exact BK496.out) hb);have n3_:=Aside0.mk (below_step (by repeat (first|(with_reducible first|exact HB.out|apply below_alloc|apply pw_below_drewN|apply below_drew1|refine below_set ?_ GE496.out)|exact HB.out)) hb);clear HO_3;clear HO_5;clear BK496;clear HB;have HO_3:=n0_;have HO_5:=n1_;have BK496:=n2_;have HB:=n3_;clear n0_ n1_ n2_ n3_;(try clear hb);(try clear hb2);(try clear hk);(try clear hi))|((with_reducible refine gate_callee (f:=76) rfl ?_);refine goesL_ (some 24) rfl rfl Try.func76 (by kernel_rfl) rfl #[.int .i64 t500,.int .i64 x11_1] rfl (by (try simp only [List.map_toArray,List.map_cons,List.map_nil]);first|done|rfl|(simp only [List.length_drop,List.length_take];rfl)) ?_;(with_reducible refine (spec_grIn.calls t500 x11_1 false _ A8.out).mono ?_);rintro e w' ⟨rfl,⟨nd,rfl⟩⟩;refine ⟨_,rfl,?_⟩)|((with_reducible refine gate_builtin (b:=.append) (xs:=#[.tmp 25,.tmp 27]) rfl ?_);at_builtin;refine Kd.R_append (Kd.int .i64) (w0:=w) w.heap.size rfl (.tmp 25) (.tmp 27) 22 3 (.int .i64 0) 8 rfl Try.underlying22 info3 rfl (by decide) (by omega) u5 x5_2 0 [.int .i64 0] (fun _=>True) (fun _=>False) rfl rfl ?aP (fun _ hk=>hk.elim) ?aF ?aO ?aB ?aS ?aL ?_;(case aP=>exact rfl);(case aB=>exact (by repeat (first|(with_reducible first|exact HB.out|apply below_alloc|apply pw_below_drewN|apply below_drew1|refine below_set ?_ GE496.out)|exact HB.out)));(case aF=>exact (fun _ _=>trivial));(case aO=>exact (by (with_reducible repeat (first|apply Kd.R_alloc|apply Kd.R_drewN|apply Kd.R_drew));exact HO_5.out));(case aS=>exact (below_size (by repeat (first|(with_reducible first|exact HB.out|apply below_alloc|apply pw_below_drewN|apply below_drew1|refine below_set ?_ GE496.out)|exact HB.out))));(case aL=>have:=LMc14.out;omega);intro v506 w17 ho hb hg hat;rw [← Ny505.out] at ho;have n0_:=Aside0.mk (Kd.S_after (ok:=(fun _=>True)) (by (with_reducible repeat (first|apply Kd.S_alloc|apply Kd.S_drewN|apply Kd.S_drew));exact Kd.S_mono HO_3.out (fun _ hk=>⟨trivial,hk⟩)) hg hat);have n1_:=Aside0.mk (blk_grown (g:=gb496) (o:=.cells #[.slice A0_0 l0_0.length c0_0,.bool a0_1] 28 (0,0)) (by (with_reducible repeat (first|refine blk_drewN ?_ _|refine blk_drew ?_|refine blk_alloc ?_ _));exact BK496.out) hg (Kd.R_ne HO_5.out BK496.out (by decide)));have n2_:=Aside0.mk (hb);have n3_:=Aside0.mk (ho);clear HO_3;clear BK496;clear HB;clear HO_5;have HO_3:=n0_;have BK496:=n1_;have HB:=n2_;have HO507:=n3_;clear n0_ n1_ n2_ n3_;clear ho hb hg hat))
         go_roundg k2
         case measure=>have:=HK1.out;have:=HK2.out;omega
         case rel=>exact ⟨(y505),(wrap64 (x17_2+1)),(by first|rfl|(simp;done)|(simp [*];done)),H',⟨by have:=HK1.out;have:=HK2.out;omega⟩,⟨by (with_reducible repeat (first|apply Kd.S_alloc|apply Kd.S_drewN|apply Kd.S_drew));exact Kd.S_mono HO_3.out (fun _ hk=>hk.2)⟩,⟨by (with_reducible repeat (first|apply Kd.R_alloc|apply Kd.R_drewN|apply Kd.R_drew));exact HO507.out⟩,⟨by (with_reducible repeat (first|refine blk_drewN ?_ _|refine blk_drew ?_|refine blk_alloc ?_ _));exact BK496.out⟩,⟨by repeat (first|(with_reducible first|exact HB.out|apply below_alloc|apply pw_below_drewN|apply below_drew1|refine below_set ?_ GE496.out)|exact HB.out)⟩⟩
        ·rw [if_neg c14] at H
         exact absurd H (by simp)
      ·rw [if_neg c6] at H
       have c6b0:decide (x17_2< (l0_0.length:Int))=false:=decide_eq_false c6
       clear c6
       by_cases c18:x3_1.length< 5864062014805
       ·rw [if_pos c18] at H
        have LMc18:=Aside0.mk c18
        clear c18
        obtain ⟨y497,hy497⟩:∃ y_:List (List Int),y_=(x3_1++[x5_2]):=⟨_,rfl⟩
        replace H:(spec_clTable.l0 k2 y497 (l0_0.length:Int) (wrap64 (x11_1+1)) l0_0 a0_1)=some r:=by first|(rw [hy497];with_reducible exact H)|(have H2_:=(Option.bind_some _ _).symm.trans H;rw [hy497];with_reducible exact H2_)|(have H2_:=(Option.bind_some _ _).symm.trans H;with_reducible exact H2_)|with_reducible exact H|(rw [hy497];exact H)|exact H
        have Ny497:=Aside0.mk hy497
        clear hy497
        have H':=Aside0.mk H
        clear H
        obtain ⟨Ao20,co20,eo20⟩:=Kd.R_slice HO_5.out
        subst eo20
        go_wp2_with (first|((with_reducible refine gate_builtin (b:=.append) (xs:=#[.tmp 30,.tmp 32]) rfl ?_);at_builtin;refine Kd.S_append (Kd.slice 3 (Kd.int .i64)) (w0:=w) w.heap.size rfl (.tmp 30) (.tmp 32) 44 22 (.slice none 0 0) 24 rfl Try.underlying44 info22 rfl (by decide) (by omega) u3 x3_1 x5_2 [.slice Ao20 x5_2.length co20] (fun _=>True) (fun k_=>some k_=(.slice Ao20 x5_2.length co20:Value).ownBlock) rfl rfl ?aP (fun k_ hk_=>((Kd.R_mono (ok':=fun k_=>((fun _=>True)) k_∧some k_≠(u3:Value).ownBlock) (Kd.R_apart' (HO_5.out) (Kd.S_typed HO_3.out) (by decide)) (fun k_ hk=>⟨trivial,hk.2⟩))).1 k_ hk_.symm) ?aF ?aO ?aB ?aS ?aL ?_;(case aP=>exact Kd.M_row (Kd.R_mono (Kd.R_tight rfl (Kd.R_mono (ok':=fun k_=>((fun _=>True)) k_∧some k_≠(u3:Value).ownBlock) (Kd.R_apart' (HO_5.out) (Kd.S_typed HO_3.out) (by decide)) (fun k_ hk=>⟨trivial,hk.2⟩))) (fun _ h_=>h_)));(case aB=>exact (by repeat (first|(with_reducible first|exact HB.out|apply below_alloc|apply pw_below_drewN|apply below_drew1|refine below_set ?_ GE496.out)|exact HB.out)));(case aF=>exact (fun _ _=>trivial));(case aO=>exact (by (with_reducible repeat (first|apply Kd.S_alloc|apply Kd.S_drewN|apply Kd.S_drew));exact Kd.S_mono HO_3.out (fun k_ hk=>⟨trivial,fun e_=>hk e_⟩)));(case aS=>exact (below_size (by repeat (first|(with_reducible first|exact HB.out|apply below_alloc|apply pw_below_drewN|apply below_drew1|refine below_set ?_ GE496.out)|exact HB.out))));(case aL=>have:=LMc18.out;omega);intro v498 w19 ho hb hg hat;rw [← Ny497.out] at ho;have n0_:=Aside0.mk (blk_grown (g:=gb496) (o:=.cells #[.slice A0_0 l0_0.length c0_0,.bool a0_1] 28 (0,0)) (by (with_reducible repeat (first|refine blk_drewN ?_ _|refine blk_drew ?_|refine blk_alloc ?_ _));exact BK496.out) hg (Kd.S_ne HO_3.out BK496.out (by decide)));have n1_:=Aside0.mk (hb);have n2_:=Aside0.mk (ho);clear BK496;clear HB;clear HO_3;clear HO_5;have BK496:=n0_;have HB:=n1_;have HO499:=n2_;clear n0_ n1_ n2_;clear ho hb hg hat))
        go_roundg k2
        case measure=>have:=HK1.out;have:=HK2.out;omega
        case rel=>exact ⟨(y497),(wrap64 (x11_1+1)),(by first|rfl|(simp;done)|(simp [*];done)),H',⟨by have:=HK1.out;have:=HK2.out;omega⟩,⟨by (with_reducible repeat (first|apply Kd.S_alloc|apply Kd.S_drewN|apply Kd.S_drew));exact HO499.out⟩,⟨by (with_reducible repeat (first|refine blk_drewN ?_ _|refine blk_drew ?_|refine blk_alloc ?_ _));exact BK496.out⟩,⟨by repeat (first|(with_reducible first|exact HB.out|apply below_alloc|apply pw_below_drewN|apply below_drew1|refine below_set ?_ GE496.out)|exact HB.out)⟩⟩
       ·rw [if_neg c18] at H
        exact absurd H (by simp)
   ·rw [if_neg c4] at H
    have c4b0:decide (x11_1< (l0_0.length:Int))=false:=decide_eq_false c4
    clear c4
    obtain rfl:=Option.some.inj H
    go_wp2
    go_ret
    exact ⟨_,by first|rfl|(simp [errW_none,errW_some]<;>rfl)|(simp [*,errW_none,errW_some]<;>rfl),by (with_reducible repeat (first|apply Kd.S_alloc|apply Kd.S_drewN|apply Kd.S_drew));exact HO_3.out,by repeat (first|(with_reducible first|exact HB.out|apply below_alloc|apply pw_below_drewN|apply below_drew1|refine below_set ?_ GE496.out)|exact HB.out)⟩
/-! ### impl_mod: function 88 -/
def impl_mod.f (a0:Int) (a1:Int):Option (Int):=if a1=0 then (none) else (some (Int.tmod (wrap64 ((Int.tmod a0 a1)+a1)) a1))
set_option maxHeartbeats 8000000 in
set_option maxRecDepth 100000 in
theorem impl_mod.calls (a0:Int) (a1:Int) (r:Int) (w:World) (h:impl_mod.f a0 a1=some r):
  Calls Try.prog 88 #[.int .i64 a0,.int .i64 a1] w fun e w'=>e=.returned (.int .i64 r)∧Drawn0 w w':=by
 have H:(if a1=0 then (none) else (some (Int.tmod (wrap64 ((Int.tmod a0 a1)+a1)) a1)))=some r:=h
 clear h
 by_cases c3:a1=0
 ·rw [if_pos c3] at H
  exact absurd H (by simp)
 ·rw [if_neg c3] at H
  have c3b0:(a1==0)=false:=beq_eq_false_iff_ne.mpr c3
  have c3b1:(a1 !=0)=true:=bne_iff_ne.mpr c3
  obtain rfl:=Option.some.inj H
  go_enter Try.func88,Try.ntmps88
  go_wp2
  go_ret
  exact ⟨by first|rfl|(simp;done)|(simp [*];done),by repeat (first|exact Drawn0.refl _|apply Drawn0.step)⟩
/-! ### impl_scaled: function 90 -/
def impl_scaled.l0:Nat→Int→Int→List Int→List Int→Int→Int→Option (List Int)
 |0,_,_,_,_,_,_=>none
 |k+1,x1,x2,x7,x11,x12,x13=>if x13< x12 then (if 0≤x13 then (if x13< (x11.length:Int) then ((impl_mod.f (wrap64 ((rd x11 x13)*x1)) x2).bind fun t524=>(if x7.length< 17592186044416 then (impl_scaled.l0 k x1 x2 (x7++[t524]) x11 x12 (wrap64 (x13+1))) else (none))) else (none)) else (none)) else (some x7)
def impl_scaled.f (k:Nat) (l0:List Int) (a1:Int) (a2:Int):Option (List Int):=impl_scaled.l0 k a1 a2 (([]:List Int)) l0 (l0.length:Int) 0
set_option maxHeartbeats 8000000 in
set_option maxRecDepth 100000 in
theorem impl_scaled.calls (k:Nat) (A0:Option Addr) (c0:Nat) (l0:List Int) (a1:Int) (a2:Int) (r:List Int) (w:World) (hr0:Kd.C (Kd.int .i64) w A0 l0.length l0) (hc0:l0.length≤c0) (h:impl_scaled.f k l0 a1 a2=some r):
  Calls Try.prog 90 #[.slice A0 l0.length c0,.int .i64 a1,.int .i64 a2] w fun e w'=>∃ v0_:Value,e=.returned (v0_)∧Kd.R (Kd.int .i64) 3 w' w.heap.size (fun _=>True) v0_ r∧Below w.heap.size w w':=by
 have HR0:=Aside0.mk hr0
 have HC0:=Aside0.mk hc0
 clear hr0 hc0
 have HB:=Aside0.mk (Below.refl w.heap.size w)
 have H:(impl_scaled.l0 k a1 a2 (([]:List Int)) l0 (l0.length:Int) 0)=some r:=h
 clear h
 obtain ⟨y520,hy520⟩:∃ y_:List Int,y_=(([]:List Int)):=⟨_,rfl⟩
 replace H:(impl_scaled.l0 k a1 a2 y520 l0 (l0.length:Int) 0)=some r:=by first|(rw [hy520];with_reducible exact H)|(have H2_:=(Option.bind_some _ _).symm.trans H;rw [hy520];with_reducible exact H2_)|(have H2_:=(Option.bind_some _ _).symm.trans H;with_reducible exact H2_)|with_reducible exact H|(rw [hy520];exact H)|exact H
 have Ny520:=Aside0.mk hy520
 clear hy520
 have H':=Aside0.mk H
 clear H
 go_enter Try.func90,Try.ntmps90
 go_wp2_with (first|((with_reducible refine gate_dst (N:=10) rfl ?_);refine Kd.R_lit (Kd.int .i64) _ 3 ?hg (N:=10) ?hd (xs:=([]:List Int)) (inner:=[]) (ok:=fun _=>True) (okp:=fun _=>True) ?hr ?hp (fun _ hk=>hk) trivial (Below.refl _ _) (Nat.le_refl _) (by simp) ?_;(case hd=>rfl);(case hg=>rfl);(case hr=>first|(go_simp;done)|(go_simp;rfl));(case hp=>exact (Reps.none _ _));intro v521 w4 ho5 hb hg_ hnew_;clear hg_ hnew_;(first|rw [← Ny520.out] at ho5|(simp only [Int.reduceToNat] at ho5;rw [← Ny520.out] at ho5));have n0_:=Aside0.mk (Kd.R_lower ho5 (below_size (by repeat (first|(with_reducible first|exact HB.out|apply below_alloc|apply pw_below_drewN|apply below_drew1)|exact HB.out))));have n1_:=Aside0.mk (below_step (by repeat (first|(with_reducible first|exact HB.out|apply below_alloc|apply pw_below_drewN|apply below_drew1)|exact HB.out)) hb);clear HB;have HO522:=n0_;have HB:=n1_;clear n0_ n1_;clear hb ho5))
 go_loopg [7,13] k (fun kq v7 v13 w'=>∃ (x7_1:List Int) (x13_1:Int),v13=.int .i64 x13_1∧Aside0 (impl_scaled.l0 kq a1 a2 x7_1 l0 (l0.length:Int) x13_1=some r)∧Aside0 (kq≤k)∧Aside0 (Kd.R (Kd.int .i64) 3 w' w.heap.size (fun _=>True) v7 x7_1)∧Aside0 (Below w.heap.size w w'))
 case atStart=>exact ⟨(y520),(0),(by first|rfl|(simp;done)|(simp [*];done)),H',⟨Nat.le_refl _⟩,⟨by (with_reducible repeat (first|apply Kd.R_alloc|apply Kd.R_drewN|apply Kd.R_drew));exact HO522.out⟩,⟨by repeat (first|(with_reducible first|exact HB.out|apply below_alloc|apply pw_below_drewN|apply below_drew1)|exact HB.out)⟩⟩
 case round=>
  clear H'
  (try clear p2)
  obtain ⟨x7_1,x13_1,rfl,HA,HK1,HO_7,HB⟩:=hrel
  cases gk with
  |zero=>exact absurd HA.out (by simp [impl_scaled.l0])
  |succ k1=>
   have H:=HA.out
   clear HA
   simp only [impl_scaled.l0] at H
   by_cases c6:x13_1< (l0.length:Int)
   ·rw [if_pos c6] at H
    have c6b0:decide (x13_1< (l0.length:Int))=true:=decide_eq_true c6
    clear c6
    by_cases c7:0≤x13_1
    ·rw [if_pos c7] at H
     have c7b0:decide (0≤x13_1)=true:=decide_eq_true c7
     clear c7
     by_cases c8:x13_1< (l0.length:Int)
     ·rw [if_pos c8] at H
      have c8b0:decide (x13_1< (l0.length:Int))=true:=decide_eq_true c8
      clear c8
      replace H:=Option.bind_eq_some_iff.mp H
      obtain ⟨t524,A90,H⟩:=H
      replace H:(if x7_1.length< 17592186044416 then (impl_scaled.l0 k1 a1 a2 (x7_1++[t524]) l0 (l0.length:Int) (wrap64 (x13_1+1))) else (none))=some r:=H
      have A9:=Aside0.mk A90
      clear A90
      by_cases c10:x7_1.length< 17592186044416
      ·rw [if_pos c10] at H
       have LMc10:=Aside0.mk c10
       clear c10
       obtain ⟨y525,hy525⟩:∃ y_:List Int,y_=(x7_1++[t524]):=⟨_,rfl⟩
       replace H:(impl_scaled.l0 k1 a1 a2 y525 l0 (l0.length:Int) (wrap64 (x13_1+1)))=some r:=by first|(rw [hy525];with_reducible exact H)|(have H2_:=(Option.bind_some _ _).symm.trans H;rw [hy525];with_reducible exact H2_)|(have H2_:=(Option.bind_some _ _).symm.trans H;with_reducible exact H2_)|with_reducible exact H|(rw [hy525];exact H)|exact H
       have Ny525:=Aside0.mk hy525
       clear hy525
       have H':=Aside0.mk H
       clear H
       have p523:0≤(x13_1:Int):=of_decide_eq_true (by first|(with_reducible assumption)|assumption)
       have q523:x13_1< (l0.length:Int):=of_decide_eq_true (by first|(with_reducible assumption)|assumption)
       obtain ⟨ad523,e523,hx523_0⟩:=Kd.at_int HR0.out x13_1 p523 q523
       cases e523
       replace hx523_0:=(HB.out.cell (World.block_lt_of_cell? w _ hx523_0)).trans hx523_0
       replace p523:=eq_true p523
       replace q523:=eq_true q523
       go_wp2_with (first|((with_reducible refine gate_callee (f:=88) rfl ?_);refine goesL_ (some 22) rfl rfl Try.func88 (by kernel_rfl) rfl #[.int .i64 (wrap64 ((rd l0 x13_1)*a1)),.int .i64 a2] rfl (by (try simp only [List.map_toArray,List.map_cons,List.map_nil]);first|done|rfl|(simp only [List.length_drop,List.length_take];rfl)) ?_;(with_reducible refine (impl_mod.calls (wrap64 ((rd l0 x13_1)*a1)) a2 t524 _ A9.out).mono ?_);rintro e w' ⟨rfl,⟨nd,rfl⟩⟩;refine ⟨_,rfl,?_⟩)|((with_reducible refine gate_builtin (b:=.append) (xs:=#[.tmp 17,.tmp 23]) rfl ?_);at_builtin;refine Kd.R_append (Kd.int .i64) (w0:=w) w.heap.size rfl (.tmp 17) (.tmp 23) 22 3 (.int .i64 0) 8 rfl Try.underlying22 info3 rfl (by decide) (by omega) u7 x7_1 t524 [.int .i64 t524] (fun _=>True) (fun _=>False) rfl rfl ?aP (fun _ hk=>hk.elim) ?aF ?aO ?aB ?aS ?aL ?_;(case aP=>exact rfl);(case aB=>exact (by repeat (first|(with_reducible first|exact HB.out|apply below_alloc|apply pw_below_drewN|apply below_drew1)|exact HB.out)));(case aF=>exact (fun _ _=>trivial));(case aO=>exact (by (with_reducible repeat (first|apply Kd.R_alloc|apply Kd.R_drewN|apply Kd.R_drew));exact HO_7.out));(case aS=>exact (below_size (by repeat (first|(with_reducible first|exact HB.out|apply below_alloc|apply pw_below_drewN|apply below_drew1)|exact HB.out))));(case aL=>have:=LMc10.out;omega);intro v526 w11 ho hb hg hat;rw [← Ny525.out] at ho;have n0_:=Aside0.mk (hb);have n1_:=Aside0.mk (ho);clear HB;clear HO_7;have HB:=n0_;have HO527:=n1_;clear n0_ n1_;clear ho hb hg hat))
       go_roundg k1
       case measure=>have:=HK1.out;omega
       case rel=>exact ⟨(y525),(wrap64 (x13_1+1)),(by first|rfl|(simp;done)|(simp [*];done)),H',⟨by have:=HK1.out;omega⟩,⟨by (with_reducible repeat (first|apply Kd.R_alloc|apply Kd.R_drewN|apply Kd.R_drew));exact HO527.out⟩,⟨by repeat (first|(with_reducible first|exact HB.out|apply below_alloc|apply pw_below_drewN|apply below_drew1)|exact HB.out)⟩⟩
      ·rw [if_neg c10] at H
       exact absurd H (by simp)
     ·rw [if_neg c8] at H
      exact absurd H (by simp)
    ·rw [if_neg c7] at H
     exact absurd H (by simp)
   ·rw [if_neg c6] at H
    have c6b0:decide (x13_1< (l0.length:Int))=false:=decide_eq_false c6
    clear c6
    obtain rfl:=Option.some.inj H
    go_wp2
    go_ret
    exact ⟨_,by first|rfl|(simp [errW_none,errW_some]<;>rfl)|(simp [*,errW_none,errW_some]<;>rfl),by (with_reducible repeat (first|apply Kd.R_alloc|apply Kd.R_drewN|apply Kd.R_drew));exact HO_7.out,by repeat (first|(with_reducible first|exact HB.out|apply below_alloc|apply pw_below_drewN|apply below_drew1)|exact HB.out)⟩
/-! ### impl_added: function 92 -/
def impl_added.l0:Nat→List Int→Int→Int→List Int→List Int→Int→Int→Option (List Int)
 |0,_,_,_,_,_,_,_=>none
 |k+1,x1,x2,x3,x9,x13,x14,x15=>if x15< x14 then (if 0≤x15 then (if x15< (x13.length:Int) then (if x15< (x1.length:Int) then ((impl_mod.f (wrap64 ((rd x13 x15)+(wrap64 (x2*(rd x1 x15))))) x3).bind fun t533=>(if x9.length< 17592186044416 then (impl_added.l0 k x1 x2 x3 (x9++[t533]) x13 x14 (wrap64 (x15+1))) else (none))) else (none)) else (none)) else (none)) else (some x9)
def impl_added.f (k:Nat) (l0:List Int) (l1:List Int) (a2:Int) (a3:Int):Option (List Int):=impl_added.l0 k l1 a2 a3 (([]:List Int)) l0 (l0.length:Int) 0
set_option maxHeartbeats 8000000 in
set_option maxRecDepth 100000 in
theorem impl_added.calls (k:Nat) (A0:Option Addr) (c0:Nat) (l0:List Int) (A1:Option Addr) (c1:Nat) (l1:List Int) (a2:Int) (a3:Int) (r:List Int) (w:World) (hr0:Kd.C (Kd.int .i64) w A0 l0.length l0) (hc0:l0.length≤c0) (hr1:Kd.C (Kd.int .i64) w A1 l1.length l1) (hc1:l1.length≤c1) (h:impl_added.f k l0 l1 a2 a3=some r):
  Calls Try.prog 92 #[.slice A0 l0.length c0,.slice A1 l1.length c1,.int .i64 a2,.int .i64 a3] w fun e w'=>∃ v0_:Value,e=.returned (v0_)∧Kd.R (Kd.int .i64) 3 w' w.heap.size (fun _=>True) v0_ r∧Below w.heap.size w w':=by
 have HR0:=Aside0.mk hr0
 have HC0:=Aside0.mk hc0
 clear hr0 hc0
 have HR1:=Aside0.mk hr1
 have HC1:=Aside0.mk hc1
 clear hr1 hc1
 have HB:=Aside0.mk (Below.refl w.heap.size w)
 have H:(impl_added.l0 k l1 a2 a3 (([]:List Int)) l0 (l0.length:Int) 0)=some r:=h
 clear h
 obtain ⟨y528,hy528⟩:∃ y_:List Int,y_=(([]:List Int)):=⟨_,rfl⟩
 replace H:(impl_added.l0 k l1 a2 a3 y528 l0 (l0.length:Int) 0)=some r:=by first|(rw [hy528];with_reducible exact H)|(have H2_:=(Option.bind_some _ _).symm.trans H;rw [hy528];with_reducible exact H2_)|(have H2_:=(Option.bind_some _ _).symm.trans H;with_reducible exact H2_)|with_reducible exact H|(rw [hy528];exact H)|exact H
 have Ny528:=Aside0.mk hy528
 clear hy528
 have H':=Aside0.mk H
 clear H
 go_enter Try.func92,Try.ntmps92
 go_wp2_with (first|((with_reducible refine gate_dst (N:=12) rfl ?_);refine Kd.R_lit (Kd.int .i64) _ 3 ?hg (N:=12) ?hd (xs:=([]:List Int)) (inner:=[]) (ok:=fun _=>True) (okp:=fun _=>True) ?hr ?hp (fun _ hk=>hk) trivial (Below.refl _ _) (Nat.le_refl _) (by simp) ?_;(case hd=>rfl);(case hg=>rfl);(case hr=>first|(go_simp;done)|(go_simp;rfl));(case hp=>exact (Reps.none _ _));intro v529 w5 ho6 hb hg_ hnew_;clear hg_ hnew_;(first|rw [← Ny528.out] at ho6|(simp only [Int.reduceToNat] at ho6;rw [← Ny528.out] at ho6));have n0_:=Aside0.mk (Kd.R_lower ho6 (below_size (by repeat (first|(with_reducible first|exact HB.out|apply below_alloc|apply pw_below_drewN|apply below_drew1)|exact HB.out))));have n1_:=Aside0.mk (below_step (by repeat (first|(with_reducible first|exact HB.out|apply below_alloc|apply pw_below_drewN|apply below_drew1)|exact HB.out)) hb);clear HB;have HO530:=n0_;have HB:=n1_;clear n0_ n1_;clear hb ho6))
 go_loopg [9,15] k (fun kq v9 v15 w'=>∃ (x9_1:List Int) (x15_1:Int),v15=.int .i64 x15_1∧Aside0 (impl_added.l0 kq l1 a2 a3 x9_1 l0 (l0.length:Int) x15_1=some r)∧Aside0 (kq≤k)∧Aside0 (Kd.R (Kd.int .i64) 3 w' w.heap.size (fun _=>True) v9 x9_1)∧Aside0 (Below w.heap.size w w'))
 case atStart=>exact ⟨(y528),(0),(by first|rfl|(simp;done)|(simp [*];done)),H',⟨Nat.le_refl _⟩,⟨by (with_reducible repeat (first|apply Kd.R_alloc|apply Kd.R_drewN|apply Kd.R_drew));exact HO530.out⟩,⟨by repeat (first|(with_reducible first|exact HB.out|apply below_alloc|apply pw_below_drewN|apply below_drew1)|exact HB.out)⟩⟩
 case round=>
  clear H'
  (try clear c1);(try clear p2)
  obtain ⟨x9_1,x15_1,rfl,HA,HK1,HO_9,HB⟩:=hrel
  cases gk with
  |zero=>exact absurd HA.out (by simp [impl_added.l0])
  |succ k1=>
   have H:=HA.out
   clear HA
   simp only [impl_added.l0] at H
   by_cases c7:x15_1< (l0.length:Int)
   ·rw [if_pos c7] at H
    have c7b0:decide (x15_1< (l0.length:Int))=true:=decide_eq_true c7
    clear c7
    by_cases c8:0≤x15_1
    ·rw [if_pos c8] at H
     have c8b0:decide (0≤x15_1)=true:=decide_eq_true c8
     clear c8
     by_cases c9:x15_1< (l0.length:Int)
     ·rw [if_pos c9] at H
      have c9b0:decide (x15_1< (l0.length:Int))=true:=decide_eq_true c9
      clear c9
      by_cases c10:x15_1< (l1.length:Int)
      ·rw [if_pos c10] at H
       have c10b0:decide (x15_1< (l1.length:Int))=true:=decide_eq_true c10
       clear c10
       replace H:=Option.bind_eq_some_iff.mp H
       obtain ⟨t533,A110,H⟩:=H
       replace H:(if x9_1.length< 17592186044416 then (impl_added.l0 k1 l1 a2 a3 (x9_1++[t533]) l0 (l0.length:Int) (wrap64 (x15_1+1))) else (none))=some r:=H
       have A11:=Aside0.mk A110
       clear A110
       by_cases c12:x9_1.length< 17592186044416
       ·rw [if_pos c12] at H
        have LMc12:=Aside0.mk c12
        clear c12
        obtain ⟨y534,hy534⟩:∃ y_:List Int,y_=(x9_1++[t533]):=⟨_,rfl⟩
        replace H:(impl_added.l0 k1 l1 a2 a3 y534 l0 (l0.length:Int) (wrap64 (x15_1+1)))=some r:=by first|(rw [hy534];with_reducible exact H)|(have H2_:=(Option.bind_some _ _).symm.trans H;rw [hy534];with_reducible exact H2_)|(have H2_:=(Option.bind_some _ _).symm.trans H;with_reducible exact H2_)|with_reducible exact H|(rw [hy534];exact H)|exact H
        have Ny534:=Aside0.mk hy534
        clear hy534
        have H':=Aside0.mk H
        clear H
        have p531:0≤(x15_1:Int):=of_decide_eq_true (by first|(with_reducible assumption)|assumption)
        have q531:x15_1< (l0.length:Int):=of_decide_eq_true (by first|(with_reducible assumption)|assumption)
        obtain ⟨ad531,e531,hx531_0⟩:=Kd.at_int HR0.out x15_1 p531 q531
        cases e531
        replace hx531_0:=(HB.out.cell (World.block_lt_of_cell? w _ hx531_0)).trans hx531_0
        replace p531:=eq_true p531
        replace q531:=eq_true q531
        have p532:0≤(x15_1:Int):=of_decide_eq_true (by first|(with_reducible assumption)|assumption)
        have q532:x15_1< (l1.length:Int):=of_decide_eq_true (by first|(with_reducible assumption)|assumption)
        obtain ⟨ad532,e532,hx532_0⟩:=Kd.at_int HR1.out x15_1 p532 q532
        cases e532
        replace hx532_0:=(HB.out.cell (World.block_lt_of_cell? w _ hx532_0)).trans hx532_0
        replace p532:=eq_true p532
        replace q532:=eq_true q532
        go_wp2_with (first|((with_reducible refine gate_callee (f:=88) rfl ?_);refine goesL_ (some 30) rfl rfl Try.func88 (by kernel_rfl) rfl #[.int .i64 (wrap64 ((rd l0 x15_1)+(wrap64 (a2*(rd l1 x15_1))))),.int .i64 a3] rfl (by (try simp only [List.map_toArray,List.map_cons,List.map_nil]);first|done|rfl|(simp only [List.length_drop,List.length_take];rfl)) ?_;(with_reducible refine (impl_mod.calls (wrap64 ((rd l0 x15_1)+(wrap64 (a2*(rd l1 x15_1))))) a3 t533 _ A11.out).mono ?_);rintro e w' ⟨rfl,⟨nd,rfl⟩⟩;refine ⟨_,rfl,?_⟩)|((with_reducible refine gate_builtin (b:=.append) (xs:=#[.tmp 20,.tmp 31]) rfl ?_);at_builtin;refine Kd.R_append (Kd.int .i64) (w0:=w) w.heap.size rfl (.tmp 20) (.tmp 31) 22 3 (.int .i64 0) 8 rfl Try.underlying22 info3 rfl (by decide) (by omega) u9 x9_1 t533 [.int .i64 t533] (fun _=>True) (fun _=>False) rfl rfl ?aP (fun _ hk=>hk.elim) ?aF ?aO ?aB ?aS ?aL ?_;(case aP=>exact rfl);(case aB=>exact (by repeat (first|(with_reducible first|exact HB.out|apply below_alloc|apply pw_below_drewN|apply below_drew1)|exact HB.out)));(case aF=>exact (fun _ _=>trivial));(case aO=>exact (by (with_reducible repeat (first|apply Kd.R_alloc|apply Kd.R_drewN|apply Kd.R_drew));exact HO_9.out));(case aS=>exact (below_size (by repeat (first|(with_reducible first|exact HB.out|apply below_alloc|apply pw_below_drewN|apply below_drew1)|exact HB.out))));(case aL=>have:=LMc12.out;omega);intro v535 w13 ho hb hg hat;rw [← Ny534.out] at ho;have n0_:=Aside0.mk (hb);have n1_:=Aside0.mk (ho);clear HB;clear HO_9;have HB:=n0_;have HO536:=n1_;clear n0_ n1_;clear ho hb hg hat))
        go_roundg k1
        case measure=>have:=HK1.out;omega
        case rel=>exact ⟨(y534),(wrap64 (x15_1+1)),(by first|rfl|(simp;done)|(simp [*];done)),H',⟨by have:=HK1.out;omega⟩,⟨by (with_reducible repeat (first|apply Kd.R_alloc|apply Kd.R_drewN|apply Kd.R_drew));exact HO536.out⟩,⟨by repeat (first|(with_reducible first|exact HB.out|apply below_alloc|apply pw_below_drewN|apply below_drew1)|exact HB.out)⟩⟩
       ·rw [if_neg c12] at H
        exact absurd H (by simp)
      ·rw [if_neg c10] at H
       exact absurd H (by simp)
     ·rw [if_neg c9] at H
      exact absurd H (by simp)
    ·rw [if_neg c8] at H
     exact absurd H (by simp)
   ·rw [if_neg c7] at H
    have c7b0:decide (x15_1< (l0.length:Int))=false:=decide_eq_false c7
    clear c7
    obtain rfl:=Option.some.inj H
    go_wp2
    go_ret
    exact ⟨_,by first|rfl|(simp [errW_none,errW_some]<;>rfl)|(simp [*,errW_none,errW_some]<;>rfl),by (with_reducible repeat (first|apply Kd.R_alloc|apply Kd.R_drewN|apply Kd.R_drew));exact HO_9.out,by repeat (first|(with_reducible first|exact HB.out|apply below_alloc|apply pw_below_drewN|apply below_drew1)|exact HB.out)⟩
/-! ### impl_inverse: function 98 -/
def impl_inverse.l0:Nat→Int→Int→Int→Option (Int)
 |0,_,_,_=>none
 |k+1,x0,x1,x5=>if x5< x1 then (if x1=0 then (none) else (if (Int.tmod (wrap64 (x0*x5)) x1)=1 then (some x5) else (impl_inverse.l0 k x0 x1 (wrap64 (x5+1))))) else (some 0)
def impl_inverse.f (k:Nat) (a0:Int) (a1:Int):Option (Int):=impl_inverse.l0 k a0 a1 1
set_option maxHeartbeats 8000000 in
set_option maxRecDepth 100000 in
theorem impl_inverse.calls (k:Nat) (a0:Int) (a1:Int) (r:Int) (w:World) (h:impl_inverse.f k a0 a1=some r):
  Calls Try.prog 98 #[.int .i64 a0,.int .i64 a1] w fun e w'=>e=.returned (.int .i64 r)∧Drawn0 w w':=by
 have H:(impl_inverse.l0 k a0 a1 1)=some r:=h
 clear h
 have H':=Aside0.mk H
 clear H
 go_enter Try.func98,Try.ntmps98
 go_wp2
 go_loopg [5] k (fun kq v5 w'=>∃ (x5_1:Int),v5=.int .i64 x5_1∧Aside0 (impl_inverse.l0 kq a0 a1 x5_1=some r)∧Aside0 (kq≤k)∧Drawn0 w w')
 case atStart=>exact ⟨(1),(by first|rfl|(simp;done)|(simp [*];done)),H',⟨Nat.le_refl _⟩,by repeat (first|exact Drawn0.refl _|apply Drawn0.step)⟩
 case round=>
  clear H'
  (try clear p2)
  obtain ⟨x5_1,rfl,HA,HK1,⟨m1,rfl⟩⟩:=hrel
  cases gk with
  |zero=>exact absurd HA.out (by simp [impl_inverse.l0])
  |succ k1=>
   have H:=HA.out
   clear HA
   simp only [impl_inverse.l0] at H
   by_cases c3:x5_1< a1
   ·rw [if_pos c3] at H
    have c3b0:decide (x5_1< a1)=true:=decide_eq_true c3
    clear c3
    by_cases c4:a1=0
    ·rw [if_pos c4] at H
     exact absurd H (by simp)
    ·rw [if_neg c4] at H
     have c4b0:(a1==0)=false:=beq_eq_false_iff_ne.mpr c4
     have c4b1:(a1 !=0)=true:=bne_iff_ne.mpr c4
     by_cases c5:(Int.tmod (wrap64 (a0*x5_1)) a1)=1
     ·rw [if_pos c5] at H
      have c5b0:((Int.tmod (wrap64 (a0*x5_1)) a1)==1)=true:=beq_iff_eq.mpr c5
      have c5b1:((Int.tmod (wrap64 (a0*x5_1)) a1) !=1)=false:=bne_eq_false_iff_eq.mpr c5
      clear c5
      obtain rfl:=Option.some.inj H
      go_wp2
      go_ret
      exact ⟨by first|rfl|(simp;done)|(simp [*];done),by repeat (first|exact Drawn0.refl _|apply Drawn0.step)⟩
     ·rw [if_neg c5] at H
      have c5b0:((Int.tmod (wrap64 (a0*x5_1)) a1)==1)=false:=beq_eq_false_iff_ne.mpr c5
      have c5b1:((Int.tmod (wrap64 (a0*x5_1)) a1) !=1)=true:=bne_iff_ne.mpr c5
      have H':=Aside0.mk H
      clear H
      go_wp2
      go_roundg k1
      case measure=>have:=HK1.out;omega
      case rel=>exact ⟨(wrap64 (x5_1+1)),(by first|rfl|(simp;done)|(simp [*];done)),H',⟨by have:=HK1.out;omega⟩,by repeat (first|exact Drawn0.refl _|apply Drawn0.step)⟩
   ·rw [if_neg c3] at H
    have c3b0:decide (x5_1< a1)=false:=decide_eq_false c3
    clear c3
    obtain rfl:=Option.some.inj H
    go_wp2
    go_ret
    exact ⟨by first|rfl|(simp;done)|(simp [*];done),by repeat (first|exact Drawn0.refl _|apply Drawn0.step)⟩
/-! ### impl_Graph_toggleRows: function 85 -/
mutual
def impl_Graph_toggleRows.l0:Nat→List Int→List (List Int)→Int→Int→List Int→Bool→Option ((List (List Int)))
 |0,_,_,_,_,_,_=>none
 |k+1,x1,x5,x12,x13,x538000,x538001=>if x13< x12 then (impl_Graph_toggleRows.l1 k x1 x5 x13 (([]:List Int)) x12 x13 (x538000.length:Int) 0 x538000 x538001) else (some x5)
def impl_Graph_toggleRows.l1:Nat→List Int→List (List Int)→Int→List Int→Int→Int→Int→Int→List Int→Bool→Option ((List (List Int)))
 |0,_,_,_,_,_,_,_,_,_,_=>none
 |k+1,x1,x5,x6,x7,x12,x13,x19,x20,x538000,x538001=>if x20< x19 then ((impl_Graph_toggles.f x538000 x538001 x20).bind fun t544=>(if 0≤x6 then (if x7.length< 17592186044416 then (impl_Graph_toggleRows.l1 k x1 x5 x6 (x7++[Go.bits .and .i64 (shr .i64 t544 x6) 1]) x12 x13 x19 (wrap64 (x20+1)) x538000 x538001) else (none)) else (none))) else (if 0≤x6 then (if x6< (x1.length:Int) then (if x7.length< 17592186044416 then (if x5.length< 5864062014805 then (impl_Graph_toggleRows.l0 k x1 (x5++[(x7++[rd x1 x6])]) x12 (wrap64 (x13+1)) x538000 x538001) else (none)) else (none)) else (none)) else (none))
end
def impl_Graph_toggleRows.f (k:Nat) (l0_0:List Int) (a0_1:Bool) (l1:List Int):Option ((List (List Int))):=impl_Graph_toggleRows.l0 k l1 (([]:List (List Int))) (l0_0.length:Int) 0 l0_0 a0_1
set_option maxHeartbeats 8000000 in
set_option maxRecDepth 100000 in
theorem impl_Graph_toggleRows.calls (k:Nat) (A0_0:Option Addr) (c0_0:Nat) (l0_0:List Int) (a0_1:Bool) (A1:Option Addr) (c1:Nat) (l1:List Int) (r:List (List Int)) (w:World) (hr0_0:Kd.C (Kd.int .i64) w A0_0 l0_0.length l0_0) (hc0_0:l0_0.length≤c0_0) (hr1:Kd.C (Kd.int .i64) w A1 l1.length l1) (hc1:l1.length≤c1) (h:impl_Graph_toggleRows.f k l0_0 a0_1 l1=some r):
  Calls Try.prog 85 #[.agg #[.slice A0_0 l0_0.length c0_0,.bool a0_1],.slice A1 l1.length c1] w fun e w'=>∃ v0_:Value,e=.returned (v0_)∧Kd.S (Kd.slice 3 (Kd.int .i64)) 22 w' w.heap.size (fun _=>True) v0_ r∧Below w.heap.size w w':=by
 have hu28:=Try.underlying28
 have HR0_0:=Aside0.mk hr0_0
 have HC0_0:=Aside0.mk hc0_0
 clear hr0_0 hc0_0
 have HR1:=Aside0.mk hr1
 have HC1:=Aside0.mk hc1
 clear hr1 hc1
 have HB:=Aside0.mk (Below.refl w.heap.size w)
 have H:(impl_Graph_toggleRows.l0 k l1 (([]:List (List Int))) (l0_0.length:Int) 0 l0_0 a0_1)=some r:=h
 clear h
 obtain ⟨y538,hy538⟩:∃ y_:List (List Int),y_=(([]:List (List Int))):=⟨_,rfl⟩
 replace H:(impl_Graph_toggleRows.l0 k l1 y538 (l0_0.length:Int) 0 l0_0 a0_1)=some r:=by first|(rw [hy538];with_reducible exact H)|(have H2_:=(Option.bind_some _ _).symm.trans H;rw [hy538];with_reducible exact H2_)|(have H2_:=(Option.bind_some _ _).symm.trans H;with_reducible exact H2_)|with_reducible exact H|(rw [hy538];exact H)|exact H
 have Ny538:=Aside0.mk hy538
 clear hy538
 have H':=Aside0.mk H
 clear H
 go_enter Try.func85,Try.ntmps85
 go_wp2_with (first|((with_reducible refine gate_dst (N:=2) rfl ?_);refine box_event ?hg (N:=2) ?hd (cs:=#[.slice A0_0 l0_0.length c0_0,.bool a0_1]) (t:=28) ?hr ?_;(case hd=>rfl);(case hg=>rfl);(case hr=>first|(go_simp;done)|(go_simp;rfl));intro gb537 hg w3 hbox hb;have n0_:=Aside0.mk (below_step (by repeat (first|(with_reducible first|exact HB.out|apply below_alloc|apply pw_below_drewN|apply below_drew1)|exact HB.out)) hb);have n1_:=Aside0.mk (hbox);have n2_:=Aside0.mk ((by rw [hg];exact (below_size (by repeat (first|(with_reducible first|exact HB.out|apply below_alloc|apply pw_below_drewN|apply below_drew1)|exact HB.out))):w.heap.size≤gb537));have n3_:=Aside0.mk ((by rw [hg];exact (below_size (by repeat (first|(with_reducible first|exact HB.out|apply below_alloc|apply pw_below_drewN|apply below_drew1)|exact HB.out))):w.heap.size≤gb537));clear HB;have HB:=n0_;have BK537:=n1_;have GW537:=n2_;have GE537:=n3_;clear n0_ n1_ n2_ n3_;clear hb hbox hg)|((with_reducible refine gate_dst (N:=9) rfl ?_);refine Kd.S_lit (Kd.slice 3 (Kd.int .i64)) _ 22 ?hg (N:=9) ?hd (xs:=([]:List (List Int))) (inner:=[]) (ok:=fun _=>True) (okp:=fun _=>True) ?hr ?hp (fun _ hk=>hk) trivial (Below.refl _ _) (Nat.le_refl _) (by simp) ?_;(case hd=>rfl);(case hg=>rfl);(case hr=>first|(go_simp;done)|(go_simp;rfl));(case hp=>exact (Reps.none _ _));intro v539 w4 ho5 hb hg_ hnew_;clear hg_ hnew_;(first|rw [← Ny538.out] at ho5|(simp only [Int.reduceToNat] at ho5;rw [← Ny538.out] at ho5));have n0_:=Aside0.mk (Kd.S_lower ho5 (below_size (by repeat (first|(with_reducible first|exact HB.out|apply below_alloc|apply pw_below_drewN|apply below_drew1|refine below_set ?_ GE537.out)|exact HB.out))));have n1_:=Aside0.mk (blk_below (g:=gb537) (o:=.cells #[.slice A0_0 l0_0.length c0_0,.bool a0_1] 28 (0,0)) (by (with_reducible repeat (first|refine blk_drewN ?_ _|refine blk_drew ?_|refine blk_alloc ?_ _));exact BK537.out) hb);have n2_:=Aside0.mk (below_step (by repeat (first|(with_reducible first|exact HB.out|apply below_alloc|apply pw_below_drewN|apply below_drew1|refine below_set ?_ GE537.out)|exact HB.out)) hb);clear BK537;clear HB;have HO540:=n0_;have BK537:=n1_;have HB:=n2_;clear n0_ n1_ n2_;clear hb ho5;have hcz6_0:w4.cell? ⟨gb537,0,none⟩=some (.slice A0_0 l0_0.length c0_0):=(blk_cell BK537.out 0).trans rfl;have hcz6_1:w4.cell? ⟨gb537,1,none⟩=some (.bool a0_1):=(blk_cell BK537.out 1).trans rfl;have hfz6_0:=blk_frozen BK537.out 0;have hfz6_1:=blk_frozen BK537.out 1))
 go_loopg [5,13] k (fun kq v5 v13 w'=>∃ (x5_1:List (List Int)) (x13_1:Int),v13=.int .i64 x13_1∧Aside0 (impl_Graph_toggleRows.l0 kq l1 x5_1 (l0_0.length:Int) x13_1 l0_0 a0_1=some r)∧Aside0 (kq≤k)∧Aside0 (Kd.S (Kd.slice 3 (Kd.int .i64)) 22 w' w.heap.size (fun _=>True) v5 x5_1)∧Aside0 (w'.heap[gb537]?=some (.cells #[(.slice A0_0 l0_0.length c0_0),.bool a0_1] 28 (0,0)))∧Aside0 (Below w.heap.size w w'))
 case atStart=>exact ⟨(y538),(0),(by first|rfl|(simp;done)|(simp [*];done)),H',⟨Nat.le_refl _⟩,⟨by (with_reducible repeat (first|apply Kd.S_alloc|apply Kd.S_drewN|apply Kd.S_drew));exact HO540.out⟩,⟨by (with_reducible repeat (first|refine blk_drewN ?_ _|refine blk_drew ?_|refine blk_alloc ?_ _));exact BK537.out⟩,⟨by repeat (first|(with_reducible first|exact HB.out|apply below_alloc|apply pw_below_drewN|apply below_drew1|refine below_set ?_ GE537.out)|exact HB.out)⟩⟩
 case round=>
  clear H'
  (try clear c1);(try clear p2);(try clear hcz6_0);(try clear hcz6_1);(try clear hfz6_0);(try clear hfz6_1)
  obtain ⟨x5_1,x13_1,rfl,HA,HK1,HO_5,BK537,HB⟩:=hrel
  cases gk with
  |zero=>exact absurd HA.out (by simp [impl_Graph_toggleRows.l0])
  |succ k1=>
   have H:=HA.out
   clear HA
   simp only [impl_Graph_toggleRows.l0] at H
   by_cases c7:x13_1< (l0_0.length:Int)
   ·rw [if_pos c7] at H
    have c7b0:decide (x13_1< (l0_0.length:Int))=true:=decide_eq_true c7
    clear c7
    obtain ⟨y541,hy541⟩:∃ y_:List Int,y_=(([]:List Int)):=⟨_,rfl⟩
    replace H:(impl_Graph_toggleRows.l1 k1 l1 x5_1 x13_1 y541 (l0_0.length:Int) x13_1 (l0_0.length:Int) 0 l0_0 a0_1)=some r:=by first|(rw [hy541];with_reducible exact H)|(have H2_:=(Option.bind_some _ _).symm.trans H;rw [hy541];with_reducible exact H2_)|(have H2_:=(Option.bind_some _ _).symm.trans H;with_reducible exact H2_)|with_reducible exact H|(rw [hy541];exact H)|exact H
    have Ny541:=Aside0.mk hy541
    clear hy541
    have H':=Aside0.mk H
    clear H
    go_wp2_with (first|((with_reducible refine gate_dst (N:=16) rfl ?_);refine Kd.R_lit (Kd.int .i64) _ 3 ?hg (N:=16) ?hd (xs:=([]:List Int)) (inner:=[]) (ok:=fun _=>True) (okp:=fun _=>True) ?hr ?hp (fun _ hk=>hk) trivial (Below.refl _ _) (Nat.le_refl _) (by simp) ?_;(case hd=>rfl);(case hg=>rfl);(case hr=>first|(go_simp;done)|(go_simp;rfl));(case hp=>exact (Reps.none _ _));intro v542 w8 ho9 hb hg_ hnew_;clear hg_ hnew_;(first|rw [← Ny541.out] at ho9|(simp only [Int.reduceToNat] at ho9;rw [← Ny541.out] at ho9));have n0_:=Aside0.mk (Kd.S_elder' (by (with_reducible repeat (first|apply Kd.S_alloc|apply Kd.S_drewN|apply Kd.S_drew));exact HO_5.out) (Kd.R_base ho9) hb);have n1_:=Aside0.mk (Kd.R_lower ho9 (below_size (by repeat (first|(with_reducible first|exact HB.out|apply below_alloc|apply pw_below_drewN|apply below_drew1|refine below_set ?_ GE537.out)|exact HB.out))));have n2_:=Aside0.mk (blk_below (g:=gb537) (o:=.cells #[.slice A0_0 l0_0.length c0_0,.bool a0_1] 28 (0,0)) (by (with_reducible repeat (first|refine blk_drewN ?_ _|refine blk_drew ?_|refine blk_alloc ?_ _));exact BK537.out) hb);have n3_:=Aside0.mk (below_step (by repeat (first|(with_reducible first|exact HB.out|apply below_alloc|apply pw_below_drewN|apply below_drew1|refine below_set ?_ GE537.out)|exact HB.out)) hb);clear HO_5;clear BK537;clear HB;have HO_5:=n0_;have HO543:=n1_;have BK537:=n2_;have HB:=n3_;clear n0_ n1_ n2_ n3_;clear hb ho9;have hcz10_0:w8.cell? ⟨gb537,0,none⟩=some (.slice A0_0 l0_0.length c0_0):=(blk_cell BK537.out 0).trans rfl;have hcz10_1:w8.cell? ⟨gb537,1,none⟩=some (.bool a0_1):=(blk_cell BK537.out 1).trans rfl;have hfz10_0:=blk_frozen BK537.out 0;have hfz10_1:=blk_frozen BK537.out 1))
    go_loopg [7,20] k1 (fun kq v7 v20 w'=>∃ (x7_2:List Int) (x20_2:Int),v20=.int .i64 x20_2∧Aside0 (impl_Graph_toggleRows.l1 kq l1 x5_1 x13_1 x7_2 (l0_0.length:Int) x13_1 (l0_0.length:Int) x20_2 l0_0 a0_1=some r)∧Aside0 (kq≤k1)∧Aside0 (Kd.S (Kd.slice 3 (Kd.int .i64)) 22 w' w.heap.size (fun k_=>some k_≠(v7:Value).ownBlock) u5 x5_1)∧Aside0 (Kd.R (Kd.int .i64) 3 w' w.heap.size (fun _=>True) v7 x7_2)∧Aside0 (w'.heap[gb537]?=some (.cells #[(.slice A0_0 l0_0.length c0_0),.bool a0_1] 28 (0,0)))∧Aside0 (Below w.heap.size w w'))
    case atStart=>exact ⟨(y541),(0),(by first|rfl|(simp;done)|(simp [*];done)),H',⟨Nat.le_refl _⟩,⟨by (with_reducible repeat (first|apply Kd.S_alloc|apply Kd.S_drewN|apply Kd.S_drew));exact Kd.S_mono HO_5.out (fun _ hk=>hk.2)⟩,⟨by (with_reducible repeat (first|apply Kd.R_alloc|apply Kd.R_drewN|apply Kd.R_drew));exact HO543.out⟩,⟨by (with_reducible repeat (first|refine blk_drewN ?_ _|refine blk_drew ?_|refine blk_alloc ?_ _));exact BK537.out⟩,⟨by repeat (first|(with_reducible first|exact HB.out|apply below_alloc|apply pw_below_drewN|apply below_drew1|refine below_set ?_ GE537.out)|exact HB.out)⟩⟩
    case round=>
     clear H'
     (try clear c1);(try clear p2);(try clear c7);(try clear c7b0);(try clear c8);(try clear hcz10_0);(try clear hcz10_1);(try clear hcz6_0);(try clear hcz6_1);(try clear hfz10_0);(try clear hfz10_1);(try clear hfz6_0);(try clear hfz6_1);(try clear p2)
     obtain ⟨x7_2,x20_2,rfl,HA,HK2,HO_5,HO_7,BK537,HB⟩:=hrel
     cases gk with
     |zero=>exact absurd HA.out (by simp [impl_Graph_toggleRows.l1])
     |succ k2=>
      have H:=HA.out
      clear HA
      simp only [impl_Graph_toggleRows.l1] at H
      by_cases c11:x20_2< (l0_0.length:Int)
      ·rw [if_pos c11] at H
       have c11b0:decide (x20_2< (l0_0.length:Int))=true:=decide_eq_true c11
       clear c11
       replace H:=Option.bind_eq_some_iff.mp H
       obtain ⟨t544,A120,H⟩:=H
       replace H:(if 0≤x13_1 then (if x7_2.length< 17592186044416 then (impl_Graph_toggleRows.l1 k2 l1 x5_1 x13_1 (x7_2++[Go.bits .and .i64 (shr .i64 t544 x13_1) 1]) (l0_0.length:Int) x13_1 (l0_0.length:Int) (wrap64 (x20_2+1)) l0_0 a0_1) else (none)) else (none))=some r:=H
       have A12:=Aside0.mk A120
       clear A120
       by_cases c13:0≤x13_1
       ·rw [if_pos c13] at H
        have c13b0:=eq_true c13
        have c13b1:decide (0≤x13_1)=true:=decide_eq_true c13
        clear c13
        obtain ⟨ji14,hji14⟩:∃ j_:Int,(shr .i64 t544 x13_1)=j_:=⟨_,rfl⟩
        replace H:(if x7_2.length< 17592186044416 then (impl_Graph_toggleRows.l1 k2 l1 x5_1 x13_1 (x7_2++[Go.bits .and .i64 (ji14) 1]) (l0_0.length:Int) x13_1 (l0_0.length:Int) (wrap64 (x20_2+1)) l0_0 a0_1) else (none))=some r:=by first|(rw [hji14] at H;exact H)|(simp only [hji14] at H ⊢;exact H)
        (try rw [hji14] at A12)
        have hji14_:(t544 / 2 ^ min x13_1.toNat 64)=ji14:=hji14
        have hji14z:x13_1≤64→(t544 / 2 ^ x13_1.toNat)=ji14:=shr_small hji14
        by_cases c15:x7_2.length< 17592186044416
        ·rw [if_pos c15] at H
         have LMc15:=Aside0.mk c15
         clear c15
         obtain ⟨y545,hy545⟩:∃ y_:List Int,y_=(x7_2++[Go.bits .and .i64 (ji14) 1]):=⟨_,rfl⟩
         replace H:(impl_Graph_toggleRows.l1 k2 l1 x5_1 x13_1 y545 (l0_0.length:Int) x13_1 (l0_0.length:Int) (wrap64 (x20_2+1)) l0_0 a0_1)=some r:=by first|(rw [hy545];with_reducible exact H)|(have H2_:=(Option.bind_some _ _).symm.trans H;rw [hy545];with_reducible exact H2_)|(have H2_:=(Option.bind_some _ _).symm.trans H;with_reducible exact H2_)|with_reducible exact H|(rw [hy545];exact H)|exact H
         have Ny545:=Aside0.mk hy545
         clear hy545
         have H':=Aside0.mk H
         clear H
         have hcz16_0:wr.cell? ⟨gb537,0,none⟩=some (.slice A0_0 l0_0.length c0_0):=(blk_cell BK537.out 0).trans rfl
         have hcz16_1:wr.cell? ⟨gb537,1,none⟩=some (.bool a0_1):=(blk_cell BK537.out 1).trans rfl
         have hfz16_0:=blk_frozen BK537.out 0
         have hfz16_1:=blk_frozen BK537.out 1
         go_wp2_with (first|((with_reducible refine gate_callee (f:=79) rfl ?_);refine goesL_ (some 26) rfl rfl Try.func79 (by kernel_rfl) rfl #[.agg #[.slice A0_0 l0_0.length c0_0,.bool a0_1],.int .i64 x20_2] rfl (by (try simp only [List.map_toArray,List.map_cons,List.map_nil]);first|done|rfl|(simp only [List.length_drop,List.length_take];rfl)) ?_;(with_reducible refine (impl_Graph_toggles.calls _ _ l0_0 a0_1 x20_2 t544 _ ?side1 ?side2 A12.out).mono ?_);(case side1=>repeat (first|exact (Kd.C_below HR0_0.out HB.out)|(with_reducible refine Kd.C_alloc ?_ _)|(with_reducible refine Kd.C_drewN ?_ _)|(with_reducible refine Kd.C_drew ?_)));(case side2=>exact HC0_0.out);rintro e w17 ⟨rfl,hb⟩;refine ⟨_,rfl,?_⟩;have n0_:=Aside0.mk (Kd.S_below (by (with_reducible repeat (first|apply Kd.S_alloc|apply Kd.S_drewN|apply Kd.S_drew));exact HO_5.out) hb);have n1_:=Aside0.mk (Kd.R_below (by (with_reducible repeat (first|apply Kd.R_alloc|apply Kd.R_drewN|apply Kd.R_drew));exact HO_7.out) hb);have n2_:=Aside0.mk (blk_below (g:=gb537) (o:=.cells #[.slice A0_0 l0_0.length c0_0,.bool a0_1] 28 (0,0)) (by (with_reducible repeat (first|refine blk_drewN ?_ _|refine blk_drew ?_|refine blk_alloc ?_ _));exact BK537.out) hb);have n3_:=Aside0.mk (below_step (by repeat (first|(with_reducible first|exact HB.out|apply below_alloc|apply pw_below_drewN|apply below_drew1|refine below_set ?_ GE537.out)|exact HB.out)) hb);clear HO_5;clear HO_7;clear BK537;clear HB;have HO_5:=n0_;have HO_7:=n1_;have BK537:=n2_;have HB:=n3_;clear n0_ n1_ n2_ n3_;(try clear hb);(try clear hb2);(try clear hk);(try clear hi))|((with_reducible refine gate_builtin (b:=.append) (xs:=#[.tmp 23,.tmp 30]) rfl ?_);at_builtin;refine Kd.R_append (Kd.int .i64) (w0:=w) w.heap.size rfl (.tmp 23) (.tmp 30) 22 3 (.int .i64 0) 8 rfl Try.underlying22 info3 rfl (by decide) (by omega) u7 x7_2 (Go.bits .and .i64 (ji14) 1) [.int .i64 (Go.bits .and .i64 (ji14) 1)] (fun _=>True) (fun _=>False) rfl rfl ?aP (fun _ hk=>hk.elim) ?aF ?aO ?aB ?aS ?aL ?_;(case aP=>exact rfl);(case aB=>exact (by repeat (first|(with_reducible first|exact HB.out|apply below_alloc|apply pw_below_drewN|apply below_drew1|refine below_set ?_ GE537.out)|exact HB.out)));(case aF=>exact (fun _ _=>trivial));(case aO=>exact (by (with_reducible repeat (first|apply Kd.R_alloc|apply Kd.R_drewN|apply Kd.R_drew));exact HO_7.out));(case aS=>exact (below_size (by repeat (first|(with_reducible first|exact HB.out|apply below_alloc|apply pw_below_drewN|apply below_drew1|refine below_set ?_ GE537.out)|exact HB.out))));(case aL=>have:=LMc15.out;omega);intro v546 w18 ho hb hg hat;rw [← Ny545.out] at ho;have n0_:=Aside0.mk (Kd.S_after (ok:=(fun _=>True)) (by (with_reducible repeat (first|apply Kd.S_alloc|apply Kd.S_drewN|apply Kd.S_drew));exact Kd.S_mono HO_5.out (fun _ hk=>⟨trivial,hk⟩)) hg hat);have n1_:=Aside0.mk (blk_grown (g:=gb537) (o:=.cells #[.slice A0_0 l0_0.length c0_0,.bool a0_1] 28 (0,0)) (by (with_reducible repeat (first|refine blk_drewN ?_ _|refine blk_drew ?_|refine blk_alloc ?_ _));exact BK537.out) hg (Kd.R_ne HO_7.out BK537.out (by decide)));have n2_:=Aside0.mk (hb);have n3_:=Aside0.mk (ho);clear HO_5;clear BK537;clear HB;clear HO_7;have HO_5:=n0_;have BK537:=n1_;have HB:=n2_;have HO547:=n3_;clear n0_ n1_ n2_ n3_;clear ho hb hg hat))
         go_roundg k2
         case measure=>have:=HK1.out;have:=HK2.out;omega
         case rel=>exact ⟨(y545),(wrap64 (x20_2+1)),(by first|rfl|(simp;done)|(simp [*];done)),H',⟨by have:=HK1.out;have:=HK2.out;omega⟩,⟨by (with_reducible repeat (first|apply Kd.S_alloc|apply Kd.S_drewN|apply Kd.S_drew));exact Kd.S_mono HO_5.out (fun _ hk=>hk.2)⟩,⟨by (with_reducible repeat (first|apply Kd.R_alloc|apply Kd.R_drewN|apply Kd.R_drew));exact HO547.out⟩,⟨by (with_reducible repeat (first|refine blk_drewN ?_ _|refine blk_drew ?_|refine blk_alloc ?_ _));exact BK537.out⟩,⟨by repeat (first|(with_reducible first|exact HB.out|apply below_alloc|apply pw_below_drewN|apply below_drew1|refine below_set ?_ GE537.out)|exact HB.out)⟩⟩
        ·rw [if_neg c15] at H
         exact absurd H (by simp)
       ·rw [if_neg c13] at H
        exact absurd H (by simp)
      ·rw [if_neg c11] at H
       have c11b0:decide (x20_2< (l0_0.length:Int))=false:=decide_eq_false c11
       clear c11
       by_cases c19:0≤x13_1
       ·rw [if_pos c19] at H
        have c19b0:decide (0≤x13_1)=true:=decide_eq_true c19
        clear c19
        by_cases c20:x13_1< (l1.length:Int)
        ·rw [if_pos c20] at H
         have c20b0:decide (x13_1< (l1.length:Int))=true:=decide_eq_true c20
         clear c20
         by_cases c21:x7_2.length< 17592186044416
         ·rw [if_pos c21] at H
          have LMc21:=Aside0.mk c21
          clear c21
          obtain ⟨y549,hy549⟩:∃ y_:List Int,y_=(x7_2++[rd l1 x13_1]):=⟨_,rfl⟩
          replace H:(if x5_1.length< 5864062014805 then (impl_Graph_toggleRows.l0 k2 l1 (x5_1++[y549]) (l0_0.length:Int) (wrap64 (x13_1+1)) l0_0 a0_1) else (none))=some r:=by first|(rw [hy549];with_reducible exact H)|(have H2_:=(Option.bind_some _ _).symm.trans H;rw [hy549];with_reducible exact H2_)|(have H2_:=(Option.bind_some _ _).symm.trans H;with_reducible exact H2_)|with_reducible exact H|(rw [hy549];exact H)|exact H
          have Ny549:=Aside0.mk hy549
          clear hy549
          by_cases c22:x5_1.length< 5864062014805
          ·rw [if_pos c22] at H
           have LMc22:=Aside0.mk c22
           clear c22
           obtain ⟨y552,hy552⟩:∃ y_:List (List Int),y_=(x5_1++[y549]):=⟨_,rfl⟩
           replace H:(impl_Graph_toggleRows.l0 k2 l1 y552 (l0_0.length:Int) (wrap64 (x13_1+1)) l0_0 a0_1)=some r:=by first|(rw [hy552];with_reducible exact H)|(have H2_:=(Option.bind_some _ _).symm.trans H;rw [hy552];with_reducible exact H2_)|(have H2_:=(Option.bind_some _ _).symm.trans H;with_reducible exact H2_)|with_reducible exact H|(rw [hy552];exact H)|exact H
           have Ny552:=Aside0.mk hy552
           clear hy552
           have H':=Aside0.mk H
           clear H
           have p548:0≤(x13_1:Int):=of_decide_eq_true (by first|(with_reducible assumption)|assumption)
           have q548:x13_1< (l1.length:Int):=of_decide_eq_true (by first|(with_reducible assumption)|assumption)
           obtain ⟨ad548,e548,hx548_0⟩:=Kd.at_int HR1.out x13_1 p548 q548
           cases e548
           replace hx548_0:=(HB.out.cell (World.block_lt_of_cell? w _ hx548_0)).trans hx548_0
           replace p548:=eq_true p548
           replace q548:=eq_true q548
           go_wp2_with (first|((with_reducible refine gate_builtin (b:=.append) (xs:=#[.tmp 34,.tmp 39]) rfl ?_);at_builtin;refine Kd.R_append (Kd.int .i64) (w0:=w) w.heap.size rfl (.tmp 34) (.tmp 39) 22 3 (.int .i64 0) 8 rfl Try.underlying22 info3 rfl (by decide) (by omega) u7 x7_2 (rd l1 x13_1) [.int .i64 (rd l1 x13_1)] (fun _=>True) (fun _=>False) rfl rfl ?aP (fun _ hk=>hk.elim) ?aF ?aO ?aB ?aS ?aL ?_;(case aP=>exact rfl);(case aB=>exact (by repeat (first|(with_reducible first|exact HB.out|apply below_alloc|apply pw_below_drewN|apply below_drew1|refine below_set ?_ GE537.out)|exact HB.out)));(case aF=>exact (fun _ _=>trivial));(case aO=>exact (by (with_reducible repeat (first|apply Kd.R_alloc|apply Kd.R_drewN|apply Kd.R_drew));exact HO_7.out));(case aS=>exact (below_size (by repeat (first|(with_reducible first|exact HB.out|apply below_alloc|apply pw_below_drewN|apply below_drew1|refine below_set ?_ GE537.out)|exact HB.out))));(case aL=>have:=LMc21.out;omega);intro v550 w23 ho hb hg hat;rw [← Ny549.out] at ho;have n0_:=Aside0.mk (Kd.S_after (ok:=(fun _=>True)) (by (with_reducible repeat (first|apply Kd.S_alloc|apply Kd.S_drewN|apply Kd.S_drew));exact Kd.S_mono HO_5.out (fun _ hk=>⟨trivial,hk⟩)) hg hat);have n1_:=Aside0.mk (blk_grown (g:=gb537) (o:=.cells #[.slice A0_0 l0_0.length c0_0,.bool a0_1] 28 (0,0)) (by (with_reducible repeat (first|refine blk_drewN ?_ _|refine blk_drew ?_|refine blk_alloc ?_ _));exact BK537.out) hg (Kd.R_ne HO_7.out BK537.out (by decide)));have n2_:=Aside0.mk (hb);have n3_:=Aside0.mk (ho);clear HO_5;clear BK537;clear HB;clear HO_7;have HO_5:=n0_;have BK537:=n1_;have HB:=n2_;have HO551:=n3_;clear n0_ n1_ n2_ n3_;clear ho hb hg hat;obtain ⟨Ao25,co25,eo25⟩:=Kd.R_slice HO551.out;subst eo25)|((with_reducible refine gate_builtin (b:=.append) (xs:=#[.tmp 33,.tmp 41]) rfl ?_);at_builtin;refine Kd.S_append (Kd.slice 3 (Kd.int .i64)) (w0:=w) w.heap.size rfl (.tmp 33) (.tmp 41) 44 22 (.slice none 0 0) 24 rfl Try.underlying44 info22 rfl (by decide) (by omega) u5 x5_1 y549 [.slice Ao25 y549.length co25] (fun _=>True) (fun k_=>some k_=(.slice Ao25 y549.length co25:Value).ownBlock) rfl rfl ?aP (fun k_ hk_=>((Kd.R_mono (ok':=fun k_=>((fun _=>True)) k_∧some k_≠(u5:Value).ownBlock) (Kd.R_apart' (HO551.out) (Kd.S_typed HO_5.out) (by decide)) (fun k_ hk=>⟨trivial,hk.2⟩))).1 k_ hk_.symm) ?aF ?aO ?aB ?aS ?aL ?_;(case aP=>exact Kd.M_row (Kd.R_mono (Kd.R_tight rfl (Kd.R_mono (ok':=fun k_=>((fun _=>True)) k_∧some k_≠(u5:Value).ownBlock) (Kd.R_apart' (HO551.out) (Kd.S_typed HO_5.out) (by decide)) (fun k_ hk=>⟨trivial,hk.2⟩))) (fun _ h_=>h_)));(case aB=>exact (by repeat (first|(with_reducible first|exact HB.out|apply below_alloc|apply pw_below_drewN|apply below_drew1|refine below_set ?_ GE537.out)|exact HB.out)));(case aF=>exact (fun _ _=>trivial));(case aO=>exact (by (with_reducible repeat (first|apply Kd.S_alloc|apply Kd.S_drewN|apply Kd.S_drew));exact Kd.S_mono HO_5.out (fun k_ hk=>⟨trivial,fun e_=>hk.2 e_⟩)));(case aS=>exact (below_size (by repeat (first|(with_reducible first|exact HB.out|apply below_alloc|apply pw_below_drewN|apply below_drew1|refine below_set ?_ GE537.out)|exact HB.out))));(case aL=>have:=LMc22.out;omega);intro v553 w24 ho hb hg hat;rw [← Ny552.out] at ho;have n0_:=Aside0.mk (blk_grown (g:=gb537) (o:=.cells #[.slice A0_0 l0_0.length c0_0,.bool a0_1] 28 (0,0)) (by (with_reducible repeat (first|refine blk_drewN ?_ _|refine blk_drew ?_|refine blk_alloc ?_ _));exact BK537.out) hg (Kd.S_ne HO_5.out BK537.out (by decide)));have n1_:=Aside0.mk (hb);have n2_:=Aside0.mk (ho);clear BK537;clear HB;clear HO_5;clear HO551;have BK537:=n0_;have HB:=n1_;have HO554:=n2_;clear n0_ n1_ n2_;clear ho hb hg hat))
           go_roundg k2
           case measure=>have:=HK1.out;have:=HK2.out;omega
           case rel=>exact ⟨(y552),(wrap64 (x13_1+1)),(by first|rfl|(simp;done)|(simp [*];done)),H',⟨by have:=HK1.out;have:=HK2.out;omega⟩,⟨by (with_reducible repeat (first|apply Kd.S_alloc|apply Kd.S_drewN|apply Kd.S_drew));exact HO554.out⟩,⟨by (with_reducible repeat (first|refine blk_drewN ?_ _|refine blk_drew ?_|refine blk_alloc ?_ _));exact BK537.out⟩,⟨by repeat (first|(with_reducible first|exact HB.out|apply below_alloc|apply pw_below_drewN|apply below_drew1|refine below_set ?_ GE537.out)|exact HB.out)⟩⟩
          ·rw [if_neg c22] at H
           exact absurd H (by simp)
         ·rw [if_neg c21] at H
          exact absurd H (by simp)
        ·rw [if_neg c20] at H
         exact absurd H (by simp)
       ·rw [if_neg c19] at H
        exact absurd H (by simp)
   ·rw [if_neg c7] at H
    have c7b0:decide (x13_1< (l0_0.length:Int))=false:=decide_eq_false c7
    clear c7
    obtain rfl:=Option.some.inj H
    go_wp2
    go_ret
    exact ⟨_,by first|rfl|(simp [errW_none,errW_some]<;>rfl)|(simp [*,errW_none,errW_some]<;>rfl),by (with_reducible repeat (first|apply Kd.S_alloc|apply Kd.S_drewN|apply Kd.S_drew));exact HO_5.out,by repeat (first|(with_reducible first|exact HB.out|apply below_alloc|apply pw_below_drewN|apply below_drew1|refine below_set ?_ GE537.out)|exact HB.out)⟩
end Go.Proofs.Ytbbdjoahdbjljaa.P
