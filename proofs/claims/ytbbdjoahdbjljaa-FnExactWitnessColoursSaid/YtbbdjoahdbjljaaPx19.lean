-- Written by a program of this session (wip/mp.py), which runs the kit's print with contracts of the session's own.
import Derived.Test.YtbbdjoahdbjljaaPx0
import Derived.Test.YtbbdjoahdbjljaaPx17
import Derived.Test.YtbbdjoahdbjljaaPx18
namespace Go.Proofs.Ytbbdjoahdbjljaa.P
open Go.RowKit Go.Proofs.YtbbdjoahdbjljaaW.PrintWords Go.Proofs.YtbbdjoahdbjljaaW.PrintLast Go.Proofs.YtbbdjoahdbjljaaW.PrintMore
attribute [local go_sem] max2_int min2_int max_two min_two max_three min_three max_four min_four -- for this text's walks alone
set_option linter.unusedVariables false
set_option linter.unusedSimpArgs false
/-! ### spec_clSteps: function 61 -/
mutual
def spec_clSteps.l0:Nat→Int→Int→List (List Int)→List (List Int)→Int→Int→Option ((List (List Int)) × List Int × Int)
 |0,_,_,_,_,_,_=>none
 |k+1,x1,x2,x9,x24,x25,x26=>if x26< x25 then (if 0≤x26 then (if x26< (x24.length:Int) then ((spec_l1Own.f (rd_L1 x24 x26)).bind fun t451=>(if x9.length< 5864062014805 then (spec_clSteps.l0 k x1 x2 (x9++[t451]) x24 x25 (wrap64 (x26+1))) else (none))) else (none)) else (none)) else (spec_clSteps.l1 k x1 x2 x9 ([]:List Int) 1 0 0)
def spec_clSteps.l1:Nat→Int→Int→List (List Int)→List Int→Int→Int→Int→Option ((List (List Int)) × List Int × Int)
 |0,_,_,_,_,_,_,_=>none
 |k+1,x1,x2,x9,x12,x13,x14,x15=>if x15< x2 then (spec_clSteps.l2 k x1 x2 x9 x12 x13 x14 x15 x14) else (if 0≤x14 then (if x14≤(x9.length:Int) then (some ((x9.take (x14:Int).toNat),x12,x13)) else (none)) else (none))
def spec_clSteps.j3:Nat→Int→Int→List (List Int)→List Int→Int→Int→Int→Int→Option ((List (List Int)) × List Int × Int)
 |0,_,_,_,_,_,_,_,_=>none
 |k+1,x1,x2,x9,x12,x13,x14,x15,x16=>if x16=(x9.length:Int) then (spec_clSteps.l1 k x1 x2 x9 x12 0 x14 (wrap64 (x15+1))) else (if x16=x14 then (spec_clSteps.j4 k x1 x2 x9 x12 x13 x14 x15) else ((pseudo_rowAt.f x9 x16).bind fun t462=>((pseudo_rowAt.f x9 x14).bind fun t465=>(if 0≤x14 then (if x14< (x9.length:Int) then (if 0≤x16 then (if x16< (x9.length:Int) then (if x1=0 then (none) else (spec_clSteps.j4 k x1 x2 ((x9.set (x14:Int).toNat t462).set (x16:Int).toNat t465) x12 (Int.tmod (wrap64 (x1 - x13)) x1) x14 x15)) else (none)) else (none)) else (none)) else (none)))))
def spec_clSteps.j4:Nat→Int→Int→List (List Int)→List Int→Int→Int→Int→Option ((List (List Int)) × List Int × Int)
 |0,_,_,_,_,_,_,_=>none
 |k+1,x1,x2,x9,x12,x13,x14,x15=>if 0≤x14 then (if x14< (x9.length:Int) then (if 0≤x15 then (if x15< ((rd_L1 x9 x14).length:Int) then (if x1=0 then (none) else ((spec_clInverse.f k (rd (rd_L1 x9 x14) x15) x1).bind fun t474=>(spec_clSteps.l3 k x1 x2 x9 x12 (Int.tmod (wrap64 (x13*(rd (rd_L1 x9 x14) x15))) x1) x14 x15 t474 ((rd_L1 x9 x14).length:Int) 0))) else (none)) else (none)) else (none)) else (none)
def spec_clSteps.l3:Nat→Int→Int→List (List Int)→List Int→Int→Int→Int→Int→Int→Int→Option ((List (List Int)) × List Int × Int)
 |0,_,_,_,_,_,_,_,_,_,_=>none
 |k+1,x1,x2,x9,x12,x13,x14,x15,x19,x110,x111=>if x111< x110 then (if 0≤x14 then (if x14< (x9.length:Int) then (if 0≤x111 then (if x111< ((rd_L1 x9 x14).length:Int) then (if x1=0 then (none) else (spec_clSteps.l3 k x1 x2 (x9.set (x14:Int).toNat ((rd_L1 x9 x14).set (x111:Int).toNat (Int.tmod (wrap64 ((rd (rd_L1 x9 x14) x111)*x19)) x1))) x12 x13 x14 x15 x19 x110 (wrap64 (x111+1)))) else (none)) else (none)) else (none)) else (none)) else (spec_clSteps.l4 k x1 x2 x9 x12 x13 x14 x15 (x9.length:Int) 0)
def spec_clSteps.l4:Nat→Int→Int→List (List Int)→List Int→Int→Int→Int→Int→Int→Option ((List (List Int)) × List Int × Int)
 |0,_,_,_,_,_,_,_,_,_=>none
 |k+1,x1,x2,x9,x12,x13,x14,x15,x133,x134=>if x134< x133 then (if 0≤x134 then (if x134< (x9.length:Int) then (if 0≤x15 then (if x15< ((rd_L1 x9 x134).length:Int) then (if x134=x14 then (spec_clSteps.j7 k x1 x2 x9 x12 x13 x14 x15 x134 (rd (rd_L1 x9 x134) x15) x133 x134 true) else (spec_clSteps.j7 k x1 x2 x9 x12 x13 x14 x15 x134 (rd (rd_L1 x9 x134) x15) x133 x134 ((rd (rd_L1 x9 x134) x15)==0))) else (none)) else (none)) else (none)) else (none)) else (if x12.length< 17592186044416 then (spec_clSteps.l1 k x1 x2 x9 (x12++[x15]) x13 (wrap64 (x14+1)) (wrap64 (x15+1))) else (none))
def spec_clSteps.j7:Nat→Int→Int→List (List Int)→List Int→Int→Int→Int→Int→Int→Int→Int→Bool→Option ((List (List Int)) × List Int × Int)
 |0,_,_,_,_,_,_,_,_,_,_,_,_=>none
 |k+1,x1,x2,x9,x12,x13,x14,x15,x21,x22,x133,x134,x150=>if x150=true then (spec_clSteps.l4 k x1 x2 x9 x12 x13 x14 x15 x133 (wrap64 (x134+1))) else (if 0≤x21 then (if x21< (x9.length:Int) then (spec_clSteps.l5 k x1 x2 x9 x12 x13 x14 x15 x21 x22 x133 x134 ((rd_L1 x9 x21).length:Int) 0) else (none)) else (none))
def spec_clSteps.l5:Nat→Int→Int→List (List Int)→List Int→Int→Int→Int→Int→Int→Int→Int→Int→Int→Option ((List (List Int)) × List Int × Int)
 |0,_,_,_,_,_,_,_,_,_,_,_,_,_=>none
 |k+1,x1,x2,x9,x12,x13,x14,x15,x21,x22,x133,x134,x155,x156=>if x156< x155 then (if 0≤x21 then (if x21< (x9.length:Int) then (if 0≤x156 then (if x156< ((rd_L1 x9 x21).length:Int) then (if 0≤x14 then (if x14< (x9.length:Int) then (if x156< ((rd_L1 x9 x14).length:Int) then (if x1=0 then (none) else (spec_clSteps.l5 k x1 x2 (x9.set (x21:Int).toNat ((rd_L1 x9 x21).set (x156:Int).toNat (Int.tmod (wrap64 ((rd (rd_L1 x9 x21) x156)+(wrap64 ((wrap64 (x1 - x22))*(rd (rd_L1 x9 x14) x156))))) x1))) x12 x13 x14 x15 x21 x22 x133 x134 x155 (wrap64 (x156+1)))) else (none)) else (none)) else (none)) else (none)) else (none)) else (none)) else (none)) else (spec_clSteps.l4 k x1 x2 x9 x12 x13 x14 x15 x133 (wrap64 (x134+1)))
def spec_clSteps.l2:Nat→Int→Int→List (List Int)→List Int→Int→Int→Int→Int→Option ((List (List Int)) × List Int × Int)
 |0,_,_,_,_,_,_,_,_=>none
 |k+1,x1,x2,x9,x12,x13,x14,x15,x16=>if x16< (x9.length:Int) then (if 0≤x16 then (if 0≤x15 then (if x15< ((rd_L1 x9 x16).length:Int) then (if (rd (rd_L1 x9 x16) x15)=0 then (spec_clSteps.l2 k x1 x2 x9 x12 x13 x14 x15 (wrap64 (x16+1))) else (spec_clSteps.j3 k x1 x2 x9 x12 x13 x14 x15 x16)) else (none)) else (none)) else (none)) else (spec_clSteps.j3 k x1 x2 x9 x12 x13 x14 x15 x16)
end
def spec_clSteps.f (k:Nat) (l0:List (List Int)) (a1:Int) (a2:Int):Option ((List (List Int)) × List Int × Int):=spec_clSteps.l0 k a1 a2 ([]:List (List Int)) l0 (l0.length:Int) 0
def spec_clSteps.T28:Bool × List (List Nat × List Nat):=(true,[([],[]),([],[]),([0,1],[0,1]),([2],[2]),([],[]),([],[]),([],[]),([5,6],[5,6]),([7],[7]),([],[]),([8,9],[8,9]),([10],[10]),([],[]),([11,12],[11,12]),([],[]),([13,14],[13,14]),([3,4,0,1,2,3,4,5,6,7,8,9,10,11,12,13,14,15],[3,4]),([16,15,0,1,2,3,4,5,6,7,8,9,10,11,12,13,14,15],[15,16])])
def spec_clSteps.B28:List Nat:=[0,0,3,7,0,0,0,96,224,0,992,2016,0,8160,0,32736,65535,131071]
theorem spec_clSteps.tab28:rtab .any (opsOf Try.f61 28)=spec_clSteps.T28:=by kernel_rfl
theorem spec_clSteps.bits28:waitsOk spec_clSteps.T28.2 spec_clSteps.B28=true:=by kernel_rfl
def spec_clSteps.T38:Bool × List (List Nat × List Nat):=(true,[([],[]),([],[]),([0,1],[0,1]),([2],[2]),([],[]),([],[]),([],[]),([5,6],[5,6]),([7],[7]),([],[]),([8,9],[8,9]),([10],[10]),([],[]),([],[]),([12,13],[12,13]),([],[]),([],[]),([15,16],[15,16]),([17],[17]),([],[]),([18,19],[18,19]),([20],[20]),([14,21],[14,21]),([11,22],[11,22]),([],[]),([23,24],[23,24]),([3,4,0,1,2,3,4,5,6,7,8,9,10,11,12,13,14,15,16,17,18,19,20,21,22,23,24,25],[3,4]),([26,25,0,1,2,3,4,5,6,7,8,9,10,11,12,13,14,15,16,17,18,19,20,21,22,23,24,25],[25,26])])
def spec_clSteps.B38:List Nat:=[0,0,3,7,0,0,0,96,224,0,992,2016,0,0,12288,0,0,98304,229376,0,1015808,2064384,4190208,8388576,0,33554400,67108863,134217727]
theorem spec_clSteps.tab38:rtab .any (opsOf Try.f61 38)=spec_clSteps.T38:=by kernel_rfl
theorem spec_clSteps.bits38:waitsOk spec_clSteps.T38.2 spec_clSteps.B38=true:=by kernel_rfl
set_option maxHeartbeats 8000000 in
set_option maxRecDepth 100000 in
theorem spec_clSteps.calls (k:Nat) (A0:Option Addr) (c0:Nat) (l0:List (List Int)) (a1:Int) (a2:Int) (r1:List (List Int)) (r2:List Int) (r3:Int) (w:World) (hr0:Kd.C (Kd.slice 3 (Kd.int .i64)) w A0 l0.length l0) (hc0:l0.length≤c0) (h:spec_clSteps.f k l0 a1 a2=some (r1,r2,r3)):
  Calls Try.prog 61 #[.slice A0 l0.length c0,.int .i64 a1,.int .i64 a2] w fun e w'=>∃ v0_ v1_:Value,e=.returned (.tuple #[v0_,v1_,.int .i64 r3])∧Kd.S (Kd.slice 3 (Kd.int .i64)) 22 w' w.heap.size (fun k_=>some k_≠(v1_:Value).ownBlock) v0_ r1∧Kd.R (Kd.int .i64) 3 w' w.heap.size (fun _=>True) v1_ r2∧Below w.heap.size w w':=by
 have HR0:=Aside0.mk hr0
 have HC0:=Aside0.mk hc0
 clear hr0 hc0
 have HB:=Aside0.mk (Below.refl w.heap.size w)
 have H:(spec_clSteps.l0 k a1 a2 ([]:List (List Int)) l0 (l0.length:Int) 0)=some (r1,r2,r3):=h
 clear h
 have H':=Aside0.mk H
 clear H
 go_enter Try.func61,Try.ntmps61
 go_wp2
 go_loopg [9,26] k (fun kq v9 v26 w'=>∃ (x9_1:List (List Int)) (x26_1:Int),v26=.int .i64 x26_1∧Aside0 (spec_clSteps.l0 kq a1 a2 x9_1 l0 (l0.length:Int) x26_1=some (r1,r2,r3))∧Aside0 (kq≤k)∧Aside0 (Kd.S (Kd.slice 3 (Kd.int .i64)) 22 w' w.heap.size (fun _=>True) v9 x9_1)∧Aside0 (Below w.heap.size w w'))
 case atStart=>exact ⟨(([]:List (List Int))),(0),(by first|rfl|(simp;done)|(simp [*];done)),H',⟨Nat.le_refl _⟩,⟨by first|exact Kd.S_nil _ _ _ _ _|exact Kd.N_nil _ _ _ _ _|exact Kd.V_nil _ _ _ _ _|exact Kd.Q_nil _ _ _ _ _|exact Kd.R_nil _ _ _ _ _⟩,⟨by repeat (first|(with_reducible first|exact HB.out|apply below_alloc|apply pw_below_drewN|apply below_drew1)|exact HB.out)⟩⟩
 case round=>
  clear H'
  (try clear p2)
  obtain ⟨x9_1,x26_1,rfl,HA,HK1,HO_9,HB⟩:=hrel
  cases gk with
  |zero=>exact absurd HA.out (by simp [spec_clSteps.l0])
  |succ k1=>
   have H:=HA.out
   clear HA
   simp only [spec_clSteps.l0] at H
   by_cases c4:x26_1< (l0.length:Int)
   ·rw [if_pos c4] at H
    have c4b0:decide (x26_1< (l0.length:Int))=true:=decide_eq_true c4
    clear c4
    by_cases c5:0≤x26_1
    ·rw [if_pos c5] at H
     have c5b0:decide (0≤x26_1)=true:=decide_eq_true c5
     clear c5
     by_cases c6:x26_1< (l0.length:Int)
     ·rw [if_pos c6] at H
      have c6b0:decide (x26_1< (l0.length:Int))=true:=decide_eq_true c6
      clear c6
      replace H:=Option.bind_eq_some_iff.mp H
      obtain ⟨t451,A70,H⟩:=H
      replace H:(if x9_1.length< 5864062014805 then (spec_clSteps.l0 k1 a1 a2 (x9_1++[t451]) l0 (l0.length:Int) (wrap64 (x26_1+1))) else (none))=some (r1,r2,r3):=H
      have A7:=Aside0.mk A70
      clear A70
      by_cases c8:x9_1.length< 5864062014805
      ·rw [if_pos c8] at H
       have LMc8:=Aside0.mk c8
       clear c8
       obtain ⟨y454,hy454⟩:∃ y_:List (List Int),y_=(x9_1++[t451]):=⟨_,rfl⟩
       replace H:(spec_clSteps.l0 k1 a1 a2 y454 l0 (l0.length:Int) (wrap64 (x26_1+1)))=some (r1,r2,r3):=by first|(rw [hy454];with_reducible exact H)|(have H2_:=(Option.bind_some _ _).symm.trans H;rw [hy454];with_reducible exact H2_)|(have H2_:=(Option.bind_some _ _).symm.trans H;with_reducible exact H2_)|with_reducible exact H|(rw [hy454];exact H)|exact H
       have Ny454:=Aside0.mk hy454
       clear hy454
       have H':=Aside0.mk H
       clear H
       have p450:0≤(x26_1:Int):=of_decide_eq_true (by first|(with_reducible assumption)|assumption)
       have q450:x26_1< (l0.length:Int):=of_decide_eq_true (by first|(with_reducible assumption)|assumption)
       obtain ⟨ad450,A450_0,c450_0,e450,hx450_0,hl450_0,hi450_0⟩:=at_L1 HR0.out x26_1 p450 q450
       cases e450
       replace hx450_0:=(HB.out.cell (World.block_lt_of_cell? w _ hx450_0)).trans hx450_0
       have HR450_0:=Aside0.mk hi450_0
       have HC450_0:=Aside0.mk hl450_0
       clear hi450_0 hl450_0
       replace p450:=eq_true p450
       replace q450:=eq_true q450
       go_wp2_with (first|((with_reducible refine gate_callee (f:=82) rfl ?_);refine goesL_ (some 32) rfl rfl Try.func82 (by kernel_rfl) rfl #[.slice A450_0 (rd_L1 l0 x26_1).length c450_0] rfl (by (try simp only [List.map_toArray,List.map_cons,List.map_nil]);first|done|rfl|(simp only [List.length_drop,List.length_take];rfl)) ?_;(with_reducible refine (spec_l1Own.calls _ _ (rd_L1 l0 x26_1) t451 _ ?side1 ?side2 A7.out).mono ?_);(case side1=>repeat (first|exact (Kd.C_below HR450_0.out HB.out)|(with_reducible refine Kd.C_alloc ?_ _)|(with_reducible refine Kd.C_drewN ?_ _)|(with_reducible refine Kd.C_drew ?_)));(case side2=>exact HC450_0.out);rintro e w9 ⟨v452,rfl,ho0,hb⟩;refine ⟨_,rfl,?_⟩;have n0_:=Aside0.mk (Kd.S_elder' (by (with_reducible repeat (first|apply Kd.S_alloc|apply Kd.S_drewN|apply Kd.S_drew));exact HO_9.out) (Kd.R_base ho0) hb);have n1_:=Aside0.mk (Kd.R_lower ho0 (below_size (by repeat (first|(with_reducible first|exact HB.out|apply below_alloc|apply pw_below_drewN|apply below_drew1)|exact HB.out))));have n2_:=Aside0.mk (below_step (by repeat (first|(with_reducible first|exact HB.out|apply below_alloc|apply pw_below_drewN|apply below_drew1)|exact HB.out)) hb);clear HO_9;clear HB;have HO_9:=n0_;have HO453:=n1_;have HB:=n2_;clear n0_ n1_ n2_;(try clear hb);(try clear hb2);(try clear hk);(try clear hi);(try clear ho0);obtain ⟨Ao11,co11,eo11⟩:=Kd.R_slice HO453.out;subst eo11)|((with_reducible refine gate_builtin (b:=.append) (xs:=#[.tmp 30,.tmp 33]) rfl ?_);at_builtin;refine Kd.S_append (Kd.slice 3 (Kd.int .i64)) (w0:=w) w.heap.size rfl (.tmp 30) (.tmp 33) 44 22 (.slice none 0 0) 24 rfl Try.underlying44 info22 rfl (by decide) (by omega) u9 x9_1 t451 [.slice Ao11 t451.length co11] (fun _=>True) (fun k_=>some k_=(.slice Ao11 t451.length co11:Value).ownBlock) rfl rfl ?aP (fun k_ hk_=>((Kd.R_mono (ok':=fun k_=>((fun _=>True)) k_∧some k_≠(u9:Value).ownBlock) (Kd.R_apart' (HO453.out) (Kd.S_typed HO_9.out) (by decide)) (fun k_ hk=>⟨trivial,hk.2⟩))).1 k_ hk_.symm) ?aF ?aO ?aB ?aS ?aL ?_;(case aP=>exact Kd.M_row (Kd.R_mono (Kd.R_tight rfl (Kd.R_mono (ok':=fun k_=>((fun _=>True)) k_∧some k_≠(u9:Value).ownBlock) (Kd.R_apart' (HO453.out) (Kd.S_typed HO_9.out) (by decide)) (fun k_ hk=>⟨trivial,hk.2⟩))) (fun _ h_=>h_)));(case aB=>exact (by repeat (first|(with_reducible first|exact HB.out|apply below_alloc|apply pw_below_drewN|apply below_drew1)|exact HB.out)));(case aF=>exact (fun _ _=>trivial));(case aO=>exact (by (with_reducible repeat (first|apply Kd.S_alloc|apply Kd.S_drewN|apply Kd.S_drew));exact Kd.S_mono HO_9.out (fun k_ hk=>⟨trivial,fun e_=>hk.2 e_⟩)));(case aS=>exact (below_size (by repeat (first|(with_reducible first|exact HB.out|apply below_alloc|apply pw_below_drewN|apply below_drew1)|exact HB.out))));(case aL=>have:=LMc8.out;omega);intro v455 w10 ho hb hg hat;rw [← Ny454.out] at ho;have n0_:=Aside0.mk (hb);have n1_:=Aside0.mk (ho);clear HB;clear HO_9;clear HO453;have HB:=n0_;have HO456:=n1_;clear n0_ n1_;clear ho hb hg hat))
       go_roundg k1
       case measure=>have:=HK1.out;omega
       case rel=>exact ⟨(y454),(wrap64 (x26_1+1)),(by first|rfl|(simp;done)|(simp [*];done)),H',⟨by have:=HK1.out;omega⟩,⟨by (with_reducible repeat (first|apply Kd.S_alloc|apply Kd.S_drewN|apply Kd.S_drew));exact HO456.out⟩,⟨by repeat (first|(with_reducible first|exact HB.out|apply below_alloc|apply pw_below_drewN|apply below_drew1)|exact HB.out)⟩⟩
      ·rw [if_neg c8] at H
       exact absurd H (by simp)
     ·rw [if_neg c6] at H
      exact absurd H (by simp)
    ·rw [if_neg c5] at H
     exact absurd H (by simp)
   ·rw [if_neg c4] at H
    have c4b0:decide (x26_1< (l0.length:Int))=false:=decide_eq_false c4
    clear c4
    have H':=Aside0.mk H
    clear H
    go_wp2
    go_loopg [12,13,14,15] k1 (fun kq v12 v13 v14 v15 w'=>∃ (x9_2:List (List Int)) (x12_2:List Int) (x13_2:Int) (x14_2:Int) (x15_2:Int),v13=.int .i64 x13_2∧v14=.int .i64 x14_2∧v15=.int .i64 x15_2∧Aside0 (spec_clSteps.l1 kq a1 a2 x9_2 x12_2 x13_2 x14_2 x15_2=some (r1,r2,r3))∧Aside0 (kq≤k1)∧Aside0 (Kd.S (Kd.slice 3 (Kd.int .i64)) 22 w' w.heap.size (fun k_=>some k_≠(v12:Value).ownBlock) u9 x9_2)∧Aside0 (Kd.R (Kd.int .i64) 3 w' w.heap.size (fun _=>True) v12 x12_2)∧Aside0 (Below w.heap.size w w'))
    case atStart=>exact ⟨(x9_1),(([]:List Int)),(1),(0),(0),(by first|rfl|(simp;done)|(simp [*];done)),(by first|rfl|(simp;done)|(simp [*];done)),(by first|rfl|(simp;done)|(simp [*];done)),H',⟨Nat.le_refl _⟩,⟨by (with_reducible repeat (first|apply Kd.S_alloc|apply Kd.S_drewN|apply Kd.S_drew));exact Kd.S_mono HO_9.out (fun _ hk=>(by simp [Value.ownBlock]))⟩,⟨by first|exact Kd.R_nil _ _ _ _ _|exact Kd.N_nil _ _ _ _ _|exact Kd.V_nil _ _ _ _ _|exact Kd.Q_nil _ _ _ _ _|exact Kd.S_nil _ _ _ _ _⟩,⟨by repeat (first|(with_reducible first|exact HB.out|apply below_alloc|apply pw_below_drewN|apply below_drew1)|exact HB.out)⟩⟩
    case round=>
     clear H'
     (try clear p2);(try clear c4);(try clear c4b0);(try clear p4);(try clear q4);(try clear hx4);(try clear c5);(try clear c5b0);(try clear c6);(try clear c6b0);(try clear p6);(try clear c8);(try clear hx450_0);(try clear p2);(try clear p450);(try clear q450)
     obtain ⟨x9_2,x12_2,x13_2,x14_2,x15_2,rfl,rfl,rfl,HA,HK2,HO_9,HO_12,HB⟩:=hrel
     cases gk with
     |zero=>exact absurd HA.out (by simp [spec_clSteps.l1])
     |succ k2=>
      have H:=HA.out
      clear HA
      simp only [spec_clSteps.l1] at H
      by_cases c12:x15_2< a2
      ·rw [if_pos c12] at H
       have c12b0:decide (x15_2< a2)=true:=decide_eq_true c12
       clear c12
       have HC13:=Aside0.mk H
       clear H
       go_upto_block 4 with (fail)
       go_cut [16] (fun v16 wc=>∃ (kq:Nat) (x16_12:Int),v16=.int .i64 x16_12∧Aside0 (spec_clSteps.j3 kq a1 a2 x9_2 x12_2 x13_2 x14_2 x15_2 x16_12=some (r1,r2,r3))∧Aside0 (kq≤k2)∧Aside0 (Kd.S (Kd.slice 3 (Kd.int .i64)) 22 wc w.heap.size (fun k_=>some k_≠(u12:Value).ownBlock) u9 x9_2)∧Aside0 (Kd.R (Kd.int .i64) 3 wc w.heap.size (fun _=>True) u12 x12_2)∧Aside0 (Below w.heap.size w wc))
       case first=>
        have H:=HC13.out
        clear HC13
        have H':=Aside0.mk H
        clear H
        go_wp2
        go_loopg [16] k2 (fun kq v16 w'=>∃ (x16_3:Int),v16=.int .i64 x16_3∧Aside0 (spec_clSteps.l2 kq a1 a2 x9_2 x12_2 x13_2 x14_2 x15_2 x16_3=some (r1,r2,r3))∧Aside0 (kq≤k2)∧Aside0 (Kd.S (Kd.slice 3 (Kd.int .i64)) 22 w' w.heap.size (fun k_=>some k_≠(u12:Value).ownBlock) u9 x9_2)∧Aside0 (Kd.R (Kd.int .i64) 3 w' w.heap.size (fun _=>True) u12 x12_2)∧Aside0 (Below w.heap.size w w'))
        case atStart=>exact ⟨(x14_2),(by first|rfl|(simp;done)|(simp [*];done)),H',⟨Nat.le_refl _⟩,⟨by (with_reducible repeat (first|apply Kd.S_alloc|apply Kd.S_drewN|apply Kd.S_drew));exact HO_9.out⟩,⟨by (with_reducible repeat (first|apply Kd.R_alloc|apply Kd.R_drewN|apply Kd.R_drew));exact HO_12.out⟩,⟨by repeat (first|(with_reducible first|exact HB.out|apply below_alloc|apply pw_below_drewN|apply below_drew1)|exact HB.out)⟩⟩
        case round=>
         clear H'
         (try clear c1);(try clear p2);(try clear c4);(try clear c4b0);(try clear p4);(try clear q4);(try clear hx4);(try clear c5);(try clear c5b0);(try clear c6);(try clear c6b0);(try clear p6);(try clear c8);(try clear c12);(try clear c12b0);(try clear hx450_0);(try clear p2);(try clear p4);(try clear p450);(try clear p6);(try clear q4);(try clear q450)
         obtain ⟨x16_3,rfl,HA,HK3,HO_9,HO_12,HB⟩:=hrel
         cases gk with
         |zero=>exact absurd HA.out (by simp [spec_clSteps.l2])
         |succ k3=>
          have H:=HA.out
          clear HA
          simp only [spec_clSteps.l2] at H
          by_cases c14:x16_3< (x9_2.length:Int)
          ·rw [if_pos c14] at H
           have c14b0:decide (x16_3< (x9_2.length:Int))=true:=decide_eq_true c14
           clear c14
           (first|rw [c14b0]|(simp only [i64_w,i32_w];rw [c14b0])|skip)
           by_cases c15:0≤x16_3
           ·rw [if_pos c15] at H
            have c15b0:decide (0≤x16_3)=true:=decide_eq_true c15
            clear c15
            by_cases c16:0≤x15_2
            ·rw [if_pos c16] at H
             have c16b0:decide (0≤x15_2)=true:=decide_eq_true c16
             clear c16
             by_cases c17:x15_2< ((rd_L1 x9_2 x16_3).length:Int)
             ·rw [if_pos c17] at H
              have c17b0:decide (x15_2< ((rd_L1 x9_2 x16_3).length:Int))=true:=decide_eq_true c17
              clear c17
              by_cases c18:(rd (rd_L1 x9_2 x16_3) x15_2)=0
              ·rw [if_pos c18] at H
               have c18b0:((rd (rd_L1 x9_2 x16_3) x15_2)==0)=true:=beq_iff_eq.mpr c18
               have c18b1:((rd (rd_L1 x9_2 x16_3) x15_2) !=0)=false:=bne_eq_false_iff_eq.mpr c18
               clear c18
               have H':=Aside0.mk H
               clear H
               obtain ⟨Ao19,co19,eo19⟩:=Kd.S_slice HO_9.out
               subst eo19
               have p460:0≤(x16_3:Int):=of_decide_eq_true (by first|(with_reducible assumption)|assumption)
               have q460:x16_3< (x9_2.length:Int):=of_decide_eq_true (by first|(with_reducible assumption)|assumption)
               obtain ⟨ad460,A460_0,c460_0,e460,hx460_0,hl460_0,hi460_0⟩:=at_L1 (Kd.S_reads' HO_9.out).2.2 x16_3 p460 q460
               cases e460
               obtain ⟨ce460,hce460,hMe460,hcc460⟩:=Kd.S_get HO_9.out [] x16_3 p460 (by first|exact q460|exact of_decide_eq_true (by first|(with_reducible assumption)|assumption)|(have e_:=(Kd.S_reads' HO_9.out).1;omega))
               obtain ⟨ve460_0,rfl,ge460_0⟩:=hMe460
               have hv460_0:=hcc460 0 _ rfl
               rw [Nat.add_zero,show ((Kd.slice 3 (Kd.int .i64))).sz=1 from rfl,Nat.mul_one] at hv460_0
               replace hv460_0:=Option.some.inj (hv460_0.symm.trans hx460_0)
               rw [hv460_0] at ge460_0
               have HL460_0:=Aside0.mk (show Kd.R (Kd.int .i64) 3 _ _ _ _ (rd_L1 x9_2 x16_3) from ge460_0)
               clear hv460_0 ge460_0
               have HX460_0:=Aside0.mk hx460_0
               clear hcc460 hce460
               have HR460_0:=Aside0.mk hi460_0
               have HC460_0:=Aside0.mk hl460_0
               clear hi460_0 hl460_0
               replace p460:=eq_true p460
               replace q460:=eq_true q460
               have p461:0≤(x15_2:Int):=of_decide_eq_true (by first|(with_reducible assumption)|assumption)
               have q461:x15_2< ((rd_L1 x9_2 x16_3).length:Int):=of_decide_eq_true (by first|(with_reducible assumption)|assumption)
               obtain ⟨ad461,e461,hx461_0⟩:=Kd.at_int (by repeat (first|(with_reducible exact HR460_0.out)|(with_reducible refine Kd.C_alloc ?_ _)|(with_reducible refine Kd.C_drewN ?_ _)|(with_reducible refine Kd.C_drew ?_)|exact HR460_0.out)) x15_2 p461 q461
               cases e461
               replace p461:=eq_true p461
               replace q461:=eq_true q461
               go_wp2
               go_roundg k3
               case measure=>have:=HK1.out;have:=HK2.out;have:=HK3.out;omega
               case rel=>exact ⟨(wrap64 (x16_3+1)),(by first|rfl|(simp;done)|(simp [*];done)),H',⟨by have:=HK1.out;have:=HK2.out;have:=HK3.out;omega⟩,⟨by (with_reducible repeat (first|apply Kd.S_alloc|apply Kd.S_drewN|apply Kd.S_drew));exact HO_9.out⟩,⟨by (with_reducible repeat (first|apply Kd.R_alloc|apply Kd.R_drewN|apply Kd.R_drew));exact HO_12.out⟩,⟨by repeat (first|(with_reducible first|exact HB.out|apply below_alloc|apply pw_below_drewN|apply below_drew1)|exact HB.out)⟩⟩
              ·rw [if_neg c18] at H
               have c18b0:((rd (rd_L1 x9_2 x16_3) x15_2)==0)=false:=beq_eq_false_iff_ne.mpr c18
               have c18b1:((rd (rd_L1 x9_2 x16_3) x15_2) !=0)=true:=bne_iff_ne.mpr c18
               have H':=Aside0.mk H
               clear H
               obtain ⟨Ao20,co20,eo20⟩:=Kd.S_slice HO_9.out
               subst eo20
               have p460:0≤(x16_3:Int):=of_decide_eq_true (by first|(with_reducible assumption)|assumption)
               have q460:x16_3< (x9_2.length:Int):=of_decide_eq_true (by first|(with_reducible assumption)|assumption)
               obtain ⟨ad460,A460_0,c460_0,e460,hx460_0,hl460_0,hi460_0⟩:=at_L1 (Kd.S_reads' HO_9.out).2.2 x16_3 p460 q460
               cases e460
               obtain ⟨ce460,hce460,hMe460,hcc460⟩:=Kd.S_get HO_9.out [] x16_3 p460 (by first|exact q460|exact of_decide_eq_true (by first|(with_reducible assumption)|assumption)|(have e_:=(Kd.S_reads' HO_9.out).1;omega))
               obtain ⟨ve460_0,rfl,ge460_0⟩:=hMe460
               have hv460_0:=hcc460 0 _ rfl
               rw [Nat.add_zero,show ((Kd.slice 3 (Kd.int .i64))).sz=1 from rfl,Nat.mul_one] at hv460_0
               replace hv460_0:=Option.some.inj (hv460_0.symm.trans hx460_0)
               rw [hv460_0] at ge460_0
               have HL460_0:=Aside0.mk (show Kd.R (Kd.int .i64) 3 _ _ _ _ (rd_L1 x9_2 x16_3) from ge460_0)
               clear hv460_0 ge460_0
               have HX460_0:=Aside0.mk hx460_0
               clear hcc460 hce460
               have HR460_0:=Aside0.mk hi460_0
               have HC460_0:=Aside0.mk hl460_0
               clear hi460_0 hl460_0
               replace p460:=eq_true p460
               replace q460:=eq_true q460
               have p461:0≤(x15_2:Int):=of_decide_eq_true (by first|(with_reducible assumption)|assumption)
               have q461:x15_2< ((rd_L1 x9_2 x16_3).length:Int):=of_decide_eq_true (by first|(with_reducible assumption)|assumption)
               obtain ⟨ad461,e461,hx461_0⟩:=Kd.at_int (by repeat (first|(with_reducible exact HR460_0.out)|(with_reducible refine Kd.C_alloc ?_ _)|(with_reducible refine Kd.C_drewN ?_ _)|(with_reducible refine Kd.C_drew ?_)|exact HR460_0.out)) x15_2 p461 q461
               cases e461
               replace p461:=eq_true p461
               replace q461:=eq_true q461
               go_wp2
               go_meet
               case rel=>exact ⟨_,(x16_3),(by first|rfl|(simp;done)|(simp [*];done)),H',⟨by have:=HK1.out;have:=HK2.out;have:=HK3.out;first|omega|exact Nat.le_refl _⟩,⟨by (with_reducible repeat (first|apply Kd.S_alloc|apply Kd.S_drewN|apply Kd.S_drew));exact HO_9.out⟩,⟨by (with_reducible repeat (first|apply Kd.R_alloc|apply Kd.R_drewN|apply Kd.R_drew));exact HO_12.out⟩,⟨by repeat (first|(with_reducible first|exact HB.out|apply below_alloc|apply pw_below_drewN|apply below_drew1)|exact HB.out)⟩⟩
             ·rw [if_neg c17] at H
              exact absurd H (by simp)
            ·rw [if_neg c16] at H
             exact absurd H (by simp)
           ·rw [if_neg c15] at H
            exact absurd H (by simp)
          ·rw [if_neg c14] at H
           have c14b0:decide (x16_3< (x9_2.length:Int))=false:=decide_eq_false c14
           clear c14
           (first|rw [c14b0]|(simp only [i64_w,i32_w];rw [c14b0])|skip)
           have H':=Aside0.mk H
           clear H
           obtain ⟨Ao21,co21,eo21⟩:=Kd.S_slice HO_9.out
           subst eo21
           go_wp2
           go_meet
           case rel=>exact ⟨_,(x16_3),(by first|rfl|(simp;done)|(simp [*];done)),H',⟨by have:=HK1.out;have:=HK2.out;have:=HK3.out;first|omega|exact Nat.le_refl _⟩,⟨by (with_reducible repeat (first|apply Kd.S_alloc|apply Kd.S_drewN|apply Kd.S_drew));exact HO_9.out⟩,⟨by (with_reducible repeat (first|apply Kd.R_alloc|apply Kd.R_drewN|apply Kd.R_drew));exact HO_12.out⟩,⟨by repeat (first|(with_reducible first|exact HB.out|apply below_alloc|apply pw_below_drewN|apply below_drew1)|exact HB.out)⟩⟩
       case rest=>
        clear HC13;(try clear c1);(try clear p2);(try clear c4);(try clear c4b0);(try clear p4);(try clear q4);(try clear hx4);(try clear c5);(try clear c5b0);(try clear c6);(try clear c6b0);(try clear p6);(try clear c8);(try clear c12);(try clear c12b0);(try clear c14);(try clear c14b0);(try clear c15);(try clear c15b0);(try clear c16);(try clear c16b0);(try clear c17);(try clear c17b0);(try clear c18);(try clear c18b0);(try clear c18b1);(try clear hx450_0);(try clear hx460_0);(try clear hx461_0);(try clear p2);(try clear p4);(try clear p450);(try clear p460);(try clear p461);(try clear p6);(try clear q4);(try clear q450);(try clear q460);(try clear q461)
        obtain ⟨kq,x16_12,rfl,HA,HJ12,HO_9,HO_12,HB⟩:=hcut
        cases kq with
        |zero=>exact absurd HA.out (by simp [spec_clSteps.j3])
        |succ kj12=>
         have H:=HA.out
         clear HA
         simp only [spec_clSteps.j3] at H
         by_cases c22:x16_12=(x9_2.length:Int)
         ·rw [if_pos c22] at H
          have c22b0:(x16_12==(x9_2.length:Int))=true:=beq_iff_eq.mpr c22
          have c22b1:(x16_12 !=(x9_2.length:Int))=false:=bne_eq_false_iff_eq.mpr c22
          clear c22
          have H':=Aside0.mk H
          clear H
          obtain ⟨Ao23,co23,eo23⟩:=Kd.S_slice HO_9.out
          subst eo23
          go_wp2
          go_roundg kj12
          case measure=>have:=HK1.out;have:=HK2.out;have:=HJ12.out;omega
          case rel=>exact ⟨(x9_2),(x12_2),(0),(x14_2),(wrap64 (x15_2+1)),(by first|rfl|(simp;done)|(simp [*];done)),(by first|rfl|(simp;done)|(simp [*];done)),(by first|rfl|(simp;done)|(simp [*];done)),H',⟨by have:=HK1.out;have:=HK2.out;have:=HJ12.out;omega⟩,⟨by (with_reducible repeat (first|apply Kd.S_alloc|apply Kd.S_drewN|apply Kd.S_drew));exact HO_9.out⟩,⟨by (with_reducible repeat (first|apply Kd.R_alloc|apply Kd.R_drewN|apply Kd.R_drew));exact HO_12.out⟩,⟨by repeat (first|(with_reducible first|exact HB.out|apply below_alloc|apply pw_below_drewN|apply below_drew1)|exact HB.out)⟩⟩
         ·rw [if_neg c22] at H
          have c22b0:(x16_12==(x9_2.length:Int))=false:=beq_eq_false_iff_ne.mpr c22
          have c22b1:(x16_12 !=(x9_2.length:Int))=true:=bne_iff_ne.mpr c22
          have HC24:=Aside0.mk H
          clear H
          obtain ⟨Ao25,co25,eo25⟩:=Kd.S_slice HO_9.out
          subst eo25
          go_upto_if 64 with (fail)
          go_cut [13] (fun v13 wc=>∃ (kq:Nat) (x9_23:List (List Int)) (x13_23:Int),v13=.int .i64 x13_23∧Aside0 (spec_clSteps.j4 kq a1 a2 x9_23 x12_2 x13_23 x14_2 x15_2=some (r1,r2,r3))∧Aside0 (kq≤kj12)∧Aside0 (Kd.S (Kd.slice 3 (Kd.int .i64)) 22 wc w.heap.size (fun k_=>some k_≠(u12:Value).ownBlock) (.slice Ao25 x9_2.length co25) x9_23)∧Aside0 (Kd.R (Kd.int .i64) 3 wc w.heap.size (fun _=>True) u12 x12_2)∧Aside0 (Below w.heap.size w wc))
          case first=>
           have H:=HC24.out
           clear HC24
           by_cases c26:x16_12=x14_2
           ·rw [if_pos c26] at H
            have c26b0:(x16_12==x14_2)=true:=beq_iff_eq.mpr c26
            have c26b1:(x16_12 !=x14_2)=false:=bne_eq_false_iff_eq.mpr c26
            clear c26
            (first|rw [c26b0]|(simp only [i64_w,i32_w];rw [c26b0])|skip)
            have H':=Aside0.mk H
            clear H
            go_wp2
            go_meet
            case rel=>exact ⟨_,(x9_2),(x13_2),(by first|rfl|(simp;done)|(simp [*];done)),H',⟨by have:=HK1.out;have:=HK2.out;have:=HJ12.out;first|omega|exact Nat.le_refl _⟩,⟨by (with_reducible repeat (first|apply Kd.S_alloc|apply Kd.S_drewN|apply Kd.S_drew));exact HO_9.out⟩,⟨by (with_reducible repeat (first|apply Kd.R_alloc|apply Kd.R_drewN|apply Kd.R_drew));exact HO_12.out⟩,⟨by repeat (first|(with_reducible first|exact HB.out|apply below_alloc|apply pw_below_drewN|apply below_drew1)|exact HB.out)⟩⟩
           ·rw [if_neg c26] at H
            have c26b0:(x16_12==x14_2)=false:=beq_eq_false_iff_ne.mpr c26
            have c26b1:(x16_12 !=x14_2)=true:=bne_iff_ne.mpr c26
            (first|rw [c26b0]|(simp only [i64_w,i32_w];rw [c26b0])|skip)
            replace H:=Option.bind_eq_some_iff.mp H
            obtain ⟨t462,A270,H⟩:=H
            replace H:((pseudo_rowAt.f x9_2 x14_2).bind fun t465=>(if 0≤x14_2 then (if x14_2< (x9_2.length:Int) then (if 0≤x16_12 then (if x16_12< (x9_2.length:Int) then (if a1=0 then (none) else (spec_clSteps.j4 kj12 a1 a2 ((x9_2.set (x14_2:Int).toNat t462).set (x16_12:Int).toNat t465) x12_2 (Int.tmod (wrap64 (a1 - x13_2)) a1) x14_2 x15_2)) else (none)) else (none)) else (none)) else (none)))=some (r1,r2,r3):=H
            have A27:=Aside0.mk A270
            clear A270
            replace H:=Option.bind_eq_some_iff.mp H
            obtain ⟨t465,A280,H⟩:=H
            replace H:(if 0≤x14_2 then (if x14_2< (x9_2.length:Int) then (if 0≤x16_12 then (if x16_12< (x9_2.length:Int) then (if a1=0 then (none) else (spec_clSteps.j4 kj12 a1 a2 ((x9_2.set (x14_2:Int).toNat t462).set (x16_12:Int).toNat t465) x12_2 (Int.tmod (wrap64 (a1 - x13_2)) a1) x14_2 x15_2)) else (none)) else (none)) else (none)) else (none))=some (r1,r2,r3):=H
            have A28:=Aside0.mk A280
            clear A280
            by_cases c29:0≤x14_2
            ·rw [if_pos c29] at H
             have c29b0:decide (0≤x14_2)=true:=decide_eq_true c29
             clear c29
             by_cases c30:x14_2< (x9_2.length:Int)
             ·rw [if_pos c30] at H
              have c30b0:decide (x14_2< (x9_2.length:Int))=true:=decide_eq_true c30
              clear c30
              obtain ⟨y468,hy468⟩:∃ y_:List (List Int),y_=(x9_2.set (x14_2:Int).toNat t462):=⟨_,rfl⟩
              replace H:(if 0≤x16_12 then (if x16_12< (x9_2.length:Int) then (if a1=0 then (none) else (spec_clSteps.j4 kj12 a1 a2 (y468.set (x16_12:Int).toNat t465) x12_2 (Int.tmod (wrap64 (a1 - x13_2)) a1) x14_2 x15_2)) else (none)) else (none))=some (r1,r2,r3):=by first|(rw [hy468];with_reducible exact H)|(have H2_:=(Option.bind_some _ _).symm.trans H;rw [hy468];with_reducible exact H2_)|(have H2_:=(Option.bind_some _ _).symm.trans H;with_reducible exact H2_)|with_reducible exact H|(rw [hy468];exact H)|exact H
              have Ny468:=Aside0.mk hy468
              clear hy468
              by_cases c32:0≤x16_12
              ·rw [if_pos c32] at H
               have c32b0:decide (0≤x16_12)=true:=decide_eq_true c32
               clear c32
               by_cases c33:x16_12< (x9_2.length:Int)
               ·rw [if_pos c33] at H
                have c33b0:decide (x16_12< (x9_2.length:Int))=true:=decide_eq_true c33
                clear c33
                obtain ⟨y469,hy469⟩:∃ y_:List (List Int),y_=(y468.set (x16_12:Int).toNat t465):=⟨_,rfl⟩
                replace H:(if a1=0 then (none) else (spec_clSteps.j4 kj12 a1 a2 y469 x12_2 (Int.tmod (wrap64 (a1 - x13_2)) a1) x14_2 x15_2))=some (r1,r2,r3):=by first|(rw [hy469];with_reducible exact H)|(have H2_:=(Option.bind_some _ _).symm.trans H;rw [hy469];with_reducible exact H2_)|(have H2_:=(Option.bind_some _ _).symm.trans H;with_reducible exact H2_)|with_reducible exact H|(rw [hy469];exact H)|exact H
                have Ny469:=Aside0.mk hy469
                clear hy469
                by_cases c35:a1=0
                ·rw [if_pos c35] at H
                 exact absurd H (by simp)
                ·rw [if_neg c35] at H
                 have c35b0:(a1==0)=false:=beq_eq_false_iff_ne.mpr c35
                 have c35b1:(a1 !=0)=true:=bne_iff_ne.mpr c35
                 have H':=Aside0.mk H
                 clear H
                 have ba_:0≤x16_12:=of_decide_eq_true (by assumption)
                 have ca_:x16_12< (x9_2.length:Int):=of_decide_eq_true (by assumption)
                 have bk_:0≤x14_2:=of_decide_eq_true (by assumption)
                 have ck_:x14_2< (x9_2.length:Int):=of_decide_eq_true (by assumption)
                 have ep_:t462=x9_2.getD x16_12.toNat []:=by have h_:=A27.out;unfold pseudo_rowAt.f at h_;rw [if_pos ba_,if_pos ca_] at h_;exact (Option.some.inj h_).symm
                 have ek_:t465=x9_2.getD x14_2.toNat []:=by have h_:=A28.out;unfold pseudo_rowAt.f at h_;rw [if_pos bk_,if_pos ck_] at h_;exact (Option.some.inj h_).symm
                 obtain ⟨go31,cs_,es_,gbs_,gls_,cls_,HGs_⟩:=Kd.S_form HO_9.out (by omega)
                 (first|cases es_|(injection es_ with ea_ en_ ec_;(first|subst ea_|(injection ea_ with ea_;subst ea_));subst ec_;clear en_))
                 obtain ⟨ui,uj,ci,cj,li,lj,hx1,hx2,hf1,hf2,hN,hg⟩:=Sw.S_swap HO_9.out x16_12 x14_2 ba_ ca_ bk_ ck_
                 rw [← ep_,← ek_,← Ny468.out,← Ny469.out] at hN
                 have n0_:=Aside0.mk (Kd.S_drew hN)
                 have n1_:=Aside0.mk (Kd.R_drew (Kd.R_over' (v:=(.slice (some ⟨go31,0,none⟩) x9_2.length co25)) HO_12.out (Kd.S_typed HO_9.out) (by decide) hg))
                 have n2_:=Aside0.mk (below_drew1 (pw_below_grown HB.out (some go31) HB.out.size hg (fun k hk=>by injection hk with hk;omega)))
                 clear hN hg ep_ ek_ HGs_ gls_
                 go_wp2
                 go_region
                 go_wp2
                 clear HB;clear HO_12;clear HO_9
                 have HO_9:=n0_
                 have HO_12:=n1_
                 have HB:=n2_
                 clear n0_ n1_ n2_
                 go_meet
                 case rel=>exact ⟨_,(y469),(Int.tmod (wrap64 (a1 - x13_2)) a1),(by first|rfl|(simp;done)|(simp [*];done)),H',⟨by have:=HK1.out;have:=HK2.out;have:=HJ12.out;first|omega|exact Nat.le_refl _⟩,⟨by (with_reducible repeat (first|apply Kd.S_alloc|apply Kd.S_drewN|apply Kd.S_drew));exact HO_9.out⟩,⟨by (with_reducible repeat (first|apply Kd.R_alloc|apply Kd.R_drewN|apply Kd.R_drew));exact Kd.R_mono HO_12.out (fun _ hk=>trivial)⟩,⟨by repeat (first|(with_reducible first|exact HB.out|apply below_alloc|apply pw_below_drewN|apply below_drew1)|exact HB.out)⟩⟩
               ·rw [if_neg c33] at H
                exact absurd H (by simp)
              ·rw [if_neg c32] at H
               exact absurd H (by simp)
             ·rw [if_neg c30] at H
              exact absurd H (by simp)
            ·rw [if_neg c29] at H
             exact absurd H (by simp)
          case rest=>
           clear HC24;(try clear c1);(try clear c2);(try clear p2);(try clear c3);(try clear p3);(try clear q3);(try clear hx3);(try clear hf3);(try clear c4);(try clear c4b0);(try clear p4);(try clear q4);(try clear hx4);(try clear hf4);(try clear c5);(try clear c5b0);(try clear c6);(try clear c6b0);(try clear p6);(try clear c8);(try clear c12);(try clear c12b0);(try clear c14);(try clear c14b0);(try clear c15);(try clear c15b0);(try clear c16);(try clear c16b0);(try clear c17);(try clear c17b0);(try clear c18);(try clear c18b0);(try clear c18b1);(try clear c22);(try clear c22b0);(try clear c22b1);(try clear c26);(try clear c26b0);(try clear c26b1);(try clear c29);(try clear c29b0);(try clear c30);(try clear c30b0);(try clear c31);(try clear p31);(try clear q31);(try clear hx31);(try clear hf31);(try clear c32);(try clear c32b0);(try clear c33);(try clear c33b0);(try clear c34);(try clear p34);(try clear q34);(try clear hx34);(try clear hf34);(try clear c35);(try clear c35b0);(try clear c35b1);(try clear c38);(try clear hx38);(try clear hf38);(try clear c40);(try clear hx40);(try clear hf40);(try clear hx31_0);(try clear hx34_0);(try clear hx38_0);(try clear hx40_0);(try clear hx450_0);(try clear hx460_0);(try clear hx461_0);(try clear p2);(try clear p31);(try clear p34);(try clear p4);(try clear p450);(try clear p460);(try clear p461);(try clear p6);(try clear q31);(try clear q34);(try clear q4);(try clear q450);(try clear q460);(try clear q461)
           obtain ⟨kq,x9_23,x13_23,rfl,HA,HJ23,HO_9,HO_12,HB⟩:=hcut
           have hl9_23:=(Kd.S_reads' HO_9.out).1
           rw [hl9_23] at HO_9
           (try simp only [hl9_23])
           (try simp only [hl9_23] at HO_12)
           cases kq with
           |zero=>exact absurd HA.out (by simp [spec_clSteps.j4])
           |succ kj23=>
            have H:=HA.out
            clear HA
            simp only [spec_clSteps.j4] at H
            by_cases c42:0≤x14_2
            ·rw [if_pos c42] at H
             have c42b0:decide (0≤x14_2)=true:=decide_eq_true c42
             clear c42
             by_cases c43:x14_2< (x9_23.length:Int)
             ·rw [if_pos c43] at H
              have c43b0:decide (x14_2< (x9_23.length:Int))=true:=decide_eq_true c43
              (try simp only [hl9_23] at c43b0)
              clear c43
              by_cases c44:0≤x15_2
              ·rw [if_pos c44] at H
               have c44b0:decide (0≤x15_2)=true:=decide_eq_true c44
               clear c44
               by_cases c45:x15_2< ((rd_L1 x9_23 x14_2).length:Int)
               ·rw [if_pos c45] at H
                have c45b0:decide (x15_2< ((rd_L1 x9_23 x14_2).length:Int))=true:=decide_eq_true c45
                (try simp only [hl9_23] at c45b0)
                clear c45
                by_cases c46:a1=0
                ·rw [if_pos c46] at H
                 exact absurd H (by simp)
                ·rw [if_neg c46] at H
                 have c46b0:(a1==0)=false:=beq_eq_false_iff_ne.mpr c46
                 have c46b1:(a1 !=0)=true:=bne_iff_ne.mpr c46
                 replace H:=Option.bind_eq_some_iff.mp H
                 obtain ⟨t474,A470,H⟩:=H
                 replace H:(spec_clSteps.l3 kj23 a1 a2 x9_23 x12_2 (Int.tmod (wrap64 (x13_23*(rd (rd_L1 x9_23 x14_2) x15_2))) a1) x14_2 x15_2 t474 ((rd_L1 x9_23 x14_2).length:Int) 0)=some (r1,r2,r3):=H
                 have A47:=Aside0.mk A470
                 clear A470
                 have H':=Aside0.mk H
                 clear H
                 have p470:0≤(x14_2:Int):=of_decide_eq_true (by first|(with_reducible assumption)|assumption)
                 have q470:x14_2< (x9_23.length:Int):=of_decide_eq_true (by first|(with_reducible assumption)|assumption)
                 obtain ⟨ad470,A470_0,c470_0,e470,hx470_0,hl470_0,hi470_0⟩:=at_L1 (Kd.S_reads' HO_9.out).2.2 x14_2 p470 q470
                 cases e470
                 obtain ⟨ce470,hce470,hMe470,hcc470⟩:=Kd.S_get HO_9.out [] x14_2 p470 (by first|exact q470|exact of_decide_eq_true (by first|(with_reducible assumption)|assumption)|(have e_:=(Kd.S_reads' HO_9.out).1;omega))
                 obtain ⟨ve470_0,rfl,ge470_0⟩:=hMe470
                 have hv470_0:=hcc470 0 _ rfl
                 rw [Nat.add_zero,show ((Kd.slice 3 (Kd.int .i64))).sz=1 from rfl,Nat.mul_one] at hv470_0
                 replace hv470_0:=Option.some.inj (hv470_0.symm.trans hx470_0)
                 rw [hv470_0] at ge470_0
                 have HL470_0:=Aside0.mk (show Kd.R (Kd.int .i64) 3 _ _ _ _ (rd_L1 x9_23 x14_2) from ge470_0)
                 clear hv470_0 ge470_0
                 have HX470_0:=Aside0.mk hx470_0
                 clear hcc470 hce470
                 have HR470_0:=Aside0.mk hi470_0
                 have HC470_0:=Aside0.mk hl470_0
                 clear hi470_0 hl470_0
                 replace p470:=eq_true p470
                 replace q470:=eq_true q470
                 have p471:0≤(x15_2:Int):=of_decide_eq_true (by first|(with_reducible assumption)|assumption)
                 have q471:x15_2< ((rd_L1 x9_23 x14_2).length:Int):=of_decide_eq_true (by first|(with_reducible assumption)|assumption)
                 obtain ⟨ad471,e471,hx471_0⟩:=Kd.at_int (by repeat (first|(with_reducible exact HR470_0.out)|(with_reducible refine Kd.C_alloc ?_ _)|(with_reducible refine Kd.C_drewN ?_ _)|(with_reducible refine Kd.C_drew ?_)|exact HR470_0.out)) x15_2 p471 q471
                 cases e471
                 replace p471:=eq_true p471
                 replace q471:=eq_true q471
                 have p472:0≤(x14_2:Int):=of_decide_eq_true (by first|(with_reducible assumption)|assumption)
                 have q472:x14_2< (x9_23.length:Int):=of_decide_eq_true (by first|(with_reducible assumption)|assumption)
                 obtain ⟨ad472,A472_0,c472_0,e472,hx472_0,hl472_0,hi472_0⟩:=at_L1 (Kd.S_reads' HO_9.out).2.2 x14_2 p472 q472
                 obtain rfl:ad470=ad472:=(by injection e472)
                 obtain ⟨ce472,hce472,hMe472,hcc472⟩:=Kd.S_get HO_9.out [] x14_2 p472 (by first|exact q472|exact of_decide_eq_true (by first|(with_reducible assumption)|assumption)|(have e_:=(Kd.S_reads' HO_9.out).1;omega))
                 obtain ⟨ve472_0,rfl,ge472_0⟩:=hMe472
                 have hv472_0:=hcc472 0 _ rfl
                 rw [Nat.add_zero,show ((Kd.slice 3 (Kd.int .i64))).sz=1 from rfl,Nat.mul_one] at hv472_0
                 replace hv472_0:=Option.some.inj (hv472_0.symm.trans hx472_0)
                 rw [hv472_0] at ge472_0
                 have HL472_0:=Aside0.mk (show Kd.R (Kd.int .i64) 3 _ _ _ _ (rd_L1 x9_23 x14_2) from ge472_0)
                 clear hv472_0 ge472_0
                 have HX472_0:=Aside0.mk hx472_0
                 clear hcc472 hce472
                 have HR472_0:=Aside0.mk hi472_0
                 have HC472_0:=Aside0.mk hl472_0
                 clear hi472_0 hl472_0
                 replace p472:=eq_true p472
                 replace q472:=eq_true q472
                 have ea_:=Option.some.inj (hx470_0.symm.trans hx472_0)
                 injection ea_ with ea_ en_ ec_
                 subst ea_
                 subst ec_
                 clear en_
                 have p473:0≤(x15_2:Int):=of_decide_eq_true (by first|(with_reducible assumption)|assumption)
                 have q473:x15_2< ((rd_L1 x9_23 x14_2).length:Int):=of_decide_eq_true (by first|(with_reducible assumption)|assumption)
                 obtain ⟨ad473,e473,hx473_0⟩:=Kd.at_int (by repeat (first|(with_reducible exact HR472_0.out)|(with_reducible refine Kd.C_alloc ?_ _)|(with_reducible refine Kd.C_drewN ?_ _)|(with_reducible refine Kd.C_drew ?_)|exact HR472_0.out)) x15_2 p473 q473
                 cases e473
                 replace p473:=eq_true p473
                 replace q473:=eq_true q473
                 go_wp2_with (first|((with_reducible refine gate_callee (f:=83) rfl ?_);refine goesL_ (some 105) rfl rfl Try.func83 (by kernel_rfl) rfl #[.int .i64 (rd (rd_L1 x9_23 x14_2) x15_2),.int .i64 a1] rfl (by (try simp only [List.map_toArray,List.map_cons,List.map_nil]);first|done|rfl|(simp only [List.length_drop,List.length_take];rfl)) ?_;(with_reducible refine (spec_clInverse.calls kj23 (rd (rd_L1 x9_23 x14_2) x15_2) a1 t474 _ A47.out).mono ?_);rintro e w' ⟨rfl,⟨nd,rfl⟩⟩;refine ⟨_,rfl,?_⟩;have p475:0≤(x14_2:Int):=of_decide_eq_true (by first|(with_reducible assumption)|assumption);have q475:x14_2< (x9_23.length:Int):=of_decide_eq_true (by first|(with_reducible assumption)|assumption);obtain ⟨ad475,A475_0,c475_0,e475,hx475_0,hl475_0,hi475_0⟩:=at_L1 (Kd.S_reads' HO_9.out).2.2 x14_2 p475 q475;obtain rfl:ad470=ad475:=(by injection e475);obtain ⟨ce475,hce475,hMe475,hcc475⟩:=Kd.S_get HO_9.out [] x14_2 p475 (by first|exact q475|exact of_decide_eq_true (by first|(with_reducible assumption)|assumption)|(have e_:=(Kd.S_reads' HO_9.out).1;omega));obtain ⟨ve475_0,rfl,ge475_0⟩:=hMe475;have hv475_0:=hcc475 0 _ rfl;rw [Nat.add_zero,show ((Kd.slice 3 (Kd.int .i64))).sz=1 from rfl,Nat.mul_one] at hv475_0;replace hv475_0:=Option.some.inj (hv475_0.symm.trans hx475_0);rw [hv475_0] at ge475_0;have HL475_0:=Aside0.mk (show Kd.R (Kd.int .i64) 3 _ _ _ _ (rd_L1 x9_23 x14_2) from ge475_0);clear hv475_0 ge475_0;have HX475_0:=Aside0.mk hx475_0;clear hcc475 hce475;have HR475_0:=Aside0.mk hi475_0;have HC475_0:=Aside0.mk hl475_0;clear hi475_0 hl475_0;replace p475:=eq_true p475;replace q475:=eq_true q475;have ea_:=Option.some.inj (hx470_0.symm.trans hx475_0);injection ea_ with ea_ en_ ec_;subst ea_;subst ec_;clear en_))
                 go_loopg [111] kj23 (fun kq v111 w'=>∃ (x9_5:List (List Int)) (x12_5:List Int) (x111_5:Int),v111=.int .i64 x111_5∧Aside0 (spec_clSteps.l3 kq a1 a2 x9_5 x12_5 (Int.tmod (wrap64 (x13_23*(rd (rd_L1 x9_23 x14_2) x15_2))) a1) x14_2 x15_2 t474 ((rd_L1 x9_23 x14_2).length:Int) x111_5=some (r1,r2,r3))∧Aside0 (kq≤kj23)∧Aside0 (Kd.S (Kd.slice 3 (Kd.int .i64)) 22 w' w.heap.size (fun k_=>some k_≠(u12:Value).ownBlock) (.slice (some ad470) x9_23.length co25) x9_5)∧Aside0 (Kd.R (Kd.int .i64) 3 w' w.heap.size (fun _=>True) u12 x12_5)∧Aside0 (Below w.heap.size w w'))
                 case atStart=>exact ⟨(x9_23),(x12_2),(0),(by first|rfl|(simp;done)|(simp [*];done)),H',⟨Nat.le_refl _⟩,⟨by (try simp only [hl9_23]);(with_reducible repeat (first|apply Kd.S_alloc|apply Kd.S_drewN|apply Kd.S_drew));exact HO_9.out⟩,⟨by (try simp only [hl9_23]);(with_reducible repeat (first|apply Kd.R_alloc|apply Kd.R_drewN|apply Kd.R_drew));exact HO_12.out⟩,⟨by repeat (first|(with_reducible first|exact HB.out|apply below_alloc|apply pw_below_drewN|apply below_drew1)|exact HB.out)⟩⟩
                 case round=>
                  clear H'
                  (try clear c1);(try clear c2);(try clear p2);(try clear c3);(try clear p3);(try clear q3);(try clear hx3);(try clear hf3);(try clear c4);(try clear c4b0);(try clear p4);(try clear q4);(try clear hx4);(try clear hf4);(try clear c5);(try clear c5b0);(try clear c6);(try clear c6b0);(try clear p6);(try clear c8);(try clear c12);(try clear c12b0);(try clear c14);(try clear c14b0);(try clear c15);(try clear c15b0);(try clear c16);(try clear c16b0);(try clear c17);(try clear c17b0);(try clear c18);(try clear c18b0);(try clear c18b1);(try clear c22);(try clear c22b0);(try clear c22b1);(try clear c26);(try clear c26b0);(try clear c26b1);(try clear c29);(try clear c29b0);(try clear c30);(try clear c30b0);(try clear c31);(try clear p31);(try clear q31);(try clear hx31);(try clear hf31);(try clear c32);(try clear c32b0);(try clear c33);(try clear c33b0);(try clear c34);(try clear p34);(try clear q34);(try clear hx34);(try clear hf34);(try clear c35);(try clear c35b0);(try clear c35b1);(try clear c38);(try clear hx38);(try clear hf38);(try clear c40);(try clear hx40);(try clear hf40);(try clear c42);(try clear c42b0);(try clear c43);(try clear c43b0);(try clear c44);(try clear c44b0);(try clear c45);(try clear c45b0);(try clear p45);(try clear q45);(try clear hx45);(try clear c46);(try clear c46b0);(try clear c46b1);(try clear p46);(try clear q46);(try clear hx46);(try clear c47);(try clear p47);(try clear q47);(try clear hx47);(try clear hx31_0);(try clear hx34_0);(try clear hx38_0);(try clear hx40_0);(try clear hx450_0);(try clear hx460_0);(try clear hx461_0);(try clear hx470_0);(try clear hx471_0);(try clear hx472_0);(try clear hx473_0);(try clear hx475_0);(try clear p2);(try clear p3);(try clear p31);(try clear p34);(try clear p4);(try clear p450);(try clear p460);(try clear p461);(try clear p470);(try clear p471);(try clear p472);(try clear p473);(try clear p475);(try clear p6);(try clear q3);(try clear q31);(try clear q34);(try clear q4);(try clear q450);(try clear q460);(try clear q461);(try clear q470);(try clear q471);(try clear q472);(try clear q473);(try clear q475)
                  obtain ⟨x9_5,x12_5,x111_5,rfl,HA,HK5,HO_9,HO_12,HB⟩:=hrel
                  have hl9_5:=(Kd.S_reads' HO_9.out).1
                  rw [hl9_5] at HO_9
                  (try simp only [hl9_5])
                  (try simp only [hl9_5] at HO_12)
                  cases gk with
                  |zero=>exact absurd HA.out (by simp [spec_clSteps.l3])
                  |succ k5=>
                   have H:=HA.out
                   clear HA
                   simp only [spec_clSteps.l3] at H
                   by_cases c48:x111_5< ((rd_L1 x9_23 x14_2).length:Int)
                   ·rw [if_pos c48] at H
                    have c48b0:decide (x111_5< ((rd_L1 x9_23 x14_2).length:Int))=true:=decide_eq_true c48
                    (try simp only [hl9_23] at c48b0)
                    (try simp only [hl9_5] at c48b0)
                    clear c48
                    by_cases c49:0≤x14_2
                    ·rw [if_pos c49] at H
                     have c49b0:decide (0≤x14_2)=true:=decide_eq_true c49
                     clear c49
                     by_cases c50:x14_2< (x9_5.length:Int)
                     ·rw [if_pos c50] at H
                      have c50b0:decide (x14_2< (x9_5.length:Int))=true:=decide_eq_true c50
                      (try simp only [hl9_23] at c50b0)
                      (try simp only [hl9_5] at c50b0)
                      clear c50
                      by_cases c51:0≤x111_5
                      ·rw [if_pos c51] at H
                       have c51b0:decide (0≤x111_5)=true:=decide_eq_true c51
                       clear c51
                       by_cases c52:x111_5< ((rd_L1 x9_5 x14_2).length:Int)
                       ·rw [if_pos c52] at H
                        have c52b0:decide (x111_5< ((rd_L1 x9_5 x14_2).length:Int))=true:=decide_eq_true c52
                        (try simp only [hl9_23] at c52b0)
                        (try simp only [hl9_5] at c52b0)
                        clear c52
                        by_cases c53:a1=0
                        ·rw [if_pos c53] at H
                         exact absurd H (by simp)
                        ·rw [if_neg c53] at H
                         have c53b0:(a1==0)=false:=beq_eq_false_iff_ne.mpr c53
                         have c53b1:(a1 !=0)=true:=bne_iff_ne.mpr c53
                         obtain ⟨y479,hy479⟩:∃ y_:List Int,y_=((rd_L1 x9_5 x14_2).set (x111_5:Int).toNat (Int.tmod (wrap64 ((rd (rd_L1 x9_5 x14_2) x111_5)*t474)) a1)):=⟨_,rfl⟩
                         replace H:(spec_clSteps.l3 k5 a1 a2 (x9_5.set (x14_2:Int).toNat y479) x12_5 (Int.tmod (wrap64 (x13_23*(rd (rd_L1 x9_23 x14_2) x15_2))) a1) x14_2 x15_2 t474 ((rd_L1 x9_23 x14_2).length:Int) (wrap64 (x111_5+1)))=some (r1,r2,r3):=by first|(rw [hy479];with_reducible exact H)|(have H2_:=(Option.bind_some _ _).symm.trans H;rw [hy479];with_reducible exact H2_)|(have H2_:=(Option.bind_some _ _).symm.trans H;with_reducible exact H2_)|with_reducible exact H|(rw [hy479];exact H)|exact H
                         have Ny479:=Aside0.mk hy479
                         clear hy479
                         obtain ⟨y481,hy481⟩:∃ y_:List (List Int),y_=(x9_5.set (x14_2:Int).toNat y479):=⟨_,rfl⟩
                         replace H:(spec_clSteps.l3 k5 a1 a2 y481 x12_5 (Int.tmod (wrap64 (x13_23*(rd (rd_L1 x9_23 x14_2) x15_2))) a1) x14_2 x15_2 t474 ((rd_L1 x9_23 x14_2).length:Int) (wrap64 (x111_5+1)))=some (r1,r2,r3):=by first|(rw [hy481];with_reducible exact H)|(have H2_:=(Option.bind_some _ _).symm.trans H;rw [hy481];with_reducible exact H2_)|(have H2_:=(Option.bind_some _ _).symm.trans H;with_reducible exact H2_)|with_reducible exact H|(rw [hy481];exact H)|exact H
                         have Ny481:=Aside0.mk hy481
                         clear hy481
                         have H':=Aside0.mk H
                         clear H
                         try go_wp2
                         have n0_:=Aside0.mk (Kd.S_drew HO_9.out)
                         have n1_:=Aside0.mk (Kd.R_drew HO_12.out)
                         have n2_:=Aside0.mk (below_drew1 HB.out)
                         clear HO_9;clear HO_12;clear HB
                         have HO_9:=n0_
                         have HO_12:=n1_
                         have HB:=n2_
                         clear n0_ n1_ n2_
                         have p476:0≤(x14_2:Int):=of_decide_eq_true (by first|(with_reducible assumption)|assumption)
                         have q476:x14_2< (x9_5.length:Int):=of_decide_eq_true (by first|(with_reducible assumption)|assumption)
                         obtain ⟨ad476,A476_0,c476_0,e476,hx476_0,hl476_0,hi476_0⟩:=at_L1 (Kd.S_reads' HO_9.out).2.2 x14_2 p476 q476
                         obtain rfl:ad470=ad476:=(by injection e476)
                         obtain ⟨ce476,hce476,hMe476,hcc476⟩:=Kd.S_get HO_9.out [] x14_2 p476 (by first|exact q476|exact of_decide_eq_true (by first|(with_reducible assumption)|assumption)|(have e_:=(Kd.S_reads' HO_9.out).1;omega))
                         obtain ⟨ve476_0,rfl,ge476_0⟩:=hMe476
                         have hv476_0:=hcc476 0 _ rfl
                         rw [Nat.add_zero,show ((Kd.slice 3 (Kd.int .i64))).sz=1 from rfl,Nat.mul_one] at hv476_0
                         replace hv476_0:=Option.some.inj (hv476_0.symm.trans hx476_0)
                         rw [hv476_0] at ge476_0
                         have HL476_0:=Aside0.mk (show Kd.R (Kd.int .i64) 3 _ _ _ _ (rd_L1 x9_5 x14_2) from ge476_0)
                         clear hv476_0 ge476_0
                         have HX476_0:=Aside0.mk hx476_0
                         clear hcc476 hce476
                         have HR476_0:=Aside0.mk hi476_0
                         have HC476_0:=Aside0.mk hl476_0
                         clear hi476_0 hl476_0
                         replace p476:=eq_true p476
                         replace q476:=eq_true q476
                         have p477:0≤(x14_2:Int):=of_decide_eq_true (by first|(with_reducible assumption)|assumption)
                         have q477:x14_2< (x9_5.length:Int):=of_decide_eq_true (by first|(with_reducible assumption)|assumption)
                         obtain ⟨ad477,A477_0,c477_0,e477,hx477_0,hl477_0,hi477_0⟩:=at_L1 (Kd.S_reads' HO_9.out).2.2 x14_2 p477 q477
                         obtain rfl:ad470=ad477:=(by injection e477)
                         obtain ⟨ce477,hce477,hMe477,hcc477⟩:=Kd.S_get HO_9.out [] x14_2 p477 (by first|exact q477|exact of_decide_eq_true (by first|(with_reducible assumption)|assumption)|(have e_:=(Kd.S_reads' HO_9.out).1;omega))
                         obtain ⟨ve477_0,rfl,ge477_0⟩:=hMe477
                         have hv477_0:=hcc477 0 _ rfl
                         rw [Nat.add_zero,show ((Kd.slice 3 (Kd.int .i64))).sz=1 from rfl,Nat.mul_one] at hv477_0
                         replace hv477_0:=Option.some.inj (hv477_0.symm.trans hx477_0)
                         rw [hv477_0] at ge477_0
                         have HL477_0:=Aside0.mk (show Kd.R (Kd.int .i64) 3 _ _ _ _ (rd_L1 x9_5 x14_2) from ge477_0)
                         clear hv477_0 ge477_0
                         have HX477_0:=Aside0.mk hx477_0
                         clear hcc477 hce477
                         have HR477_0:=Aside0.mk hi477_0
                         have HC477_0:=Aside0.mk hl477_0
                         clear hi477_0 hl477_0
                         replace p477:=eq_true p477
                         replace q477:=eq_true q477
                         have ea_:=Option.some.inj (hx476_0.symm.trans hx477_0)
                         injection ea_ with ea_ en_ ec_
                         subst ea_
                         subst ec_
                         clear en_
                         have p478:0≤(x111_5:Int):=of_decide_eq_true (by first|(with_reducible assumption)|assumption)
                         have q478:x111_5< ((rd_L1 x9_5 x14_2).length:Int):=of_decide_eq_true (by first|(with_reducible assumption)|assumption)
                         obtain ⟨ad478,e478,hx478_0⟩:=Kd.at_int (by repeat (first|(with_reducible exact HR477_0.out)|(with_reducible refine Kd.C_alloc ?_ _)|(with_reducible refine Kd.C_drewN ?_ _)|(with_reducible refine Kd.C_drew ?_)|exact HR477_0.out)) x111_5 p478 q478
                         cases e478
                         replace p478:=eq_true p478
                         replace q478:=eq_true q478
                         have p54:0≤(x111_5:Int):=of_decide_eq_true (by first|(with_reducible assumption)|assumption)
                         have q54:(x111_5:Int)< (((rd_L1 x9_5 x14_2).length:Int):Int):=of_decide_eq_true (by first|(with_reducible assumption)|assumption)
                         obtain ⟨go54,co54,eo54,gb54,gl54,cl54,HG54⟩:=Kd.R_form HL476_0.out (by omega)
                         (first|cases eo54|(injection eo54 with ea_ en_ ec_;(first|subst ea_|(injection ea_ with ea_;subst ea_));subst ec_;clear en_))
                         have GB54:=Aside0.mk gb54
                         have GG54:=Aside0.mk HG54
                         clear gb54 gl54 HG54
                         (first|simp only [add_plain] at hx478_0|skip)
                         obtain ⟨hx54_0,hf54_0⟩:=Kd.R_celln 0 HL476_0.out (x111_5:Int) p54 q54
                         replace p54:=eq_true p54
                         replace q54:=eq_true q54
                         have hq56:(x14_2:Int)< (x9_5.length:Int):=(by have h_:(x14_2:Int)< ((x9_5.length:Int):Int):=of_decide_eq_true (by first|(with_reducible assumption)|assumption);first|exact h_|(have e_:=(Kd.S_reads' HO_9.out).1;omega)|simpa only [List.length_set,List.length_set] using h_)
                         obtain ⟨oki56,ce56,hcl56,hM56,hcc56,hok56,hbk56⟩:=Kd.S_borrow HO_9.out [] (x14_2:Int) (of_decide_eq_true (by first|(with_reducible assumption)|assumption)) hq56
                         obtain ⟨ve56_0,rfl,ge56_0⟩:=hM56
                         have hv56:=hcc56 0 _ rfl
                         rw [Nat.add_zero,show ((Kd.slice 3 (Kd.int .i64))).sz=1 from rfl,Nat.mul_one] at hv56
                         replace hv56:=Option.some.inj (hv56.symm.trans HX476_0.out)
                         subst hv56
                         clear hcc56 hcl56
                         replace ge56_0:=(show Kd.R (Kd.int .i64) 3 _ _ _ _ (rd_L1 x9_5 x14_2) from ge56_0)
                         have HP56:=Kd.R_putg ge56_0 (x111_5:Int) (Int.tmod (wrap64 ((rd (rd_L1 x9_5 x14_2) x111_5)*t474)) a1)
                         rw [← Ny479.out] at HP56
                         have HS56:=hbk56 HP56.2 (fun k_ e_=>by injection e_ with e_;subst e_;exact ge56_0.1 _ rfl) (x':=y479) (Kd.M_row HP56.1)
                         rw [← Ny481.out] at HS56
                         have HQ56:=Aside0.mk HS56
                         clear HP56 HS56 hbk56 hok56
                         refine start_ (n:=18) (S:=fun w'=>w'.cell? (ad470.add (x14_2).toNat)=some (.slice (some (⟨go54,0,none⟩:Addr)) (rd_L1 x9_5 x14_2).length c476_0)∧w'.cell? (ad470.add (x14_2).toNat)=some (.slice (some (⟨go54,0,none⟩:Addr)) (rd_L1 x9_5 x14_2).length c476_0)∧w'.cell? ⟨go54,(x111_5).toNat,none⟩=some (.int .i64 (rd (rd_L1 x9_5 x14_2) x111_5))) (ds:=[17]) #[false,false,false,false,false,false,false,false,false,false,false,false,false,false,false,false,false,false] (by kernel_rfl) rfl rfl ⟨hx476_0,hx477_0,hx478_0⟩ (fun hHeld=>?_);refine with_tabW spec_clSteps.tab28 spec_clSteps.bits28 (fun HT_ HW_=>?_)
                         generalize wr.drew=w55 at HO_9 HO_12 HB GG54 HL476_0 HL477_0 HQ56 HR476_0 HR477_0 HX476_0 HX477_0 hf54_0 hx476_0 hx477_0 hx478_0 hx54_0 hHeld ⊢
                         refine pure_ (i:=0) (N:=some 114) (v:=?_) (a':=?_) #[true,false,false,false,false,false,false,false,false,false,false,false,false,false,false,false,false,false] rfl rfl (any_of HT_.out (by kernel_rfl)) (fun _ _ _ h=>h) (Or.inl ⟨by rfl,?_⟩) ?_ ?_
                         rotate_left
                         ·intro w'
                          go_simp
                          with_reducible rfl
                         rotate_left
                         ·simp only [Act.put,List.setIfInBounds_toArray,List.set_cons_zero,List.set_cons_succ,i64_w,i32_w]
                          rfl
                         refine pure_ (i:=1) (N:=some 115) (v:=?_) (a':=?_) #[true,true,false,false,false,false,false,false,false,false,false,false,false,false,false,false,false,false] rfl rfl (any_of HT_.out (by kernel_rfl)) (fun _ _ _ h=>h) (Or.inl ⟨by rfl,?_⟩) ?_ ?_
                         rotate_left
                         ·intro w'
                          go_simp
                          with_reducible rfl
                         rotate_left
                         ·simp only [Act.put,List.setIfInBounds_toArray,List.set_cons_zero,List.set_cons_succ,i64_w,i32_w]
                          rfl
                         refine pure_ (i:=2) (N:=some 116) (v:=?_) (a':=?_) #[true,true,true,false,false,false,false,false,false,false,false,false,false,false,false,false,false,false] rfl rfl (any_of HT_.out (by kernel_rfl)) (fun _ _ _ h=>h) (Or.inl ⟨by rfl,?_⟩) ?_ ?_
                         rotate_left
                         ·intro w'
                          go_simp
                          with_reducible rfl
                         rotate_left
                         ·simp only [Act.put,List.setIfInBounds_toArray,List.set_cons_zero,List.set_cons_succ,i64_w,i32_w]
                          rfl
                         refine pure_ (i:=4) (N:=some 118) (v:=?_) (a':=?_) #[true,true,true,false,true,false,false,false,false,false,false,false,false,false,false,false,false,false] rfl rfl (any_of HT_.out (by kernel_rfl)) (fun _ _ _ h=>h) (Or.inl ⟨by rfl,?_⟩) ?_ ?_
                         rotate_left
                         ·intro w'
                          go_simp
                          with_reducible rfl
                         rotate_left
                         ·simp only [Act.put,List.setIfInBounds_toArray,List.set_cons_zero,List.set_cons_succ,i64_w,i32_w]
                          rfl
                         refine pure_ (i:=5) (N:=some 119) (v:=?_) (a':=?_) #[true,true,true,false,true,true,false,false,false,false,false,false,false,false,false,false,false,false] rfl rfl (any_of HT_.out (by kernel_rfl)) (fun _ _ _ h=>h) (Or.inl ⟨by rfl,?_⟩) ?_ ?_
                         rotate_left
                         ·intro w'
                          go_simp
                          with_reducible rfl
                         rotate_left
                         ·simp only [Act.put,List.setIfInBounds_toArray,List.set_cons_zero,List.set_cons_succ,i64_w,i32_w]
                          rfl
                         refine pure_ (i:=6) (N:=some 120) (v:=?_) (a':=?_) #[true,true,true,false,true,true,true,false,false,false,false,false,false,false,false,false,false,false] rfl rfl (any_of HT_.out (by kernel_rfl)) (fun _ _ _ h=>h) (Or.inl ⟨by rfl,?_⟩) ?_ ?_
                         rotate_left
                         ·intro w'
                          go_simp
                          with_reducible rfl
                         rotate_left
                         ·simp only [Act.put,List.setIfInBounds_toArray,List.set_cons_zero,List.set_cons_succ,i64_w,i32_w]
                          rfl
                         refine pure_ (i:=7) (N:=some 121) (v:=?_) (a':=?_) #[true,true,true,false,true,true,true,true,false,false,false,false,false,false,false,false,false,false] rfl rfl (any_of HT_.out (by kernel_rfl)) (fun _ _ _ h=>h) (Or.inl ⟨by rfl,?_⟩) ?_ ?_
                         rotate_left
                         ·intro w'
                          go_simp
                          with_reducible rfl
                         rotate_left
                         ·simp only [Act.put,List.setIfInBounds_toArray,List.set_cons_zero,List.set_cons_succ,i64_w,i32_w]
                          rfl
                         refine pure_ (i:=9) (N:=some 123) (v:=?_) (a':=?_) #[true,true,true,false,true,true,true,true,false,true,false,false,false,false,false,false,false,false] rfl rfl (any_of HT_.out (by kernel_rfl)) (fun _ _ _ h=>h) (Or.inl ⟨by rfl,?_⟩) ?_ ?_
                         rotate_left
                         ·intro w'
                          go_simp
                          with_reducible rfl
                         rotate_left
                         ·simp only [Act.put,List.setIfInBounds_toArray,List.set_cons_zero,List.set_cons_succ,i64_w,i32_w]
                          rfl
                         refine pure_ (i:=12) (N:=some 126) (v:=?_) (a':=?_) #[true,true,true,false,true,true,true,true,false,true,false,false,true,false,false,false,false,false] rfl rfl (any_of HT_.out (by kernel_rfl)) (fun _ _ _ h=>h) (Or.inl ⟨by rfl,?_⟩) ?_ ?_
                         rotate_left
                         ·intro w'
                          go_simp
                          with_reducible rfl
                         rotate_left
                         ·simp only [Act.put,List.setIfInBounds_toArray,List.set_cons_zero,List.set_cons_succ,i64_w,i32_w]
                          rfl
                         refine pure_ (i:=14) (N:=some 128) (v:=?_) (a':=?_) #[true,true,true,false,true,true,true,true,false,true,false,false,true,false,true,false,false,false] rfl rfl (any_of HT_.out (by kernel_rfl)) (fun _ _ _ h=>h) (Or.inl ⟨by rfl,?_⟩) ?_ ?_
                         rotate_left
                         ·intro w'
                          go_simp
                          with_reducible rfl
                         rotate_left
                         ·simp only [Act.put,List.setIfInBounds_toArray,List.set_cons_zero,List.set_cons_succ,i64_w,i32_w]
                          rfl
                         refine take_ (i:=3) (N:=some 117) (v:=?_) (a':=?_) #[true,true,true,true,true,true,true,true,false,true,false,false,true,false,true,false,false,false] rfl rfl (take_ofW HT_.out HW_.out (by kernel_rfl)) (fun _ _ _ h=>h) (Or.inl ⟨by rfl,?_⟩) hHeld ?_ ?_
                         rotate_left
                         ·rintro w' ⟨s0,s1,s2⟩
                          go_simp
                          with_reducible rfl
                         rotate_left
                         ·simp only [Act.put,List.setIfInBounds_toArray,List.set_cons_zero,List.set_cons_succ,i64_w,i32_w]
                          rfl
                         refine take_ (i:=8) (N:=some 122) (v:=?_) (a':=?_) #[true,true,true,true,true,true,true,true,true,true,false,false,true,false,true,false,false,false] rfl rfl (take_ofW HT_.out HW_.out (by kernel_rfl)) (fun _ _ _ h=>h) (Or.inl ⟨by rfl,?_⟩) hHeld ?_ ?_
                         rotate_left
                         ·rintro w' ⟨s0,s1,s2⟩
                          go_simp
                          with_reducible rfl
                         rotate_left
                         ·simp only [Act.put,List.setIfInBounds_toArray,List.set_cons_zero,List.set_cons_succ,i64_w,i32_w]
                          rfl
                         refine pure_ (i:=10) (N:=some 124) (v:=?_) (a':=?_) #[true,true,true,true,true,true,true,true,true,true,true,false,true,false,true,false,false,false] rfl rfl (any_of HT_.out (by kernel_rfl)) (fun _ _ _ h=>h) (Or.inl ⟨by rfl,?_⟩) ?_ ?_
                         rotate_left
                         ·intro w'
                          go_simp
                          with_reducible rfl
                         rotate_left
                         ·simp only [Act.put,List.setIfInBounds_toArray,List.set_cons_zero,List.set_cons_succ,i64_w,i32_w]
                          rfl
                         refine take_ (i:=11) (N:=some 125) (v:=?_) (a':=?_) #[true,true,true,true,true,true,true,true,true,true,true,true,true,false,true,false,false,false] rfl rfl (take_ofW HT_.out HW_.out (by kernel_rfl)) (fun _ _ _ h=>h) (Or.inl ⟨by rfl,?_⟩) hHeld ?_ ?_
                         rotate_left
                         ·rintro w' ⟨s0,s1,s2⟩
                          go_simp
                          with_reducible rfl
                         rotate_left
                         ·simp only [Act.put,List.setIfInBounds_toArray,List.set_cons_zero,List.set_cons_succ,i64_w,i32_w]
                          rfl
                         refine pure_ (i:=13) (N:=some 127) (v:=?_) (a':=?_) #[true,true,true,true,true,true,true,true,true,true,true,true,true,true,true,false,false,false] rfl rfl (any_of HT_.out (by kernel_rfl)) (fun _ _ _ h=>h) (Or.inl ⟨by rfl,?_⟩) ?_ ?_
                         rotate_left
                         ·intro w'
                          go_simp
                          with_reducible rfl
                         rotate_left
                         ·simp only [Act.put,List.setIfInBounds_toArray,List.set_cons_zero,List.set_cons_succ,i64_w,i32_w]
                          rfl
                         refine pure_ (i:=15) (N:=some 129) (v:=?_) (a':=?_) #[true,true,true,true,true,true,true,true,true,true,true,true,true,true,true,true,false,false] rfl rfl (any_of HT_.out (by kernel_rfl)) (fun _ _ _ h=>h) (Or.inl ⟨by rfl,?_⟩) ?_ ?_
                         rotate_left
                         ·intro w'
                          go_simp
                          with_reducible rfl
                         rotate_left
                         ·simp only [Act.put,List.setIfInBounds_toArray,List.set_cons_zero,List.set_cons_succ,i64_w,i32_w]
                          rfl
                         refine pure_ (i:=16) (N:=some 130) (v:=?_) (a':=?_) #[true,true,true,true,true,true,true,true,true,true,true,true,true,true,true,true,true,false] rfl rfl (any_of HT_.out (by kernel_rfl)) (fun _ _ _ h=>h) (Or.inl ⟨by rfl,?_⟩) ?_ ?_
                         rotate_left
                         ·intro w'
                          go_simp
                          with_reducible rfl
                         rotate_left
                         ·simp only [Act.put,List.setIfInBounds_toArray,List.set_cons_zero,List.set_cons_succ,i64_w,i32_w]
                          rfl
                         refine last_ (i:=17) (N:=none) #[true,true,true,true,true,true,true,true,true,true,true,true,true,true,true,true,true,true] rfl rfl (one_of HT_.out (by kernel_rfl)) (by decide) (fun K hK=>?_)
                         refine skip_ (w1:=?_) (by rfl) rfl ?_ ?_
                         rotate_left
                         ·go_simp
                          rfl
                         refine hK.out _ _ ?_
                         clear hK K
                         refine done_ (done_of HT_.out (by kernel_rfl)) ?_
                         try go_wp2
                         (try simp only [← hl9_5])
                         go_roundg k5
                         case measure=>have:=HK1.out;have:=HK2.out;have:=HJ12.out;have:=HJ23.out;have:=HK5.out;omega
                         case rel=>exact ⟨(y481),(x12_5),(wrap64 (x111_5+1)),(by first|rfl|(simp;done)|(simp [*];done)),H',⟨by have:=HK1.out;have:=HK2.out;have:=HJ12.out;have:=HJ23.out;have:=HK5.out;omega⟩,⟨by (try simp only [hl9_23]);(try simp only [hl9_5]);(with_reducible repeat (first|apply Kd.S_alloc|apply Kd.S_drewN|apply Kd.S_drew));exact HQ56.out⟩,⟨by (try simp only [hl9_23]);(try simp only [hl9_5]);(with_reducible repeat (first|apply Kd.R_alloc|apply Kd.R_drewN|apply Kd.R_drew));exact Kd.R_mono (Kd.R_far (p:=⟨go54,(x111_5:Int).toNat,none⟩) (Kd.R_far1 HO_12.out rfl ((HL476_0.out.1 _ rfl).1)) (fun _ hk=>hk.2) (.int .i64 (Int.tmod (wrap64 ((rd (rd_L1 x9_5 x14_2) x111_5)*t474)) a1))) (fun _ hk=>trivial)⟩,⟨by repeat (first|(with_reducible first|exact HB.out|apply below_alloc|apply pw_below_drewN|apply below_drew1|refine below_set ?_ GB54.out)|exact HB.out)⟩⟩
                       ·rw [if_neg c52] at H
                        exact absurd H (by simp)
                      ·rw [if_neg c51] at H
                       exact absurd H (by simp)
                     ·rw [if_neg c50] at H
                      exact absurd H (by simp)
                    ·rw [if_neg c49] at H
                     exact absurd H (by simp)
                   ·rw [if_neg c48] at H
                    have c48b0:decide (x111_5< ((rd_L1 x9_23 x14_2).length:Int))=false:=decide_eq_false c48
                    (try simp only [hl9_23] at c48b0)
                    (try simp only [hl9_5] at c48b0)
                    clear c48
                    have H':=Aside0.mk H
                    clear H
                    go_wp2
                    go_loopg [134] k5 (fun kq v134 w'=>∃ (x9_6:List (List Int)) (x12_6:List Int) (x134_6:Int),v134=.int .i64 x134_6∧Aside0 (spec_clSteps.l4 kq a1 a2 x9_6 x12_6 (Int.tmod (wrap64 (x13_23*(rd (rd_L1 x9_23 x14_2) x15_2))) a1) x14_2 x15_2 (x9_5.length:Int) x134_6=some (r1,r2,r3))∧Aside0 (kq≤k5)∧Aside0 (Kd.S (Kd.slice 3 (Kd.int .i64)) 22 w' w.heap.size (fun k_=>some k_≠(u12:Value).ownBlock) (.slice (some ad470) x9_5.length co25) x9_6)∧Aside0 (Kd.R (Kd.int .i64) 3 w' w.heap.size (fun _=>True) u12 x12_6)∧Aside0 (Below w.heap.size w w'))
                    case atStart=>exact ⟨(x9_5),(x12_5),(0),(by first|rfl|(simp;done)|(simp [*];done)),H',⟨Nat.le_refl _⟩,⟨by (try simp only [hl9_23]);(try simp only [hl9_5]);(with_reducible repeat (first|apply Kd.S_alloc|apply Kd.S_drewN|apply Kd.S_drew));exact HO_9.out⟩,⟨by (try simp only [hl9_23]);(try simp only [hl9_5]);(with_reducible repeat (first|apply Kd.R_alloc|apply Kd.R_drewN|apply Kd.R_drew));exact HO_12.out⟩,⟨by repeat (first|(with_reducible first|exact HB.out|apply below_alloc|apply pw_below_drewN|apply below_drew1)|exact HB.out)⟩⟩
                    case round=>
                     clear H'
                     (try clear c1);(try clear c2);(try clear p2);(try clear c3);(try clear p3);(try clear q3);(try clear hx3);(try clear hf3);(try clear c4);(try clear c4b0);(try clear p4);(try clear q4);(try clear hx4);(try clear hf4);(try clear c5);(try clear c5b0);(try clear p5);(try clear q5);(try clear hx5);(try clear hf5);(try clear c6);(try clear c6b0);(try clear p6);(try clear c8);(try clear c12);(try clear c12b0);(try clear c14);(try clear c14b0);(try clear c15);(try clear c15b0);(try clear c16);(try clear c16b0);(try clear c17);(try clear c17b0);(try clear c18);(try clear c18b0);(try clear c18b1);(try clear c22);(try clear c22b0);(try clear c22b1);(try clear c26);(try clear c26b0);(try clear c26b1);(try clear c29);(try clear c29b0);(try clear c30);(try clear c30b0);(try clear c31);(try clear p31);(try clear q31);(try clear hx31);(try clear hf31);(try clear c32);(try clear c32b0);(try clear c33);(try clear c33b0);(try clear c34);(try clear p34);(try clear q34);(try clear hx34);(try clear hf34);(try clear c35);(try clear c35b0);(try clear c35b1);(try clear c38);(try clear hx38);(try clear hf38);(try clear c40);(try clear hx40);(try clear hf40);(try clear c42);(try clear c42b0);(try clear c43);(try clear c43b0);(try clear c44);(try clear c44b0);(try clear c45);(try clear c45b0);(try clear p45);(try clear q45);(try clear hx45);(try clear c46);(try clear c46b0);(try clear c46b1);(try clear p46);(try clear q46);(try clear hx46);(try clear c47);(try clear p47);(try clear q47);(try clear hx47);(try clear c48);(try clear c48b0);(try clear c49);(try clear c49b0);(try clear c50);(try clear c50b0);(try clear c51);(try clear c51b0);(try clear c52);(try clear c52b0);(try clear c53);(try clear c53b0);(try clear c53b1);(try clear p54);(try clear q54);(try clear hx54);(try clear hf54);(try clear c56);(try clear q56);(try clear hx31_0);(try clear hx34_0);(try clear hx38_0);(try clear hx40_0);(try clear hx450_0);(try clear hx460_0);(try clear hx461_0);(try clear hx470_0);(try clear hx471_0);(try clear hx472_0);(try clear hx473_0);(try clear hx475_0);(try clear hx476_0);(try clear hx477_0);(try clear hx478_0);(try clear hx54_0);(try clear p2);(try clear p3);(try clear p31);(try clear p34);(try clear p4);(try clear p45);(try clear p450);(try clear p46);(try clear p460);(try clear p461);(try clear p47);(try clear p470);(try clear p471);(try clear p472);(try clear p473);(try clear p475);(try clear p476);(try clear p477);(try clear p478);(try clear p54);(try clear p6);(try clear q3);(try clear q31);(try clear q34);(try clear q4);(try clear q45);(try clear q450);(try clear q46);(try clear q460);(try clear q461);(try clear q47);(try clear q470);(try clear q471);(try clear q472);(try clear q473);(try clear q475);(try clear q476);(try clear q477);(try clear q478);(try clear q54)
                     obtain ⟨x9_6,x12_6,x134_6,rfl,HA,HK6,HO_9,HO_12,HB⟩:=hrel
                     have hl9_6:=(Kd.S_reads' HO_9.out).1
                     rw [hl9_6] at HO_9
                     (try simp only [hl9_6])
                     (try simp only [hl9_6] at HO_12)
                     cases gk with
                     |zero=>exact absurd HA.out (by simp [spec_clSteps.l4])
                     |succ k6=>
                      have H:=HA.out
                      clear HA
                      simp only [spec_clSteps.l4] at H
                      by_cases c58:x134_6< (x9_5.length:Int)
                      ·rw [if_pos c58] at H
                       have c58b0:decide (x134_6< (x9_5.length:Int))=true:=decide_eq_true c58
                       (try simp only [hl9_23] at c58b0)
                       (try simp only [hl9_5] at c58b0)
                       (try simp only [hl9_6] at c58b0)
                       clear c58
                       by_cases c59:0≤x134_6
                       ·rw [if_pos c59] at H
                        have c59b0:decide (0≤x134_6)=true:=decide_eq_true c59
                        clear c59
                        by_cases c60:x134_6< (x9_6.length:Int)
                        ·rw [if_pos c60] at H
                         have c60b0:decide (x134_6< (x9_6.length:Int))=true:=decide_eq_true c60
                         (try simp only [hl9_23] at c60b0)
                         (try simp only [hl9_5] at c60b0)
                         (try simp only [hl9_6] at c60b0)
                         clear c60
                         by_cases c61:0≤x15_2
                         ·rw [if_pos c61] at H
                          have c61b0:decide (0≤x15_2)=true:=decide_eq_true c61
                          clear c61
                          by_cases c62:x15_2< ((rd_L1 x9_6 x134_6).length:Int)
                          ·rw [if_pos c62] at H
                           have c62b0:decide (x15_2< ((rd_L1 x9_6 x134_6).length:Int))=true:=decide_eq_true c62
                           (try simp only [hl9_23] at c62b0)
                           (try simp only [hl9_5] at c62b0)
                           (try simp only [hl9_6] at c62b0)
                           clear c62
                           have HC63:=Aside0.mk H
                           clear H
                           have p485:0≤(x134_6:Int):=of_decide_eq_true (by first|(with_reducible assumption)|assumption)
                           have q485:x134_6< (x9_6.length:Int):=of_decide_eq_true (by first|(with_reducible assumption)|assumption)
                           obtain ⟨ad485,A485_0,c485_0,e485,hx485_0,hl485_0,hi485_0⟩:=at_L1 (Kd.S_reads' HO_9.out).2.2 x134_6 p485 q485
                           obtain rfl:ad470=ad485:=(by injection e485)
                           obtain ⟨ce485,hce485,hMe485,hcc485⟩:=Kd.S_get HO_9.out [] x134_6 p485 (by first|exact q485|exact of_decide_eq_true (by first|(with_reducible assumption)|assumption)|(have e_:=(Kd.S_reads' HO_9.out).1;omega))
                           obtain ⟨ve485_0,rfl,ge485_0⟩:=hMe485
                           have hv485_0:=hcc485 0 _ rfl
                           rw [Nat.add_zero,show ((Kd.slice 3 (Kd.int .i64))).sz=1 from rfl,Nat.mul_one] at hv485_0
                           replace hv485_0:=Option.some.inj (hv485_0.symm.trans hx485_0)
                           rw [hv485_0] at ge485_0
                           have HL485_0:=Aside0.mk (show Kd.R (Kd.int .i64) 3 _ _ _ _ (rd_L1 x9_6 x134_6) from ge485_0)
                           clear hv485_0 ge485_0
                           have HX485_0:=Aside0.mk hx485_0
                           clear hcc485 hce485
                           have HR485_0:=Aside0.mk hi485_0
                           have HC485_0:=Aside0.mk hl485_0
                           clear hi485_0 hl485_0
                           replace p485:=eq_true p485
                           replace q485:=eq_true q485
                           have p486:0≤(x15_2:Int):=of_decide_eq_true (by first|(with_reducible assumption)|assumption)
                           have q486:x15_2< ((rd_L1 x9_6 x134_6).length:Int):=of_decide_eq_true (by first|(with_reducible assumption)|assumption)
                           obtain ⟨ad486,e486,hx486_0⟩:=Kd.at_int (by repeat (first|(with_reducible exact HR485_0.out)|(with_reducible refine Kd.C_alloc ?_ _)|(with_reducible refine Kd.C_drewN ?_ _)|(with_reducible refine Kd.C_drew ?_)|exact HR485_0.out)) x15_2 p486 q486
                           cases e486
                           replace p486:=eq_true p486
                           replace q486:=eq_true q486
                           go_upto_region 34 with (fail)
                           go_cut [150] (fun v150 wc=>∃ (kq:Nat) (x150_62:Bool),v150=.bool x150_62∧Aside0 (spec_clSteps.j7 kq a1 a2 x9_6 x12_6 (Int.tmod (wrap64 (x13_23*(rd (rd_L1 x9_23 x14_2) x15_2))) a1) x14_2 x15_2 x134_6 (rd (rd_L1 x9_6 x134_6) x15_2) (x9_5.length:Int) x134_6 x150_62=some (r1,r2,r3))∧Aside0 (kq≤k6)∧Aside0 (Kd.S (Kd.slice 3 (Kd.int .i64)) 22 wc w.heap.size (fun k_=>some k_≠(u12:Value).ownBlock) (.slice (some ad470) x9_6.length co25) x9_6)∧Aside0 (Kd.R (Kd.int .i64) 3 wc w.heap.size (fun _=>True) u12 x12_6)∧Aside0 (Kd.C (Kd.int .i64) wc (some ad486) (rd_L1 x9_6 x134_6).length (rd_L1 x9_6 x134_6))∧Aside0 (Below w.heap.size w wc))
                           case first=>
                            have H:=HC63.out
                            clear HC63
                            by_cases c64:x134_6=x14_2
                            ·rw [if_pos c64] at H
                             have c64b0:(x134_6==x14_2)=true:=beq_iff_eq.mpr c64
                             have c64b1:(x134_6 !=x14_2)=false:=bne_eq_false_iff_eq.mpr c64
                             clear c64
                             (first|rw [c64b0]|(simp only [i64_w,i32_w];rw [c64b0])|skip)
                             have H':=Aside0.mk H
                             clear H
                             go_wp2
                             go_meet
                             case rel=>exact ⟨_,(true),(by first|rfl|(simp;done)|(simp [*];done)),H',⟨by have:=HK1.out;have:=HK2.out;have:=HJ12.out;have:=HJ23.out;have:=HK5.out;have:=HK6.out;first|omega|exact Nat.le_refl _⟩,⟨by (try simp only [hl9_23]);(try simp only [hl9_5]);(try simp only [hl9_6]);(with_reducible repeat (first|apply Kd.S_alloc|apply Kd.S_drewN|apply Kd.S_drew));exact HO_9.out⟩,⟨by (try simp only [hl9_23]);(try simp only [hl9_5]);(try simp only [hl9_6]);(with_reducible repeat (first|apply Kd.R_alloc|apply Kd.R_drewN|apply Kd.R_drew));exact HO_12.out⟩,⟨by repeat (first|(with_reducible exact HR485_0.out)|(with_reducible refine Kd.C_alloc ?_ _)|(with_reducible refine Kd.C_drewN ?_ _)|(with_reducible refine Kd.C_drew ?_)|exact HR485_0.out)⟩,⟨by repeat (first|(with_reducible first|exact HB.out|apply below_alloc|apply pw_below_drewN|apply below_drew1)|exact HB.out)⟩⟩
                            ·rw [if_neg c64] at H
                             have c64b0:(x134_6==x14_2)=false:=beq_eq_false_iff_ne.mpr c64
                             have c64b1:(x134_6 !=x14_2)=true:=bne_iff_ne.mpr c64
                             (first|rw [c64b0]|(simp only [i64_w,i32_w];rw [c64b0])|skip)
                             have H':=Aside0.mk H
                             clear H
                             go_wp2
                             go_meet
                             case rel=>exact ⟨_,(((rd (rd_L1 x9_6 x134_6) x15_2)==0)),(by first|rfl|(simp;done)|(simp [*];done)),H',⟨by have:=HK1.out;have:=HK2.out;have:=HJ12.out;have:=HJ23.out;have:=HK5.out;have:=HK6.out;first|omega|exact Nat.le_refl _⟩,⟨by (try simp only [hl9_23]);(try simp only [hl9_5]);(try simp only [hl9_6]);(with_reducible repeat (first|apply Kd.S_alloc|apply Kd.S_drewN|apply Kd.S_drew));exact HO_9.out⟩,⟨by (try simp only [hl9_23]);(try simp only [hl9_5]);(try simp only [hl9_6]);(with_reducible repeat (first|apply Kd.R_alloc|apply Kd.R_drewN|apply Kd.R_drew));exact HO_12.out⟩,⟨by repeat (first|(with_reducible exact HR485_0.out)|(with_reducible refine Kd.C_alloc ?_ _)|(with_reducible refine Kd.C_drewN ?_ _)|(with_reducible refine Kd.C_drew ?_)|exact HR485_0.out)⟩,⟨by repeat (first|(with_reducible first|exact HB.out|apply below_alloc|apply pw_below_drewN|apply below_drew1)|exact HB.out)⟩⟩
                           case rest=>
                            clear HC63;(try clear c1);(try clear c2);(try clear p2);(try clear c3);(try clear p3);(try clear q3);(try clear hx3);(try clear hf3);(try clear c4);(try clear c4b0);(try clear p4);(try clear q4);(try clear hx4);(try clear hf4);(try clear c5);(try clear c5b0);(try clear p5);(try clear q5);(try clear hx5);(try clear hf5);(try clear c6);(try clear c6b0);(try clear p6);(try clear c8);(try clear c12);(try clear c12b0);(try clear c14);(try clear c14b0);(try clear c15);(try clear c15b0);(try clear c16);(try clear c16b0);(try clear c17);(try clear c17b0);(try clear c18);(try clear c18b0);(try clear c18b1);(try clear c22);(try clear c22b0);(try clear c22b1);(try clear c26);(try clear c26b0);(try clear c26b1);(try clear c29);(try clear c29b0);(try clear c30);(try clear c30b0);(try clear c31);(try clear p31);(try clear q31);(try clear hx31);(try clear hf31);(try clear c32);(try clear c32b0);(try clear c33);(try clear c33b0);(try clear c34);(try clear p34);(try clear q34);(try clear hx34);(try clear hf34);(try clear c35);(try clear c35b0);(try clear c35b1);(try clear c38);(try clear hx38);(try clear hf38);(try clear c40);(try clear hx40);(try clear hf40);(try clear c42);(try clear c42b0);(try clear c43);(try clear c43b0);(try clear c44);(try clear c44b0);(try clear c45);(try clear c45b0);(try clear p45);(try clear q45);(try clear hx45);(try clear c46);(try clear c46b0);(try clear c46b1);(try clear p46);(try clear q46);(try clear hx46);(try clear c47);(try clear p47);(try clear q47);(try clear hx47);(try clear c48);(try clear c48b0);(try clear p48);(try clear q48);(try clear hx48);(try clear c49);(try clear c49b0);(try clear c50);(try clear c50b0);(try clear c51);(try clear c51b0);(try clear c52);(try clear c52b0);(try clear c53);(try clear c53b0);(try clear c53b1);(try clear p54);(try clear q54);(try clear hx54);(try clear hf54);(try clear c56);(try clear q56);(try clear c58);(try clear c58b0);(try clear c59);(try clear c59b0);(try clear c60);(try clear c60b0);(try clear c61);(try clear c61b0);(try clear c62);(try clear c62b0);(try clear c64);(try clear c64b0);(try clear c64b1);(try clear p64);(try clear hx31_0);(try clear hx34_0);(try clear hx38_0);(try clear hx40_0);(try clear hx450_0);(try clear hx460_0);(try clear hx461_0);(try clear hx470_0);(try clear hx471_0);(try clear hx472_0);(try clear hx473_0);(try clear hx475_0);(try clear hx476_0);(try clear hx477_0);(try clear hx478_0);(try clear hx485_0);(try clear hx486_0);(try clear hx54_0);(try clear p2);(try clear p3);(try clear p31);(try clear p34);(try clear p4);(try clear p45);(try clear p450);(try clear p46);(try clear p460);(try clear p461);(try clear p47);(try clear p470);(try clear p471);(try clear p472);(try clear p473);(try clear p475);(try clear p476);(try clear p477);(try clear p478);(try clear p485);(try clear p486);(try clear p5);(try clear p54);(try clear p6);(try clear q3);(try clear q31);(try clear q34);(try clear q4);(try clear q45);(try clear q450);(try clear q46);(try clear q460);(try clear q461);(try clear q47);(try clear q470);(try clear q471);(try clear q472);(try clear q473);(try clear q475);(try clear q476);(try clear q477);(try clear q478);(try clear q485);(try clear q486);(try clear q5);(try clear q54);(try clear q56)
                            obtain ⟨kq,x150_62,rfl,HA,HJ62,HO_9,HO_12,HR485_0,HB⟩:=hcut
                            cases kq with
                            |zero=>exact absurd HA.out (by simp [spec_clSteps.j7])
                            |succ kj62=>
                             have H:=HA.out
                             clear HA
                             simp only [spec_clSteps.j7] at H
                             by_cases c65:x150_62=true
                             ·subst c65
                              have H1:(spec_clSteps.l4 kj62 a1 a2 x9_6 x12_6 (Int.tmod (wrap64 (x13_23*(rd (rd_L1 x9_23 x14_2) x15_2))) a1) x14_2 x15_2 (x9_5.length:Int) (wrap64 (x134_6+1)))=some (r1,r2,r3):=by rw [if_pos rfl] at H;exact H
                              clear H
                              have H:=H1
                              clear H1
                              have H':=Aside0.mk H
                              clear H
                              go_wp2
                              (try simp only [← hl9_6])
                              go_roundg kj62
                              case measure=>have:=HK1.out;have:=HK2.out;have:=HJ12.out;have:=HJ23.out;have:=HK5.out;have:=HK6.out;have:=HJ62.out;omega
                              case rel=>exact ⟨(x9_6),(x12_6),(wrap64 (x134_6+1)),(by first|rfl|(simp;done)|(simp [*];done)),H',⟨by have:=HK1.out;have:=HK2.out;have:=HJ12.out;have:=HJ23.out;have:=HK5.out;have:=HK6.out;have:=HJ62.out;omega⟩,⟨by (try simp only [hl9_23]);(try simp only [hl9_5]);(try simp only [hl9_6]);(with_reducible repeat (first|apply Kd.S_alloc|apply Kd.S_drewN|apply Kd.S_drew));exact HO_9.out⟩,⟨by (try simp only [hl9_23]);(try simp only [hl9_5]);(try simp only [hl9_6]);(with_reducible repeat (first|apply Kd.R_alloc|apply Kd.R_drewN|apply Kd.R_drew));exact HO_12.out⟩,⟨by repeat (first|(with_reducible first|exact HB.out|apply below_alloc|apply pw_below_drewN|apply below_drew1)|exact HB.out)⟩⟩
                             ·replace c65:=Bool.eq_false_iff.mpr c65
                              subst c65
                              have H1:(if 0≤x134_6 then (if x134_6< (x9_6.length:Int) then (spec_clSteps.l5 kj62 a1 a2 x9_6 x12_6 (Int.tmod (wrap64 (x13_23*(rd (rd_L1 x9_23 x14_2) x15_2))) a1) x14_2 x15_2 x134_6 (rd (rd_L1 x9_6 x134_6) x15_2) (x9_5.length:Int) x134_6 ((rd_L1 x9_6 x134_6).length:Int) 0) else (none)) else (none))=some (r1,r2,r3):=by rw [if_neg (show ¬ (false=true) by decide)] at H;exact H
                              clear H
                              have H:=H1
                              clear H1
                              by_cases c66:0≤x134_6
                              ·rw [if_pos c66] at H
                               have c66b0:decide (0≤x134_6)=true:=decide_eq_true c66
                               clear c66
                               by_cases c67:x134_6< (x9_6.length:Int)
                               ·rw [if_pos c67] at H
                                have c67b0:decide (x134_6< (x9_6.length:Int))=true:=decide_eq_true c67
                                (try simp only [hl9_23] at c67b0)
                                (try simp only [hl9_5] at c67b0)
                                (try simp only [hl9_6] at c67b0)
                                clear c67
                                have H':=Aside0.mk H
                                clear H
                                have p487:0≤(x134_6:Int):=of_decide_eq_true (by first|(with_reducible assumption)|assumption)
                                have q487:x134_6< (x9_6.length:Int):=of_decide_eq_true (by first|(with_reducible assumption)|assumption)
                                obtain ⟨ad487,A487_0,c487_0,e487,hx487_0,hl487_0,hi487_0⟩:=at_L1 (Kd.S_reads' HO_9.out).2.2 x134_6 p487 q487
                                obtain rfl:ad470=ad487:=(by injection e487)
                                obtain ⟨ce487,hce487,hMe487,hcc487⟩:=Kd.S_get HO_9.out [] x134_6 p487 (by first|exact q487|exact of_decide_eq_true (by first|(with_reducible assumption)|assumption)|(have e_:=(Kd.S_reads' HO_9.out).1;omega))
                                obtain ⟨ve487_0,rfl,ge487_0⟩:=hMe487
                                have hv487_0:=hcc487 0 _ rfl
                                rw [Nat.add_zero,show ((Kd.slice 3 (Kd.int .i64))).sz=1 from rfl,Nat.mul_one] at hv487_0
                                replace hv487_0:=Option.some.inj (hv487_0.symm.trans hx487_0)
                                rw [hv487_0] at ge487_0
                                have HL487_0:=Aside0.mk (show Kd.R (Kd.int .i64) 3 _ _ _ _ (rd_L1 x9_6 x134_6) from ge487_0)
                                clear hv487_0 ge487_0
                                have HX487_0:=Aside0.mk hx487_0
                                clear hcc487 hce487
                                have HR487_0:=Aside0.mk hi487_0
                                have HC487_0:=Aside0.mk hl487_0
                                clear hi487_0 hl487_0
                                replace p487:=eq_true p487
                                replace q487:=eq_true q487
                                go_wp2
                                go_loopg [156] kj62 (fun kq v156 w'=>∃ (x9_8:List (List Int)) (x12_8:List Int) (x156_8:Int),v156=.int .i64 x156_8∧Aside0 (spec_clSteps.l5 kq a1 a2 x9_8 x12_8 (Int.tmod (wrap64 (x13_23*(rd (rd_L1 x9_23 x14_2) x15_2))) a1) x14_2 x15_2 x134_6 (rd (rd_L1 x9_6 x134_6) x15_2) (x9_5.length:Int) x134_6 ((rd_L1 x9_6 x134_6).length:Int) x156_8=some (r1,r2,r3))∧Aside0 (kq≤kj62)∧Aside0 (Kd.S (Kd.slice 3 (Kd.int .i64)) 22 w' w.heap.size (fun k_=>some k_≠(u12:Value).ownBlock) (.slice (some ad470) x9_6.length co25) x9_8)∧Aside0 (Kd.R (Kd.int .i64) 3 w' w.heap.size (fun _=>True) u12 x12_8)∧Aside0 (Below w.heap.size w w'))
                                case atStart=>exact ⟨(x9_6),(x12_6),(0),(by first|rfl|(simp;done)|(simp [*];done)),H',⟨Nat.le_refl _⟩,⟨by (try simp only [hl9_23]);(try simp only [hl9_5]);(try simp only [hl9_6]);(with_reducible repeat (first|apply Kd.S_alloc|apply Kd.S_drewN|apply Kd.S_drew));exact HO_9.out⟩,⟨by (try simp only [hl9_23]);(try simp only [hl9_5]);(try simp only [hl9_6]);(with_reducible repeat (first|apply Kd.R_alloc|apply Kd.R_drewN|apply Kd.R_drew));exact HO_12.out⟩,⟨by repeat (first|(with_reducible first|exact HB.out|apply below_alloc|apply pw_below_drewN|apply below_drew1)|exact HB.out)⟩⟩
                                case round=>
                                 clear H'
                                 (try clear c1);(try clear c2);(try clear p2);(try clear c3);(try clear p3);(try clear q3);(try clear hx3);(try clear hf3);(try clear c4);(try clear c4b0);(try clear p4);(try clear q4);(try clear hx4);(try clear hf4);(try clear c5);(try clear c5b0);(try clear p5);(try clear q5);(try clear hx5);(try clear hf5);(try clear c6);(try clear c6b0);(try clear p6);(try clear c8);(try clear c12);(try clear c12b0);(try clear c14);(try clear c14b0);(try clear c15);(try clear c15b0);(try clear c16);(try clear c16b0);(try clear c17);(try clear c17b0);(try clear c18);(try clear c18b0);(try clear c18b1);(try clear c22);(try clear c22b0);(try clear c22b1);(try clear c26);(try clear c26b0);(try clear c26b1);(try clear c29);(try clear c29b0);(try clear c30);(try clear c30b0);(try clear c31);(try clear p31);(try clear q31);(try clear hx31);(try clear hf31);(try clear c32);(try clear c32b0);(try clear c33);(try clear c33b0);(try clear c34);(try clear p34);(try clear q34);(try clear hx34);(try clear hf34);(try clear c35);(try clear c35b0);(try clear c35b1);(try clear c38);(try clear hx38);(try clear hf38);(try clear c40);(try clear hx40);(try clear hf40);(try clear c42);(try clear c42b0);(try clear c43);(try clear c43b0);(try clear c44);(try clear c44b0);(try clear c45);(try clear c45b0);(try clear p45);(try clear q45);(try clear hx45);(try clear c46);(try clear c46b0);(try clear c46b1);(try clear p46);(try clear q46);(try clear hx46);(try clear c47);(try clear p47);(try clear q47);(try clear hx47);(try clear c48);(try clear c48b0);(try clear p48);(try clear q48);(try clear hx48);(try clear c49);(try clear c49b0);(try clear c50);(try clear c50b0);(try clear c51);(try clear c51b0);(try clear c52);(try clear c52b0);(try clear c53);(try clear c53b0);(try clear c53b1);(try clear p54);(try clear q54);(try clear hx54);(try clear hf54);(try clear c56);(try clear q56);(try clear c58);(try clear c58b0);(try clear c59);(try clear c59b0);(try clear c60);(try clear c60b0);(try clear c61);(try clear c61b0);(try clear c62);(try clear c62b0);(try clear c64);(try clear c64b0);(try clear c64b1);(try clear p64);(try clear c65);(try clear c66);(try clear c66b0);(try clear c67);(try clear c67b0);(try clear hx31_0);(try clear hx34_0);(try clear hx38_0);(try clear hx40_0);(try clear hx450_0);(try clear hx460_0);(try clear hx461_0);(try clear hx470_0);(try clear hx471_0);(try clear hx472_0);(try clear hx473_0);(try clear hx475_0);(try clear hx476_0);(try clear hx477_0);(try clear hx478_0);(try clear hx485_0);(try clear hx486_0);(try clear hx487_0);(try clear hx54_0);(try clear p2);(try clear p3);(try clear p31);(try clear p34);(try clear p4);(try clear p45);(try clear p450);(try clear p46);(try clear p460);(try clear p461);(try clear p47);(try clear p470);(try clear p471);(try clear p472);(try clear p473);(try clear p475);(try clear p476);(try clear p477);(try clear p478);(try clear p48);(try clear p485);(try clear p486);(try clear p487);(try clear p5);(try clear p54);(try clear p6);(try clear p64);(try clear q3);(try clear q31);(try clear q34);(try clear q4);(try clear q45);(try clear q450);(try clear q46);(try clear q460);(try clear q461);(try clear q47);(try clear q470);(try clear q471);(try clear q472);(try clear q473);(try clear q475);(try clear q476);(try clear q477);(try clear q478);(try clear q48);(try clear q485);(try clear q486);(try clear q487);(try clear q5);(try clear q54);(try clear q56)
                                 obtain ⟨x9_8,x12_8,x156_8,rfl,HA,HK8,HO_9,HO_12,HB⟩:=hrel
                                 have hl9_8:=(Kd.S_reads' HO_9.out).1
                                 rw [hl9_8] at HO_9
                                 (try simp only [hl9_8])
                                 (try simp only [hl9_8] at HO_12)
                                 cases gk with
                                 |zero=>exact absurd HA.out (by simp [spec_clSteps.l5])
                                 |succ k8=>
                                  have H:=HA.out
                                  clear HA
                                  simp only [spec_clSteps.l5] at H
                                  by_cases c68:x156_8< ((rd_L1 x9_6 x134_6).length:Int)
                                  ·rw [if_pos c68] at H
                                   have c68b0:decide (x156_8< ((rd_L1 x9_6 x134_6).length:Int))=true:=decide_eq_true c68
                                   (try simp only [hl9_23] at c68b0)
                                   (try simp only [hl9_5] at c68b0)
                                   (try simp only [hl9_6] at c68b0)
                                   (try simp only [hl9_8] at c68b0)
                                   clear c68
                                   by_cases c69:0≤x134_6
                                   ·rw [if_pos c69] at H
                                    have c69b0:decide (0≤x134_6)=true:=decide_eq_true c69
                                    clear c69
                                    by_cases c70:x134_6< (x9_8.length:Int)
                                    ·rw [if_pos c70] at H
                                     have c70b0:decide (x134_6< (x9_8.length:Int))=true:=decide_eq_true c70
                                     (try simp only [hl9_23] at c70b0)
                                     (try simp only [hl9_5] at c70b0)
                                     (try simp only [hl9_6] at c70b0)
                                     (try simp only [hl9_8] at c70b0)
                                     clear c70
                                     by_cases c71:0≤x156_8
                                     ·rw [if_pos c71] at H
                                      have c71b0:decide (0≤x156_8)=true:=decide_eq_true c71
                                      clear c71
                                      by_cases c72:x156_8< ((rd_L1 x9_8 x134_6).length:Int)
                                      ·rw [if_pos c72] at H
                                       have c72b0:decide (x156_8< ((rd_L1 x9_8 x134_6).length:Int))=true:=decide_eq_true c72
                                       (try simp only [hl9_23] at c72b0)
                                       (try simp only [hl9_5] at c72b0)
                                       (try simp only [hl9_6] at c72b0)
                                       (try simp only [hl9_8] at c72b0)
                                       clear c72
                                       by_cases c73:0≤x14_2
                                       ·rw [if_pos c73] at H
                                        have c73b0:decide (0≤x14_2)=true:=decide_eq_true c73
                                        clear c73
                                        by_cases c74:x14_2< (x9_8.length:Int)
                                        ·rw [if_pos c74] at H
                                         have c74b0:decide (x14_2< (x9_8.length:Int))=true:=decide_eq_true c74
                                         (try simp only [hl9_23] at c74b0)
                                         (try simp only [hl9_5] at c74b0)
                                         (try simp only [hl9_6] at c74b0)
                                         (try simp only [hl9_8] at c74b0)
                                         clear c74
                                         by_cases c75:x156_8< ((rd_L1 x9_8 x14_2).length:Int)
                                         ·rw [if_pos c75] at H
                                          have c75b0:decide (x156_8< ((rd_L1 x9_8 x14_2).length:Int))=true:=decide_eq_true c75
                                          (try simp only [hl9_23] at c75b0)
                                          (try simp only [hl9_5] at c75b0)
                                          (try simp only [hl9_6] at c75b0)
                                          (try simp only [hl9_8] at c75b0)
                                          clear c75
                                          by_cases c76:a1=0
                                          ·rw [if_pos c76] at H
                                           exact absurd H (by simp)
                                          ·rw [if_neg c76] at H
                                           have c76b0:(a1==0)=false:=beq_eq_false_iff_ne.mpr c76
                                           have c76b1:(a1 !=0)=true:=bne_iff_ne.mpr c76
                                           obtain ⟨y493,hy493⟩:∃ y_:List Int,y_=((rd_L1 x9_8 x134_6).set (x156_8:Int).toNat (Int.tmod (wrap64 ((rd (rd_L1 x9_8 x134_6) x156_8)+(wrap64 ((wrap64 (a1 - (rd (rd_L1 x9_6 x134_6) x15_2)))*(rd (rd_L1 x9_8 x14_2) x156_8))))) a1)):=⟨_,rfl⟩
                                           replace H:(spec_clSteps.l5 k8 a1 a2 (x9_8.set (x134_6:Int).toNat y493) x12_8 (Int.tmod (wrap64 (x13_23*(rd (rd_L1 x9_23 x14_2) x15_2))) a1) x14_2 x15_2 x134_6 (rd (rd_L1 x9_6 x134_6) x15_2) (x9_5.length:Int) x134_6 ((rd_L1 x9_6 x134_6).length:Int) (wrap64 (x156_8+1)))=some (r1,r2,r3):=by first|(rw [hy493];with_reducible exact H)|(have H2_:=(Option.bind_some _ _).symm.trans H;rw [hy493];with_reducible exact H2_)|(have H2_:=(Option.bind_some _ _).symm.trans H;with_reducible exact H2_)|with_reducible exact H|(rw [hy493];exact H)|exact H
                                           have Ny493:=Aside0.mk hy493
                                           clear hy493
                                           obtain ⟨y495,hy495⟩:∃ y_:List (List Int),y_=(x9_8.set (x134_6:Int).toNat y493):=⟨_,rfl⟩
                                           replace H:(spec_clSteps.l5 k8 a1 a2 y495 x12_8 (Int.tmod (wrap64 (x13_23*(rd (rd_L1 x9_23 x14_2) x15_2))) a1) x14_2 x15_2 x134_6 (rd (rd_L1 x9_6 x134_6) x15_2) (x9_5.length:Int) x134_6 ((rd_L1 x9_6 x134_6).length:Int) (wrap64 (x156_8+1)))=some (r1,r2,r3):=by first|(rw [hy495];with_reducible exact H)|(have H2_:=(Option.bind_some _ _).symm.trans H;rw [hy495];with_reducible exact H2_)|(have H2_:=(Option.bind_some _ _).symm.trans H;with_reducible exact H2_)|with_reducible exact H|(rw [hy495];exact H)|exact H
                                           have Ny495:=Aside0.mk hy495
                                           clear hy495
                                           have H':=Aside0.mk H
                                           clear H
                                           try go_wp2
                                           have n0_:=Aside0.mk (Kd.S_drew HO_9.out)
                                           have n1_:=Aside0.mk (Kd.R_drew HO_12.out)
                                           have n2_:=Aside0.mk (below_drew1 HB.out)
                                           clear HO_9;clear HO_12;clear HB
                                           have HO_9:=n0_
                                           have HO_12:=n1_
                                           have HB:=n2_
                                           clear n0_ n1_ n2_
                                           have p488:0≤(x134_6:Int):=of_decide_eq_true (by first|(with_reducible assumption)|assumption)
                                           have q488:x134_6< (x9_8.length:Int):=of_decide_eq_true (by first|(with_reducible assumption)|assumption)
                                           obtain ⟨ad488,A488_0,c488_0,e488,hx488_0,hl488_0,hi488_0⟩:=at_L1 (Kd.S_reads' HO_9.out).2.2 x134_6 p488 q488
                                           obtain rfl:ad470=ad488:=(by injection e488)
                                           obtain ⟨ce488,hce488,hMe488,hcc488⟩:=Kd.S_get HO_9.out [] x134_6 p488 (by first|exact q488|exact of_decide_eq_true (by first|(with_reducible assumption)|assumption)|(have e_:=(Kd.S_reads' HO_9.out).1;omega))
                                           obtain ⟨ve488_0,rfl,ge488_0⟩:=hMe488
                                           have hv488_0:=hcc488 0 _ rfl
                                           rw [Nat.add_zero,show ((Kd.slice 3 (Kd.int .i64))).sz=1 from rfl,Nat.mul_one] at hv488_0
                                           replace hv488_0:=Option.some.inj (hv488_0.symm.trans hx488_0)
                                           rw [hv488_0] at ge488_0
                                           have HL488_0:=Aside0.mk (show Kd.R (Kd.int .i64) 3 _ _ _ _ (rd_L1 x9_8 x134_6) from ge488_0)
                                           clear hv488_0 ge488_0
                                           have HX488_0:=Aside0.mk hx488_0
                                           clear hcc488 hce488
                                           have HR488_0:=Aside0.mk hi488_0
                                           have HC488_0:=Aside0.mk hl488_0
                                           clear hi488_0 hl488_0
                                           replace p488:=eq_true p488
                                           replace q488:=eq_true q488
                                           have p489:0≤(x134_6:Int):=of_decide_eq_true (by first|(with_reducible assumption)|assumption)
                                           have q489:x134_6< (x9_8.length:Int):=of_decide_eq_true (by first|(with_reducible assumption)|assumption)
                                           obtain ⟨ad489,A489_0,c489_0,e489,hx489_0,hl489_0,hi489_0⟩:=at_L1 (Kd.S_reads' HO_9.out).2.2 x134_6 p489 q489
                                           obtain rfl:ad470=ad489:=(by injection e489)
                                           obtain ⟨ce489,hce489,hMe489,hcc489⟩:=Kd.S_get HO_9.out [] x134_6 p489 (by first|exact q489|exact of_decide_eq_true (by first|(with_reducible assumption)|assumption)|(have e_:=(Kd.S_reads' HO_9.out).1;omega))
                                           obtain ⟨ve489_0,rfl,ge489_0⟩:=hMe489
                                           have hv489_0:=hcc489 0 _ rfl
                                           rw [Nat.add_zero,show ((Kd.slice 3 (Kd.int .i64))).sz=1 from rfl,Nat.mul_one] at hv489_0
                                           replace hv489_0:=Option.some.inj (hv489_0.symm.trans hx489_0)
                                           rw [hv489_0] at ge489_0
                                           have HL489_0:=Aside0.mk (show Kd.R (Kd.int .i64) 3 _ _ _ _ (rd_L1 x9_8 x134_6) from ge489_0)
                                           clear hv489_0 ge489_0
                                           have HX489_0:=Aside0.mk hx489_0
                                           clear hcc489 hce489
                                           have HR489_0:=Aside0.mk hi489_0
                                           have HC489_0:=Aside0.mk hl489_0
                                           clear hi489_0 hl489_0
                                           replace p489:=eq_true p489
                                           replace q489:=eq_true q489
                                           have ea_:=Option.some.inj (hx488_0.symm.trans hx489_0)
                                           injection ea_ with ea_ en_ ec_
                                           subst ea_
                                           subst ec_
                                           clear en_
                                           have p490:0≤(x156_8:Int):=of_decide_eq_true (by first|(with_reducible assumption)|assumption)
                                           have q490:x156_8< ((rd_L1 x9_8 x134_6).length:Int):=of_decide_eq_true (by first|(with_reducible assumption)|assumption)
                                           obtain ⟨ad490,e490,hx490_0⟩:=Kd.at_int (by repeat (first|(with_reducible exact HR489_0.out)|(with_reducible refine Kd.C_alloc ?_ _)|(with_reducible refine Kd.C_drewN ?_ _)|(with_reducible refine Kd.C_drew ?_)|exact HR489_0.out)) x156_8 p490 q490
                                           cases e490
                                           replace p490:=eq_true p490
                                           replace q490:=eq_true q490
                                           have p491:0≤(x14_2:Int):=of_decide_eq_true (by first|(with_reducible assumption)|assumption)
                                           have q491:x14_2< (x9_8.length:Int):=of_decide_eq_true (by first|(with_reducible assumption)|assumption)
                                           obtain ⟨ad491,A491_0,c491_0,e491,hx491_0,hl491_0,hi491_0⟩:=at_L1 (Kd.S_reads' HO_9.out).2.2 x14_2 p491 q491
                                           obtain rfl:ad470=ad491:=(by injection e491)
                                           obtain ⟨ce491,hce491,hMe491,hcc491⟩:=Kd.S_get HO_9.out [] x14_2 p491 (by first|exact q491|exact of_decide_eq_true (by first|(with_reducible assumption)|assumption)|(have e_:=(Kd.S_reads' HO_9.out).1;omega))
                                           obtain ⟨ve491_0,rfl,ge491_0⟩:=hMe491
                                           have hv491_0:=hcc491 0 _ rfl
                                           rw [Nat.add_zero,show ((Kd.slice 3 (Kd.int .i64))).sz=1 from rfl,Nat.mul_one] at hv491_0
                                           replace hv491_0:=Option.some.inj (hv491_0.symm.trans hx491_0)
                                           rw [hv491_0] at ge491_0
                                           have HL491_0:=Aside0.mk (show Kd.R (Kd.int .i64) 3 _ _ _ _ (rd_L1 x9_8 x14_2) from ge491_0)
                                           clear hv491_0 ge491_0
                                           have HX491_0:=Aside0.mk hx491_0
                                           clear hcc491 hce491
                                           have HR491_0:=Aside0.mk hi491_0
                                           have HC491_0:=Aside0.mk hl491_0
                                           clear hi491_0 hl491_0
                                           replace p491:=eq_true p491
                                           replace q491:=eq_true q491
                                           have p492:0≤(x156_8:Int):=of_decide_eq_true (by first|(with_reducible assumption)|assumption)
                                           have q492:x156_8< ((rd_L1 x9_8 x14_2).length:Int):=of_decide_eq_true (by first|(with_reducible assumption)|assumption)
                                           obtain ⟨ad492,e492,hx492_0⟩:=Kd.at_int (by repeat (first|(with_reducible exact HR491_0.out)|(with_reducible refine Kd.C_alloc ?_ _)|(with_reducible refine Kd.C_drewN ?_ _)|(with_reducible refine Kd.C_drew ?_)|exact HR491_0.out)) x156_8 p492 q492
                                           cases e492
                                           replace p492:=eq_true p492
                                           replace q492:=eq_true q492
                                           have p77:0≤(x156_8:Int):=of_decide_eq_true (by first|(with_reducible assumption)|assumption)
                                           have q77:(x156_8:Int)< (((rd_L1 x9_8 x134_6).length:Int):Int):=of_decide_eq_true (by first|(with_reducible assumption)|assumption)
                                           obtain ⟨go77,co77,eo77,gb77,gl77,cl77,HG77⟩:=Kd.R_form HL488_0.out (by omega)
                                           (first|cases eo77|(injection eo77 with ea_ en_ ec_;(first|subst ea_|(injection ea_ with ea_;subst ea_));subst ec_;clear en_))
                                           have GB77:=Aside0.mk gb77
                                           have GG77:=Aside0.mk HG77
                                           clear gb77 gl77 HG77
                                           (first|simp only [add_plain] at hx490_0|skip)
                                           obtain ⟨hx77_0,hf77_0⟩:=Kd.R_celln 0 HL488_0.out (x156_8:Int) p77 q77
                                           replace p77:=eq_true p77
                                           replace q77:=eq_true q77
                                           have hq79:(x134_6:Int)< (x9_8.length:Int):=(by have h_:(x134_6:Int)< ((x9_8.length:Int):Int):=of_decide_eq_true (by first|(with_reducible assumption)|assumption);first|exact h_|(have e_:=(Kd.S_reads' HO_9.out).1;omega)|simpa only [List.length_set,List.length_set] using h_)
                                           obtain ⟨oki79,ce79,hcl79,hM79,hcc79,hok79,hbk79⟩:=Kd.S_borrow HO_9.out [] (x134_6:Int) (of_decide_eq_true (by first|(with_reducible assumption)|assumption)) hq79
                                           obtain ⟨ve79_0,rfl,ge79_0⟩:=hM79
                                           have hv79:=hcc79 0 _ rfl
                                           rw [Nat.add_zero,show ((Kd.slice 3 (Kd.int .i64))).sz=1 from rfl,Nat.mul_one] at hv79
                                           replace hv79:=Option.some.inj (hv79.symm.trans HX488_0.out)
                                           subst hv79
                                           clear hcc79 hcl79
                                           replace ge79_0:=(show Kd.R (Kd.int .i64) 3 _ _ _ _ (rd_L1 x9_8 x134_6) from ge79_0)
                                           have HP79:=Kd.R_putg ge79_0 (x156_8:Int) (Int.tmod (wrap64 ((rd (rd_L1 x9_8 x134_6) x156_8)+(wrap64 ((wrap64 (a1 - (rd (rd_L1 x9_6 x134_6) x15_2)))*(rd (rd_L1 x9_8 x14_2) x156_8))))) a1)
                                           rw [← Ny493.out] at HP79
                                           have HS79:=hbk79 HP79.2 (fun k_ e_=>by injection e_ with e_;subst e_;exact ge79_0.1 _ rfl) (x':=y493) (Kd.M_row HP79.1)
                                           rw [← Ny495.out] at HS79
                                           have HQ79:=Aside0.mk HS79
                                           clear HP79 HS79 hbk79 hok79
                                           refine start_ (n:=28) (S:=fun w'=>w'.cell? (ad470.add (x134_6).toNat)=some (.slice (some (⟨go77,0,none⟩:Addr)) (rd_L1 x9_8 x134_6).length c488_0)∧w'.cell? (ad470.add (x134_6).toNat)=some (.slice (some (⟨go77,0,none⟩:Addr)) (rd_L1 x9_8 x134_6).length c488_0)∧w'.cell? ⟨go77,(x156_8).toNat,none⟩=some (.int .i64 (rd (rd_L1 x9_8 x134_6) x156_8))∧w'.cell? (ad470.add (x14_2).toNat)=some (.slice (some ad492) (rd_L1 x9_8 x14_2).length c491_0)∧w'.cell? (ad492.add (x156_8).toNat)=some (.int .i64 (rd (rd_L1 x9_8 x14_2) x156_8))) (ds:=[27]) #[false,false,false,false,false,false,false,false,false,false,false,false,false,false,false,false,false,false,false,false,false,false,false,false,false,false,false,false] (by kernel_rfl) rfl rfl ⟨hx488_0,hx489_0,hx490_0,hx491_0,hx492_0⟩ (fun hHeld=>?_);refine with_tabW spec_clSteps.tab38 spec_clSteps.bits38 (fun HT_ HW_=>?_)
                                           generalize wr.drew=w78 at HO_9 HO_12 HB GG77 HL488_0 HL489_0 HL491_0 HQ79 HR488_0 HR489_0 HR491_0 HX488_0 HX489_0 HX491_0 hf77_0 hx488_0 hx489_0 hx490_0 hx491_0 hx492_0 hx77_0 hHeld ⊢
                                           refine pure_ (i:=0) (N:=some 159) (v:=?_) (a':=?_) #[true,false,false,false,false,false,false,false,false,false,false,false,false,false,false,false,false,false,false,false,false,false,false,false,false,false,false,false] rfl rfl (any_of HT_.out (by kernel_rfl)) (fun _ _ _ h=>h) (Or.inl ⟨by rfl,?_⟩) ?_ ?_
                                           rotate_left
                                           ·intro w'
                                            go_simp
                                            with_reducible rfl
                                           rotate_left
                                           ·simp only [Act.put,List.setIfInBounds_toArray,List.set_cons_zero,List.set_cons_succ,i64_w,i32_w]
                                            rfl
                                           refine pure_ (i:=1) (N:=some 160) (v:=?_) (a':=?_) #[true,true,false,false,false,false,false,false,false,false,false,false,false,false,false,false,false,false,false,false,false,false,false,false,false,false,false,false] rfl rfl (any_of HT_.out (by kernel_rfl)) (fun _ _ _ h=>h) (Or.inl ⟨by rfl,?_⟩) ?_ ?_
                                           rotate_left
                                           ·intro w'
                                            go_simp
                                            with_reducible rfl
                                           rotate_left
                                           ·simp only [Act.put,List.setIfInBounds_toArray,List.set_cons_zero,List.set_cons_succ,i64_w,i32_w]
                                            rfl
                                           refine pure_ (i:=2) (N:=some 161) (v:=?_) (a':=?_) #[true,true,true,false,false,false,false,false,false,false,false,false,false,false,false,false,false,false,false,false,false,false,false,false,false,false,false,false] rfl rfl (any_of HT_.out (by kernel_rfl)) (fun _ _ _ h=>h) (Or.inl ⟨by rfl,?_⟩) ?_ ?_
                                           rotate_left
                                           ·intro w'
                                            go_simp
                                            with_reducible rfl
                                           rotate_left
                                           ·simp only [Act.put,List.setIfInBounds_toArray,List.set_cons_zero,List.set_cons_succ,i64_w,i32_w]
                                            rfl
                                           refine pure_ (i:=4) (N:=some 163) (v:=?_) (a':=?_) #[true,true,true,false,true,false,false,false,false,false,false,false,false,false,false,false,false,false,false,false,false,false,false,false,false,false,false,false] rfl rfl (any_of HT_.out (by kernel_rfl)) (fun _ _ _ h=>h) (Or.inl ⟨by rfl,?_⟩) ?_ ?_
                                           rotate_left
                                           ·intro w'
                                            go_simp
                                            with_reducible rfl
                                           rotate_left
                                           ·simp only [Act.put,List.setIfInBounds_toArray,List.set_cons_zero,List.set_cons_succ,i64_w,i32_w]
                                            rfl
                                           refine pure_ (i:=5) (N:=some 164) (v:=?_) (a':=?_) #[true,true,true,false,true,true,false,false,false,false,false,false,false,false,false,false,false,false,false,false,false,false,false,false,false,false,false,false] rfl rfl (any_of HT_.out (by kernel_rfl)) (fun _ _ _ h=>h) (Or.inl ⟨by rfl,?_⟩) ?_ ?_
                                           rotate_left
                                           ·intro w'
                                            go_simp
                                            with_reducible rfl
                                           rotate_left
                                           ·simp only [Act.put,List.setIfInBounds_toArray,List.set_cons_zero,List.set_cons_succ,i64_w,i32_w]
                                            rfl
                                           refine pure_ (i:=6) (N:=some 165) (v:=?_) (a':=?_) #[true,true,true,false,true,true,true,false,false,false,false,false,false,false,false,false,false,false,false,false,false,false,false,false,false,false,false,false] rfl rfl (any_of HT_.out (by kernel_rfl)) (fun _ _ _ h=>h) (Or.inl ⟨by rfl,?_⟩) ?_ ?_
                                           rotate_left
                                           ·intro w'
                                            go_simp
                                            with_reducible rfl
                                           rotate_left
                                           ·simp only [Act.put,List.setIfInBounds_toArray,List.set_cons_zero,List.set_cons_succ,i64_w,i32_w]
                                            rfl
                                           refine pure_ (i:=7) (N:=some 166) (v:=?_) (a':=?_) #[true,true,true,false,true,true,true,true,false,false,false,false,false,false,false,false,false,false,false,false,false,false,false,false,false,false,false,false] rfl rfl (any_of HT_.out (by kernel_rfl)) (fun _ _ _ h=>h) (Or.inl ⟨by rfl,?_⟩) ?_ ?_
                                           rotate_left
                                           ·intro w'
                                            go_simp
                                            with_reducible rfl
                                           rotate_left
                                           ·simp only [Act.put,List.setIfInBounds_toArray,List.set_cons_zero,List.set_cons_succ,i64_w,i32_w]
                                            rfl
                                           refine pure_ (i:=9) (N:=some 168) (v:=?_) (a':=?_) #[true,true,true,false,true,true,true,true,false,true,false,false,false,false,false,false,false,false,false,false,false,false,false,false,false,false,false,false] rfl rfl (any_of HT_.out (by kernel_rfl)) (fun _ _ _ h=>h) (Or.inl ⟨by rfl,?_⟩) ?_ ?_
                                           rotate_left
                                           ·intro w'
                                            go_simp
                                            with_reducible rfl
                                           rotate_left
                                           ·simp only [Act.put,List.setIfInBounds_toArray,List.set_cons_zero,List.set_cons_succ,i64_w,i32_w]
                                            rfl
                                           refine pure_ (i:=12) (N:=some 171) (v:=?_) (a':=?_) #[true,true,true,false,true,true,true,true,false,true,false,false,true,false,false,false,false,false,false,false,false,false,false,false,false,false,false,false] rfl rfl (any_of HT_.out (by kernel_rfl)) (fun _ _ _ h=>h) (Or.inl ⟨by rfl,?_⟩) ?_ ?_
                                           rotate_left
                                           ·intro w'
                                            go_simp
                                            with_reducible rfl
                                           rotate_left
                                           ·simp only [Act.put,List.setIfInBounds_toArray,List.set_cons_zero,List.set_cons_succ,i64_w,i32_w]
                                            rfl
                                           refine pure_ (i:=13) (N:=some 172) (v:=?_) (a':=?_) #[true,true,true,false,true,true,true,true,false,true,false,false,true,true,false,false,false,false,false,false,false,false,false,false,false,false,false,false] rfl rfl (any_of HT_.out (by kernel_rfl)) (fun _ _ _ h=>h) (Or.inl ⟨by rfl,?_⟩) ?_ ?_
                                           rotate_left
                                           ·intro w'
                                            go_simp
                                            with_reducible rfl
                                           rotate_left
                                           ·simp only [Act.put,List.setIfInBounds_toArray,List.set_cons_zero,List.set_cons_succ,i64_w,i32_w]
                                            rfl
                                           refine pure_ (i:=14) (N:=some 173) (v:=?_) (a':=?_) #[true,true,true,false,true,true,true,true,false,true,false,false,true,true,true,false,false,false,false,false,false,false,false,false,false,false,false,false] rfl rfl (any_of HT_.out (by kernel_rfl)) (fun _ _ _ h=>h) (Or.inl ⟨by rfl,?_⟩) ?_ ?_
                                           rotate_left
                                           ·intro w'
                                            go_simp
                                            with_reducible rfl
                                           rotate_left
                                           ·simp only [Act.put,List.setIfInBounds_toArray,List.set_cons_zero,List.set_cons_succ,i64_w,i32_w]
                                            rfl
                                           refine pure_ (i:=15) (N:=some 174) (v:=?_) (a':=?_) #[true,true,true,false,true,true,true,true,false,true,false,false,true,true,true,true,false,false,false,false,false,false,false,false,false,false,false,false] rfl rfl (any_of HT_.out (by kernel_rfl)) (fun _ _ _ h=>h) (Or.inl ⟨by rfl,?_⟩) ?_ ?_
                                           rotate_left
                                           ·intro w'
                                            go_simp
                                            with_reducible rfl
                                           rotate_left
                                           ·simp only [Act.put,List.setIfInBounds_toArray,List.set_cons_zero,List.set_cons_succ,i64_w,i32_w]
                                            rfl
                                           refine pure_ (i:=16) (N:=some 175) (v:=?_) (a':=?_) #[true,true,true,false,true,true,true,true,false,true,false,false,true,true,true,true,true,false,false,false,false,false,false,false,false,false,false,false] rfl rfl (any_of HT_.out (by kernel_rfl)) (fun _ _ _ h=>h) (Or.inl ⟨by rfl,?_⟩) ?_ ?_
                                           rotate_left
                                           ·intro w'
                                            go_simp
                                            with_reducible rfl
                                           rotate_left
                                           ·simp only [Act.put,List.setIfInBounds_toArray,List.set_cons_zero,List.set_cons_succ,i64_w,i32_w]
                                            rfl
                                           refine pure_ (i:=17) (N:=some 176) (v:=?_) (a':=?_) #[true,true,true,false,true,true,true,true,false,true,false,false,true,true,true,true,true,true,false,false,false,false,false,false,false,false,false,false] rfl rfl (any_of HT_.out (by kernel_rfl)) (fun _ _ _ h=>h) (Or.inl ⟨by rfl,?_⟩) ?_ ?_
                                           rotate_left
                                           ·intro w'
                                            go_simp
                                            with_reducible rfl
                                           rotate_left
                                           ·simp only [Act.put,List.setIfInBounds_toArray,List.set_cons_zero,List.set_cons_succ,i64_w,i32_w]
                                            rfl
                                           refine pure_ (i:=19) (N:=some 178) (v:=?_) (a':=?_) #[true,true,true,false,true,true,true,true,false,true,false,false,true,true,true,true,true,true,false,true,false,false,false,false,false,false,false,false] rfl rfl (any_of HT_.out (by kernel_rfl)) (fun _ _ _ h=>h) (Or.inl ⟨by rfl,?_⟩) ?_ ?_
                                           rotate_left
                                           ·intro w'
                                            go_simp
                                            with_reducible rfl
                                           rotate_left
                                           ·simp only [Act.put,List.setIfInBounds_toArray,List.set_cons_zero,List.set_cons_succ,i64_w,i32_w]
                                            rfl
                                           refine pure_ (i:=24) (N:=some 183) (v:=?_) (a':=?_) #[true,true,true,false,true,true,true,true,false,true,false,false,true,true,true,true,true,true,false,true,false,false,false,false,true,false,false,false] rfl rfl (any_of HT_.out (by kernel_rfl)) (fun _ _ _ h=>h) (Or.inl ⟨by rfl,?_⟩) ?_ ?_
                                           rotate_left
                                           ·intro w'
                                            go_simp
                                            with_reducible rfl
                                           rotate_left
                                           ·simp only [Act.put,List.setIfInBounds_toArray,List.set_cons_zero,List.set_cons_succ,i64_w,i32_w]
                                            rfl
                                           refine take_ (i:=3) (N:=some 162) (v:=?_) (a':=?_) #[true,true,true,true,true,true,true,true,false,true,false,false,true,true,true,true,true,true,false,true,false,false,false,false,true,false,false,false] rfl rfl (take_ofW HT_.out HW_.out (by kernel_rfl)) (fun _ _ _ h=>h) (Or.inl ⟨by rfl,?_⟩) hHeld ?_ ?_
                                           rotate_left
                                           ·rintro w' ⟨s0,s1,s2,s3,s4⟩
                                            go_simp
                                            with_reducible rfl
                                           rotate_left
                                           ·simp only [Act.put,List.setIfInBounds_toArray,List.set_cons_zero,List.set_cons_succ,i64_w,i32_w]
                                            rfl
                                           refine take_ (i:=8) (N:=some 167) (v:=?_) (a':=?_) #[true,true,true,true,true,true,true,true,true,true,false,false,true,true,true,true,true,true,false,true,false,false,false,false,true,false,false,false] rfl rfl (take_ofW HT_.out HW_.out (by kernel_rfl)) (fun _ _ _ h=>h) (Or.inl ⟨by rfl,?_⟩) hHeld ?_ ?_
                                           rotate_left
                                           ·rintro w' ⟨s0,s1,s2,s3,s4⟩
                                            go_simp
                                            with_reducible rfl
                                           rotate_left
                                           ·simp only [Act.put,List.setIfInBounds_toArray,List.set_cons_zero,List.set_cons_succ,i64_w,i32_w]
                                            rfl
                                           refine pure_ (i:=10) (N:=some 169) (v:=?_) (a':=?_) #[true,true,true,true,true,true,true,true,true,true,true,false,true,true,true,true,true,true,false,true,false,false,false,false,true,false,false,false] rfl rfl (any_of HT_.out (by kernel_rfl)) (fun _ _ _ h=>h) (Or.inl ⟨by rfl,?_⟩) ?_ ?_
                                           rotate_left
                                           ·intro w'
                                            go_simp
                                            with_reducible rfl
                                           rotate_left
                                           ·simp only [Act.put,List.setIfInBounds_toArray,List.set_cons_zero,List.set_cons_succ,i64_w,i32_w]
                                            rfl
                                           refine take_ (i:=11) (N:=some 170) (v:=?_) (a':=?_) #[true,true,true,true,true,true,true,true,true,true,true,true,true,true,true,true,true,true,false,true,false,false,false,false,true,false,false,false] rfl rfl (take_ofW HT_.out HW_.out (by kernel_rfl)) (fun _ _ _ h=>h) (Or.inl ⟨by rfl,?_⟩) hHeld ?_ ?_
                                           rotate_left
                                           ·rintro w' ⟨s0,s1,s2,s3,s4⟩
                                            go_simp
                                            with_reducible rfl
                                           rotate_left
                                           ·simp only [Act.put,List.setIfInBounds_toArray,List.set_cons_zero,List.set_cons_succ,i64_w,i32_w]
                                            rfl
                                           refine take_ (i:=18) (N:=some 177) (v:=?_) (a':=?_) #[true,true,true,true,true,true,true,true,true,true,true,true,true,true,true,true,true,true,true,true,false,false,false,false,true,false,false,false] rfl rfl (take_ofW HT_.out HW_.out (by kernel_rfl)) (fun _ _ _ h=>h) (Or.inl ⟨by rfl,?_⟩) hHeld ?_ ?_
                                           rotate_left
                                           ·rintro w' ⟨s0,s1,s2,s3,s4⟩
                                            go_simp
                                            with_reducible rfl
                                           rotate_left
                                           ·simp only [Act.put,List.setIfInBounds_toArray,List.set_cons_zero,List.set_cons_succ,i64_w,i32_w]
                                            rfl
                                           refine pure_ (i:=20) (N:=some 179) (v:=?_) (a':=?_) #[true,true,true,true,true,true,true,true,true,true,true,true,true,true,true,true,true,true,true,true,true,false,false,false,true,false,false,false] rfl rfl (any_of HT_.out (by kernel_rfl)) (fun _ _ _ h=>h) (Or.inl ⟨by rfl,?_⟩) ?_ ?_
                                           rotate_left
                                           ·intro w'
                                            go_simp
                                            with_reducible rfl
                                           rotate_left
                                           ·simp only [Act.put,List.setIfInBounds_toArray,List.set_cons_zero,List.set_cons_succ,i64_w,i32_w]
                                            rfl
                                           refine take_ (i:=21) (N:=some 180) (v:=?_) (a':=?_) #[true,true,true,true,true,true,true,true,true,true,true,true,true,true,true,true,true,true,true,true,true,true,false,false,true,false,false,false] rfl rfl (take_ofW HT_.out HW_.out (by kernel_rfl)) (fun _ _ _ h=>h) (Or.inl ⟨by rfl,?_⟩) hHeld ?_ ?_
                                           rotate_left
                                           ·rintro w' ⟨s0,s1,s2,s3,s4⟩
                                            go_simp
                                            with_reducible rfl
                                           rotate_left
                                           ·simp only [Act.put,List.setIfInBounds_toArray,List.set_cons_zero,List.set_cons_succ,i64_w,i32_w]
                                            rfl
                                           refine pure_ (i:=22) (N:=some 181) (v:=?_) (a':=?_) #[true,true,true,true,true,true,true,true,true,true,true,true,true,true,true,true,true,true,true,true,true,true,true,false,true,false,false,false] rfl rfl (any_of HT_.out (by kernel_rfl)) (fun _ _ _ h=>h) (Or.inl ⟨by rfl,?_⟩) ?_ ?_
                                           rotate_left
                                           ·intro w'
                                            go_simp
                                            with_reducible rfl
                                           rotate_left
                                           ·simp only [Act.put,List.setIfInBounds_toArray,List.set_cons_zero,List.set_cons_succ,i64_w,i32_w]
                                            rfl
                                           refine pure_ (i:=23) (N:=some 182) (v:=?_) (a':=?_) #[true,true,true,true,true,true,true,true,true,true,true,true,true,true,true,true,true,true,true,true,true,true,true,true,true,false,false,false] rfl rfl (any_of HT_.out (by kernel_rfl)) (fun _ _ _ h=>h) (Or.inl ⟨by rfl,?_⟩) ?_ ?_
                                           rotate_left
                                           ·intro w'
                                            go_simp
                                            with_reducible rfl
                                           rotate_left
                                           ·simp only [Act.put,List.setIfInBounds_toArray,List.set_cons_zero,List.set_cons_succ,i64_w,i32_w]
                                            rfl
                                           refine pure_ (i:=25) (N:=some 184) (v:=?_) (a':=?_) #[true,true,true,true,true,true,true,true,true,true,true,true,true,true,true,true,true,true,true,true,true,true,true,true,true,true,false,false] rfl rfl (any_of HT_.out (by kernel_rfl)) (fun _ _ _ h=>h) (Or.inl ⟨by rfl,?_⟩) ?_ ?_
                                           rotate_left
                                           ·intro w'
                                            go_simp
                                            with_reducible rfl
                                           rotate_left
                                           ·simp only [Act.put,List.setIfInBounds_toArray,List.set_cons_zero,List.set_cons_succ,i64_w,i32_w]
                                            rfl
                                           refine pure_ (i:=26) (N:=some 185) (v:=?_) (a':=?_) #[true,true,true,true,true,true,true,true,true,true,true,true,true,true,true,true,true,true,true,true,true,true,true,true,true,true,true,false] rfl rfl (any_of HT_.out (by kernel_rfl)) (fun _ _ _ h=>h) (Or.inl ⟨by rfl,?_⟩) ?_ ?_
                                           rotate_left
                                           ·intro w'
                                            go_simp
                                            with_reducible rfl
                                           rotate_left
                                           ·simp only [Act.put,List.setIfInBounds_toArray,List.set_cons_zero,List.set_cons_succ,i64_w,i32_w]
                                            rfl
                                           refine last_ (i:=27) (N:=none) #[true,true,true,true,true,true,true,true,true,true,true,true,true,true,true,true,true,true,true,true,true,true,true,true,true,true,true,true] rfl rfl (one_of HT_.out (by kernel_rfl)) (by decide) (fun K hK=>?_)
                                           refine skip_ (w1:=?_) (by rfl) rfl ?_ ?_
                                           rotate_left
                                           ·go_simp
                                            rfl
                                           refine hK.out _ _ ?_
                                           clear hK K
                                           refine done_ (done_of HT_.out (by kernel_rfl)) ?_
                                           try go_wp2
                                           (try simp only [← hl9_8])
                                           go_roundg k8
                                           case measure=>have:=HK1.out;have:=HK2.out;have:=HJ12.out;have:=HJ23.out;have:=HK5.out;have:=HK6.out;have:=HJ62.out;have:=HK8.out;omega
                                           case rel=>exact ⟨(y495),(x12_8),(wrap64 (x156_8+1)),(by first|rfl|(simp;done)|(simp [*];done)),H',⟨by have:=HK1.out;have:=HK2.out;have:=HJ12.out;have:=HJ23.out;have:=HK5.out;have:=HK6.out;have:=HJ62.out;have:=HK8.out;omega⟩,⟨by (try simp only [hl9_23]);(try simp only [hl9_5]);(try simp only [hl9_6]);(try simp only [hl9_8]);(with_reducible repeat (first|apply Kd.S_alloc|apply Kd.S_drewN|apply Kd.S_drew));exact HQ79.out⟩,⟨by (try simp only [hl9_23]);(try simp only [hl9_5]);(try simp only [hl9_6]);(try simp only [hl9_8]);(with_reducible repeat (first|apply Kd.R_alloc|apply Kd.R_drewN|apply Kd.R_drew));exact Kd.R_mono (Kd.R_far (p:=⟨go77,(x156_8:Int).toNat,none⟩) (Kd.R_far1 HO_12.out rfl ((HL488_0.out.1 _ rfl).1)) (fun _ hk=>hk.2) (.int .i64 (Int.tmod (wrap64 ((rd (rd_L1 x9_8 x134_6) x156_8)+(wrap64 ((wrap64 (a1 - (rd (rd_L1 x9_6 x134_6) x15_2)))*(rd (rd_L1 x9_8 x14_2) x156_8))))) a1))) (fun _ hk=>trivial)⟩,⟨by repeat (first|(with_reducible first|exact HB.out|apply below_alloc|apply pw_below_drewN|apply below_drew1|refine below_set ?_ GB77.out)|exact HB.out)⟩⟩
                                         ·rw [if_neg c75] at H
                                          exact absurd H (by simp)
                                        ·rw [if_neg c74] at H
                                         exact absurd H (by simp)
                                       ·rw [if_neg c73] at H
                                        exact absurd H (by simp)
                                      ·rw [if_neg c72] at H
                                       exact absurd H (by simp)
                                     ·rw [if_neg c71] at H
                                      exact absurd H (by simp)
                                    ·rw [if_neg c70] at H
                                     exact absurd H (by simp)
                                   ·rw [if_neg c69] at H
                                    exact absurd H (by simp)
                                  ·rw [if_neg c68] at H
                                   have c68b0:decide (x156_8< ((rd_L1 x9_6 x134_6).length:Int))=false:=decide_eq_false c68
                                   (try simp only [hl9_23] at c68b0)
                                   (try simp only [hl9_5] at c68b0)
                                   (try simp only [hl9_6] at c68b0)
                                   (try simp only [hl9_8] at c68b0)
                                   clear c68
                                   have H':=Aside0.mk H
                                   clear H
                                   go_wp2
                                   (try simp only [← hl9_6,← hl9_8])
                                   go_roundg k8
                                   case measure=>have:=HK1.out;have:=HK2.out;have:=HJ12.out;have:=HJ23.out;have:=HK5.out;have:=HK6.out;have:=HJ62.out;have:=HK8.out;omega
                                   case rel=>exact ⟨(x9_8),(x12_8),(wrap64 (x134_6+1)),(by first|rfl|(simp;done)|(simp [*];done)),H',⟨by have:=HK1.out;have:=HK2.out;have:=HJ12.out;have:=HJ23.out;have:=HK5.out;have:=HK6.out;have:=HJ62.out;have:=HK8.out;omega⟩,⟨by (try simp only [hl9_23]);(try simp only [hl9_5]);(try simp only [hl9_6]);(try simp only [hl9_8]);(with_reducible repeat (first|apply Kd.S_alloc|apply Kd.S_drewN|apply Kd.S_drew));exact HO_9.out⟩,⟨by (try simp only [hl9_23]);(try simp only [hl9_5]);(try simp only [hl9_6]);(try simp only [hl9_8]);(with_reducible repeat (first|apply Kd.R_alloc|apply Kd.R_drewN|apply Kd.R_drew));exact HO_12.out⟩,⟨by repeat (first|(with_reducible first|exact HB.out|apply below_alloc|apply pw_below_drewN|apply below_drew1)|exact HB.out)⟩⟩
                               ·rw [if_neg c67] at H
                                exact absurd H (by simp)
                              ·rw [if_neg c66] at H
                               exact absurd H (by simp)
                          ·rw [if_neg c62] at H
                           exact absurd H (by simp)
                         ·rw [if_neg c61] at H
                          exact absurd H (by simp)
                        ·rw [if_neg c60] at H
                         exact absurd H (by simp)
                       ·rw [if_neg c59] at H
                        exact absurd H (by simp)
                      ·rw [if_neg c58] at H
                       have c58b0:decide (x134_6< (x9_5.length:Int))=false:=decide_eq_false c58
                       (try simp only [hl9_23] at c58b0)
                       (try simp only [hl9_5] at c58b0)
                       (try simp only [hl9_6] at c58b0)
                       clear c58
                       by_cases c81:x12_6.length< 17592186044416
                       ·rw [if_pos c81] at H
                        have LMc81:=Aside0.mk c81
                        clear c81
                        obtain ⟨y482,hy482⟩:∃ y_:List Int,y_=(x12_6++[x15_2]):=⟨_,rfl⟩
                        replace H:(spec_clSteps.l1 k6 a1 a2 x9_6 y482 (Int.tmod (wrap64 (x13_23*(rd (rd_L1 x9_23 x14_2) x15_2))) a1) (wrap64 (x14_2+1)) (wrap64 (x15_2+1)))=some (r1,r2,r3):=by first|(rw [hy482];with_reducible exact H)|(have H2_:=(Option.bind_some _ _).symm.trans H;rw [hy482];with_reducible exact H2_)|(have H2_:=(Option.bind_some _ _).symm.trans H;with_reducible exact H2_)|with_reducible exact H|(rw [hy482];exact H)|exact H
                        have Ny482:=Aside0.mk hy482
                        clear hy482
                        have H':=Aside0.mk H
                        clear H
                        go_wp2_with (first|((with_reducible refine gate_builtin (b:=.append) (xs:=#[.tmp 188,.tmp 190]) rfl ?_);at_builtin;refine Kd.R_append (Kd.int .i64) (w0:=w) w.heap.size rfl (.tmp 188) (.tmp 190) 22 3 (.int .i64 0) 8 rfl Try.underlying22 info3 rfl (by decide) (by omega) u12 x12_6 x15_2 [.int .i64 x15_2] (fun _=>True) (fun _=>False) rfl rfl ?aP (fun _ hk=>hk.elim) ?aF ?aO ?aB ?aS ?aL ?_;(case aP=>exact rfl);(case aB=>exact (by repeat (first|(with_reducible first|exact HB.out|apply below_alloc|apply pw_below_drewN|apply below_drew1)|exact HB.out)));(case aF=>exact (fun _ _=>trivial));(case aO=>exact (by (with_reducible repeat (first|apply Kd.R_alloc|apply Kd.R_drewN|apply Kd.R_drew));exact HO_12.out));(case aS=>exact (below_size (by repeat (first|(with_reducible first|exact HB.out|apply below_alloc|apply pw_below_drewN|apply below_drew1)|exact HB.out))));(case aL=>have:=LMc81.out;omega);intro v483 w82 ho hb hg hat;rw [← Ny482.out] at ho;have n0_:=Aside0.mk (Kd.S_after (ok:=(fun _=>True)) (by (with_reducible repeat (first|apply Kd.S_alloc|apply Kd.S_drewN|apply Kd.S_drew));exact Kd.S_mono HO_9.out (fun _ hk=>⟨trivial,hk⟩)) hg hat);have n1_:=Aside0.mk (hb);have n2_:=Aside0.mk (ho);clear HO_9;clear HB;clear HO_12;have HO_9:=n0_;have HB:=n1_;have HO484:=n2_;clear n0_ n1_ n2_;clear ho hb hg hat))
                        (try simp only [← hl9_23,← hl9_5,← hl9_6])
                        go_roundg k6
                        case measure=>have:=HK1.out;have:=HK2.out;have:=HJ12.out;have:=HJ23.out;have:=HK5.out;have:=HK6.out;omega
                        case rel=>exact ⟨(x9_6),(y482),((Int.tmod (wrap64 (x13_23*(rd (rd_L1 x9_23 x14_2) x15_2))) a1)),(wrap64 (x14_2+1)),(wrap64 (x15_2+1)),(by first|rfl|(simp;done)|(simp [*];done)),(by first|rfl|(simp;done)|(simp [*];done)),(by first|rfl|(simp;done)|(simp [*];done)),H',⟨by have:=HK1.out;have:=HK2.out;have:=HJ12.out;have:=HJ23.out;have:=HK5.out;have:=HK6.out;omega⟩,⟨by (try simp only [hl9_23]);(try simp only [hl9_5]);(try simp only [hl9_6]);(with_reducible repeat (first|apply Kd.S_alloc|apply Kd.S_drewN|apply Kd.S_drew));exact Kd.S_mono HO_9.out (fun _ hk=>hk.2)⟩,⟨by (try simp only [hl9_23]);(try simp only [hl9_5]);(try simp only [hl9_6]);(with_reducible repeat (first|apply Kd.R_alloc|apply Kd.R_drewN|apply Kd.R_drew));exact HO484.out⟩,⟨by repeat (first|(with_reducible first|exact HB.out|apply below_alloc|apply pw_below_drewN|apply below_drew1)|exact HB.out)⟩⟩
                       ·rw [if_neg c81] at H
                        exact absurd H (by simp)
               ·rw [if_neg c45] at H
                exact absurd H (by simp)
              ·rw [if_neg c44] at H
               exact absurd H (by simp)
             ·rw [if_neg c43] at H
              exact absurd H (by simp)
            ·rw [if_neg c42] at H
             exact absurd H (by simp)
      ·rw [if_neg c12] at H
       have c12b0:decide (x15_2< a2)=false:=decide_eq_false c12
       clear c12
       by_cases c83:0≤x14_2
       ·rw [if_pos c83] at H
        have c83b0:=eq_true c83
        have c83b1:decide (0≤x14_2)=true:=decide_eq_true c83
        clear c83
        by_cases c84:x14_2≤(x9_2.length:Int)
        ·rw [if_pos c84] at H
         have c84b0:=eq_true c84
         have c84b1:decide (x14_2≤(x9_2.length:Int))=true:=decide_eq_true c84
         clear c84
         obtain ⟨y457,hy457⟩:∃ y_:List (List Int),y_=(x9_2.take (x14_2:Int).toNat):=⟨_,rfl⟩
         replace H:(some (y457,x12_2,x13_2))=some (r1,r2,r3):=by first|(rw [hy457];with_reducible exact H)|(have H2_:=(Option.bind_some _ _).symm.trans H;rw [hy457];with_reducible exact H2_)|(have H2_:=(Option.bind_some _ _).symm.trans H;with_reducible exact H2_)|with_reducible exact H|(rw [hy457];exact H)|exact H
         have Ny457:=Aside0.mk hy457
         clear hy457
         simp only [Option.some.injEq,Prod.mk.injEq] at H
         obtain ⟨rfl,rfl,rfl⟩:=H
         obtain ⟨Ao85,co85,eo85⟩:=Kd.S_slice HO_9.out
         subst eo85
         have q86:(x14_2:Int)≤((x9_2.length:Int):Int):=of_decide_eq_true (by first|(with_reducible assumption)|assumption)
         obtain ⟨i086,hi086,_,hsz86,_⟩:=info_parts info22
         have hcut86:=cut_to (P:=Try.prog) 44 22 .i64 Try.underlying44 hi086 Ao85 x9_2.length co85 x14_2 (of_decide_eq_true (by first|(with_reducible assumption)|assumption)) q86 (Kd.S_reads' HO_9.out).2.1
         have hr86:=Kd.S_take (m:=(x14_2:Int).toNat) HO_9.out (by omega)
         have hy86:y457.length=(x14_2:Int).toNat:=(by rw [Ny457.out,List.length_take];omega)
         rw [← Ny457.out] at hr86
         rw [← hy86] at hr86 hcut86
         clear hy86 hi086 hsz86 HO_9
         have HO459:=Aside0.mk hr86
         clear hr86
         replace q86:=eq_true q86
         go_wp2
         go_ret3
         exact ⟨_,_,by first|rfl|(simp [errW_none,errW_some]<;>rfl)|(simp [*,errW_none,errW_some]<;>rfl),by (with_reducible repeat (first|apply Kd.S_alloc|apply Kd.S_drewN|apply Kd.S_drew));exact HO459.out,by (with_reducible repeat (first|apply Kd.R_alloc|apply Kd.R_drewN|apply Kd.R_drew));exact HO_12.out,by repeat (first|(with_reducible first|exact HB.out|apply below_alloc|apply pw_below_drewN|apply below_drew1)|exact HB.out)⟩
        ·rw [if_neg c84] at H
         exact absurd H (by simp)
       ·rw [if_neg c83] at H
        exact absurd H (by simp)
end Go.Proofs.Ytbbdjoahdbjljaa.P
