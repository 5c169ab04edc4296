-- Written by a program of this session (wip/mp.py), which runs the kit's print with contracts of the session's own.
import Derived.Test.YtoobofnpdiapgaaPx0
import Derived.Test.YtoobofnpdiapgaaPx1
namespace Go.Proofs.Ytoobofnpdiapgaa.P
open Go.RowKit Go.Proofs.YtoobofnpdiapgaaW.PrintWords Go.Proofs.YtoobofnpdiapgaaW.PrintLast Go.Proofs.YtoobofnpdiapgaaW.PrintMore
attribute [local go_sem] max2_int min2_int max_two min_two max_three min_three max_four min_four -- for this text's walks alone
set_option linter.unusedVariables false
set_option linter.unusedSimpArgs false
/-! ### spec_paEven: function 62 -/
def spec_paEven.l0:Nat→Int→List (List Int)→Int→Int→Option (Bool)
 |0,_,_,_,_=>none
 |k+1,x5,x8,x9,x10=>if x10< x9 then (if 0≤x10 then (if x10< (x8.length:Int) then (if 0< ((rd_L1 x8 x10).length:Int) then (if 0≤(rd (rd_L1 x8 x10) 0) then (if 1< ((rd_L1 x8 x10).length:Int) then (if 0≤(rd (rd_L1 x8 x10) 1) then (spec_paEven.l0 k (Go.bits .xor .i64 x5 (Go.bits .or .i64 (shl .i64 1 (rd (rd_L1 x8 x10) 0)) (shl .i64 1 (rd (rd_L1 x8 x10) 1)))) x8 x9 (wrap64 (x10+1))) else (none)) else (none)) else (none)) else (none)) else (none)) else (none)) else (some (x5==0))
def spec_paEven.f (k:Nat) (l0_0:List Int) (a0_1:Bool) (l1:List (List Int)):Option (Bool):=spec_paEven.l0 k 0 l1 (l1.length:Int) 0
set_option maxHeartbeats 8000000 in
set_option maxRecDepth 100000 in
theorem spec_paEven.calls (k:Nat) (A0_0:Option Addr) (c0_0:Nat) (l0_0:List Int) (a0_1:Bool) (A1:Option Addr) (c1:Nat) (l1:List (List Int)) (r:Bool) (w:World) (hr0_0:Kd.C (Kd.int .i64) w A0_0 l0_0.length l0_0) (hc0_0:l0_0.length≤c0_0) (hr1:Kd.C (Kd.slice 3 (Kd.int .i64)) w A1 l1.length l1) (hc1:l1.length≤c1) (h:spec_paEven.f k l0_0 a0_1 l1=some r):
  Calls Try.prog 62 #[.agg #[.slice A0_0 l0_0.length c0_0,.bool a0_1],.slice A1 l1.length c1] w fun e w'=>e=.returned (.bool r)∧Below w.heap.size w w':=by
 have hu28:=Try.underlying28
 have HR0_0:=Aside0.mk hr0_0
 have HC0_0:=Aside0.mk hc0_0
 clear hr0_0 hc0_0
 have HR1:=Aside0.mk hr1
 have HC1:=Aside0.mk hc1
 clear hr1 hc1
 have HB:=Aside0.mk (Below.refl w.heap.size w)
 have H:(spec_paEven.l0 k 0 l1 (l1.length:Int) 0)=some r:=h
 clear h
 have H':=Aside0.mk H
 clear H
 go_enter Try.func62,Try.ntmps62
 go_wp2_with (first|((with_reducible refine gate_dst (N:=2) rfl ?_);refine box_event ?hg (N:=2) ?hd (cs:=#[.slice A0_0 l0_0.length c0_0,.bool a0_1]) (t:=28) ?hr ?_;(case hd=>rfl);(case hg=>rfl);(case hr=>first|(go_simp;done)|(go_simp;rfl));intro gb588 hg w3 hbox hb;have n0_:=Aside0.mk (below_step (by repeat (first|(with_reducible first|exact HB.out|apply below_alloc|apply pw_below_drewN|apply below_drew1)|exact HB.out)) hb);have n1_:=Aside0.mk (hbox);have n2_:=Aside0.mk ((by rw [hg];exact (below_size (by repeat (first|(with_reducible first|exact HB.out|apply below_alloc|apply pw_below_drewN|apply below_drew1)|exact HB.out))):w.heap.size≤gb588));have n3_:=Aside0.mk ((by rw [hg];exact (below_size (by repeat (first|(with_reducible first|exact HB.out|apply below_alloc|apply pw_below_drewN|apply below_drew1)|exact HB.out))):w.heap.size≤gb588));clear HB;have HB:=n0_;have BK588:=n1_;have GW588:=n2_;have GE588:=n3_;clear n0_ n1_ n2_ n3_;clear hb hbox hg))
 repeat (go_quiet (first|((with_reducible refine gate_dst (N:=2) rfl ?_);refine box_event ?hg (N:=2) ?hd (cs:=#[.slice A0_0 l0_0.length c0_0,.bool a0_1]) (t:=28) ?hr ?_;(case hd=>rfl);(case hg=>rfl);(case hr=>first|(go_simp;done)|(go_simp;rfl));intro gb588 hg w3 hbox hb;have n0_:=Aside0.mk (below_step (by repeat (first|(with_reducible first|exact HB.out|apply below_alloc|apply pw_below_drewN|apply below_drew1)|exact HB.out)) hb);have n1_:=Aside0.mk (hbox);have n2_:=Aside0.mk ((by rw [hg];exact (below_size (by repeat (first|(with_reducible first|exact HB.out|apply below_alloc|apply pw_below_drewN|apply below_drew1)|exact HB.out))):w.heap.size≤gb588));have n3_:=Aside0.mk ((by rw [hg];exact (below_size (by repeat (first|(with_reducible first|exact HB.out|apply below_alloc|apply pw_below_drewN|apply below_drew1)|exact HB.out))):w.heap.size≤gb588));clear HB;have HB:=n0_;have BK588:=n1_;have GW588:=n2_;have GE588:=n3_;clear n0_ n1_ n2_ n3_;clear hb hbox hg));try go_wp2_with (first|((with_reducible refine gate_dst (N:=2) rfl ?_);refine box_event ?hg (N:=2) ?hd (cs:=#[.slice A0_0 l0_0.length c0_0,.bool a0_1]) (t:=28) ?hr ?_;(case hd=>rfl);(case hg=>rfl);(case hr=>first|(go_simp;done)|(go_simp;rfl));intro gb588 hg w3 hbox hb;have n0_:=Aside0.mk (below_step (by repeat (first|(with_reducible first|exact HB.out|apply below_alloc|apply pw_below_drewN|apply below_drew1)|exact HB.out)) hb);have n1_:=Aside0.mk (hbox);have n2_:=Aside0.mk ((by rw [hg];exact (below_size (by repeat (first|(with_reducible first|exact HB.out|apply below_alloc|apply pw_below_drewN|apply below_drew1)|exact HB.out))):w.heap.size≤gb588));have n3_:=Aside0.mk ((by rw [hg];exact (below_size (by repeat (first|(with_reducible first|exact HB.out|apply below_alloc|apply pw_below_drewN|apply below_drew1)|exact HB.out))):w.heap.size≤gb588));clear HB;have HB:=n0_;have BK588:=n1_;have GW588:=n2_;have GE588:=n3_;clear n0_ n1_ n2_ n3_;clear hb hbox hg)))
 go_loopg [5,10] k (fun kq v5 v10 w'=>∃ (x5_1:Int) (x10_1:Int),v5=.int .i64 x5_1∧v10=.int .i64 x10_1∧Aside0 (spec_paEven.l0 kq x5_1 l1 (l1.length:Int) x10_1=some r)∧Aside0 (kq≤k)∧Aside0 (w'.heap[gb588]?=some (.cells #[(.slice A0_0 l0_0.length c0_0),.bool a0_1] 28 (0,0)))∧Aside0 (Below w.heap.size w w'))
 case atStart=>exact ⟨(0),(0),(by first|rfl|(simp;done)|(simp [*];done)),(by first|rfl|(simp;done)|(simp [*];done)),H',⟨Nat.le_refl _⟩,⟨by (with_reducible repeat (first|refine blk_drewN ?_ _|refine blk_drew ?_|refine blk_alloc ?_ _));exact BK588.out⟩,⟨by repeat (first|(with_reducible first|exact HB.out|apply below_alloc|apply pw_below_drewN|apply below_drew1|refine below_set ?_ GE588.out)|exact HB.out)⟩⟩
 case round=>
  clear H'
  (try clear c1);(try clear p2)
  obtain ⟨x5_1,x10_1,rfl,rfl,HA,HK1,BK588,HB⟩:=hrel
  cases gk with
  |zero=>exact absurd HA.out (by simp [spec_paEven.l0])
  |succ k1=>
   have H:=HA.out
   clear HA
   simp only [spec_paEven.l0] at H
   by_cases c4:x10_1< (l1.length:Int)
   ·rw [if_pos c4] at H
    have c4b0:decide (x10_1< (l1.length:Int))=true:=decide_eq_true c4
    clear c4
    by_cases c5:0≤x10_1
    ·rw [if_pos c5] at H
     have c5b0:decide (0≤x10_1)=true:=decide_eq_true c5
     clear c5
     by_cases c6:x10_1< (l1.length:Int)
     ·rw [if_pos c6] at H
      have c6b0:decide (x10_1< (l1.length:Int))=true:=decide_eq_true c6
      clear c6
      by_cases c7:0< ((rd_L1 l1 x10_1).length:Int)
      ·rw [if_pos c7] at H
       have c7b0:decide (0< ((rd_L1 l1 x10_1).length:Int))=true:=decide_eq_true c7
       have c7b1:decide (0< (rd_L1 l1 x10_1).length)=true:=decide_eq_true (by omega)
       clear c7
       by_cases c8:0≤(rd (rd_L1 l1 x10_1) 0)
       ·rw [if_pos c8] at H
        have c8b0:=eq_true c8
        have c8b1:decide (0≤(rd (rd_L1 l1 x10_1) 0))=true:=decide_eq_true c8
        clear c8
        obtain ⟨ji9,hji9⟩:∃ j_:Int,(shl .i64 1 (rd (rd_L1 l1 x10_1) 0))=j_:=⟨_,rfl⟩
        replace H:(if 1< ((rd_L1 l1 x10_1).length:Int) then (if 0≤(rd (rd_L1 l1 x10_1) 1) then (spec_paEven.l0 k1 (Go.bits .xor .i64 x5_1 (Go.bits .or .i64 (ji9) (shl .i64 1 (rd (rd_L1 l1 x10_1) 1)))) l1 (l1.length:Int) (wrap64 (x10_1+1))) else (none)) else (none))=some r:=by first|(rw [hji9] at H;exact H)|(simp only [hji9] at H ⊢;exact H)
        have hji9_:(IntKind.i64.wrap (1*2 ^ min (rd (rd_L1 l1 x10_1) 0).toNat 64))=ji9:=hji9
        have hji9z:(rd (rd_L1 l1 x10_1) 0)≤64→(IntKind.i64.wrap (1*2 ^ (rd (rd_L1 l1 x10_1) 0).toNat))=ji9:=shl_small hji9
        have hji9u:(IntKind.i64.wrap (2 ^ min (rd (rd_L1 l1 x10_1) 0).toNat 64))=ji9:=by have h_:=hji9_;rw [Int.one_mul] at h_;exact h_
        have hji9v:(rd (rd_L1 l1 x10_1) 0)≤64→(IntKind.i64.wrap (2 ^ (rd (rd_L1 l1 x10_1) 0).toNat))=ji9:=fun hle_=>by have h_:=hji9z hle_;rw [Int.one_mul] at h_;exact h_
        have hji9y:(wrap64 (1*2 ^ min (rd (rd_L1 l1 x10_1) 0).toNat 64))=ji9:=(i64_w _).symm.trans hji9_
        have hji9x:(rd (rd_L1 l1 x10_1) 0)≤64→(wrap64 (1*2 ^ (rd (rd_L1 l1 x10_1) 0).toNat))=ji9:=fun h_=>(i64_w _).symm.trans (hji9z h_)
        by_cases c10:1< ((rd_L1 l1 x10_1).length:Int)
        ·rw [if_pos c10] at H
         have c10b0:decide (1< ((rd_L1 l1 x10_1).length:Int))=true:=decide_eq_true c10
         have c10b1:decide (1< (rd_L1 l1 x10_1).length)=true:=decide_eq_true (by omega)
         clear c10
         by_cases c11:0≤(rd (rd_L1 l1 x10_1) 1)
         ·rw [if_pos c11] at H
          have c11b0:=eq_true c11
          have c11b1:decide (0≤(rd (rd_L1 l1 x10_1) 1))=true:=decide_eq_true c11
          clear c11
          obtain ⟨ji12,hji12⟩:∃ j_:Int,(shl .i64 1 (rd (rd_L1 l1 x10_1) 1))=j_:=⟨_,rfl⟩
          replace H:(spec_paEven.l0 k1 (Go.bits .xor .i64 x5_1 (Go.bits .or .i64 (ji9) (ji12))) l1 (l1.length:Int) (wrap64 (x10_1+1)))=some r:=by first|(rw [hji12] at H;exact H)|(simp only [hji12] at H ⊢;exact H)
          have hji12_:(IntKind.i64.wrap (1*2 ^ min (rd (rd_L1 l1 x10_1) 1).toNat 64))=ji12:=hji12
          have hji12z:(rd (rd_L1 l1 x10_1) 1)≤64→(IntKind.i64.wrap (1*2 ^ (rd (rd_L1 l1 x10_1) 1).toNat))=ji12:=shl_small hji12
          have hji12u:(IntKind.i64.wrap (2 ^ min (rd (rd_L1 l1 x10_1) 1).toNat 64))=ji12:=by have h_:=hji12_;rw [Int.one_mul] at h_;exact h_
          have hji12v:(rd (rd_L1 l1 x10_1) 1)≤64→(IntKind.i64.wrap (2 ^ (rd (rd_L1 l1 x10_1) 1).toNat))=ji12:=fun hle_=>by have h_:=hji12z hle_;rw [Int.one_mul] at h_;exact h_
          have hji12y:(wrap64 (1*2 ^ min (rd (rd_L1 l1 x10_1) 1).toNat 64))=ji12:=(i64_w _).symm.trans hji12_
          have hji12x:(rd (rd_L1 l1 x10_1) 1)≤64→(wrap64 (1*2 ^ (rd (rd_L1 l1 x10_1) 1).toNat))=ji12:=fun h_=>(i64_w _).symm.trans (hji12z h_)
          have H':=Aside0.mk H
          clear H
          have p589:0≤(x10_1:Int):=of_decide_eq_true (by first|(with_reducible assumption)|assumption)
          have q589:x10_1< (l1.length:Int):=of_decide_eq_true (by first|(with_reducible assumption)|assumption)
          obtain ⟨ad589,A589_0,c589_0,e589,hx589_0,hl589_0,hi589_0⟩:=at_L1 HR1.out x10_1 p589 q589
          cases e589
          replace hx589_0:=(HB.out.cell (World.block_lt_of_cell? w _ hx589_0)).trans hx589_0
          have HR589_0:=Aside0.mk hi589_0
          have HC589_0:=Aside0.mk hl589_0
          clear hi589_0 hl589_0
          replace p589:=eq_true p589
          replace q589:=eq_true q589
          have p590:0≤(0:Int):=(by omega)
          have q590:0< ((rd_L1 l1 x10_1).length:Int):=of_decide_eq_true (by first|(with_reducible assumption)|assumption)
          obtain ⟨ad590,e590,hx590_0⟩:=Kd.at_int HR589_0.out 0 p590 q590
          cases e590
          have qi590:(0< (rd_L1 l1 x10_1).length)=True:=eq_true (by omega)
          (try rw [show ((0:Int)).toNat=0 from rfl] at hx590_0)
          (try rw [Addr.add_zero'] at hx590_0)
          replace hx590_0:=(HB.out.cell (World.block_lt_of_cell? w _ hx590_0)).trans hx590_0
          replace p590:=eq_true p590
          replace q590:=eq_true q590
          have p591:0≤(1:Int):=(by omega)
          have q591:1< ((rd_L1 l1 x10_1).length:Int):=of_decide_eq_true (by first|(with_reducible assumption)|assumption)
          obtain ⟨ad591,e591,hx591_0⟩:=Kd.at_int HR589_0.out 1 p591 q591
          obtain rfl:ad590=ad591:=(by injection e591)
          (try simp only [show (1:Int).toNat=1 from rfl,Nat.reduceMul,Nat.reduceEqDiff,Go.Addr.add,↓reduceIte] at hx591_0)
          have qi591:(1< (rd_L1 l1 x10_1).length)=True:=eq_true (by omega)
          (try rw [show ((1:Int)).toNat=1 from rfl] at hx591_0)
          replace hx591_0:=(HB.out.cell (World.block_lt_of_cell? w _ hx591_0)).trans hx591_0
          replace p591:=eq_true p591
          replace q591:=eq_true q591
          go_wp2
          repeat (go_quiet (fail);try go_wp2)
          go_roundg k1
          case measure=>have:=HK1.out;omega
          case rel=>exact ⟨(Go.bits .xor .i64 x5_1 (Go.bits .or .i64 (ji9) (ji12))),(wrap64 (x10_1+1)),(by first|rfl|(simp;done)|(simp only [← hji9,← hji12]<;>(first|rfl|simp))|(simp [*];done)),(by first|rfl|(simp;done)|(simp [*];done)),H',⟨by have:=HK1.out;omega⟩,⟨by (with_reducible repeat (first|refine blk_drewN ?_ _|refine blk_drew ?_|refine blk_alloc ?_ _));exact BK588.out⟩,⟨by repeat (first|(with_reducible first|exact HB.out|apply below_alloc|apply pw_below_drewN|apply below_drew1|refine below_set ?_ GE588.out)|exact HB.out)⟩⟩
         ·rw [if_neg c11] at H
          exact absurd H (by simp)
        ·rw [if_neg c10] at H
         exact absurd H (by simp)
       ·rw [if_neg c8] at H
        exact absurd H (by simp)
      ·rw [if_neg c7] at H
       exact absurd H (by simp)
     ·rw [if_neg c6] at H
      exact absurd H (by simp)
    ·rw [if_neg c5] at H
     exact absurd H (by simp)
   ·rw [if_neg c4] at H
    have c4b0:decide (x10_1< (l1.length:Int))=false:=decide_eq_false c4
    clear c4
    obtain rfl:=Option.some.inj H
    go_wp2
    repeat (go_quiet (fail);try go_wp2)
    go_ret
    exact ⟨by first|rfl|(simp [errW_none,errW_some]<;>rfl)|(simp [*,errW_none,errW_some]<;>rfl),by repeat (first|(with_reducible first|exact HB.out|apply below_alloc|apply pw_below_drewN|apply below_drew1|refine below_set ?_ GE588.out)|exact HB.out)⟩
/-! ### spec_grEdges: function 91 -/
mutual
def spec_grEdges.l0:Nat→List (List Int)→List Int→Int→Int→List Int→Bool→Option ((List (List Int)))
 |0,_,_,_,_,_,_=>none
 |k+1,x3,x8,x9,x10,x593000,x593001=>if x10< x9 then (if 0≤x10 then (if x10< (x8.length:Int) then (spec_grEdges.l1 k x3 x10 (rd x8 x10) (wrap64 (x10+1)) x8 x9 x10 x593000 x593001) else (none)) else (none)) else (some x3)
def spec_grEdges.l1:Nat→List (List Int)→Int→Int→Int→List Int→Int→Int→List Int→Bool→Option ((List (List Int)))
 |0,_,_,_,_,_,_,_,_,_=>none
 |k+1,x3,x4,x5,x6,x8,x9,x10,x593000,x593001=>if x6< (x593000.length:Int) then ((spec_grIn.f x5 x6).bind fun t594=>(if t594=true then (if x3.length< 5864062014805 then (spec_grEdges.l1 k (x3++[(([x4,x6]:List Int))]) x4 x5 (wrap64 (x6+1)) x8 x9 x10 x593000 x593001) else (none)) else (spec_grEdges.l1 k x3 x4 x5 (wrap64 (x6+1)) x8 x9 x10 x593000 x593001))) else (spec_grEdges.l0 k x3 x8 x9 (wrap64 (x10+1)) x593000 x593001)
end
def spec_grEdges.f (k:Nat) (l0_0:List Int) (a0_1:Bool):Option ((List (List Int))):=spec_grEdges.l0 k ([]:List (List Int)) l0_0 (l0_0.length:Int) 0 l0_0 a0_1
set_option maxHeartbeats 8000000 in
set_option maxRecDepth 100000 in
theorem spec_grEdges.calls (k:Nat) (A0_0:Option Addr) (c0_0:Nat) (l0_0:List Int) (a0_1:Bool) (r:List (List Int)) (w:World) (hr0_0:Kd.C (Kd.int .i64) w A0_0 l0_0.length l0_0) (hc0_0:l0_0.length≤c0_0) (h:spec_grEdges.f k l0_0 a0_1=some r):
  Calls Try.prog 91 #[.agg #[.slice A0_0 l0_0.length c0_0,.bool a0_1]] w fun e w'=>∃ v0_:Value,e=.returned (v0_)∧Kd.S (Kd.slice 3 (Kd.int .i64)) 22 w' w.heap.size (fun _=>True) v0_ r∧Below w.heap.size w w':=by
 have hu28:=Try.underlying28
 have HR0_0:=Aside0.mk hr0_0
 have HC0_0:=Aside0.mk hc0_0
 clear hr0_0 hc0_0
 have HB:=Aside0.mk (Below.refl w.heap.size w)
 have H:(spec_grEdges.l0 k ([]:List (List Int)) l0_0 (l0_0.length:Int) 0 l0_0 a0_1)=some r:=h
 clear h
 have H':=Aside0.mk H
 clear H
 go_enter Try.func91,Try.ntmps91
 go_wp2_with (first|((with_reducible refine gate_dst (N:=1) rfl ?_);refine box_event ?hg (N:=1) ?hd (cs:=#[.slice A0_0 l0_0.length c0_0,.bool a0_1]) (t:=28) ?hr ?_;(case hd=>rfl);(case hg=>rfl);(case hr=>first|(go_simp;done)|(go_simp;rfl));intro gb592 hg w2 hbox hb;have n0_:=Aside0.mk (below_step (by repeat (first|(with_reducible first|exact HB.out|apply below_alloc|apply pw_below_drewN|apply below_drew1)|exact HB.out)) hb);have n1_:=Aside0.mk (hbox);have n2_:=Aside0.mk ((by rw [hg];exact (below_size (by repeat (first|(with_reducible first|exact HB.out|apply below_alloc|apply pw_below_drewN|apply below_drew1)|exact HB.out))):w.heap.size≤gb592));have n3_:=Aside0.mk ((by rw [hg];exact (below_size (by repeat (first|(with_reducible first|exact HB.out|apply below_alloc|apply pw_below_drewN|apply below_drew1)|exact HB.out))):w.heap.size≤gb592));clear HB;have HB:=n0_;have BK592:=n1_;have GW592:=n2_;have GE592:=n3_;clear n0_ n1_ n2_ n3_;clear hb hbox hg;have hcz3_0:w2.cell? ⟨gb592,0,none⟩=some (.slice A0_0 l0_0.length c0_0):=(blk_cell BK592.out 0).trans rfl;have hcz3_1:w2.cell? ⟨gb592,1,none⟩=some (.bool a0_1):=(blk_cell BK592.out 1).trans rfl;have hfz3_0:=blk_frozen BK592.out 0;have hfz3_1:=blk_frozen BK592.out 1))
 go_loopg [3,10] k (fun kq v3 v10 w'=>∃ (x3_1:List (List Int)) (x10_1:Int),v10=.int .i64 x10_1∧Aside0 (spec_grEdges.l0 kq x3_1 l0_0 (l0_0.length:Int) x10_1 l0_0 a0_1=some r)∧Aside0 (kq≤k)∧Aside0 (Kd.S (Kd.slice 3 (Kd.int .i64)) 22 w' w.heap.size (fun _=>True) v3 x3_1)∧Aside0 (w'.heap[gb592]?=some (.cells #[(.slice A0_0 l0_0.length c0_0),.bool a0_1] 28 (0,0)))∧Aside0 (Below w.heap.size w w'))
 case atStart=>exact ⟨(([]:List (List Int))),(0),(by first|rfl|(simp;done)|(simp [*];done)),H',⟨Nat.le_refl _⟩,⟨by first|exact Kd.S_nil _ _ _ _ _|exact Kd.N_nil _ _ _ _ _|exact Kd.V_nil _ _ _ _ _|exact Kd.Q_nil _ _ _ _ _|exact Kd.R_nil _ _ _ _ _⟩,⟨by (with_reducible repeat (first|refine blk_drewN ?_ _|refine blk_drew ?_|refine blk_alloc ?_ _));exact BK592.out⟩,⟨by repeat (first|(with_reducible first|exact HB.out|apply below_alloc|apply pw_below_drewN|apply below_drew1|refine below_set ?_ GE592.out)|exact HB.out)⟩⟩
 case round=>
  clear H'
  (try clear p2);(try clear hcz3_0);(try clear hcz3_1);(try clear hfz3_0);(try clear hfz3_1)
  obtain ⟨x3_1,x10_1,rfl,HA,HK1,HO_3,BK592,HB⟩:=hrel
  cases gk with
  |zero=>exact absurd HA.out (by simp [spec_grEdges.l0])
  |succ k1=>
   have H:=HA.out
   clear HA
   simp only [spec_grEdges.l0] at H
   by_cases c4:x10_1< (l0_0.length:Int)
   ·rw [if_pos c4] at H
    have c4b0:decide (x10_1< (l0_0.length:Int))=true:=decide_eq_true c4
    clear c4
    by_cases c5:0≤x10_1
    ·rw [if_pos c5] at H
     have c5b0:decide (0≤x10_1)=true:=decide_eq_true c5
     clear c5
     by_cases c6:x10_1< (l0_0.length:Int)
     ·rw [if_pos c6] at H
      have c6b0:decide (x10_1< (l0_0.length:Int))=true:=decide_eq_true c6
      clear c6
      have H':=Aside0.mk H
      clear H
      have p593:0≤(x10_1:Int):=of_decide_eq_true (by first|(with_reducible assumption)|assumption)
      have q593:x10_1< (l0_0.length:Int):=of_decide_eq_true (by first|(with_reducible assumption)|assumption)
      obtain ⟨ad593,e593,hx593_0⟩:=Kd.at_int HR0_0.out x10_1 p593 q593
      cases e593
      replace hx593_0:=(HB.out.cell (World.block_lt_of_cell? w _ hx593_0)).trans hx593_0
      replace p593:=eq_true p593
      replace q593:=eq_true q593
      go_wp2
      go_loopg [3,6] k1 (fun kq v3 v6 w'=>∃ (x3_2:List (List Int)) (x6_2:Int),v6=.int .i64 x6_2∧Aside0 (spec_grEdges.l1 kq x3_2 x10_1 (rd l0_0 x10_1) x6_2 l0_0 (l0_0.length:Int) x10_1 l0_0 a0_1=some r)∧Aside0 (kq≤k1)∧Aside0 (Kd.S (Kd.slice 3 (Kd.int .i64)) 22 w' w.heap.size (fun _=>True) v3 x3_2)∧Aside0 (w'.heap[gb592]?=some (.cells #[(.slice (some ad593) l0_0.length c0_0),.bool a0_1] 28 (0,0)))∧Aside0 (Below w.heap.size w w'))
      case atStart=>exact ⟨(x3_1),(wrap64 (x10_1+1)),(by first|rfl|(simp;done)|(simp [*];done)),H',⟨Nat.le_refl _⟩,⟨by (with_reducible repeat (first|apply Kd.S_alloc|apply Kd.S_drewN|apply Kd.S_drew));exact HO_3.out⟩,⟨by (with_reducible repeat (first|refine blk_drewN ?_ _|refine blk_drew ?_|refine blk_alloc ?_ _));exact BK592.out⟩,⟨by repeat (first|(with_reducible first|exact HB.out|apply below_alloc|apply pw_below_drewN|apply below_drew1|refine below_set ?_ GE592.out)|exact HB.out)⟩⟩
      case round=>
       clear H'
       (try clear p2);(try clear c4);(try clear c4b0);(try clear c5);(try clear c5b0);(try clear p5);(try clear q5);(try clear hx5);(try clear c6);(try clear c6b0);(try clear p6);(try clear hcz3_0);(try clear hcz3_1);(try clear hfz3_0);(try clear hfz3_1);(try clear hx593_0);(try clear p2);(try clear p593);(try clear q593)
       obtain ⟨x3_2,x6_2,rfl,HA,HK2,HO_3,BK592,HB⟩:=hrel
       cases gk with
       |zero=>exact absurd HA.out (by simp [spec_grEdges.l1])
       |succ k2=>
        have H:=HA.out
        clear HA
        simp only [spec_grEdges.l1] at H
        by_cases c7:x6_2< (l0_0.length:Int)
        ·rw [if_pos c7] at H
         have c7b0:decide (x6_2< (l0_0.length:Int))=true:=decide_eq_true c7
         clear c7
         replace H:=Option.bind_eq_some_iff.mp H
         obtain ⟨t594,A80,H⟩:=H
         replace H:(if t594=true then (if x3_2.length< 5864062014805 then (spec_grEdges.l1 k2 (x3_2++[(([x10_1,x6_2]:List Int))]) x10_1 (rd l0_0 x10_1) (wrap64 (x6_2+1)) l0_0 (l0_0.length:Int) x10_1 l0_0 a0_1) else (none)) else (spec_grEdges.l1 k2 x3_2 x10_1 (rd l0_0 x10_1) (wrap64 (x6_2+1)) l0_0 (l0_0.length:Int) x10_1 l0_0 a0_1))=some r:=H
         have A8:=Aside0.mk A80
         clear A80
         by_cases c9:t594=true
         ·subst c9
          have H1:(if x3_2.length< 5864062014805 then (spec_grEdges.l1 k2 (x3_2++[(([x10_1,x6_2]:List Int))]) x10_1 (rd l0_0 x10_1) (wrap64 (x6_2+1)) l0_0 (l0_0.length:Int) x10_1 l0_0 a0_1) else (none))=some r:=by rw [if_pos rfl] at H;exact H
          clear H
          have H:=H1
          clear H1
          obtain ⟨y595,hy595⟩:∃ y_:List Int,y_=(([x10_1,x6_2]:List Int)):=⟨_,rfl⟩
          replace H:(if x3_2.length< 5864062014805 then (spec_grEdges.l1 k2 (x3_2++[y595]) x10_1 (rd l0_0 x10_1) (wrap64 (x6_2+1)) l0_0 (l0_0.length:Int) x10_1 l0_0 a0_1) else (none))=some r:=by first|(rw [hy595];with_reducible exact H)|(have H2_:=(Option.bind_some _ _).symm.trans H;rw [hy595];with_reducible exact H2_)|(have H2_:=(Option.bind_some _ _).symm.trans H;with_reducible exact H2_)|with_reducible exact H|(rw [hy595];exact H)|exact H
          have Ny595:=Aside0.mk hy595
          clear hy595
          by_cases c10:x3_2.length< 5864062014805
          ·rw [if_pos c10] at H
           have LMc10:=Aside0.mk c10
           clear c10
           obtain ⟨y598,hy598⟩:∃ y_:List (List Int),y_=(x3_2++[y595]):=⟨_,rfl⟩
           replace H:(spec_grEdges.l1 k2 y598 x10_1 (rd l0_0 x10_1) (wrap64 (x6_2+1)) l0_0 (l0_0.length:Int) x10_1 l0_0 a0_1)=some r:=by first|(rw [hy598];with_reducible exact H)|(have H2_:=(Option.bind_some _ _).symm.trans H;rw [hy598];with_reducible exact H2_)|(have H2_:=(Option.bind_some _ _).symm.trans H;with_reducible exact H2_)|with_reducible exact H|(rw [hy598];exact H)|exact H
           have Ny598:=Aside0.mk hy598
           clear hy598
           have H':=Aside0.mk H
           clear H
           have hcz11_0:wr.cell? ⟨gb592,0,none⟩=some (.slice (some ad593) l0_0.length c0_0):=(blk_cell BK592.out 0).trans rfl
           have hcz11_1:wr.cell? ⟨gb592,1,none⟩=some (.bool a0_1):=(blk_cell BK592.out 1).trans rfl
           have hfz11_0:=blk_frozen BK592.out 0
           have hfz11_1:=blk_frozen BK592.out 1
           go_wp2_with (first|((with_reducible refine gate_callee (f:=70) rfl ?_);refine goesL_ (some 26) rfl rfl Try.func70 (by kernel_rfl) rfl #[.int .i64 (rd l0_0 x10_1),.int .i64 x6_2] rfl (by (try simp only [List.map_toArray,List.map_cons,List.map_nil]);first|done|rfl|(simp only [List.length_drop,List.length_take];rfl)) ?_;(with_reducible refine (spec_grIn.calls (rd l0_0 x10_1) x6_2 true _ A8.out).mono ?_);rintro e w' ⟨rfl,⟨nd,rfl⟩⟩;refine ⟨_,rfl,?_⟩)|((with_reducible refine gate_dst (N:=30) rfl ?_);refine Kd.R_lit (Kd.int .i64) _ 3 ?hg (N:=30) ?hd (xs:=([x10_1,x6_2]:List Int)) (inner:=[.int .i64 x10_1,.int .i64 x6_2]) (ok:=fun _=>True) (okp:=fun _=>True) ?hr ?hp (fun _ hk=>hk) trivial (Below.refl _ _) (Nat.le_refl _) (by simp) ?_;(case hd=>rfl);(case hg=>rfl);(case hr=>first|(go_simp;done)|(go_simp;rfl));(case hp=>exact (Reps.one (show Kd.M (Kd.int .i64) _ _ _ x10_1 [.int .i64 x10_1] from rfl) (Reps.one (show Kd.M (Kd.int .i64) _ _ _ x6_2 [.int .i64 x6_2] from rfl) (Reps.none _ _))));intro v596 w12 ho13 hb hg_ hnew_;clear hg_ hnew_;(first|rw [← Ny595.out] at ho13|(simp only [Int.reduceToNat] at ho13;rw [← Ny595.out] at ho13));have n0_:=Aside0.mk (Kd.S_elder' (by (with_reducible repeat (first|apply Kd.S_alloc|apply Kd.S_drewN|apply Kd.S_drew));exact HO_3.out) (Kd.R_base ho13) hb);have n1_:=Aside0.mk (Kd.R_lower ho13 (below_size (by repeat (first|(with_reducible first|exact HB.out|apply below_alloc|apply pw_below_drewN|apply below_drew1|refine below_set ?_ GE592.out)|exact HB.out))));have n2_:=Aside0.mk (blk_below (g:=gb592) (o:=.cells #[.slice (some ad593) l0_0.length c0_0,.bool a0_1] 28 (0,0)) (by (with_reducible repeat (first|refine blk_drewN ?_ _|refine blk_drew ?_|refine blk_alloc ?_ _));exact BK592.out) hb);have n3_:=Aside0.mk (below_step (by repeat (first|(with_reducible first|exact HB.out|apply below_alloc|apply pw_below_drewN|apply below_drew1|refine below_set ?_ GE592.out)|exact HB.out)) hb);clear HO_3;clear BK592;clear HB;have HO_3:=n0_;have HO597:=n1_;have BK592:=n2_;have HB:=n3_;clear n0_ n1_ n2_ n3_;clear hb ho13;obtain ⟨Ao15,co15,eo15⟩:=Kd.R_slice HO597.out;subst eo15)|((with_reducible refine gate_builtin (b:=.append) (xs:=#[.tmp 27,.tmp 31]) rfl ?_);at_builtin;refine Kd.S_append (Kd.slice 3 (Kd.int .i64)) (w0:=w) w.heap.size rfl (.tmp 27) (.tmp 31) 60 22 (.slice none 0 0) 24 rfl Try.underlying60 info22 rfl (by decide) (by omega) u3 x3_2 y595 [.slice Ao15 y595.length co15] (fun _=>True) (fun k_=>some k_=(.slice Ao15 y595.length co15:Value).ownBlock) rfl rfl ?aP (fun k_ hk_=>((Kd.R_mono (ok':=fun k_=>((fun _=>True)) k_∧some k_≠(u3:Value).ownBlock) (Kd.R_apart' (HO597.out) (Kd.S_typed HO_3.out) (by decide)) (fun k_ hk=>⟨trivial,hk.2⟩))).1 k_ hk_.symm) ?aF ?aO ?aB ?aS ?aL ?_;(case aP=>exact Kd.M_row (Kd.R_mono (Kd.R_tight rfl (Kd.R_mono (ok':=fun k_=>((fun _=>True)) k_∧some k_≠(u3:Value).ownBlock) (Kd.R_apart' (HO597.out) (Kd.S_typed HO_3.out) (by decide)) (fun k_ hk=>⟨trivial,hk.2⟩))) (fun _ h_=>h_)));(case aB=>exact (by repeat (first|(with_reducible first|exact HB.out|apply below_alloc|apply pw_below_drewN|apply below_drew1|refine below_set ?_ GE592.out)|exact HB.out)));(case aF=>exact (fun _ _=>trivial));(case aO=>exact (by (with_reducible repeat (first|apply Kd.S_alloc|apply Kd.S_drewN|apply Kd.S_drew));exact Kd.S_mono HO_3.out (fun k_ hk=>⟨trivial,fun e_=>hk.2 e_⟩)));(case aS=>exact (below_size (by repeat (first|(with_reducible first|exact HB.out|apply below_alloc|apply pw_below_drewN|apply below_drew1|refine below_set ?_ GE592.out)|exact HB.out))));(case aL=>have:=LMc10.out;omega);intro v599 w14 ho hb hg hat;rw [← Ny598.out] at ho;have n0_:=Aside0.mk (blk_grown (g:=gb592) (o:=.cells #[.slice (some ad593) l0_0.length c0_0,.bool a0_1] 28 (0,0)) (by (with_reducible repeat (first|refine blk_drewN ?_ _|refine blk_drew ?_|refine blk_alloc ?_ _));exact BK592.out) hg (Kd.S_ne HO_3.out BK592.out (by decide)));have n1_:=Aside0.mk (hb);have n2_:=Aside0.mk (ho);clear BK592;clear HB;clear HO_3;clear HO597;have BK592:=n0_;have HB:=n1_;have HO600:=n2_;clear n0_ n1_ n2_;clear ho hb hg hat))
           go_roundg k2
           case measure=>have:=HK1.out;have:=HK2.out;omega
           case rel=>exact ⟨(y598),(wrap64 (x6_2+1)),(by first|rfl|(simp;done)|(simp [*];done)),H',⟨by have:=HK1.out;have:=HK2.out;omega⟩,⟨by (with_reducible repeat (first|apply Kd.S_alloc|apply Kd.S_drewN|apply Kd.S_drew));exact HO600.out⟩,⟨by (with_reducible repeat (first|refine blk_drewN ?_ _|refine blk_drew ?_|refine blk_alloc ?_ _));exact BK592.out⟩,⟨by repeat (first|(with_reducible first|exact HB.out|apply below_alloc|apply pw_below_drewN|apply below_drew1|refine below_set ?_ GE592.out)|exact HB.out)⟩⟩
          ·rw [if_neg c10] at H
           exact absurd H (by simp)
         ·replace c9:=Bool.eq_false_iff.mpr c9
          subst c9
          have H1:(spec_grEdges.l1 k2 x3_2 x10_1 (rd l0_0 x10_1) (wrap64 (x6_2+1)) l0_0 (l0_0.length:Int) x10_1 l0_0 a0_1)=some r:=by rw [if_neg (show ¬ (false=true) by decide)] at H;exact H
          clear H
          have H:=H1
          clear H1
          have H':=Aside0.mk H
          clear H
          have hcz16_0:wr.cell? ⟨gb592,0,none⟩=some (.slice (some ad593) l0_0.length c0_0):=(blk_cell BK592.out 0).trans rfl
          have hcz16_1:wr.cell? ⟨gb592,1,none⟩=some (.bool a0_1):=(blk_cell BK592.out 1).trans rfl
          have hfz16_0:=blk_frozen BK592.out 0
          have hfz16_1:=blk_frozen BK592.out 1
          go_wp2_with (first|((with_reducible refine gate_callee (f:=70) rfl ?_);refine goesL_ (some 26) rfl rfl Try.func70 (by kernel_rfl) rfl #[.int .i64 (rd l0_0 x10_1),.int .i64 x6_2] rfl (by (try simp only [List.map_toArray,List.map_cons,List.map_nil]);first|done|rfl|(simp only [List.length_drop,List.length_take];rfl)) ?_;(with_reducible refine (spec_grIn.calls (rd l0_0 x10_1) x6_2 false _ A8.out).mono ?_);rintro e w' ⟨rfl,⟨nd,rfl⟩⟩;refine ⟨_,rfl,?_⟩))
          go_roundg k2
          case measure=>have:=HK1.out;have:=HK2.out;omega
          case rel=>exact ⟨(x3_2),(wrap64 (x6_2+1)),(by first|rfl|(simp;done)|(simp [*];done)),H',⟨by have:=HK1.out;have:=HK2.out;omega⟩,⟨by (with_reducible repeat (first|apply Kd.S_alloc|apply Kd.S_drewN|apply Kd.S_drew));exact HO_3.out⟩,⟨by (with_reducible repeat (first|refine blk_drewN ?_ _|refine blk_drew ?_|refine blk_alloc ?_ _));exact BK592.out⟩,⟨by repeat (first|(with_reducible first|exact HB.out|apply below_alloc|apply pw_below_drewN|apply below_drew1|refine below_set ?_ GE592.out)|exact HB.out)⟩⟩
        ·rw [if_neg c7] at H
         have c7b0:decide (x6_2< (l0_0.length:Int))=false:=decide_eq_false c7
         clear c7
         have H':=Aside0.mk H
         clear H
         have hcz17_0:wr.cell? ⟨gb592,0,none⟩=some (.slice (some ad593) l0_0.length c0_0):=(blk_cell BK592.out 0).trans rfl
         have hcz17_1:wr.cell? ⟨gb592,1,none⟩=some (.bool a0_1):=(blk_cell BK592.out 1).trans rfl
         have hfz17_0:=blk_frozen BK592.out 0
         have hfz17_1:=blk_frozen BK592.out 1
         go_wp2
         go_roundg k2
         case measure=>have:=HK1.out;have:=HK2.out;omega
         case rel=>exact ⟨(x3_2),(wrap64 (x10_1+1)),(by first|rfl|(simp;done)|(simp [*];done)),H',⟨by have:=HK1.out;have:=HK2.out;omega⟩,⟨by (with_reducible repeat (first|apply Kd.S_alloc|apply Kd.S_drewN|apply Kd.S_drew));exact HO_3.out⟩,⟨by (with_reducible repeat (first|refine blk_drewN ?_ _|refine blk_drew ?_|refine blk_alloc ?_ _));exact BK592.out⟩,⟨by repeat (first|(with_reducible first|exact HB.out|apply below_alloc|apply pw_below_drewN|apply below_drew1|refine below_set ?_ GE592.out)|exact HB.out)⟩⟩
     ·rw [if_neg c6] at H
      exact absurd H (by simp)
    ·rw [if_neg c5] at H
     exact absurd H (by simp)
   ·rw [if_neg c4] at H
    have c4b0:decide (x10_1< (l0_0.length:Int))=false:=decide_eq_false c4
    clear c4
    obtain rfl:=Option.some.inj H
    go_wp2
    go_ret
    exact ⟨_,by first|rfl|(simp [errW_none,errW_some]<;>rfl)|(simp [*,errW_none,errW_some]<;>rfl),by (with_reducible repeat (first|apply Kd.S_alloc|apply Kd.S_drewN|apply Kd.S_drew));exact HO_3.out,by repeat (first|(with_reducible first|exact HB.out|apply below_alloc|apply pw_below_drewN|apply below_drew1|refine below_set ?_ GE592.out)|exact HB.out)⟩
/-! ### spec_paCut: function 63 -/
def spec_paCut.l0:Nat→Int→List (List Int)→List (List Int)→Int→Int→Option ((List (List Int)))
 |0,_,_,_,_,_=>none
 |k+1,x1,x5,x9,x10,x11=>if x11< x10 then (if 0≤x11 then (if x11< (x9.length:Int) then (if 0< ((rd_L1 x9 x11).length:Int) then ((spec_grIn.f x1 (rd (rd_L1 x9 x11) 0)).bind fun t607=>(if 1< ((rd_L1 x9 x11).length:Int) then ((spec_grIn.f x1 (rd (rd_L1 x9 x11) 1)).bind fun t609=>(if (t607 !=t609)=true then (if x5.length< 5864062014805 then (spec_paCut.l0 k x1 (x5++[(([rd (rd_L1 x9 x11) 0,rd (rd_L1 x9 x11) 1]:List Int))]) x9 x10 (wrap64 (x11+1))) else (none)) else (spec_paCut.l0 k x1 x5 x9 x10 (wrap64 (x11+1))))) else (none))) else (none)) else (none)) else (none)) else (some x5)
def spec_paCut.f (k:Nat) (l0_0:List Int) (a0_1:Bool) (a1:Int):Option ((List (List Int))):=(spec_grEdges.f k l0_0 a0_1).bind fun t602=>(spec_paCut.l0 k a1 ([]:List (List Int)) t602 (t602.length:Int) 0)
def spec_paCut.T5:Bool × List (List Nat × List Nat):=(true,[([],[]),([],[]),([1],[1]),([2],[2]),([0,3],[0,3]),([],[]),([],[]),([6],[6]),([7],[7]),([5,8,4],[5,8]),([4,9],[4,9])])
def spec_paCut.B5:List Nat:=[0,0,2,6,15,0,0,64,192,511,1023]
theorem spec_paCut.tab5:rtab .any (opsOf Try.f63 5)=spec_paCut.T5:=by kernel_rfl
theorem spec_paCut.bits5:waitsOk spec_paCut.T5.2 spec_paCut.B5=true:=by kernel_rfl
def spec_paCut.T6:Bool × List (List Nat × List Nat):=(true,[([],[]),([],[]),([1],[1]),([2],[2]),([],[]),([4],[4]),([5],[5]),([3,6],[3,6]),([7],[7]),([0,8],[0,8]),([9,9,0,1,2,3,4,5,6,7,8,9],[0,9])])
def spec_paCut.B6:List Nat:=[0,0,2,6,0,16,48,126,254,511,1023]
theorem spec_paCut.tab6:rtab .any (opsOf Try.f63 6)=spec_paCut.T6:=by kernel_rfl
theorem spec_paCut.bits6:waitsOk spec_paCut.T6.2 spec_paCut.B6=true:=by kernel_rfl
set_option maxHeartbeats 8000000 in
set_option maxRecDepth 100000 in
theorem spec_paCut.calls (k:Nat) (A0_0:Option Addr) (c0_0:Nat) (l0_0:List Int) (a0_1:Bool) (a1:Int) (r:List (List Int)) (w:World) (hr0_0:Kd.C (Kd.int .i64) w A0_0 l0_0.length l0_0) (hc0_0:l0_0.length≤c0_0) (h:spec_paCut.f k l0_0 a0_1 a1=some r):
  Calls Try.prog 63 #[.agg #[.slice A0_0 l0_0.length c0_0,.bool a0_1],.int .i64 a1] w fun e w'=>∃ v0_:Value,e=.returned (v0_)∧Kd.S (Kd.slice 3 (Kd.int .i64)) 22 w' w.heap.size (fun _=>True) v0_ r∧Below w.heap.size w w':=by
 have hu28:=Try.underlying28
 have HR0_0:=Aside0.mk hr0_0
 have HC0_0:=Aside0.mk hc0_0
 clear hr0_0 hc0_0
 have HB:=Aside0.mk (Below.refl w.heap.size w)
 have H:((spec_grEdges.f k l0_0 a0_1).bind fun t602=>(spec_paCut.l0 k a1 ([]:List (List Int)) t602 (t602.length:Int) 0))=some r:=h
 clear h
 replace H:=Option.bind_eq_some_iff.mp H
 obtain ⟨t602,A30,H⟩:=H
 replace H:(spec_paCut.l0 k a1 ([]:List (List Int)) t602 (t602.length:Int) 0)=some r:=H
 have A3:=Aside0.mk A30
 clear A30
 have H':=Aside0.mk H
 clear H
 go_enter Try.func63,Try.ntmps63
 go_wp2_with (first|((with_reducible refine gate_dst (N:=2) rfl ?_);refine box_event ?hg (N:=2) ?hd (cs:=#[.slice A0_0 l0_0.length c0_0,.bool a0_1]) (t:=28) ?hr ?_;(case hd=>rfl);(case hg=>rfl);(case hr=>first|(go_simp;done)|(go_simp;rfl));intro gb601 hg w4 hbox hb;have n0_:=Aside0.mk (below_step (by repeat (first|(with_reducible first|exact HB.out|apply below_alloc|apply pw_below_drewN|apply below_drew1)|exact HB.out)) hb);have n1_:=Aside0.mk (hbox);have n2_:=Aside0.mk ((by rw [hg];exact (below_size (by repeat (first|(with_reducible first|exact HB.out|apply below_alloc|apply pw_below_drewN|apply below_drew1)|exact HB.out))):w.heap.size≤gb601));have n3_:=Aside0.mk ((by rw [hg];exact (below_size (by repeat (first|(with_reducible first|exact HB.out|apply below_alloc|apply pw_below_drewN|apply below_drew1)|exact HB.out))):w.heap.size≤gb601));clear HB;have HB:=n0_;have BK601:=n1_;have GW601:=n2_;have GE601:=n3_;clear n0_ n1_ n2_ n3_;clear hb hbox hg;have hcz5_0:w4.cell? ⟨gb601,0,none⟩=some (.slice A0_0 l0_0.length c0_0):=(blk_cell BK601.out 0).trans rfl;have hcz5_1:w4.cell? ⟨gb601,1,none⟩=some (.bool a0_1):=(blk_cell BK601.out 1).trans rfl;have hfz5_0:=blk_frozen BK601.out 0;have hfz5_1:=blk_frozen BK601.out 1)|((with_reducible refine gate_callee (f:=91) rfl ?_);refine goesL_ (some 9) rfl rfl Try.func91 (by kernel_rfl) rfl #[.agg #[.slice A0_0 l0_0.length c0_0,.bool a0_1]] rfl (by (try simp only [List.map_toArray,List.map_cons,List.map_nil]);first|done|rfl|(simp only [List.length_drop,List.length_take];rfl)) ?_;(with_reducible refine (spec_grEdges.calls k _ _ l0_0 a0_1 t602 _ ?side1 ?side2 A3.out).mono ?_);(case side1=>repeat (first|exact (Kd.C_below HR0_0.out HB.out)|(with_reducible refine Kd.C_alloc ?_ _)|(with_reducible refine Kd.C_drewN ?_ _)|(with_reducible refine Kd.C_drew ?_)));(case side2=>exact HC0_0.out);rintro e w6 ⟨v603,rfl,ho0,hb⟩;refine ⟨_,rfl,?_⟩;have n0_:=Aside0.mk (Kd.S_lower ho0 (below_size (by repeat (first|(with_reducible first|exact HB.out|apply below_alloc|apply pw_below_drewN|apply below_drew1|refine below_set ?_ GE601.out)|exact HB.out))));have n1_:=Aside0.mk (blk_below (g:=gb601) (o:=.cells #[.slice A0_0 l0_0.length c0_0,.bool a0_1] 28 (0,0)) (by (with_reducible repeat (first|refine blk_drewN ?_ _|refine blk_drew ?_|refine blk_alloc ?_ _));exact BK601.out) hb);have n2_:=Aside0.mk (below_step (by repeat (first|(with_reducible first|exact HB.out|apply below_alloc|apply pw_below_drewN|apply below_drew1|refine below_set ?_ GE601.out)|exact HB.out)) hb);clear BK601;clear HB;have HO604:=n0_;have BK601:=n1_;have HB:=n2_;clear n0_ n1_ n2_;(try clear hb);(try clear hb2);(try clear hk);(try clear hi);(try clear ho0);obtain ⟨Ao7,co7,eo7⟩:=Kd.S_slice HO604.out;subst eo7))
 go_loopg [5,11] k (fun kq v5 v11 w'=>∃ (x5_1:List (List Int)) (x11_1:Int),v11=.int .i64 x11_1∧Aside0 (spec_paCut.l0 kq a1 x5_1 t602 (t602.length:Int) x11_1=some r)∧Aside0 (kq≤k)∧Aside0 (Kd.S (Kd.slice 3 (Kd.int .i64)) 22 w' w.heap.size (fun k_=>some k_≠((.slice Ao7 t602.length co7):Value).ownBlock) v5 x5_1)∧Aside0 (Kd.S (Kd.slice 3 (Kd.int .i64)) 22 w' w.heap.size (fun k_=>some k_≠(v5:Value).ownBlock) (.slice Ao7 t602.length co7) t602)∧Aside0 (w'.heap[gb601]?=some (.cells #[(.slice A0_0 l0_0.length c0_0),.bool a0_1] 28 (0,0)))∧Aside0 (Below w.heap.size w w'))
 case atStart=>exact ⟨(([]:List (List Int))),(0),(by first|rfl|(simp;done)|(simp [*];done)),H',⟨Nat.le_refl _⟩,⟨by first|exact Kd.S_nil _ _ _ _ _|exact Kd.N_nil _ _ _ _ _|exact Kd.V_nil _ _ _ _ _|exact Kd.Q_nil _ _ _ _ _|exact Kd.R_nil _ _ _ _ _⟩,⟨by (with_reducible repeat (first|apply Kd.S_alloc|apply Kd.S_drewN|apply Kd.S_drew));exact Kd.S_mono HO604.out (fun _ hk=>(by simp [Value.ownBlock]))⟩,⟨by (with_reducible repeat (first|refine blk_drewN ?_ _|refine blk_drew ?_|refine blk_alloc ?_ _));exact BK601.out⟩,⟨by repeat (first|(with_reducible first|exact HB.out|apply below_alloc|apply pw_below_drewN|apply below_drew1|refine below_set ?_ GE601.out)|exact HB.out)⟩⟩
 case round=>
  clear H'
  (try clear p2);(try clear c6);(try clear hcz5_0);(try clear hcz5_1);(try clear hfz5_0);(try clear hfz5_1)
  obtain ⟨x5_1,x11_1,rfl,HA,HK1,HO_5,HO_9,BK601,HB⟩:=hrel
  cases gk with
  |zero=>exact absurd HA.out (by simp [spec_paCut.l0])
  |succ k1=>
   have H:=HA.out
   clear HA
   simp only [spec_paCut.l0] at H
   by_cases c8:x11_1< (t602.length:Int)
   ·rw [if_pos c8] at H
    have c8b0:decide (x11_1< (t602.length:Int))=true:=decide_eq_true c8
    clear c8
    by_cases c9:0≤x11_1
    ·rw [if_pos c9] at H
     have c9b0:decide (0≤x11_1)=true:=decide_eq_true c9
     clear c9
     by_cases c10:x11_1< (t602.length:Int)
     ·rw [if_pos c10] at H
      have c10b0:decide (x11_1< (t602.length:Int))=true:=decide_eq_true c10
      clear c10
      by_cases c11:0< ((rd_L1 t602 x11_1).length:Int)
      ·rw [if_pos c11] at H
       have c11b0:decide (0< ((rd_L1 t602 x11_1).length:Int))=true:=decide_eq_true c11
       have c11b1:decide (0< (rd_L1 t602 x11_1).length)=true:=decide_eq_true (by omega)
       clear c11
       replace H:=Option.bind_eq_some_iff.mp H
       obtain ⟨t607,A120,H⟩:=H
       replace H:(if 1< ((rd_L1 t602 x11_1).length:Int) then ((spec_grIn.f a1 (rd (rd_L1 t602 x11_1) 1)).bind fun t609=>(if (t607 !=t609)=true then (if x5_1.length< 5864062014805 then (spec_paCut.l0 k1 a1 (x5_1++[(([rd (rd_L1 t602 x11_1) 0,rd (rd_L1 t602 x11_1) 1]:List Int))]) t602 (t602.length:Int) (wrap64 (x11_1+1))) else (none)) else (spec_paCut.l0 k1 a1 x5_1 t602 (t602.length:Int) (wrap64 (x11_1+1))))) else (none))=some r:=H
       have A12:=Aside0.mk A120
       clear A120
       by_cases c13:1< ((rd_L1 t602 x11_1).length:Int)
       ·rw [if_pos c13] at H
        have c13b0:decide (1< ((rd_L1 t602 x11_1).length:Int))=true:=decide_eq_true c13
        have c13b1:decide (1< (rd_L1 t602 x11_1).length)=true:=decide_eq_true (by omega)
        clear c13
        replace H:=Option.bind_eq_some_iff.mp H
        obtain ⟨t609,A140,H⟩:=H
        replace H:(if (t607 !=t609)=true then (if x5_1.length< 5864062014805 then (spec_paCut.l0 k1 a1 (x5_1++[(([rd (rd_L1 t602 x11_1) 0,rd (rd_L1 t602 x11_1) 1]:List Int))]) t602 (t602.length:Int) (wrap64 (x11_1+1))) else (none)) else (spec_paCut.l0 k1 a1 x5_1 t602 (t602.length:Int) (wrap64 (x11_1+1))))=some r:=H
        have A14:=Aside0.mk A140
        clear A140
        by_cases c15:(t607 !=t609)=true
        ·rw [if_pos c15] at H
         have c15b0:(t607 !=t609)=true:=c15
         (try (have c15b1:decide (t607=t609)=false:=by simpa using c15))
         (try (have c15b2:(t607==t609)=false:=by simpa using c15))
         (try (have c15b3:¬ (t607=t609):=by simpa using c15))
         clear c15
         obtain ⟨y612,hy612⟩:∃ y_:List Int,y_=(([rd (rd_L1 t602 x11_1) 0,rd (rd_L1 t602 x11_1) 1]:List Int)):=⟨_,rfl⟩
         replace H:(if x5_1.length< 5864062014805 then (spec_paCut.l0 k1 a1 (x5_1++[y612]) t602 (t602.length:Int) (wrap64 (x11_1+1))) else (none))=some r:=by first|(rw [hy612];with_reducible exact H)|(have H2_:=(Option.bind_some _ _).symm.trans H;rw [hy612];with_reducible exact H2_)|(have H2_:=(Option.bind_some _ _).symm.trans H;with_reducible exact H2_)|with_reducible exact H|(rw [hy612];exact H)|exact H
         have Ny612:=Aside0.mk hy612
         clear hy612
         by_cases c16:x5_1.length< 5864062014805
         ·rw [if_pos c16] at H
          have LMc16:=Aside0.mk c16
          clear c16
          obtain ⟨y615,hy615⟩:∃ y_:List (List Int),y_=(x5_1++[y612]):=⟨_,rfl⟩
          replace H:(spec_paCut.l0 k1 a1 y615 t602 (t602.length:Int) (wrap64 (x11_1+1)))=some r:=by first|(rw [hy615];with_reducible exact H)|(have H2_:=(Option.bind_some _ _).symm.trans H;rw [hy615];with_reducible exact H2_)|(have H2_:=(Option.bind_some _ _).symm.trans H;with_reducible exact H2_)|with_reducible exact H|(rw [hy615];exact H)|exact H
          have Ny615:=Aside0.mk hy615
          clear hy615
          have H':=Aside0.mk H
          clear H
          have p605:0≤(x11_1:Int):=of_decide_eq_true (by first|(with_reducible assumption)|assumption)
          have q605:x11_1< (t602.length:Int):=of_decide_eq_true (by first|(with_reducible assumption)|assumption)
          obtain ⟨ad605,A605_0,c605_0,e605,hx605_0,hl605_0,hi605_0⟩:=at_L1 (Kd.S_reads' HO_9.out).2.2 x11_1 p605 q605
          cases e605
          obtain ⟨ce605,hce605,hMe605,hcc605⟩:=Kd.S_get HO_9.out [] x11_1 p605 (by first|exact q605|exact of_decide_eq_true (by first|(with_reducible assumption)|assumption)|(have e_:=(Kd.S_reads' HO_9.out).1;omega))
          obtain ⟨ve605_0,rfl,ge605_0⟩:=hMe605
          have hv605_0:=hcc605 0 _ rfl
          rw [Nat.add_zero,show ((Kd.slice 3 (Kd.int .i64))).sz=1 from rfl,Nat.mul_one] at hv605_0
          replace hv605_0:=Option.some.inj (hv605_0.symm.trans hx605_0)
          rw [hv605_0] at ge605_0
          have HL605_0:=Aside0.mk (show Kd.R (Kd.int .i64) 3 _ _ _ _ (rd_L1 t602 x11_1) from ge605_0)
          clear hv605_0 ge605_0;clear hcc605 hce605
          have HR605_0:=Aside0.mk hi605_0
          have HC605_0:=Aside0.mk hl605_0
          clear hi605_0 hl605_0
          replace p605:=eq_true p605
          replace q605:=eq_true q605
          try go_wp2
          have n0_:=Aside0.mk (Kd.S_drew HO_5.out)
          have n1_:=Aside0.mk (Kd.S_drew HO_9.out)
          have n2_:=Aside0.mk (Kd.R_drew HL605_0.out)
          have n3_:=Aside0.mk (blk_drew BK601.out)
          have n4_:=Aside0.mk (Kd.C_drew HR605_0.out)
          have n5_:=Aside0.mk (below_drew1 HB.out)
          clear HO_5;clear HO_9;clear HL605_0;clear BK601;clear HR605_0;clear HB
          have HO_5:=n0_
          have HO_9:=n1_
          have HL605_0:=n2_
          have BK601:=n3_
          have HR605_0:=n4_
          have HB:=n5_
          clear n0_ n1_ n2_ n3_ n4_ n5_
          have p606:0≤(0:Int):=(by omega)
          have q606:0< ((rd_L1 t602 x11_1).length:Int):=of_decide_eq_true (by first|(with_reducible assumption)|assumption)
          obtain ⟨ad606,e606,hx606_0⟩:=Kd.at_int (by repeat (first|(with_reducible exact HR605_0.out)|(with_reducible refine Kd.C_alloc ?_ _)|(with_reducible refine Kd.C_drewN ?_ _)|(with_reducible refine Kd.C_drew ?_)|exact HR605_0.out)) 0 p606 q606
          cases e606
          have qi606:(0< (rd_L1 t602 x11_1).length)=True:=eq_true (by omega)
          (try rw [show ((0:Int)).toNat=0 from rfl] at hx606_0)
          (try rw [Addr.add_zero'] at hx606_0)
          replace p606:=eq_true p606
          replace q606:=eq_true q606
          have p608:0≤(1:Int):=(by omega)
          have q608:1< ((rd_L1 t602 x11_1).length:Int):=of_decide_eq_true (by first|(with_reducible assumption)|assumption)
          obtain ⟨ad608,e608,hx608_0⟩:=Kd.at_int (by repeat (first|(with_reducible exact HR605_0.out)|(with_reducible refine Kd.C_alloc ?_ _)|(with_reducible refine Kd.C_drewN ?_ _)|(with_reducible refine Kd.C_drew ?_)|exact HR605_0.out)) 1 p608 q608
          obtain rfl:ad606=ad608:=(by injection e608)
          (try simp only [show (1:Int).toNat=1 from rfl,Nat.reduceMul,Nat.reduceEqDiff,Go.Addr.add,↓reduceIte] at hx608_0)
          have qi608:(1< (rd_L1 t602 x11_1).length)=True:=eq_true (by omega)
          (try rw [show ((1:Int)).toNat=1 from rfl] at hx608_0)
          replace p608:=eq_true p608
          replace q608:=eq_true q608
          refine start_ (n:=11) (S:=fun w'=>w'.cell? ad606=some (.int .i64 (rd (rd_L1 t602 x11_1) 0))∧w'.cell? ⟨ad606.block,ad606.off+1,none⟩=some (.int .i64 (rd (rd_L1 t602 x11_1) 1))) (ds:=[]) #[false,false,false,false,false,false,false,false,false,false,false] (by kernel_rfl) rfl rfl ⟨hx606_0,hx608_0⟩ (fun hHeld=>?_);refine with_tabW spec_paCut.tab5 spec_paCut.bits5 (fun HT_ HW_=>?_)
          generalize wr.drew=w17 at HO_5 HO_9 HL605_0 BK601 HR605_0 HB hx606_0 hx608_0 hHeld ⊢
          refine pure_ (i:=0) (N:=some 15) (v:=?_) (a':=?_) #[true,false,false,false,false,false,false,false,false,false,false] rfl rfl (any_of HT_.out (by kernel_rfl)) (fun _ _ _ h=>h) (Or.inl ⟨by rfl,?_⟩) ?_ ?_
          rotate_left
          ·intro w'
           go_simp
           with_reducible rfl
          rotate_left
          ·simp only [Act.put,List.setIfInBounds_toArray,List.set_cons_zero,List.set_cons_succ,i64_w,i32_w]
           rfl
          refine pure_ (i:=1) (N:=some 16) (v:=?_) (a':=?_) #[true,true,false,false,false,false,false,false,false,false,false] rfl rfl (any_of HT_.out (by kernel_rfl)) (fun _ _ _ h=>h) (Or.inl ⟨by rfl,?_⟩) ?_ ?_
          rotate_left
          ·intro w'
           go_simp
           with_reducible rfl
          rotate_left
          ·simp only [Act.put,List.setIfInBounds_toArray,List.set_cons_zero,List.set_cons_succ,i64_w,i32_w]
           rfl
          refine pure_ (i:=2) (N:=some 17) (v:=?_) (a':=?_) #[true,true,true,false,false,false,false,false,false,false,false] rfl rfl (any_of HT_.out (by kernel_rfl)) (fun _ _ _ h=>h) (Or.inl ⟨by rfl,?_⟩) ?_ ?_
          rotate_left
          ·intro w'
           go_simp
           with_reducible rfl
          rotate_left
          ·simp only [Act.put,List.setIfInBounds_toArray,List.set_cons_zero,List.set_cons_succ,i64_w,i32_w]
           rfl
          refine pure_ (i:=5) (N:=some 20) (v:=?_) (a':=?_) #[true,true,true,false,false,true,false,false,false,false,false] rfl rfl (any_of HT_.out (by kernel_rfl)) (fun _ _ _ h=>h) (Or.inl ⟨by rfl,?_⟩) ?_ ?_
          rotate_left
          ·intro w'
           go_simp
           with_reducible rfl
          rotate_left
          ·simp only [Act.put,List.setIfInBounds_toArray,List.set_cons_zero,List.set_cons_succ,i64_w,i32_w]
           rfl
          refine pure_ (i:=6) (N:=some 21) (v:=?_) (a':=?_) #[true,true,true,false,false,true,true,false,false,false,false] rfl rfl (any_of HT_.out (by kernel_rfl)) (fun _ _ _ h=>h) (Or.inl ⟨by rfl,?_⟩) ?_ ?_
          rotate_left
          ·intro w'
           go_simp
           with_reducible rfl
          rotate_left
          ·simp only [Act.put,List.setIfInBounds_toArray,List.set_cons_zero,List.set_cons_succ,i64_w,i32_w]
           rfl
          refine pure_ (i:=7) (N:=some 22) (v:=?_) (a':=?_) #[true,true,true,false,false,true,true,true,false,false,false] rfl rfl (any_of HT_.out (by kernel_rfl)) (fun _ _ _ h=>h) (Or.inl ⟨by rfl,?_⟩) ?_ ?_
          rotate_left
          ·intro w'
           go_simp
           with_reducible rfl
          rotate_left
          ·simp only [Act.put,List.setIfInBounds_toArray,List.set_cons_zero,List.set_cons_succ,i64_w,i32_w]
           rfl
          refine take_ (i:=3) (N:=some 18) (v:=?_) (a':=?_) #[true,true,true,true,false,true,true,true,false,false,false] rfl rfl (take_ofW HT_.out HW_.out (by kernel_rfl)) (fun _ _ _ h=>h) (Or.inl ⟨by rfl,?_⟩) hHeld ?_ ?_
          rotate_left
          ·rintro w' ⟨s0,s1⟩
           go_simp
           with_reducible rfl
          rotate_left
          ·simp only [Act.put,List.setIfInBounds_toArray,List.set_cons_zero,List.set_cons_succ,i64_w,i32_w]
           rfl
          refine take_ (i:=8) (N:=some 23) (v:=?_) (a':=?_) #[true,true,true,true,false,true,true,true,true,false,false] rfl rfl (take_ofW HT_.out HW_.out (by kernel_rfl)) (fun _ _ _ h=>h) (Or.inl ⟨by rfl,?_⟩) hHeld ?_ ?_
          rotate_left
          ·rintro w' ⟨s0,s1⟩
           go_simp
           with_reducible rfl
          rotate_left
          ·simp only [Act.put,List.setIfInBounds_toArray,List.set_cons_zero,List.set_cons_succ,i64_w,i32_w]
           rfl
          refine one_ (i:=4) (N:=some 19) #[true,true,true,true,true,true,true,true,true,false,false] rfl rfl (one_of HT_.out (by kernel_rfl)) (by decide) (fun K hK=>?_)
          refine goes_ Try.func70 (by kernel_rfl) rfl #[.int .i64 a1,.int .i64 (rd (rd_L1 t602 x11_1) 0)] (by rfl) rfl rfl (by (try simp only [List.map_toArray,List.map_cons,List.map_nil]);first|done|rfl|(simp only [List.length_drop,List.length_take];rfl)) ?_
          with_reducible refine (spec_grIn.calls a1 (rd (rd_L1 t602 x11_1) 0) t607 _ A12.out).mono ?_
          rintro e w' ⟨rfl,⟨nd,rfl⟩⟩
          refine ⟨_,rfl,?_⟩
          refine hK.out _ _ ⟨hHeld.1,hHeld.2⟩ (fun hHeld=>?_)
          clear hK K
          refine norm_ (a':=?_) ?_ ?_
          rotate_left
          ·show Act.put _ (some 19) _=_
           simp only [Act.put,List.setIfInBounds_toArray,List.set_cons_zero,List.set_cons_succ,i64_w,i32_w]
           rfl
          refine one_ (i:=9) (N:=some 24) #[true,true,true,true,true,true,true,true,true,true,false] rfl rfl (one_of HT_.out (by kernel_rfl)) (by decide) (fun K hK=>?_)
          refine goes_ Try.func70 (by kernel_rfl) rfl #[.int .i64 a1,.int .i64 (rd (rd_L1 t602 x11_1) 1)] (by rfl) rfl rfl (by (try simp only [List.map_toArray,List.map_cons,List.map_nil]);first|done|rfl|(simp only [List.length_drop,List.length_take];rfl)) ?_
          with_reducible refine (spec_grIn.calls a1 (rd (rd_L1 t602 x11_1) 1) t609 _ A14.out).mono ?_
          rintro e w' ⟨rfl,⟨nd,rfl⟩⟩
          refine ⟨_,rfl,?_⟩
          refine hK.out _ _ ⟨hHeld.1,hHeld.2⟩ (fun hHeld=>?_)
          clear hK K
          refine norm_ (a':=?_) ?_ ?_
          rotate_left
          ·show Act.put _ (some 24) _=_
           simp only [Act.put,List.setIfInBounds_toArray,List.set_cons_zero,List.set_cons_succ,i64_w,i32_w]
           rfl
          refine pure_ (i:=10) (N:=some 25) (v:=?_) (a':=?_) #[true,true,true,true,true,true,true,true,true,true,true] rfl rfl (any_of HT_.out (by kernel_rfl)) (fun _ _ _ h=>h) (Or.inl ⟨by rfl,?_⟩) ?_ ?_
          rotate_left
          ·intro w'
           go_simp
           with_reducible rfl
          rotate_left
          ·simp only [Act.put,List.setIfInBounds_toArray,List.set_cons_zero,List.set_cons_succ,i64_w,i32_w]
           rfl
          refine done_ (done_of HT_.out (by kernel_rfl)) ?_
          try go_wp2
          (try (rw [drewN_self w17];generalize hq_:World.drewN w17 _=w17;have n0_:Aside0 (Kd.R (Kd.int .i64) 3 w17 w.heap.size (fun k_=>some k_≠(u5:Value).ownBlock∧some k_≠(.slice (some ad605) t602.length co7:Value).ownBlock) (.slice (some ad606) (rd_L1 t602 x11_1).length c605_0) (rd_L1 t602 x11_1)):=⟨by rw [← hq_];exact (by (with_reducible repeat (first|apply Kd.R_alloc|apply Kd.R_drewN|apply Kd.R_drew));exact HL605_0.out)⟩;have n1_:Aside0 (Kd.S (Kd.slice 3 (Kd.int .i64)) 22 w17 w.heap.size (fun k_=>some k_≠(.slice (some ad605) t602.length co7:Value).ownBlock) u5 x5_1):=⟨by rw [← hq_];exact (by (with_reducible repeat (first|apply Kd.S_alloc|apply Kd.S_drewN|apply Kd.S_drew));exact HO_5.out)⟩;have n2_:Aside0 (Kd.S (Kd.slice 3 (Kd.int .i64)) 22 w17 w.heap.size (fun k_=>some k_≠(u5:Value).ownBlock) (.slice (some ad605) t602.length co7) t602):=⟨by rw [← hq_];exact (by (with_reducible repeat (first|apply Kd.S_alloc|apply Kd.S_drewN|apply Kd.S_drew));exact HO_9.out)⟩;have n3_:Aside0 (w17.heap[gb601]?=some (.cells #[.slice A0_0 l0_0.length c0_0,.bool a0_1] 28 (0,0))):=⟨by rw [← hq_];exact (by (with_reducible repeat (first|refine blk_drewN ?_ _|refine blk_drew ?_|refine blk_alloc ?_ _));exact BK601.out)⟩;have n4_:Aside0 (Below w.heap.size w w17):=⟨by rw [← hq_];exact (by repeat (first|(with_reducible first|exact HB.out|apply below_alloc|apply pw_below_drewN|apply below_drew1|refine below_set ?_ GE601.out)|exact HB.out))⟩;have n5_:Aside0 (Kd.C (Kd.int .i64) w17 (some ad606) (rd_L1 t602 x11_1).length (rd_L1 t602 x11_1)):=⟨by rw [← hq_];exact (by repeat (first|(with_reducible exact HR605_0.out)|(with_reducible refine Kd.C_alloc ?_ _)|(with_reducible refine Kd.C_drewN ?_ _)|(with_reducible refine Kd.C_drew ?_)|exact HR605_0.out))⟩;clear HL605_0 HO_5 HO_9 BK601 HB HR605_0 hq_;have HL605_0:=n0_;have HO_5:=n1_;have HO_9:=n2_;have BK601:=n3_;have HB:=n4_;have HR605_0:=n5_;clear n0_ n1_ n2_ n3_ n4_ n5_))
          have n0_:=Aside0.mk (Kd.S_drew HO_5.out)
          have n1_:=Aside0.mk (Kd.S_drew HO_9.out)
          have n2_:=Aside0.mk (Kd.R_drew HL605_0.out)
          have n3_:=Aside0.mk (blk_drew BK601.out)
          have n4_:=Aside0.mk (Kd.C_drew HR605_0.out)
          have n5_:=Aside0.mk (below_drew1 HB.out)
          clear HO_5;clear HO_9;clear HL605_0;clear BK601;clear HR605_0;clear HB
          have HO_5:=n0_
          have HO_9:=n1_
          have HL605_0:=n2_
          have BK601:=n3_
          have HR605_0:=n4_
          have HB:=n5_
          clear n0_ n1_ n2_ n3_ n4_ n5_
          have p610:0≤(0:Int):=(by omega)
          have q610:0< ((rd_L1 t602 x11_1).length:Int):=of_decide_eq_true (by first|(with_reducible assumption)|assumption)
          obtain ⟨ad610,e610,hx610_0⟩:=Kd.at_int (by repeat (first|(with_reducible exact HR605_0.out)|(with_reducible refine Kd.C_alloc ?_ _)|(with_reducible refine Kd.C_drewN ?_ _)|(with_reducible refine Kd.C_drew ?_)|exact HR605_0.out)) 0 p610 q610
          obtain rfl:ad606=ad610:=(by injection e610)
          have qi610:(0< (rd_L1 t602 x11_1).length)=True:=eq_true (by omega)
          (try rw [show ((0:Int)).toNat=0 from rfl] at hx610_0)
          (try rw [Addr.add_zero'] at hx610_0)
          replace p610:=eq_true p610
          replace q610:=eq_true q610
          have p611:0≤(1:Int):=(by omega)
          have q611:1< ((rd_L1 t602 x11_1).length:Int):=of_decide_eq_true (by first|(with_reducible assumption)|assumption)
          obtain ⟨ad611,e611,hx611_0⟩:=Kd.at_int (by repeat (first|(with_reducible exact HR605_0.out)|(with_reducible refine Kd.C_alloc ?_ _)|(with_reducible refine Kd.C_drewN ?_ _)|(with_reducible refine Kd.C_drew ?_)|exact HR605_0.out)) 1 p611 q611
          obtain rfl:ad606=ad611:=(by injection e611)
          (try simp only [show (1:Int).toNat=1 from rfl,Nat.reduceMul,Nat.reduceEqDiff,Go.Addr.add,↓reduceIte] at hx611_0)
          have qi611:(1< (rd_L1 t602 x11_1).length)=True:=eq_true (by omega)
          (try rw [show ((1:Int)).toNat=1 from rfl] at hx611_0)
          replace p611:=eq_true p611
          replace q611:=eq_true q611
          refine start_ (n:=11) (S:=fun w'=>w'.cell? ad606=some (.int .i64 (rd (rd_L1 t602 x11_1) 0))∧w'.cell? ⟨ad606.block,ad606.off+1,none⟩=some (.int .i64 (rd (rd_L1 t602 x11_1) 1))) (ds:=[8,9]) #[false,false,false,false,false,false,false,false,false,false,false] (by kernel_rfl) rfl rfl ⟨hx610_0,hx611_0⟩ (fun hHeld=>?_);refine with_tabW spec_paCut.tab6 spec_paCut.bits6 (fun HT_ HW_=>?_)
          generalize w17.drew=w18 at HO_5 HO_9 HL605_0 BK601 HR605_0 HB hx610_0 hx611_0 hHeld ⊢
          refine pure_ (i:=0) (N:=some 26) (v:=?_) (a':=?_) #[true,false,false,false,false,false,false,false,false,false,false] rfl rfl (any_of HT_.out (by kernel_rfl)) (fun _ _ _ h=>h) (Or.inl ⟨by rfl,?_⟩) ?_ ?_
          rotate_left
          ·intro w'
           go_simp
           with_reducible rfl
          rotate_left
          ·simp only [Act.put,List.setIfInBounds_toArray,List.set_cons_zero,List.set_cons_succ,i64_w,i32_w]
           rfl
          refine pure_ (i:=1) (N:=some 27) (v:=?_) (a':=?_) #[true,true,false,false,false,false,false,false,false,false,false] rfl rfl (any_of HT_.out (by kernel_rfl)) (fun _ _ _ h=>h) (Or.inl ⟨by rfl,?_⟩) ?_ ?_
          rotate_left
          ·intro w'
           go_simp
           with_reducible rfl
          rotate_left
          ·simp only [Act.put,List.setIfInBounds_toArray,List.set_cons_zero,List.set_cons_succ,i64_w,i32_w]
           rfl
          refine pure_ (i:=2) (N:=some 28) (v:=?_) (a':=?_) #[true,true,true,false,false,false,false,false,false,false,false] rfl rfl (any_of HT_.out (by kernel_rfl)) (fun _ _ _ h=>h) (Or.inl ⟨by rfl,?_⟩) ?_ ?_
          rotate_left
          ·intro w'
           go_simp
           with_reducible rfl
          rotate_left
          ·simp only [Act.put,List.setIfInBounds_toArray,List.set_cons_zero,List.set_cons_succ,i64_w,i32_w]
           rfl
          refine pure_ (i:=4) (N:=some 30) (v:=?_) (a':=?_) #[true,true,true,false,true,false,false,false,false,false,false] rfl rfl (any_of HT_.out (by kernel_rfl)) (fun _ _ _ h=>h) (Or.inl ⟨by rfl,?_⟩) ?_ ?_
          rotate_left
          ·intro w'
           go_simp
           with_reducible rfl
          rotate_left
          ·simp only [Act.put,List.setIfInBounds_toArray,List.set_cons_zero,List.set_cons_succ,i64_w,i32_w]
           rfl
          refine pure_ (i:=5) (N:=some 31) (v:=?_) (a':=?_) #[true,true,true,false,true,true,false,false,false,false,false] rfl rfl (any_of HT_.out (by kernel_rfl)) (fun _ _ _ h=>h) (Or.inl ⟨by rfl,?_⟩) ?_ ?_
          rotate_left
          ·intro w'
           go_simp
           with_reducible rfl
          rotate_left
          ·simp only [Act.put,List.setIfInBounds_toArray,List.set_cons_zero,List.set_cons_succ,i64_w,i32_w]
           rfl
          refine take_ (i:=3) (N:=some 29) (v:=?_) (a':=?_) #[true,true,true,true,true,true,false,false,false,false,false] rfl rfl (take_ofW HT_.out HW_.out (by kernel_rfl)) (fun _ _ _ h=>h) (Or.inl ⟨by rfl,?_⟩) hHeld ?_ ?_
          rotate_left
          ·rintro w' ⟨s0,s1⟩
           go_simp
           with_reducible rfl
          rotate_left
          ·simp only [Act.put,List.setIfInBounds_toArray,List.set_cons_zero,List.set_cons_succ,i64_w,i32_w]
           rfl
          refine take_ (i:=6) (N:=some 32) (v:=?_) (a':=?_) #[true,true,true,true,true,true,true,false,false,false,false] rfl rfl (take_ofW HT_.out HW_.out (by kernel_rfl)) (fun _ _ _ h=>h) (Or.inl ⟨by rfl,?_⟩) hHeld ?_ ?_
          rotate_left
          ·rintro w' ⟨s0,s1⟩
           go_simp
           with_reducible rfl
          rotate_left
          ·simp only [Act.put,List.setIfInBounds_toArray,List.set_cons_zero,List.set_cons_succ,i64_w,i32_w]
           rfl
          refine one_ (i:=7) (N:=some 33) #[true,true,true,true,true,true,true,true,false,false,false] rfl rfl (one_of HT_.out (by kernel_rfl)) (by decide) (fun K hK=>?_)
          refine Kd.R_lit_step (Kd.int .i64) _ 3 ?hg (N:=33) ?hd (xs:=([rd (rd_L1 t602 x11_1) 0,rd (rd_L1 t602 x11_1) 1]:List Int)) (inner:=[.int .i64 (rd (rd_L1 t602 x11_1) 0),.int .i64 (rd (rd_L1 t602 x11_1) 1)]) (ok:=fun _=>True) (okp:=fun _=>True) ?hr ?hp (fun _ hk=>hk) trivial (Below.refl _ _) (Nat.le_refl _) (by simp) ?_;(case hd=>rfl);(case hg=>rfl);(case hr=>first|(go_simp;done)|(go_simp;rfl));(case hp=>exact (Reps.one (show Kd.M (Kd.int .i64) _ _ _ (rd (rd_L1 t602 x11_1) 0) [.int .i64 (rd (rd_L1 t602 x11_1) 0)] from rfl) (Reps.one (show Kd.M (Kd.int .i64) _ _ _ (rd (rd_L1 t602 x11_1) 1) [.int .i64 (rd (rd_L1 t602 x11_1) 1)] from rfl) (Reps.none _ _))))
          intro v613 w19 ho20 hb hg_ hnew_
          have HS0_:=(hb.cell (World.block_lt_of_cell? _ _ (hHeld.1))).trans (hHeld.1)
          have HS1_:=(hb.cell (World.block_lt_of_cell? _ _ (hHeld.2))).trans (hHeld.2)
          clear hg_ hnew_
          (first|rw [← Ny612.out] at ho20|(simp only [Int.reduceToNat] at ho20;rw [← Ny612.out] at ho20))
          have n0_:=Aside0.mk (Kd.S_elder' (by (with_reducible repeat (first|apply Kd.S_alloc|apply Kd.S_drewN|apply Kd.S_drew));exact HO_5.out) (Kd.R_base ho20) hb)
          have n1_:=Aside0.mk (Kd.S_elder' (by (with_reducible repeat (first|apply Kd.S_alloc|apply Kd.S_drewN|apply Kd.S_drew));exact HO_9.out) (Kd.R_base ho20) hb)
          have n2_:=Aside0.mk (Kd.R_elder' (by (with_reducible repeat (first|apply Kd.R_alloc|apply Kd.R_drewN|apply Kd.R_drew));exact HL605_0.out) (Kd.R_base ho20) hb)
          have n3_:=Aside0.mk (Kd.R_lower (Kd.R_new' ho20 (Kd.R_lt (by (with_reducible repeat (first|apply Kd.R_alloc|apply Kd.R_drewN|apply Kd.R_drew));exact HL605_0.out))) (below_size (by repeat (first|(with_reducible first|exact HB.out|apply below_alloc|apply pw_below_drewN|apply below_drew1|refine below_set ?_ GE601.out)|exact HB.out))))
          have n4_:=Aside0.mk (blk_below (g:=gb601) (o:=.cells #[.slice A0_0 l0_0.length c0_0,.bool a0_1] 28 (0,0)) (by (with_reducible repeat (first|refine blk_drewN ?_ _|refine blk_drew ?_|refine blk_alloc ?_ _));exact BK601.out) hb)
          have n5_:=Aside0.mk (Kd.C_below (by repeat (first|(with_reducible exact HR605_0.out)|(with_reducible refine Kd.C_alloc ?_ _)|(with_reducible refine Kd.C_drewN ?_ _)|(with_reducible refine Kd.C_drew ?_)|exact HR605_0.out)) hb)
          have n6_:=Aside0.mk (below_step (by repeat (first|(with_reducible first|exact HB.out|apply below_alloc|apply pw_below_drewN|apply below_drew1|refine below_set ?_ GE601.out)|exact HB.out)) hb)
          clear HO_5;clear HO_9;clear HL605_0;clear BK601;clear HR605_0;clear HB
          have HO_5:=n0_
          have HO_9:=n1_
          have HL605_0:=n2_
          have HO614:=n3_
          have BK601:=n4_
          have HR605_0:=n5_
          have HB:=n6_
          clear n0_ n1_ n2_ n3_ n4_ n5_ n6_;clear hb ho20
          obtain ⟨Ao22,co22,eo22⟩:=Kd.R_slice HO614.out
          (first|subst eo22|(injection eo22 with f1_ f2_ f3_;have f4_:=f1_.symm;have f5_:=f3_.symm;clear f1_ f2_ f3_;subst f4_;subst f5_))
          refine hK.out _ _ ⟨HS0_,HS1_⟩ (fun hHeld=>?_)
          clear hK K
          refine norm_ (a':=?_) ?_ ?_
          rotate_left
          ·show Act.put _ (some 33) _=_
           simp only [Act.put,List.setIfInBounds_toArray,List.set_cons_zero,List.set_cons_succ,i64_w,i32_w]
           rfl
          refine last_ (i:=8) (N:=some 34) #[true,true,true,true,true,true,true,true,true,false,false] rfl rfl (one_of HT_.out (by kernel_rfl)) (by decide) (fun K hK=>?_)
          refine value_ (w1:=?_) (v:=?_) (by rfl) rfl ?_ ?_
          rotate_left 2
          ·go_simp
           constructor
           ·rfl
           ·rfl
          refine hK.out _ _ ?_
          clear hK K
          refine norm_ (a':=?_) ?_ ?_
          rotate_left
          ·show Act.put _ (some 34) _=_
           simp only [Act.put,List.setIfInBounds_toArray,List.set_cons_zero,List.set_cons_succ,i64_w,i32_w]
           rfl
          refine last_ (i:=9) (N:=some 35) #[true,true,true,true,true,true,true,true,true,true,false] rfl rfl (one_of HT_.out (by kernel_rfl)) (by decide) (fun K hK=>?_)
          refine Kd.S_append_step (Kd.slice 3 (Kd.int .i64)) (w0:=w) w.heap.size (by rfl) (.tmp 26) (.tmp 34) 60 22 (.slice none 0 0) 24 rfl Try.underlying60 info22 rfl (by decide) (by omega) u5 x5_1 y612 [.slice Ao22 y612.length co22] (fun k_=>some k_≠(.slice (some ad605) t602.length co7:Value).ownBlock) (fun k_=>some k_=(.slice Ao22 y612.length co22:Value).ownBlock) rfl rfl ?aP (fun k_ hk_=>((Kd.R_mono (ok':=fun k_=>((fun k_=>some k_≠(.slice (some ad605) t602.length co7:Value).ownBlock)) k_∧some k_≠(u5:Value).ownBlock) (Kd.R_apart' (Kd.R_apart' (HO614.out) (Kd.S_typed HO_9.out) (by decide)) (Kd.S_typed HO_5.out) (by decide)) (fun k_ hk=>⟨hk.1.2,hk.2⟩))).1 k_ hk_.symm) ?aF ?aO ?aB ?aS ?aL ?_
          (case aP=>exact Kd.M_row (Kd.R_mono (Kd.R_tight rfl (Kd.R_mono (ok':=fun k_=>((fun k_=>some k_≠(.slice (some ad605) t602.length co7:Value).ownBlock)) k_∧some k_≠(u5:Value).ownBlock) (Kd.R_apart' (Kd.R_apart' (HO614.out) (Kd.S_typed HO_9.out) (by decide)) (Kd.S_typed HO_5.out) (by decide)) (fun k_ hk=>⟨hk.1.2,hk.2⟩))) (fun _ h_=>h_)))
          (case aB=>exact (by repeat (first|(with_reducible first|exact HB.out|apply below_alloc|apply pw_below_drewN|apply below_drew1|refine below_set ?_ GE601.out)|exact HB.out)))
          (case aF=>exact (fun k_ hk=>Kd.fresh' (Kd.S_lt (by (with_reducible repeat (first|apply Kd.S_alloc|apply Kd.S_drewN|apply Kd.S_drew));exact HO_9.out)) k_ hk))
          (case aO=>exact (by (with_reducible repeat (first|apply Kd.S_alloc|apply Kd.S_drewN|apply Kd.S_drew));exact Kd.S_mono HO_5.out (fun k_ hk=>⟨hk.1,fun e_=>hk.2 e_⟩)))
          (case aS=>exact (below_size (by repeat (first|(with_reducible first|exact HB.out|apply below_alloc|apply pw_below_drewN|apply below_drew1|refine below_set ?_ GE601.out)|exact HB.out))))
          (case aL=>have:=LMc16.out;omega)
          intro v616 w21 ho hb hg hat
          rw [← Ny615.out] at ho
          have n0_:=Aside0.mk (Kd.S_after (ok:=(fun k_=>some k_≠(.slice Ao22 y612.length co22:Value).ownBlock)) (by (with_reducible repeat (first|apply Kd.S_alloc|apply Kd.S_drewN|apply Kd.S_drew));exact Kd.S_mono HO_9.out (fun _ hk=>⟨hk.2,hk.1⟩)) hg hat)
          have n1_:=Aside0.mk (blk_grown (g:=gb601) (o:=.cells #[.slice A0_0 l0_0.length c0_0,.bool a0_1] 28 (0,0)) (by (with_reducible repeat (first|refine blk_drewN ?_ _|refine blk_drew ?_|refine blk_alloc ?_ _));exact BK601.out) hg (Kd.S_ne HO_5.out BK601.out (by decide)))
          have n2_:=Aside0.mk (Kd.R_after (ok:=(fun k_=>some k_≠(.slice (some ad605) t602.length co7:Value).ownBlock∧some k_≠(.slice Ao22 y612.length co22:Value).ownBlock)) (by (with_reducible repeat (first|apply Kd.R_alloc|apply Kd.R_drewN|apply Kd.R_drew));exact Kd.R_mono HL605_0.out (fun _ hk=>⟨⟨hk.1.2,hk.2⟩,hk.1.1⟩)) hg hat)
          have n3_:=Aside0.mk (hb)
          have n4_:=Aside0.mk (ho)
          clear HO_9;clear BK601;clear HL605_0;clear HB;clear HO_5;clear HO614
          have HO_9:=n0_
          have BK601:=n1_
          have HL605_0:=n2_
          have HB:=n3_
          have HO617:=n4_
          clear n0_ n1_ n2_ n3_ n4_;clear ho hb hg hat
          refine hK.out _ _ ?_
          clear hK K
          refine norm_ (a':=?_) ?_ ?_
          rotate_left
          ·show Act.put _ (some 35) _=_
           simp only [Act.put,List.setIfInBounds_toArray,List.set_cons_zero,List.set_cons_succ,i64_w,i32_w]
           rfl
          refine pure_ (i:=10) (N:=some 5) (v:=?_) (a':=?_) #[true,true,true,true,true,true,true,true,true,true,true] rfl rfl (any_of HT_.out (by kernel_rfl)) (fun _ _ _ h=>h) (Or.inl ⟨by rfl,?_⟩) ?_ ?_
          rotate_left
          ·intro w'
           go_simp
           with_reducible rfl
          rotate_left
          ·simp only [Act.put,List.setIfInBounds_toArray,List.set_cons_zero,List.set_cons_succ,i64_w,i32_w]
           rfl
          refine done_ (done_of HT_.out (by kernel_rfl)) ?_
          try go_wp2
          go_roundg k1
          case measure=>have:=HK1.out;omega
          case rel=>exact ⟨(y615),(wrap64 (x11_1+1)),(by first|rfl|(simp;done)|(simp [*];done)),H',⟨by have:=HK1.out;omega⟩,⟨by (with_reducible repeat (first|apply Kd.S_alloc|apply Kd.S_drewN|apply Kd.S_drew));exact HO617.out⟩,⟨by (with_reducible repeat (first|apply Kd.S_alloc|apply Kd.S_drewN|apply Kd.S_drew));exact Kd.S_mono HO_9.out (fun _ hk=>hk.2)⟩,⟨by (with_reducible repeat (first|refine blk_drewN ?_ _|refine blk_drew ?_|refine blk_alloc ?_ _));exact BK601.out⟩,⟨by repeat (first|(with_reducible first|exact HB.out|apply below_alloc|apply pw_below_drewN|apply below_drew1|refine below_set ?_ GE601.out)|exact HB.out)⟩⟩
         ·rw [if_neg c16] at H
          exact absurd H (by simp)
        ·rw [if_neg c15] at H
         have c15b0:(t607 !=t609)=false:=by simpa using c15
         (try (have c15b1:decide (t607=t609)=true:=by simpa using c15))
         (try (have c15b2:(t607==t609)=true:=by simpa using c15))
         clear c15
         have H':=Aside0.mk H
         clear H
         have p605:0≤(x11_1:Int):=of_decide_eq_true (by first|(with_reducible assumption)|assumption)
         have q605:x11_1< (t602.length:Int):=of_decide_eq_true (by first|(with_reducible assumption)|assumption)
         obtain ⟨ad605,A605_0,c605_0,e605,hx605_0,hl605_0,hi605_0⟩:=at_L1 (Kd.S_reads' HO_9.out).2.2 x11_1 p605 q605
         cases e605
         obtain ⟨ce605,hce605,hMe605,hcc605⟩:=Kd.S_get HO_9.out [] x11_1 p605 (by first|exact q605|exact of_decide_eq_true (by first|(with_reducible assumption)|assumption)|(have e_:=(Kd.S_reads' HO_9.out).1;omega))
         obtain ⟨ve605_0,rfl,ge605_0⟩:=hMe605
         have hv605_0:=hcc605 0 _ rfl
         rw [Nat.add_zero,show ((Kd.slice 3 (Kd.int .i64))).sz=1 from rfl,Nat.mul_one] at hv605_0
         replace hv605_0:=Option.some.inj (hv605_0.symm.trans hx605_0)
         rw [hv605_0] at ge605_0
         have HL605_0:=Aside0.mk (show Kd.R (Kd.int .i64) 3 _ _ _ _ (rd_L1 t602 x11_1) from ge605_0)
         clear hv605_0 ge605_0;clear hcc605 hce605
         have HR605_0:=Aside0.mk hi605_0
         have HC605_0:=Aside0.mk hl605_0
         clear hi605_0 hl605_0
         replace p605:=eq_true p605
         replace q605:=eq_true q605
         try go_wp2
         have n0_:=Aside0.mk (Kd.S_drew HO_5.out)
         have n1_:=Aside0.mk (Kd.S_drew HO_9.out)
         have n2_:=Aside0.mk (Kd.R_drew HL605_0.out)
         have n3_:=Aside0.mk (blk_drew BK601.out)
         have n4_:=Aside0.mk (Kd.C_drew HR605_0.out)
         have n5_:=Aside0.mk (below_drew1 HB.out)
         clear HO_5;clear HO_9;clear HL605_0;clear BK601;clear HR605_0;clear HB
         have HO_5:=n0_
         have HO_9:=n1_
         have HL605_0:=n2_
         have BK601:=n3_
         have HR605_0:=n4_
         have HB:=n5_
         clear n0_ n1_ n2_ n3_ n4_ n5_
         have p606:0≤(0:Int):=(by omega)
         have q606:0< ((rd_L1 t602 x11_1).length:Int):=of_decide_eq_true (by first|(with_reducible assumption)|assumption)
         obtain ⟨ad606,e606,hx606_0⟩:=Kd.at_int (by repeat (first|(with_reducible exact HR605_0.out)|(with_reducible refine Kd.C_alloc ?_ _)|(with_reducible refine Kd.C_drewN ?_ _)|(with_reducible refine Kd.C_drew ?_)|exact HR605_0.out)) 0 p606 q606
         cases e606
         have qi606:(0< (rd_L1 t602 x11_1).length)=True:=eq_true (by omega)
         (try rw [show ((0:Int)).toNat=0 from rfl] at hx606_0)
         (try rw [Addr.add_zero'] at hx606_0)
         replace p606:=eq_true p606
         replace q606:=eq_true q606
         have p608:0≤(1:Int):=(by omega)
         have q608:1< ((rd_L1 t602 x11_1).length:Int):=of_decide_eq_true (by first|(with_reducible assumption)|assumption)
         obtain ⟨ad608,e608,hx608_0⟩:=Kd.at_int (by repeat (first|(with_reducible exact HR605_0.out)|(with_reducible refine Kd.C_alloc ?_ _)|(with_reducible refine Kd.C_drewN ?_ _)|(with_reducible refine Kd.C_drew ?_)|exact HR605_0.out)) 1 p608 q608
         obtain rfl:ad606=ad608:=(by injection e608)
         (try simp only [show (1:Int).toNat=1 from rfl,Nat.reduceMul,Nat.reduceEqDiff,Go.Addr.add,↓reduceIte] at hx608_0)
         have qi608:(1< (rd_L1 t602 x11_1).length)=True:=eq_true (by omega)
         (try rw [show ((1:Int)).toNat=1 from rfl] at hx608_0)
         replace p608:=eq_true p608
         replace q608:=eq_true q608
         refine start_ (n:=11) (S:=fun w'=>w'.cell? ad606=some (.int .i64 (rd (rd_L1 t602 x11_1) 0))∧w'.cell? ⟨ad606.block,ad606.off+1,none⟩=some (.int .i64 (rd (rd_L1 t602 x11_1) 1))) (ds:=[]) #[false,false,false,false,false,false,false,false,false,false,false] (by kernel_rfl) rfl rfl ⟨hx606_0,hx608_0⟩ (fun hHeld=>?_);refine with_tabW spec_paCut.tab5 spec_paCut.bits5 (fun HT_ HW_=>?_)
         generalize wr.drew=w23 at HO_5 HO_9 HL605_0 BK601 HR605_0 HB hx606_0 hx608_0 hHeld ⊢
         refine pure_ (i:=0) (N:=some 15) (v:=?_) (a':=?_) #[true,false,false,false,false,false,false,false,false,false,false] rfl rfl (any_of HT_.out (by kernel_rfl)) (fun _ _ _ h=>h) (Or.inl ⟨by rfl,?_⟩) ?_ ?_
         rotate_left
         ·intro w'
          go_simp
          with_reducible rfl
         rotate_left
         ·simp only [Act.put,List.setIfInBounds_toArray,List.set_cons_zero,List.set_cons_succ,i64_w,i32_w]
          rfl
         refine pure_ (i:=1) (N:=some 16) (v:=?_) (a':=?_) #[true,true,false,false,false,false,false,false,false,false,false] rfl rfl (any_of HT_.out (by kernel_rfl)) (fun _ _ _ h=>h) (Or.inl ⟨by rfl,?_⟩) ?_ ?_
         rotate_left
         ·intro w'
          go_simp
          with_reducible rfl
         rotate_left
         ·simp only [Act.put,List.setIfInBounds_toArray,List.set_cons_zero,List.set_cons_succ,i64_w,i32_w]
          rfl
         refine pure_ (i:=2) (N:=some 17) (v:=?_) (a':=?_) #[true,true,true,false,false,false,false,false,false,false,false] rfl rfl (any_of HT_.out (by kernel_rfl)) (fun _ _ _ h=>h) (Or.inl ⟨by rfl,?_⟩) ?_ ?_
         rotate_left
         ·intro w'
          go_simp
          with_reducible rfl
         rotate_left
         ·simp only [Act.put,List.setIfInBounds_toArray,List.set_cons_zero,List.set_cons_succ,i64_w,i32_w]
          rfl
         refine pure_ (i:=5) (N:=some 20) (v:=?_) (a':=?_) #[true,true,true,false,false,true,false,false,false,false,false] rfl rfl (any_of HT_.out (by kernel_rfl)) (fun _ _ _ h=>h) (Or.inl ⟨by rfl,?_⟩) ?_ ?_
         rotate_left
         ·intro w'
          go_simp
          with_reducible rfl
         rotate_left
         ·simp only [Act.put,List.setIfInBounds_toArray,List.set_cons_zero,List.set_cons_succ,i64_w,i32_w]
          rfl
         refine pure_ (i:=6) (N:=some 21) (v:=?_) (a':=?_) #[true,true,true,false,false,true,true,false,false,false,false] rfl rfl (any_of HT_.out (by kernel_rfl)) (fun _ _ _ h=>h) (Or.inl ⟨by rfl,?_⟩) ?_ ?_
         rotate_left
         ·intro w'
          go_simp
          with_reducible rfl
         rotate_left
         ·simp only [Act.put,List.setIfInBounds_toArray,List.set_cons_zero,List.set_cons_succ,i64_w,i32_w]
          rfl
         refine pure_ (i:=7) (N:=some 22) (v:=?_) (a':=?_) #[true,true,true,false,false,true,true,true,false,false,false] rfl rfl (any_of HT_.out (by kernel_rfl)) (fun _ _ _ h=>h) (Or.inl ⟨by rfl,?_⟩) ?_ ?_
         rotate_left
         ·intro w'
          go_simp
          with_reducible rfl
         rotate_left
         ·simp only [Act.put,List.setIfInBounds_toArray,List.set_cons_zero,List.set_cons_succ,i64_w,i32_w]
          rfl
         refine take_ (i:=3) (N:=some 18) (v:=?_) (a':=?_) #[true,true,true,true,false,true,true,true,false,false,false] rfl rfl (take_ofW HT_.out HW_.out (by kernel_rfl)) (fun _ _ _ h=>h) (Or.inl ⟨by rfl,?_⟩) hHeld ?_ ?_
         rotate_left
         ·rintro w' ⟨s0,s1⟩
          go_simp
          with_reducible rfl
         rotate_left
         ·simp only [Act.put,List.setIfInBounds_toArray,List.set_cons_zero,List.set_cons_succ,i64_w,i32_w]
          rfl
         refine take_ (i:=8) (N:=some 23) (v:=?_) (a':=?_) #[true,true,true,true,false,true,true,true,true,false,false] rfl rfl (take_ofW HT_.out HW_.out (by kernel_rfl)) (fun _ _ _ h=>h) (Or.inl ⟨by rfl,?_⟩) hHeld ?_ ?_
         rotate_left
         ·rintro w' ⟨s0,s1⟩
          go_simp
          with_reducible rfl
         rotate_left
         ·simp only [Act.put,List.setIfInBounds_toArray,List.set_cons_zero,List.set_cons_succ,i64_w,i32_w]
          rfl
         refine one_ (i:=4) (N:=some 19) #[true,true,true,true,true,true,true,true,true,false,false] rfl rfl (one_of HT_.out (by kernel_rfl)) (by decide) (fun K hK=>?_)
         refine goes_ Try.func70 (by kernel_rfl) rfl #[.int .i64 a1,.int .i64 (rd (rd_L1 t602 x11_1) 0)] (by rfl) rfl rfl (by (try simp only [List.map_toArray,List.map_cons,List.map_nil]);first|done|rfl|(simp only [List.length_drop,List.length_take];rfl)) ?_
         with_reducible refine (spec_grIn.calls a1 (rd (rd_L1 t602 x11_1) 0) t607 _ A12.out).mono ?_
         rintro e w' ⟨rfl,⟨nd,rfl⟩⟩
         refine ⟨_,rfl,?_⟩
         refine hK.out _ _ ⟨hHeld.1,hHeld.2⟩ (fun hHeld=>?_)
         clear hK K
         refine norm_ (a':=?_) ?_ ?_
         rotate_left
         ·show Act.put _ (some 19) _=_
          simp only [Act.put,List.setIfInBounds_toArray,List.set_cons_zero,List.set_cons_succ,i64_w,i32_w]
          rfl
         refine one_ (i:=9) (N:=some 24) #[true,true,true,true,true,true,true,true,true,true,false] rfl rfl (one_of HT_.out (by kernel_rfl)) (by decide) (fun K hK=>?_)
         refine goes_ Try.func70 (by kernel_rfl) rfl #[.int .i64 a1,.int .i64 (rd (rd_L1 t602 x11_1) 1)] (by rfl) rfl rfl (by (try simp only [List.map_toArray,List.map_cons,List.map_nil]);first|done|rfl|(simp only [List.length_drop,List.length_take];rfl)) ?_
         with_reducible refine (spec_grIn.calls a1 (rd (rd_L1 t602 x11_1) 1) t609 _ A14.out).mono ?_
         rintro e w' ⟨rfl,⟨nd,rfl⟩⟩
         refine ⟨_,rfl,?_⟩
         refine hK.out _ _ ⟨hHeld.1,hHeld.2⟩ (fun hHeld=>?_)
         clear hK K
         refine norm_ (a':=?_) ?_ ?_
         rotate_left
         ·show Act.put _ (some 24) _=_
          simp only [Act.put,List.setIfInBounds_toArray,List.set_cons_zero,List.set_cons_succ,i64_w,i32_w]
          rfl
         refine pure_ (i:=10) (N:=some 25) (v:=?_) (a':=?_) #[true,true,true,true,true,true,true,true,true,true,true] rfl rfl (any_of HT_.out (by kernel_rfl)) (fun _ _ _ h=>h) (Or.inl ⟨by rfl,?_⟩) ?_ ?_
         rotate_left
         ·intro w'
          go_simp
          with_reducible rfl
         rotate_left
         ·simp only [Act.put,List.setIfInBounds_toArray,List.set_cons_zero,List.set_cons_succ,i64_w,i32_w]
          rfl
         refine done_ (done_of HT_.out (by kernel_rfl)) ?_
         try go_wp2
         go_roundg k1
         case measure=>have:=HK1.out;omega
         case rel=>exact ⟨(x5_1),(wrap64 (x11_1+1)),(by first|rfl|(simp;done)|(simp [*];done)),H',⟨by have:=HK1.out;omega⟩,⟨by (with_reducible repeat (first|apply Kd.S_alloc|apply Kd.S_drewN|apply Kd.S_drew));exact HO_5.out⟩,⟨by (with_reducible repeat (first|apply Kd.S_alloc|apply Kd.S_drewN|apply Kd.S_drew));exact HO_9.out⟩,⟨by (with_reducible repeat (first|refine blk_drewN ?_ _|refine blk_drew ?_|refine blk_alloc ?_ _));exact BK601.out⟩,⟨by repeat (first|(with_reducible first|exact HB.out|apply below_alloc|apply pw_below_drewN|apply below_drew1|refine below_set ?_ GE601.out)|exact HB.out)⟩⟩
       ·rw [if_neg c13] at H
        exact absurd H (by simp)
      ·rw [if_neg c11] at H
       exact absurd H (by simp)
     ·rw [if_neg c10] at H
      exact absurd H (by simp)
    ·rw [if_neg c9] at H
     exact absurd H (by simp)
   ·rw [if_neg c8] at H
    have c8b0:decide (x11_1< (t602.length:Int))=false:=decide_eq_false c8
    clear c8
    obtain rfl:=Option.some.inj H
    go_wp2
    go_ret
    exact ⟨_,by first|rfl|(simp [errW_none,errW_some]<;>rfl)|(simp [*,errW_none,errW_some]<;>rfl),by (with_reducible repeat (first|apply Kd.S_alloc|apply Kd.S_drewN|apply Kd.S_drew));exact Kd.S_mono HO_5.out (fun _ hk=>trivial),by repeat (first|(with_reducible first|exact HB.out|apply below_alloc|apply pw_below_drewN|apply below_drew1|refine below_set ?_ GE601.out)|exact HB.out)⟩
/-! ### spec_paParts: function 64 -/
mutual
def spec_paParts.l0:Nat→List Int→Int→Int→Int→List Int→Bool→Option (List Int)
 |0,_,_,_,_,_,_=>none
 |k+1,x3,x4,x12,x13,x619000,x619001=>if x13< x12 then ((spec_grIn.f x4 x13).bind fun t619=>(if t619=true then (spec_paParts.l0 k x3 x4 x12 (wrap64 (x13+1)) x619000 x619001) else (if 0≤x13 then (spec_paParts.l1 k x3 x4 (shl .i64 1 x13) 0 x12 x13 x619000 x619001) else (none)))) else (some x3)
def spec_paParts.l1:Nat→List Int→Int→Int→Int→Int→Int→List Int→Bool→Option (List Int)
 |0,_,_,_,_,_,_,_,_=>none
 |k+1,x3,x4,x6,x7,x12,x13,x619000,x619001=>if x7< (x619000.length:Int) then (spec_paParts.l2 k x3 x4 x6 x7 x12 x13 x619000 (x619000.length:Int) 0 x619000 x619001) else (if x3.length< 17592186044416 then (spec_paParts.l0 k (x3++[x6]) (Go.bits .or .i64 x4 x6) x12 (wrap64 (x13+1)) x619000 x619001) else (none))
def spec_paParts.l2:Nat→List Int→Int→Int→Int→Int→Int→List Int→Int→Int→List Int→Bool→Option (List Int)
 |0,_,_,_,_,_,_,_,_,_,_,_=>none
 |k+1,x3,x4,x6,x7,x12,x13,x29,x30,x31,x619000,x619001=>if x31< x30 then (if 0≤x31 then (if x31< (x29.length:Int) then ((spec_grIn.f x6 x31).bind fun t624=>(if t624=true then (spec_paParts.l2 k x3 x4 (Go.bits .or .i64 x6 (rd x29 x31)) x7 x12 x13 x29 x30 (wrap64 (x31+1)) x619000 x619001) else (spec_paParts.l2 k x3 x4 x6 x7 x12 x13 x29 x30 (wrap64 (x31+1)) x619000 x619001))) else (none)) else (none)) else (spec_paParts.l1 k x3 x4 x6 (wrap64 (x7+1)) x12 x13 x619000 x619001)
end
def spec_paParts.f (k:Nat) (l0_0:List Int) (a0_1:Bool):Option (List Int):=spec_paParts.l0 k ([]:List Int) 0 (l0_0.length:Int) 0 l0_0 a0_1
set_option maxHeartbeats 8000000 in
set_option maxRecDepth 100000 in
theorem spec_paParts.calls (k:Nat) (A0_0:Option Addr) (c0_0:Nat) (l0_0:List Int) (a0_1:Bool) (r:List Int) (w:World) (hr0_0:Kd.C (Kd.int .i64) w A0_0 l0_0.length l0_0) (hc0_0:l0_0.length≤c0_0) (h:spec_paParts.f k l0_0 a0_1=some r):
  Calls Try.prog 64 #[.agg #[.slice A0_0 l0_0.length c0_0,.bool a0_1]] w fun e w'=>∃ v0_:Value,e=.returned (v0_)∧Kd.R (Kd.int .i64) 3 w' w.heap.size (fun _=>True) v0_ r∧Below w.heap.size w w':=by
 have hu28:=Try.underlying28
 have HR0_0:=Aside0.mk hr0_0
 have HC0_0:=Aside0.mk hc0_0
 clear hr0_0 hc0_0
 have HB:=Aside0.mk (Below.refl w.heap.size w)
 have H:(spec_paParts.l0 k ([]:List Int) 0 (l0_0.length:Int) 0 l0_0 a0_1)=some r:=h
 clear h
 have H':=Aside0.mk H
 clear H
 go_enter Try.func64,Try.ntmps64
 go_wp2_with (first|((with_reducible refine gate_dst (N:=1) rfl ?_);refine box_event ?hg (N:=1) ?hd (cs:=#[.slice A0_0 l0_0.length c0_0,.bool a0_1]) (t:=28) ?hr ?_;(case hd=>rfl);(case hg=>rfl);(case hr=>first|(go_simp;done)|(go_simp;rfl));intro gb618 hg w2 hbox hb;have n0_:=Aside0.mk (below_step (by repeat (first|(with_reducible first|exact HB.out|apply below_alloc|apply pw_below_drewN|apply below_drew1)|exact HB.out)) hb);have n1_:=Aside0.mk (hbox);have n2_:=Aside0.mk ((by rw [hg];exact (below_size (by repeat (first|(with_reducible first|exact HB.out|apply below_alloc|apply pw_below_drewN|apply below_drew1)|exact HB.out))):w.heap.size≤gb618));have n3_:=Aside0.mk ((by rw [hg];exact (below_size (by repeat (first|(with_reducible first|exact HB.out|apply below_alloc|apply pw_below_drewN|apply below_drew1)|exact HB.out))):w.heap.size≤gb618));clear HB;have HB:=n0_;have BK618:=n1_;have GW618:=n2_;have GE618:=n3_;clear n0_ n1_ n2_ n3_;clear hb hbox hg;have hcz3_0:w2.cell? ⟨gb618,0,none⟩=some (.slice A0_0 l0_0.length c0_0):=(blk_cell BK618.out 0).trans rfl;have hcz3_1:w2.cell? ⟨gb618,1,none⟩=some (.bool a0_1):=(blk_cell BK618.out 1).trans rfl;have hfz3_0:=blk_frozen BK618.out 0;have hfz3_1:=blk_frozen BK618.out 1))
 go_loopg [3,4,13] k (fun kq v3 v4 v13 w'=>∃ (x3_1:List Int) (x4_1:Int) (x13_1:Int),v4=.int .i64 x4_1∧v13=.int .i64 x13_1∧Aside0 (spec_paParts.l0 kq x3_1 x4_1 (l0_0.length:Int) x13_1 l0_0 a0_1=some r)∧Aside0 (kq≤k)∧Aside0 (Kd.R (Kd.int .i64) 3 w' w.heap.size (fun _=>True) v3 x3_1)∧Aside0 (w'.heap[gb618]?=some (.cells #[(.slice A0_0 l0_0.length c0_0),.bool a0_1] 28 (0,0)))∧Aside0 (Below w.heap.size w w'))
 case atStart=>exact ⟨(([]:List Int)),(0),(0),(by first|rfl|(simp;done)|(simp [*];done)),(by first|rfl|(simp;done)|(simp [*];done)),H',⟨Nat.le_refl _⟩,⟨by first|exact Kd.R_nil _ _ _ _ _|exact Kd.N_nil _ _ _ _ _|exact Kd.V_nil _ _ _ _ _|exact Kd.Q_nil _ _ _ _ _|exact Kd.S_nil _ _ _ _ _⟩,⟨by (with_reducible repeat (first|refine blk_drewN ?_ _|refine blk_drew ?_|refine blk_alloc ?_ _));exact BK618.out⟩,⟨by repeat (first|(with_reducible first|exact HB.out|apply below_alloc|apply pw_below_drewN|apply below_drew1|refine below_set ?_ GE618.out)|exact HB.out)⟩⟩
 case round=>
  clear H'
  (try clear p2);(try clear hcz3_0);(try clear hcz3_1);(try clear hfz3_0);(try clear hfz3_1)
  obtain ⟨x3_1,x4_1,x13_1,rfl,rfl,HA,HK1,HO_3,BK618,HB⟩:=hrel
  cases gk with
  |zero=>exact absurd HA.out (by simp [spec_paParts.l0])
  |succ k1=>
   have H:=HA.out
   clear HA
   simp only [spec_paParts.l0] at H
   by_cases c4:x13_1< (l0_0.length:Int)
   ·rw [if_pos c4] at H
    have c4b0:decide (x13_1< (l0_0.length:Int))=true:=decide_eq_true c4
    clear c4
    replace H:=Option.bind_eq_some_iff.mp H
    obtain ⟨t619,A50,H⟩:=H
    replace H:(if t619=true then (spec_paParts.l0 k1 x3_1 x4_1 (l0_0.length:Int) (wrap64 (x13_1+1)) l0_0 a0_1) else (if 0≤x13_1 then (spec_paParts.l1 k1 x3_1 x4_1 (shl .i64 1 x13_1) 0 (l0_0.length:Int) x13_1 l0_0 a0_1) else (none)))=some r:=H
    have A5:=Aside0.mk A50
    clear A50
    by_cases c6:t619=true
    ·subst c6
     have H1:(spec_paParts.l0 k1 x3_1 x4_1 (l0_0.length:Int) (wrap64 (x13_1+1)) l0_0 a0_1)=some r:=by rw [if_pos rfl] at H;exact H
     clear H
     have H:=H1
     clear H1
     have H':=Aside0.mk H
     clear H
     go_wp2_with (first|((with_reducible refine gate_callee (f:=70) rfl ?_);refine goesL_ (some 18) rfl rfl Try.func70 (by kernel_rfl) rfl #[.int .i64 x4_1,.int .i64 x13_1] rfl (by (try simp only [List.map_toArray,List.map_cons,List.map_nil]);first|done|rfl|(simp only [List.length_drop,List.length_take];rfl)) ?_;(with_reducible refine (spec_grIn.calls x4_1 x13_1 true _ A5.out).mono ?_);rintro e w' ⟨rfl,⟨nd,rfl⟩⟩;refine ⟨_,rfl,?_⟩))
     go_roundg k1
     case measure=>have:=HK1.out;omega
     case rel=>exact ⟨(x3_1),(x4_1),(wrap64 (x13_1+1)),(by first|rfl|(simp;done)|(simp [*];done)),(by first|rfl|(simp;done)|(simp [*];done)),H',⟨by have:=HK1.out;omega⟩,⟨by (with_reducible repeat (first|apply Kd.R_alloc|apply Kd.R_drewN|apply Kd.R_drew));exact HO_3.out⟩,⟨by (with_reducible repeat (first|refine blk_drewN ?_ _|refine blk_drew ?_|refine blk_alloc ?_ _));exact BK618.out⟩,⟨by repeat (first|(with_reducible first|exact HB.out|apply below_alloc|apply pw_below_drewN|apply below_drew1|refine below_set ?_ GE618.out)|exact HB.out)⟩⟩
    ·replace c6:=Bool.eq_false_iff.mpr c6
     subst c6
     have H1:(if 0≤x13_1 then (spec_paParts.l1 k1 x3_1 x4_1 (shl .i64 1 x13_1) 0 (l0_0.length:Int) x13_1 l0_0 a0_1) else (none))=some r:=by rw [if_neg (show ¬ (false=true) by decide)] at H;exact H
     clear H
     have H:=H1
     clear H1
     by_cases c7:0≤x13_1
     ·rw [if_pos c7] at H
      have c7b0:=eq_true c7
      have c7b1:decide (0≤x13_1)=true:=decide_eq_true c7
      clear c7
      obtain ⟨ji8,hji8⟩:∃ j_:Int,(shl .i64 1 x13_1)=j_:=⟨_,rfl⟩
      replace H:(spec_paParts.l1 k1 x3_1 x4_1 ji8 0 (l0_0.length:Int) x13_1 l0_0 a0_1)=some r:=by first|(rw [hji8] at H;exact H)|(simp only [hji8] at H ⊢;exact H)
      (try rw [hji8] at A5)
      have hji8_:(IntKind.i64.wrap (1*2 ^ min x13_1.toNat 64))=ji8:=hji8
      have hji8z:x13_1≤64→(IntKind.i64.wrap (1*2 ^ x13_1.toNat))=ji8:=shl_small hji8
      have hji8u:(IntKind.i64.wrap (2 ^ min x13_1.toNat 64))=ji8:=by have h_:=hji8_;rw [Int.one_mul] at h_;exact h_
      have hji8v:x13_1≤64→(IntKind.i64.wrap (2 ^ x13_1.toNat))=ji8:=fun hle_=>by have h_:=hji8z hle_;rw [Int.one_mul] at h_;exact h_
      have hji8y:(wrap64 (1*2 ^ min x13_1.toNat 64))=ji8:=(i64_w _).symm.trans hji8_
      have hji8x:x13_1≤64→(wrap64 (1*2 ^ x13_1.toNat))=ji8:=fun h_=>(i64_w _).symm.trans (hji8z h_)
      have H':=Aside0.mk H
      clear H
      go_wp2_with (first|((with_reducible refine gate_callee (f:=70) rfl ?_);refine goesL_ (some 18) rfl rfl Try.func70 (by kernel_rfl) rfl #[.int .i64 x4_1,.int .i64 x13_1] rfl (by (try simp only [List.map_toArray,List.map_cons,List.map_nil]);first|done|rfl|(simp only [List.length_drop,List.length_take];rfl)) ?_;(with_reducible refine (spec_grIn.calls x4_1 x13_1 false _ A5.out).mono ?_);rintro e w' ⟨rfl,⟨nd,rfl⟩⟩;refine ⟨_,rfl,?_⟩))
      go_loopg [6,7] k1 (fun kq v6 v7 w'=>∃ (x6_2:Int) (x7_2:Int),v6=.int .i64 x6_2∧v7=.int .i64 x7_2∧Aside0 (spec_paParts.l1 kq x3_1 x4_1 x6_2 x7_2 (l0_0.length:Int) x13_1 l0_0 a0_1=some r)∧Aside0 (kq≤k1)∧Aside0 (Kd.R (Kd.int .i64) 3 w' w.heap.size (fun _=>True) u3 x3_1)∧Aside0 (w'.heap[gb618]?=some (.cells #[(.slice A0_0 l0_0.length c0_0),.bool a0_1] 28 (0,0)))∧Aside0 (Below w.heap.size w w'))
      case atStart=>exact ⟨(ji8),(0),(by first|rfl|(simp;done)|(simp only [← hji8]<;>(first|rfl|simp))|(simp [*];done)),(by first|rfl|(simp;done)|(simp [*];done)),H',⟨Nat.le_refl _⟩,⟨by (with_reducible repeat (first|apply Kd.R_alloc|apply Kd.R_drewN|apply Kd.R_drew));exact HO_3.out⟩,⟨by (with_reducible repeat (first|refine blk_drewN ?_ _|refine blk_drew ?_|refine blk_alloc ?_ _));exact BK618.out⟩,⟨by repeat (first|(with_reducible first|exact HB.out|apply below_alloc|apply pw_below_drewN|apply below_drew1|refine below_set ?_ GE618.out)|exact HB.out)⟩⟩
      case round=>
       clear H'
       (try clear p2);(try clear c4);(try clear c4b0);(try clear c6);(try clear p6);(try clear c7);(try clear c7b0);(try clear c7b1);(try clear hcz3_0);(try clear hcz3_1);(try clear hfz3_0);(try clear hfz3_1);(try clear p2)
       obtain ⟨x6_2,x7_2,rfl,rfl,HA,HK2,HO_3,BK618,HB⟩:=hrel
       cases gk with
       |zero=>exact absurd HA.out (by simp [spec_paParts.l1])
       |succ k2=>
        have H:=HA.out
        clear HA
        simp only [spec_paParts.l1] at H
        by_cases c9:x7_2< (l0_0.length:Int)
        ·rw [if_pos c9] at H
         have c9b0:decide (x7_2< (l0_0.length:Int))=true:=decide_eq_true c9
         clear c9
         have H':=Aside0.mk H
         clear H
         have hcz10_0:wr.cell? ⟨gb618,0,none⟩=some (.slice A0_0 l0_0.length c0_0):=(blk_cell BK618.out 0).trans rfl
         have hcz10_1:wr.cell? ⟨gb618,1,none⟩=some (.bool a0_1):=(blk_cell BK618.out 1).trans rfl
         have hfz10_0:=blk_frozen BK618.out 0
         have hfz10_1:=blk_frozen BK618.out 1
         go_wp2
         go_loopg [6,31] k2 (fun kq v6 v31 w'=>∃ (x6_3:Int) (x31_3:Int),v6=.int .i64 x6_3∧v31=.int .i64 x31_3∧Aside0 (spec_paParts.l2 kq x3_1 x4_1 x6_3 x7_2 (l0_0.length:Int) x13_1 l0_0 (l0_0.length:Int) x31_3 l0_0 a0_1=some r)∧Aside0 (kq≤k2)∧Aside0 (Kd.R (Kd.int .i64) 3 w' w.heap.size (fun _=>True) u3 x3_1)∧Aside0 (w'.heap[gb618]?=some (.cells #[(.slice A0_0 l0_0.length c0_0),.bool a0_1] 28 (0,0)))∧Aside0 (Below w.heap.size w w'))
         case atStart=>exact ⟨(x6_2),(0),(by first|rfl|(simp;done)|(simp [*];done)),(by first|rfl|(simp;done)|(simp [*];done)),H',⟨Nat.le_refl _⟩,⟨by (with_reducible repeat (first|apply Kd.R_alloc|apply Kd.R_drewN|apply Kd.R_drew));exact HO_3.out⟩,⟨by (with_reducible repeat (first|refine blk_drewN ?_ _|refine blk_drew ?_|refine blk_alloc ?_ _));exact BK618.out⟩,⟨by repeat (first|(with_reducible first|exact HB.out|apply below_alloc|apply pw_below_drewN|apply below_drew1|refine below_set ?_ GE618.out)|exact HB.out)⟩⟩
         case round=>
          clear H'
          (try clear p2);(try clear c4);(try clear c4b0);(try clear c6);(try clear p6);(try clear c7);(try clear c7b0);(try clear c7b1);(try clear c9);(try clear c9b0);(try clear hcz10_0);(try clear hcz10_1);(try clear hcz3_0);(try clear hcz3_1);(try clear hfz10_0);(try clear hfz10_1);(try clear hfz3_0);(try clear hfz3_1);(try clear p2);(try clear p6)
          obtain ⟨x6_3,x31_3,rfl,rfl,HA,HK3,HO_3,BK618,HB⟩:=hrel
          cases gk with
          |zero=>exact absurd HA.out (by simp [spec_paParts.l2])
          |succ k3=>
           have H:=HA.out
           clear HA
           simp only [spec_paParts.l2] at H
           by_cases c11:x31_3< (l0_0.length:Int)
           ·rw [if_pos c11] at H
            have c11b0:decide (x31_3< (l0_0.length:Int))=true:=decide_eq_true c11
            clear c11
            by_cases c12:0≤x31_3
            ·rw [if_pos c12] at H
             have c12b0:decide (0≤x31_3)=true:=decide_eq_true c12
             clear c12
             by_cases c13:x31_3< (l0_0.length:Int)
             ·rw [if_pos c13] at H
              have c13b0:decide (x31_3< (l0_0.length:Int))=true:=decide_eq_true c13
              clear c13
              replace H:=Option.bind_eq_some_iff.mp H
              obtain ⟨t624,A140,H⟩:=H
              replace H:(if t624=true then (spec_paParts.l2 k3 x3_1 x4_1 (Go.bits .or .i64 x6_3 (rd l0_0 x31_3)) x7_2 (l0_0.length:Int) x13_1 l0_0 (l0_0.length:Int) (wrap64 (x31_3+1)) l0_0 a0_1) else (spec_paParts.l2 k3 x3_1 x4_1 x6_3 x7_2 (l0_0.length:Int) x13_1 l0_0 (l0_0.length:Int) (wrap64 (x31_3+1)) l0_0 a0_1))=some r:=H
              have A14:=Aside0.mk A140
              clear A140
              by_cases c15:t624=true
              ·subst c15
               have H1:(spec_paParts.l2 k3 x3_1 x4_1 (Go.bits .or .i64 x6_3 (rd l0_0 x31_3)) x7_2 (l0_0.length:Int) x13_1 l0_0 (l0_0.length:Int) (wrap64 (x31_3+1)) l0_0 a0_1)=some r:=by rw [if_pos rfl] at H;exact H
               clear H
               have H:=H1
               clear H1
               have H':=Aside0.mk H
               clear H
               have p623:0≤(x31_3:Int):=of_decide_eq_true (by first|(with_reducible assumption)|assumption)
               have q623:x31_3< (l0_0.length:Int):=of_decide_eq_true (by first|(with_reducible assumption)|assumption)
               obtain ⟨ad623,e623,hx623_0⟩:=Kd.at_int HR0_0.out x31_3 p623 q623
               cases e623
               replace hx623_0:=(HB.out.cell (World.block_lt_of_cell? w _ hx623_0)).trans hx623_0
               replace p623:=eq_true p623
               replace q623:=eq_true q623
               go_wp2_with (first|((with_reducible refine gate_callee (f:=70) rfl ?_);refine goesL_ (some 38) rfl rfl Try.func70 (by kernel_rfl) rfl #[.int .i64 x6_3,.int .i64 x31_3] rfl (by (try simp only [List.map_toArray,List.map_cons,List.map_nil]);first|done|rfl|(simp only [List.length_drop,List.length_take];rfl)) ?_;(with_reducible refine (spec_grIn.calls x6_3 x31_3 true _ A14.out).mono ?_);rintro e w' ⟨rfl,⟨nd,rfl⟩⟩;refine ⟨_,rfl,?_⟩))
               go_roundg k3
               case measure=>have:=HK1.out;have:=HK2.out;have:=HK3.out;omega
               case rel=>exact ⟨(Go.bits .or .i64 x6_3 (rd l0_0 x31_3)),(wrap64 (x31_3+1)),(by first|rfl|(simp;done)|(simp [*];done)),(by first|rfl|(simp;done)|(simp [*];done)),H',⟨by have:=HK1.out;have:=HK2.out;have:=HK3.out;omega⟩,⟨by (with_reducible repeat (first|apply Kd.R_alloc|apply Kd.R_drewN|apply Kd.R_drew));exact HO_3.out⟩,⟨by (with_reducible repeat (first|refine blk_drewN ?_ _|refine blk_drew ?_|refine blk_alloc ?_ _));exact BK618.out⟩,⟨by repeat (first|(with_reducible first|exact HB.out|apply below_alloc|apply pw_below_drewN|apply below_drew1|refine below_set ?_ GE618.out)|exact HB.out)⟩⟩
              ·replace c15:=Bool.eq_false_iff.mpr c15
               subst c15
               have H1:(spec_paParts.l2 k3 x3_1 x4_1 x6_3 x7_2 (l0_0.length:Int) x13_1 l0_0 (l0_0.length:Int) (wrap64 (x31_3+1)) l0_0 a0_1)=some r:=by rw [if_neg (show ¬ (false=true) by decide)] at H;exact H
               clear H
               have H:=H1
               clear H1
               have H':=Aside0.mk H
               clear H
               have p623:0≤(x31_3:Int):=of_decide_eq_true (by first|(with_reducible assumption)|assumption)
               have q623:x31_3< (l0_0.length:Int):=of_decide_eq_true (by first|(with_reducible assumption)|assumption)
               obtain ⟨ad623,e623,hx623_0⟩:=Kd.at_int HR0_0.out x31_3 p623 q623
               cases e623
               replace hx623_0:=(HB.out.cell (World.block_lt_of_cell? w _ hx623_0)).trans hx623_0
               replace p623:=eq_true p623
               replace q623:=eq_true q623
               go_wp2_with (first|((with_reducible refine gate_callee (f:=70) rfl ?_);refine goesL_ (some 38) rfl rfl Try.func70 (by kernel_rfl) rfl #[.int .i64 x6_3,.int .i64 x31_3] rfl (by (try simp only [List.map_toArray,List.map_cons,List.map_nil]);first|done|rfl|(simp only [List.length_drop,List.length_take];rfl)) ?_;(with_reducible refine (spec_grIn.calls x6_3 x31_3 false _ A14.out).mono ?_);rintro e w' ⟨rfl,⟨nd,rfl⟩⟩;refine ⟨_,rfl,?_⟩))
               go_roundg k3
               case measure=>have:=HK1.out;have:=HK2.out;have:=HK3.out;omega
               case rel=>exact ⟨(x6_3),(wrap64 (x31_3+1)),(by first|rfl|(simp;done)|(simp [*];done)),(by first|rfl|(simp;done)|(simp [*];done)),H',⟨by have:=HK1.out;have:=HK2.out;have:=HK3.out;omega⟩,⟨by (with_reducible repeat (first|apply Kd.R_alloc|apply Kd.R_drewN|apply Kd.R_drew));exact HO_3.out⟩,⟨by (with_reducible repeat (first|refine blk_drewN ?_ _|refine blk_drew ?_|refine blk_alloc ?_ _));exact BK618.out⟩,⟨by repeat (first|(with_reducible first|exact HB.out|apply below_alloc|apply pw_below_drewN|apply below_drew1|refine below_set ?_ GE618.out)|exact HB.out)⟩⟩
             ·rw [if_neg c13] at H
              exact absurd H (by simp)
            ·rw [if_neg c12] at H
             exact absurd H (by simp)
           ·rw [if_neg c11] at H
            have c11b0:decide (x31_3< (l0_0.length:Int))=false:=decide_eq_false c11
            clear c11
            have H':=Aside0.mk H
            clear H
            go_wp2
            go_roundg k3
            case measure=>have:=HK1.out;have:=HK2.out;have:=HK3.out;omega
            case rel=>exact ⟨(x6_3),(wrap64 (x7_2+1)),(by first|rfl|(simp;done)|(simp [*];done)),(by first|rfl|(simp;done)|(simp [*];done)),H',⟨by have:=HK1.out;have:=HK2.out;have:=HK3.out;omega⟩,⟨by (with_reducible repeat (first|apply Kd.R_alloc|apply Kd.R_drewN|apply Kd.R_drew));exact HO_3.out⟩,⟨by (with_reducible repeat (first|refine blk_drewN ?_ _|refine blk_drew ?_|refine blk_alloc ?_ _));exact BK618.out⟩,⟨by repeat (first|(with_reducible first|exact HB.out|apply below_alloc|apply pw_below_drewN|apply below_drew1|refine below_set ?_ GE618.out)|exact HB.out)⟩⟩
        ·rw [if_neg c9] at H
         have c9b0:decide (x7_2< (l0_0.length:Int))=false:=decide_eq_false c9
         clear c9
         by_cases c16:x3_1.length< 17592186044416
         ·rw [if_pos c16] at H
          have LMc16:=Aside0.mk c16
          clear c16
          obtain ⟨y620,hy620⟩:∃ y_:List Int,y_=(x3_1++[x6_2]):=⟨_,rfl⟩
          replace H:(spec_paParts.l0 k2 y620 (Go.bits .or .i64 x4_1 x6_2) (l0_0.length:Int) (wrap64 (x13_1+1)) l0_0 a0_1)=some r:=by first|(rw [hy620];with_reducible exact H)|(have H2_:=(Option.bind_some _ _).symm.trans H;rw [hy620];with_reducible exact H2_)|(have H2_:=(Option.bind_some _ _).symm.trans H;with_reducible exact H2_)|with_reducible exact H|(rw [hy620];exact H)|exact H
          have Ny620:=Aside0.mk hy620
          clear hy620
          have H':=Aside0.mk H
          clear H
          have hcz17_0:wr.cell? ⟨gb618,0,none⟩=some (.slice A0_0 l0_0.length c0_0):=(blk_cell BK618.out 0).trans rfl
          have hcz17_1:wr.cell? ⟨gb618,1,none⟩=some (.bool a0_1):=(blk_cell BK618.out 1).trans rfl
          have hfz17_0:=blk_frozen BK618.out 0
          have hfz17_1:=blk_frozen BK618.out 1
          go_wp2_with (first|((with_reducible refine gate_builtin (b:=.append) (xs:=#[.tmp 46,.tmp 48]) rfl ?_);at_builtin;refine Kd.R_append (Kd.int .i64) (w0:=w) w.heap.size rfl (.tmp 46) (.tmp 48) 22 3 (.int .i64 0) 8 rfl Try.underlying22 info3 rfl (by decide) (by omega) u3 x3_1 x6_2 [.int .i64 x6_2] (fun _=>True) (fun _=>False) rfl rfl ?aP (fun _ hk=>hk.elim) ?aF ?aO ?aB ?aS ?aL ?_;(case aP=>exact rfl);(case aB=>exact (by repeat (first|(with_reducible first|exact HB.out|apply below_alloc|apply pw_below_drewN|apply below_drew1|refine below_set ?_ GE618.out)|exact HB.out)));(case aF=>exact (fun _ _=>trivial));(case aO=>exact (by (with_reducible repeat (first|apply Kd.R_alloc|apply Kd.R_drewN|apply Kd.R_drew));exact HO_3.out));(case aS=>exact (below_size (by repeat (first|(with_reducible first|exact HB.out|apply below_alloc|apply pw_below_drewN|apply below_drew1|refine below_set ?_ GE618.out)|exact HB.out))));(case aL=>have:=LMc16.out;omega);intro v621 w18 ho hb hg hat;rw [← Ny620.out] at ho;have n0_:=Aside0.mk (blk_grown (g:=gb618) (o:=.cells #[.slice A0_0 l0_0.length c0_0,.bool a0_1] 28 (0,0)) (by (with_reducible repeat (first|refine blk_drewN ?_ _|refine blk_drew ?_|refine blk_alloc ?_ _));exact BK618.out) hg (Kd.R_ne HO_3.out BK618.out (by decide)));have n1_:=Aside0.mk (hb);have n2_:=Aside0.mk (ho);clear BK618;clear HB;clear HO_3;have BK618:=n0_;have HB:=n1_;have HO622:=n2_;clear n0_ n1_ n2_;clear ho hb hg hat))
          go_roundg k2
          case measure=>have:=HK1.out;have:=HK2.out;omega
          case rel=>exact ⟨(y620),(Go.bits .or .i64 x4_1 x6_2),(wrap64 (x13_1+1)),(by first|rfl|(simp;done)|(simp [*];done)),(by first|rfl|(simp;done)|(simp [*];done)),H',⟨by have:=HK1.out;have:=HK2.out;omega⟩,⟨by (with_reducible repeat (first|apply Kd.R_alloc|apply Kd.R_drewN|apply Kd.R_drew));exact HO622.out⟩,⟨by (with_reducible repeat (first|refine blk_drewN ?_ _|refine blk_drew ?_|refine blk_alloc ?_ _));exact BK618.out⟩,⟨by repeat (first|(with_reducible first|exact HB.out|apply below_alloc|apply pw_below_drewN|apply below_drew1|refine below_set ?_ GE618.out)|exact HB.out)⟩⟩
         ·rw [if_neg c16] at H
          exact absurd H (by simp)
     ·rw [if_neg c7] at H
      exact absurd H (by simp)
   ·rw [if_neg c4] at H
    have c4b0:decide (x13_1< (l0_0.length:Int))=false:=decide_eq_false c4
    clear c4
    obtain rfl:=Option.some.inj H
    go_wp2
    go_ret
    exact ⟨_,by first|rfl|(simp [errW_none,errW_some]<;>rfl)|(simp [*,errW_none,errW_some]<;>rfl),by (with_reducible repeat (first|apply Kd.R_alloc|apply Kd.R_drewN|apply Kd.R_drew));exact HO_3.out,by repeat (first|(with_reducible first|exact HB.out|apply below_alloc|apply pw_below_drewN|apply below_drew1|refine below_set ?_ GE618.out)|exact HB.out)⟩
end Go.Proofs.Ytoobofnpdiapgaa.P
