-- Written by a program of this session (wip/mp.py), which runs the kit's print with contracts of the session's own.
import Derived.Test.YtbbdjoahdbjljaaPx0
import Derived.Test.YtbbdjoahdbjljaaPx1
import Derived.Test.YtbbdjoahdbjljaaPx17
import Derived.Test.YtbbdjoahdbjljaaPx19
import Derived.Test.YtbbdjoahdbjljaaPx27
import Derived.Test.YtbbdjoahdbjljaaPx30
namespace Go.Proofs.Ytbbdjoahdbjljaa.P
open Go.RowKit Go.Proofs.YtbbdjoahdbjljaaW.PrintWords Go.Proofs.YtbbdjoahdbjljaaW.PrintLast Go.Proofs.YtbbdjoahdbjljaaW.PrintMore
attribute [local go_sem] max2_int min2_int max_two min_two max_three min_three max_four min_four -- for this text's walks alone
set_option linter.unusedVariables false
set_option linter.unusedSimpArgs false
/-! ### spec_clSolve: function 66 -/
mutual
def spec_clSolve.l0:Nat→Int→List Int→Int→List (List Int)→Int→Int→List Int→Bool→Option (List Int × Bool)
 |0,_,_,_,_,_,_,_,_=>none
 |k+1,x1,x2,x8,x9,x27,x28,x838000,x838001=>if x28< x27 then (if 0≤x28 then (if x28< (x9.length:Int) then (if x28< (x2.length:Int) then (if x1=0 then (none) else (if (rd_L1 x9 x28).length< 17592186044416 then (spec_clSolve.l0 k x1 x2 x8 (x9.set (x28:Int).toNat ((rd_L1 x9 x28)++[Int.tmod (wrap64 (x1 - (rd x2 x28))) x1])) x27 (wrap64 (x28+1)) x838000 x838001) else (none))) else (none)) else (none)) else (none)) else ((spec_clSteps.f k x9 x1 (wrap64 (x8+1))).bind fun bt847=>((spec_l1Has.f k bt847.2.1 x8).bind fun t854=>(if t854=true then (some (([]:List Int),false)) else (if 0≤x8 then (if (x8:Int).toNat≤35184372088832 then (spec_clSolve.l1 k x1 x8 bt847.1 (List.replicate (x8:Int).toNat 0) bt847.2.1 (bt847.2.1.length:Int) 0 x838000 x838001) else (none)) else (none)))))
def spec_clSolve.l1:Nat→Int→Int→List (List Int)→List Int→List Int→Int→Int→List Int→Bool→Option (List Int × Bool)
 |0,_,_,_,_,_,_,_,_,_=>none
 |k+1,x1,x8,x11,x14,x63,x64,x65,x838000,x838001=>if x65< x64 then (if 0≤x65 then (if x65< (x63.length:Int) then (if x65< (x11.length:Int) then (if 0≤x8 then (if x8< ((rd_L1 x11 x65).length:Int) then (if 0≤(rd x63 x65) then (if (rd x63 x65)< (x14.length:Int) then (spec_clSolve.l1 k x1 x8 x11 (x14.set ((rd x63 x65):Int).toNat (rd (rd_L1 x11 x65) x8)) x63 x64 (wrap64 (x65+1)) x838000 x838001) else (none)) else (none)) else (none)) else (none)) else (none)) else (none)) else (none)) else ((spec_clQuiet.f k x838000 x838001 x1).bind fun t862=>(spec_clSolve.l2 k x1 x14 t862 (t862.length:Int) 0))
def spec_clSolve.l2:Nat→Int→List Int→List (List Int)→Int→Int→Option (List Int × Bool)
 |0,_,_,_,_,_=>none
 |k+1,x1,x14,x83,x84,x85=>if x85< x84 then (if 0≤x85 then (if x85< (x83.length:Int) then ((spec_clFirst.f k (rd_L1 x83 x85)).bind fun t866=>(if 0≤t866 then (if t866< (x14.length:Int) then (spec_clSolve.l3 k x1 x14 (rd_L1 x83 x85) (rd x14 t866) x83 x84 x85 (x14.length:Int) 0) else (none)) else (none))) else (none)) else (none)) else (some (x14,true))
def spec_clSolve.l3:Nat→Int→List Int→List Int→Int→List (List Int)→Int→Int→Int→Int→Option (List Int × Bool)
 |0,_,_,_,_,_,_,_,_,_=>none
 |k+1,x1,x14,x18,x19,x83,x84,x85,x95,x96=>if x96< x95 then (if 0≤x96 then (if x96< (x14.length:Int) then (if x96< (x18.length:Int) then (if x1=0 then (none) else (spec_clSolve.l3 k x1 (x14.set (x96:Int).toNat (Int.tmod (wrap64 ((rd x14 x96)+(wrap64 ((wrap64 (x1 - x19))*(rd x18 x96))))) x1)) x18 x19 x83 x84 x85 x95 (wrap64 (x96+1)))) else (none)) else (none)) else (none)) else (spec_clSolve.l2 k x1 x14 x83 x84 (wrap64 (x85+1)))
end
def spec_clSolve.f (k:Nat) (l0_0:List Int) (a0_1:Bool) (a1:Int) (l2:List Int):Option (List Int × Bool):=(spec_clTable.f k l0_0 a0_1).bind fun t838=>(spec_clSolve.l0 k a1 l2 (l0_0.length:Int) t838 (t838.length:Int) 0 l0_0 a0_1)
def spec_clSolve.T6:Bool × List (List Nat × List Nat):=(true,[([],[]),([],[]),([],[]),([],[]),([2,3],[2,3]),([4],[4]),([],[]),([],[]),([],[]),([7,8],[7,8]),([9],[9]),([6,10],[6,10]),([],[]),([11,12],[11,12]),([13],[13]),([5,14],[5,14]),([0,1,0,1,2,3,4,5,6,7,8,9,10,11,12,13,14,15],[0,1]),([16,15,15,0,1,2,3,4,5,6,7,8,9,10,11,12,13,14,15],[15,16])])
def spec_clSolve.B6:List Nat:=[0,0,0,0,12,28,0,0,0,384,896,1984,0,8128,16320,32764,65535,131071]
theorem spec_clSolve.tab6:rtab .any (opsOf Try.f66 6)=spec_clSolve.T6:=by kernel_rfl
theorem spec_clSolve.bits6:waitsOk spec_clSolve.T6.2 spec_clSolve.B6=true:=by kernel_rfl
def spec_clSolve.T24:Bool × List (List Nat × List Nat):=(true,[([],[]),([],[]),([],[]),([],[]),([2,3],[2,3]),([4],[4]),([],[]),([],[]),([6,7],[6,7]),([],[]),([],[]),([9,10],[9,10]),([11],[11]),([8,12],[8,12]),([5,13],[5,13]),([],[]),([14,15],[14,15]),([0,1,0,1,2,3,4,5,6,7,8,9,10,11,12,13,14,15,16],[0,1]),([17,16,0,1,2,3,4,5,6,7,8,9,10,11,12,13,14,15,16],[16,17])])
def spec_clSolve.B24:List Nat:=[0,0,0,0,12,28,0,0,192,0,0,1536,3584,8128,16380,0,65532,131071,262143]
theorem spec_clSolve.tab24:rtab .any (opsOf Try.f66 24)=spec_clSolve.T24:=by kernel_rfl
theorem spec_clSolve.bits24:waitsOk spec_clSolve.T24.2 spec_clSolve.B24=true:=by kernel_rfl
set_option maxHeartbeats 8000000 in
set_option maxRecDepth 100000 in
theorem spec_clSolve.calls (k:Nat) (A0_0:Option Addr) (c0_0:Nat) (l0_0:List Int) (a0_1:Bool) (a1:Int) (A2:Option Addr) (c2:Nat) (l2:List Int) (r1:List Int) (r2:Bool) (w:World) (hr0_0:Kd.C (Kd.int .i64) w A0_0 l0_0.length l0_0) (hc0_0:l0_0.length≤c0_0) (hr2:Kd.C (Kd.int .i64) w A2 l2.length l2) (hc2:l2.length≤c2) (h:spec_clSolve.f k l0_0 a0_1 a1 l2=some (r1,r2)):
  Calls Try.prog 66 #[.agg #[.slice A0_0 l0_0.length c0_0,.bool a0_1],.int .i64 a1,.slice A2 l2.length c2] w fun e w'=>∃ v0_:Value,e=.returned (.tuple #[v0_,.bool r2])∧Kd.R (Kd.int .i64) 3 w' w.heap.size (fun _=>True) v0_ r1∧Below w.heap.size w w':=by
 have hu28:=Try.underlying28
 have HR0_0:=Aside0.mk hr0_0
 have HC0_0:=Aside0.mk hc0_0
 clear hr0_0 hc0_0
 have HR2:=Aside0.mk hr2
 have HC2:=Aside0.mk hc2
 clear hr2 hc2
 have HB:=Aside0.mk (Below.refl w.heap.size w)
 have H:((spec_clTable.f k l0_0 a0_1).bind fun t838=>(spec_clSolve.l0 k a1 l2 (l0_0.length:Int) t838 (t838.length:Int) 0 l0_0 a0_1))=some (r1,r2):=h
 clear h
 replace H:=Option.bind_eq_some_iff.mp H
 obtain ⟨t838,A40,H⟩:=H
 replace H:(spec_clSolve.l0 k a1 l2 (l0_0.length:Int) t838 (t838.length:Int) 0 l0_0 a0_1)=some (r1,r2):=H
 have A4:=Aside0.mk A40
 clear A40
 have H':=Aside0.mk H
 clear H
 go_enter Try.func66,Try.ntmps66
 go_wp2_with (first|((with_reducible refine gate_dst (N:=3) rfl ?_);refine box_event ?hg (N:=3) ?hd (cs:=#[.slice A0_0 l0_0.length c0_0,.bool a0_1]) (t:=28) ?hr ?_;(case hd=>rfl);(case hg=>rfl);(case hr=>first|(go_simp;done)|(go_simp;rfl));intro gb837 hg w5 hbox hb;have n0_:=Aside0.mk (below_step (by exact HB.out) hb);have n1_:=Aside0.mk (hbox);have n2_:=Aside0.mk ((by rw [hg];exact (below_size (by exact HB.out)):w.heap.size≤gb837));have n3_:=Aside0.mk ((by rw [hg];exact (below_size (by exact HB.out)):w.heap.size≤gb837));clear HB;have HB:=n0_;have BK837:=n1_;have GW837:=n2_;have GE837:=n3_;clear n0_ n1_ n2_ n3_;clear hb hbox hg;have hcz6_0:w5.cell? ⟨gb837,0,none⟩=some (.slice A0_0 l0_0.length c0_0):=(blk_cell BK837.out 0).trans rfl;have hcz6_1:w5.cell? ⟨gb837,1,none⟩=some (.bool a0_1):=(blk_cell BK837.out 1).trans rfl;have hfz6_0:=blk_frozen BK837.out 0;have hfz6_1:=blk_frozen BK837.out 1)|((with_reducible refine gate_callee (f:=62) rfl ?_);refine goesL_ (some 25) rfl rfl Try.func62 (by kernel_rfl) rfl #[.agg #[.slice A0_0 l0_0.length c0_0,.bool a0_1]] rfl (by (try simp only [List.map_toArray,List.map_cons,List.map_nil]);first|done|rfl|(simp only [List.length_drop,List.length_take];rfl)) ?_;(with_reducible refine (spec_clTable.calls k _ _ l0_0 a0_1 t838 _ ?side1 ?side2 A4.out).mono ?_);(case side1=>exact (Kd.C_below HR0_0.out HB.out));(case side2=>exact HC0_0.out);rintro e w7 ⟨v839,rfl,ho0,hb⟩;refine ⟨_,rfl,?_⟩;have n0_:=Aside0.mk (Kd.S_lower ho0 (below_size (by exact HB.out)));have n1_:=Aside0.mk (blk_below (g:=gb837) (o:=.cells #[.slice A0_0 l0_0.length c0_0,.bool a0_1] 28 (0,0)) (by exact BK837.out) hb);have n2_:=Aside0.mk (below_step (by exact HB.out) hb);clear BK837;clear HB;have HO840:=n0_;have BK837:=n1_;have HB:=n2_;clear n0_ n1_ n2_;(try clear hb);(try clear hb2);(try clear hk);(try clear hi);(try clear ho0);obtain ⟨Ao8,co8,eo8⟩:=Kd.S_slice HO840.out;subst eo8))
 go_loopg [28] k (fun kq v28 w'=>∃ (x9_1:List (List Int)) (x28_1:Int),v28=.int .i64 x28_1∧Aside0 (spec_clSolve.l0 kq a1 l2 (l0_0.length:Int) x9_1 (t838.length:Int) x28_1 l0_0 a0_1=some (r1,r2))∧Aside0 (kq≤k)∧Aside0 (Kd.S (Kd.slice 3 (Kd.int .i64)) 22 w' w.heap.size (fun _=>True) (.slice Ao8 t838.length co8) x9_1)∧Aside0 (w'.heap[gb837]?=some (.cells #[(.slice A0_0 l0_0.length c0_0),.bool a0_1] 28 (0,0)))∧Aside0 (Below w.heap.size w w'))
 case atStart=>exact ⟨(t838),(0),(by first|rfl|(simp;done)|(simp [*];done)),H',⟨Nat.le_refl _⟩,⟨by exact HO840.out⟩,⟨by exact BK837.out⟩,⟨by exact HB.out⟩⟩
 case round=>
  clear H'
  (try clear c2);(try clear p2);(try clear c6);(try clear hcz6_0);(try clear hcz6_1);(try clear hfz6_0);(try clear hfz6_1)
  obtain ⟨x9_1,x28_1,rfl,HA,HK1,HO_9,BK837,HB⟩:=hrel
  have hl9_1:=(Kd.S_reads' HO_9.out).1
  rw [hl9_1] at HO_9
  (try simp only [hl9_1])
  (try simp only [hl9_1] at BK837)
  cases gk with
  |zero=>exact absurd HA.out (by simp [spec_clSolve.l0])
  |succ k1=>
   have H:=HA.out
   clear HA
   simp only [spec_clSolve.l0] at H
   by_cases c9:x28_1< (t838.length:Int)
   ·rw [if_pos c9] at H
    have c9b0:decide (x28_1< (t838.length:Int))=true:=decide_eq_true c9
    (try simp only [hl9_1] at c9b0)
    clear c9
    by_cases c10:0≤x28_1
    ·rw [if_pos c10] at H
     have c10b0:decide (0≤x28_1)=true:=decide_eq_true c10
     clear c10
     by_cases c11:x28_1< (x9_1.length:Int)
     ·rw [if_pos c11] at H
      have c11b0:decide (x28_1< (x9_1.length:Int))=true:=decide_eq_true c11
      (try simp only [hl9_1] at c11b0)
      clear c11
      by_cases c12:x28_1< (l2.length:Int)
      ·rw [if_pos c12] at H
       have c12b0:decide (x28_1< (l2.length:Int))=true:=decide_eq_true c12
       (try simp only [hl9_1] at c12b0)
       clear c12
       by_cases c13:a1=0
       ·rw [if_pos c13] at H
        exact absurd H (by simp)
       ·rw [if_neg c13] at H
        have c13b0:(a1==0)=false:=beq_eq_false_iff_ne.mpr c13
        have c13b1:(a1 !=0)=true:=bne_iff_ne.mpr c13
        by_cases c14:(rd_L1 x9_1 x28_1).length< 17592186044416
        ·rw [if_pos c14] at H
         have LMc14:=Aside0.mk c14
         clear c14
         obtain ⟨y843,hy843⟩:∃ y_:List Int,y_=((rd_L1 x9_1 x28_1)++[Int.tmod (wrap64 (a1 - (rd l2 x28_1))) a1]):=⟨_,rfl⟩
         replace H:(spec_clSolve.l0 k1 a1 l2 (l0_0.length:Int) (x9_1.set (x28_1:Int).toNat y843) (t838.length:Int) (wrap64 (x28_1+1)) l0_0 a0_1)=some (r1,r2):=by first|(rw [hy843];with_reducible exact H)|(have H2_:=(Option.bind_some _ _).symm.trans H;rw [hy843];with_reducible exact H2_)|(have H2_:=(Option.bind_some _ _).symm.trans H;with_reducible exact H2_)|with_reducible exact H|(rw [hy843];exact H)|exact H
         have Ny843:=Aside0.mk hy843
         clear hy843
         obtain ⟨y846,hy846⟩:∃ y_:List (List Int),y_=(x9_1.set (x28_1:Int).toNat y843):=⟨_,rfl⟩
         replace H:(spec_clSolve.l0 k1 a1 l2 (l0_0.length:Int) y846 (t838.length:Int) (wrap64 (x28_1+1)) l0_0 a0_1)=some (r1,r2):=by first|(rw [hy846];with_reducible exact H)|(have H2_:=(Option.bind_some _ _).symm.trans H;rw [hy846];with_reducible exact H2_)|(have H2_:=(Option.bind_some _ _).symm.trans H;with_reducible exact H2_)|with_reducible exact H|(rw [hy846];exact H)|exact H
         have Ny846:=Aside0.mk hy846
         clear hy846
         have H':=Aside0.mk H
         clear H
         try go_wp2
         have n0_:=Aside0.mk (Kd.S_drew HO_9.out)
         have n1_:=Aside0.mk (blk_drew BK837.out)
         have n2_:=Aside0.mk (below_drew1 HB.out)
         clear HO_9;clear BK837;clear HB
         have HO_9:=n0_
         have BK837:=n1_
         have HB:=n2_
         clear n0_ n1_ n2_
         have p841:0≤(x28_1:Int):=of_decide_eq_true (by first|(with_reducible assumption)|assumption)
         have q841:x28_1< (x9_1.length:Int):=of_decide_eq_true (by first|(with_reducible assumption)|assumption)
         obtain ⟨ad841,A841_0,c841_0,e841,hx841_0,hl841_0,hi841_0⟩:=at_L1 (Kd.S_reads' HO_9.out).2.2 x28_1 p841 q841
         cases e841
         obtain ⟨ce841,hce841,hMe841,hcc841⟩:=Kd.S_get HO_9.out [] x28_1 p841 (by first|exact q841|exact of_decide_eq_true (by first|(with_reducible assumption)|assumption)|(have e_:=(Kd.S_reads' HO_9.out).1;omega))
         obtain ⟨ve841_0,rfl,ge841_0⟩:=hMe841
         have hv841_0:=hcc841 0 _ rfl
         rw [Nat.add_zero,show ((Kd.slice 3 (Kd.int .i64))).sz=1 from rfl,Nat.mul_one] at hv841_0
         replace hv841_0:=Option.some.inj (hv841_0.symm.trans hx841_0)
         rw [hv841_0] at ge841_0
         have HL841_0:=Aside0.mk (show Kd.R (Kd.int .i64) 3 _ _ _ _ (rd_L1 x9_1 x28_1) from ge841_0)
         clear hv841_0 ge841_0
         have HX841_0:=Aside0.mk hx841_0
         clear hcc841 hce841
         have HR841_0:=Aside0.mk hi841_0
         have HC841_0:=Aside0.mk hl841_0
         clear hi841_0 hl841_0
         replace p841:=eq_true p841
         replace q841:=eq_true q841
         have p842:0≤(x28_1:Int):=of_decide_eq_true (by first|(with_reducible assumption)|assumption)
         have q842:x28_1< (l2.length:Int):=of_decide_eq_true (by first|(with_reducible assumption)|assumption)
         obtain ⟨ad842,e842,hx842_0⟩:=Kd.at_int HR2.out x28_1 p842 q842
         have hw842_0:=hx842_0
         cases e842
         replace hx842_0:=(HB.out.cell (World.block_lt_of_cell? w _ hx842_0)).trans hx842_0
         replace p842:=eq_true p842
         replace q842:=eq_true q842
         obtain ⟨go17,co17,eo17,gb17,gl17,cl17,HG17⟩:=Kd.S_form HO_9.out (by have h_:(x28_1:Int)< ((x9_1.length:Int):Int):=of_decide_eq_true (by first|(with_reducible assumption)|assumption);have h2_:0≤(x28_1:Int):=(of_decide_eq_true (by first|(with_reducible assumption)|assumption));omega)
         (first|cases eo17|(injection eo17 with ea_ en_ ec_;(first|subst ea_|(injection ea_ with ea_;subst ea_));subst ec_;clear en_))
         have GB17:=Aside0.mk gb17
         have GG17:=Aside0.mk HG17
         clear gb17 gl17 HG17
         (first|simp only [add_plain] at hx841_0|skip)
         obtain ⟨oki17,ce17,hcl17,hM17,hcc17,_,_,hH17⟩:=Kd.S_elem HO_9.out [] (x28_1:Int) (of_decide_eq_true (by first|(with_reducible assumption)|assumption)) (by have h_:(x28_1:Int)< ((x9_1.length:Int):Int):=of_decide_eq_true (by first|(with_reducible assumption)|assumption);first|exact h_|(have e_:=(Kd.S_reads' HO_9.out).1;omega)|simpa using h_)
         obtain ⟨ve17_0,rfl,ge17_0⟩:=hM17
         have hv17:=hcc17 0 _ rfl
         have hX17:=HX841_0.out
         (try simp only [add_plain] at hX17)
         (try simp only [Nat.add_zero] at hv17)
         (try rw [show ((Kd.slice 3 (Kd.int .i64))).sz=1 from rfl,Nat.mul_one] at hv17)
         replace hv17:=Option.some.inj (hv17.symm.trans hX17)
         subst hv17
         clear hX17 hcc17 hcl17
         have UU17:=Aside0.mk (show Kd.R (Kd.int .i64) 3 _ w.heap.size oki17 (.slice A841_0 (rd_L1 x9_1 x28_1).length c841_0) (rd_L1 x9_1 x28_1) from ge17_0)
         have HH17:=Aside0.mk hH17
         have HN17:=Aside0.mk (Kd.S_reads' HO_9.out).1
         clear hH17 ge17_0
         refine start_ (n:=18) (S:=fun w'=>w'.cell? ⟨go17,(x28_1).toNat,none⟩=some (.slice A841_0 (rd_L1 x9_1 x28_1).length c841_0)∧w'.cell? (ad842.add (x28_1).toNat)=some (.int .i64 (rd l2 x28_1))) (ds:=[17]) #[false,false,false,false,false,false,false,false,false,false,false,false,false,false,false,false,false,false] (by kernel_rfl) rfl rfl ⟨hx841_0,((HB.out.cell (World.block_lt_of_cell? w _ hw842_0)).trans hw842_0)⟩ (fun hHeld=>?_);refine with_tabW spec_clSolve.tab6 spec_clSolve.bits6 (fun HT_ HW_=>?_)
         generalize wr.drew=w16 at HO_9 BK837 HB GG17 HH17 HL841_0 HR841_0 HX841_0 UU17 hx841_0 hx842_0 hHeld ⊢
         refine pure_ (i:=0) (N:=some 31) (v:=?_) (a':=?_) #[true,false,false,false,false,false,false,false,false,false,false,false,false,false,false,false,false,false] rfl rfl (any_of HT_.out (by kernel_rfl)) (fun _ _ _ h=>h) (Or.inl ⟨by rfl,?_⟩) ?_ ?_
         rotate_left
         ·intro w'
          go_simp
          with_reducible rfl
         rotate_left
         ·simp only [Act.put,List.setIfInBounds_toArray,List.set_cons_zero,List.set_cons_succ,i64_w,i32_w]
          rfl
         refine pure_ (i:=1) (N:=some 32) (v:=?_) (a':=?_) #[true,true,false,false,false,false,false,false,false,false,false,false,false,false,false,false,false,false] rfl rfl (any_of HT_.out (by kernel_rfl)) (fun _ _ _ h=>h) (Or.inl ⟨by rfl,?_⟩) ?_ ?_
         rotate_left
         ·intro w'
          go_simp
          with_reducible rfl
         rotate_left
         ·simp only [Act.put,List.setIfInBounds_toArray,List.set_cons_zero,List.set_cons_succ,i64_w,i32_w]
          rfl
         refine pure_ (i:=2) (N:=some 33) (v:=?_) (a':=?_) #[true,true,true,false,false,false,false,false,false,false,false,false,false,false,false,false,false,false] rfl rfl (any_of HT_.out (by kernel_rfl)) (fun _ _ _ h=>h) (Or.inl ⟨by rfl,?_⟩) ?_ ?_
         rotate_left
         ·intro w'
          go_simp
          with_reducible rfl
         rotate_left
         ·simp only [Act.put,List.setIfInBounds_toArray,List.set_cons_zero,List.set_cons_succ,i64_w,i32_w]
          rfl
         refine pure_ (i:=3) (N:=some 34) (v:=?_) (a':=?_) #[true,true,true,true,false,false,false,false,false,false,false,false,false,false,false,false,false,false] rfl rfl (any_of HT_.out (by kernel_rfl)) (fun _ _ _ h=>h) (Or.inl ⟨by rfl,?_⟩) ?_ ?_
         rotate_left
         ·intro w'
          go_simp
          with_reducible rfl
         rotate_left
         ·simp only [Act.put,List.setIfInBounds_toArray,List.set_cons_zero,List.set_cons_succ,i64_w,i32_w]
          rfl
         refine pure_ (i:=4) (N:=some 35) (v:=?_) (a':=?_) #[true,true,true,true,true,false,false,false,false,false,false,false,false,false,false,false,false,false] rfl rfl (any_of HT_.out (by kernel_rfl)) (fun _ _ _ h=>h) (Or.inl ⟨by rfl,?_⟩) ?_ ?_
         rotate_left
         ·intro w'
          go_simp
          with_reducible rfl
         rotate_left
         ·simp only [Act.put,List.setIfInBounds_toArray,List.set_cons_zero,List.set_cons_succ,i64_w,i32_w]
          rfl
         refine pure_ (i:=6) (N:=some 37) (v:=?_) (a':=?_) #[true,true,true,true,true,false,true,false,false,false,false,false,false,false,false,false,false,false] rfl rfl (any_of HT_.out (by kernel_rfl)) (fun _ _ _ h=>h) (Or.inl ⟨by rfl,?_⟩) ?_ ?_
         rotate_left
         ·intro w'
          go_simp
          with_reducible rfl
         rotate_left
         ·simp only [Act.put,List.setIfInBounds_toArray,List.set_cons_zero,List.set_cons_succ,i64_w,i32_w]
          rfl
         refine pure_ (i:=7) (N:=some 38) (v:=?_) (a':=?_) #[true,true,true,true,true,false,true,true,false,false,false,false,false,false,false,false,false,false] rfl rfl (any_of HT_.out (by kernel_rfl)) (fun _ _ _ h=>h) (Or.inl ⟨by rfl,?_⟩) ?_ ?_
         rotate_left
         ·intro w'
          go_simp
          with_reducible rfl
         rotate_left
         ·simp only [Act.put,List.setIfInBounds_toArray,List.set_cons_zero,List.set_cons_succ,i64_w,i32_w]
          rfl
         refine pure_ (i:=8) (N:=some 39) (v:=?_) (a':=?_) #[true,true,true,true,true,false,true,true,true,false,false,false,false,false,false,false,false,false] rfl rfl (any_of HT_.out (by kernel_rfl)) (fun _ _ _ h=>h) (Or.inl ⟨by rfl,?_⟩) ?_ ?_
         rotate_left
         ·intro w'
          go_simp
          with_reducible rfl
         rotate_left
         ·simp only [Act.put,List.setIfInBounds_toArray,List.set_cons_zero,List.set_cons_succ,i64_w,i32_w]
          rfl
         refine pure_ (i:=9) (N:=some 40) (v:=?_) (a':=?_) #[true,true,true,true,true,false,true,true,true,true,false,false,false,false,false,false,false,false] rfl rfl (any_of HT_.out (by kernel_rfl)) (fun _ _ _ h=>h) (Or.inl ⟨by rfl,?_⟩) ?_ ?_
         rotate_left
         ·intro w'
          go_simp
          with_reducible rfl
         rotate_left
         ·simp only [Act.put,List.setIfInBounds_toArray,List.set_cons_zero,List.set_cons_succ,i64_w,i32_w]
          rfl
         refine pure_ (i:=12) (N:=some 43) (v:=?_) (a':=?_) #[true,true,true,true,true,false,true,true,true,true,false,false,true,false,false,false,false,false] rfl rfl (any_of HT_.out (by kernel_rfl)) (fun _ _ _ h=>h) (Or.inl ⟨by rfl,?_⟩) ?_ ?_
         rotate_left
         ·intro w'
          go_simp
          with_reducible rfl
         rotate_left
         ·simp only [Act.put,List.setIfInBounds_toArray,List.set_cons_zero,List.set_cons_succ,i64_w,i32_w]
          rfl
         refine take_ (i:=5) (N:=some 36) (v:=?_) (a':=?_) #[true,true,true,true,true,true,true,true,true,true,false,false,true,false,false,false,false,false] rfl rfl (take_ofW HT_.out HW_.out (by kernel_rfl)) (fun _ _ _ h=>h) (Or.inl ⟨by rfl,?_⟩) hHeld ?_ ?_
         rotate_left
         ·rintro w' ⟨s0,s1⟩
          go_simp
          with_reducible rfl
         rotate_left
         ·simp only [Act.put,List.setIfInBounds_toArray,List.set_cons_zero,List.set_cons_succ,i64_w,i32_w]
          rfl
         refine take_ (i:=10) (N:=some 41) (v:=?_) (a':=?_) #[true,true,true,true,true,true,true,true,true,true,true,false,true,false,false,false,false,false] rfl rfl (take_ofW HT_.out HW_.out (by kernel_rfl)) (fun _ _ _ h=>h) (Or.inl ⟨by rfl,?_⟩) hHeld ?_ ?_
         rotate_left
         ·rintro w' ⟨s0,s1⟩
          go_simp
          with_reducible rfl
         rotate_left
         ·simp only [Act.put,List.setIfInBounds_toArray,List.set_cons_zero,List.set_cons_succ,i64_w,i32_w]
          rfl
         refine pure_ (i:=11) (N:=some 42) (v:=?_) (a':=?_) #[true,true,true,true,true,true,true,true,true,true,true,true,true,false,false,false,false,false] rfl rfl (any_of HT_.out (by kernel_rfl)) (fun _ _ _ h=>h) (Or.inl ⟨by rfl,?_⟩) ?_ ?_
         rotate_left
         ·intro w'
          go_simp
          with_reducible rfl
         rotate_left
         ·simp only [Act.put,List.setIfInBounds_toArray,List.set_cons_zero,List.set_cons_succ,i64_w,i32_w]
          rfl
         refine pure_ (i:=13) (N:=some 44) (v:=?_) (a':=?_) #[true,true,true,true,true,true,true,true,true,true,true,true,true,true,false,false,false,false] rfl rfl (any_of HT_.out (by kernel_rfl)) (fun _ _ _ h=>h) (Or.inl ⟨by rfl,?_⟩) ?_ ?_
         rotate_left
         ·intro w'
          go_simp
          with_reducible rfl
         rotate_left
         ·simp only [Act.put,List.setIfInBounds_toArray,List.set_cons_zero,List.set_cons_succ,i64_w,i32_w]
          rfl
         refine one_ (i:=14) (N:=some 45) #[true,true,true,true,true,true,true,true,true,true,true,true,true,true,true,false,false,false] rfl rfl (one_of HT_.out (by kernel_rfl)) (by decide) (fun K hK=>?_)
         refine value_ (w1:=?_) (v:=?_) (by rfl) rfl ?_ ?_
         rotate_left 2
         ·go_simp
          constructor
          ·rfl
          ·rfl
         refine hK.out _ _ ⟨(World.cell?_alloc_lt _ _ _ (World.block_lt_of_cell? _ _ (hHeld.1))).trans (hHeld.1),(World.cell?_alloc_lt _ _ _ (World.block_lt_of_cell? _ _ (((HB.out.cell (World.block_lt_of_cell? w _ hw842_0)).trans hw842_0)))).trans (((HB.out.cell (World.block_lt_of_cell? w _ hw842_0)).trans hw842_0))⟩ (fun hHeld=>?_)
         clear hK K
         refine norm_ (a':=?_) ?_ ?_
         rotate_left
         ·show Act.put _ (some 45) _=_
          simp only [Act.put,List.setIfInBounds_toArray,List.set_cons_zero,List.set_cons_succ,i64_w,i32_w]
          rfl
         refine one_ (i:=15) (N:=some 46) #[true,true,true,true,true,true,true,true,true,true,true,true,true,true,true,true,false,false] rfl rfl (one_of HT_.out (by kernel_rfl)) (by decide) (fun K hK=>?_)
         refine Kd.R_append_step (Kd.int .i64) (w0:=w) w.heap.size (by rfl) (.tmp 36) (.tmp 45) 22 3 (.int .i64 0) 8 rfl Try.underlying22 info3 rfl (by decide) (by omega) (.slice A841_0 (rd_L1 x9_1 x28_1).length c841_0) (rd_L1 x9_1 x28_1) (Int.tmod (wrap64 (a1 - (rd l2 x28_1))) a1) [.int .i64 (Int.tmod (wrap64 (a1 - (rd l2 x28_1))) a1)] (fun k_=>oki17 k_∨((fun _=>True)) k_∧w16.heap.size≤k_) (fun _=>False) rfl rfl ?aP (fun _ hk=>hk.elim) ?aF ?aO ?aB ?aS ?aL ?_
         (case aP=>exact rfl)
         (case aB=>exact (by exact HB.out))
         (case aF=>exact (fun k_ hk=>.inr ⟨trivial,hk⟩))
         (case aO=>exact (by exact Kd.R_mono UU17.out (fun _ hk=>.inl hk)))
         (case aS=>exact (below_size (by exact HB.out)))
         (case aL=>have:=LMc14.out;omega)
         intro v844 w18 ho hb hg hat
         (first|have HS0_:=cell_grown hg (hHeld.1) (by first|(rw [add_block];exact (fun e_=>((HL841_0.out.1 _ e_.symm).2) rfl))|(show some (Addr.add _ _).block≠_;rw [add_block];exact (fun e_=>((HL841_0.out.1 _ e_.symm).2) rfl))|exact (fun e_=>((HL841_0.out.1 _ e_.symm).2) rfl))|have HS0_:=cell_grown hg (cell_unalloc (hHeld.1) (by first|(rw [add_block];exact Kd.S_lt HO_9.out _ rfl)|(show (Addr.add _ _).block< _;rw [add_block];exact Kd.S_lt HO_9.out _ rfl)|exact Kd.S_lt HO_9.out _ rfl)) (by first|(rw [add_block];exact (fun e_=>((HL841_0.out.1 _ e_.symm).2) rfl))|(show some (Addr.add _ _).block≠_;rw [add_block];exact (fun e_=>((HL841_0.out.1 _ e_.symm).2) rfl))|exact (fun e_=>((HL841_0.out.1 _ e_.symm).2) rfl)))
         rw [← Ny843.out] at ho
         have n0_:=Aside0.mk (blk_grown (g:=gb837) (o:=.cells #[.slice A0_0 l0_0.length c0_0,.bool a0_1] 28 (0,0)) (by exact BK837.out) hg (Kd.R_ne HL841_0.out BK837.out (by decide)))
         have n1_:=Aside0.mk (hb)
         have n2_:=Aside0.mk (Kd.H_grown (Kd.H_widen (by repeat (first|exact HH17.out|refine Kd.H_alloc ?_ _|refine Kd.H_drewN ?_ _|refine Kd.H_drew ?_))) hg (fun k_ e_=>.inl (UU17.out.1 k_ e_)))
         have n3_:=Aside0.mk (ho)
         clear BK837;clear HB;clear HH17;clear HO_9;clear UU17;clear HL841_0
         have BK837:=n0_
         have HB:=n1_
         have HH17:=n2_
         have HO845:=n3_
         clear n0_ n1_ n2_ n3_;clear ho hb hg hat
         have p15:0≤(x28_1:Int):=of_decide_eq_true (by first|(with_reducible assumption)|assumption)
         have q15:(x28_1:Int)< ((x9_1.length:Int):Int):=of_decide_eq_true (by first|(with_reducible assumption)|assumption)
         replace p15:=eq_true p15
         replace q15:=eq_true q15
         obtain ⟨Ao21,co21,eo21⟩:=Kd.R_slice HO845.out
         (first|subst eo21|(injection eo21 with f1_ f2_ f3_;have f4_:=f1_.symm;have f5_:=f3_.symm;clear f1_ f2_ f3_;subst f4_;subst f5_))
         obtain ⟨_,_,hraw19,_,_,hcc19,_⟩:=Kd.H_raw HH17.out (of_decide_eq_true (by first|(with_reducible assumption)|assumption)) (by have h_:(x28_1:Int)< ((x9_1.length:Int):Int):=of_decide_eq_true (by first|(with_reducible assumption)|assumption);first|exact h_|(have e_:=(HN17.out);omega)|simpa using h_)
         obtain ⟨_,hfr19⟩:=Kd.H_at HH17.out (of_decide_eq_true (by first|(with_reducible assumption)|assumption)) (by have h_:(x28_1:Int)< ((x9_1.length:Int):Int):=of_decide_eq_true (by first|(with_reducible assumption)|assumption);first|exact h_|(have e_:=(HN17.out);omega)|simpa using h_)
         have hx19_0:=hcc19 0 _ rfl
         have hf19_0:=hfr19 0
         (try simp only [Nat.add_zero] at hx19_0 hf19_0)
         (try rw [show ((Kd.slice 3 (Kd.int .i64))).sz=1 from rfl,Nat.mul_one] at hx19_0)
         (try rw [show ((Kd.slice 3 (Kd.int .i64))).sz=1 from rfl,Nat.mul_one] at hf19_0)
         have HP19:=Kd.S_seg0 HH17.out (of_decide_eq_true (by first|(with_reducible assumption)|assumption)) (by have h_:(x28_1:Int)< ((x9_1.length:Int):Int):=of_decide_eq_true (by first|(with_reducible assumption)|assumption);first|exact h_|(have e_:=(HN17.out);omega)|simpa using h_) (seg:=[.slice Ao21 y843.length co21]) (j:=0) (show 1≤1 from by decide) (x':=y843) (Kd.M_row HO845.out) (fun _ hk=>hk)
         (try simp only [show ((Kd.slice 3 (Kd.int .i64))).sz=1 from rfl,Nat.mul_one,Nat.add_zero] at HP19)
         clear hcc19 hfr19
         have HNB837_go17:=Aside0.mk (show gb837≠go17 from by have h_:=Kd.R_ne hraw19 BK837.out (by decide);intro e_;exact h_ (by rw [e_];rfl))
         have HS19:=HP19.1
         rw [← Ny846.out] at HS19
         have HQ19:=Aside0.mk HS19
         obtain ⟨_,hgg19⟩:=Kd.R_typed hraw19 go17 rfl
         have GG19_:=Aside0.mk hgg19
         clear HP19 HS19 hgg19
         refine hK.out _ _ ⟨HS0_,((HB.out.cell (World.block_lt_of_cell? w _ hw842_0)).trans hw842_0)⟩ (fun hHeld=>?_)
         clear hK K
         refine norm_ (a':=?_) ?_ ?_
         rotate_left
         ·show Act.put _ (some 46) _=_
          simp only [Act.put,List.setIfInBounds_toArray,List.set_cons_zero,List.set_cons_succ,i64_w,i32_w]
          rfl
         refine pure_ (i:=16) (N:=some 47) (v:=?_) (a':=?_) #[true,true,true,true,true,true,true,true,true,true,true,true,true,true,true,true,true,false] rfl rfl (any_of HT_.out (by kernel_rfl)) (fun _ _ _ h=>h) (Or.inl ⟨by rfl,?_⟩) ?_ ?_
         rotate_left
         ·intro w'
          go_simp
          with_reducible rfl
         rotate_left
         ·simp only [Act.put,List.setIfInBounds_toArray,List.set_cons_zero,List.set_cons_succ,i64_w,i32_w]
          rfl
         refine last_ (i:=17) (N:=none) #[true,true,true,true,true,true,true,true,true,true,true,true,true,true,true,true,true,true] rfl rfl (one_of HT_.out (by kernel_rfl)) (by decide) (fun K hK=>?_)
         refine skip_ (w1:=?_) (by rfl) rfl ?_ ?_
         rotate_left
         ·go_simp
          rfl
         refine hK.out _ _ ?_
         clear hK K
         refine done_ (done_of HT_.out (by kernel_rfl)) ?_
         try go_wp2
         (try simp only [← hl9_1])
         go_roundg k1
         case measure=>have:=HK1.out;omega
         case rel=>exact ⟨(y846),(wrap64 (x28_1+1)),(by first|rfl|(simp;done)|(simp [*];done)),H',⟨by have:=HK1.out;omega⟩,⟨by (try simp only [hl9_1]);(with_reducible repeat (first|apply Kd.S_alloc|apply Kd.S_drewN|apply Kd.S_drew));exact HQ19.out⟩,⟨by (try simp only [hl9_1]);(with_reducible repeat (first|refine blk_drewN ?_ _|refine blk_drew ?_|refine blk_alloc ?_ _));refine blk_far ?_ HNB837_go17.out _;(with_reducible repeat (first|refine blk_drewN ?_ _|refine blk_drew ?_|refine blk_alloc ?_ _));exact BK837.out⟩,⟨by repeat (first|(with_reducible first|exact HB.out|apply below_alloc|apply pw_below_drewN|apply below_drew1|refine below_set ?_ GB17.out|refine below_set ?_ GE837.out)|exact HB.out)⟩⟩
        ·rw [if_neg c14] at H
         exact absurd H (by simp)
      ·rw [if_neg c12] at H
       exact absurd H (by simp)
     ·rw [if_neg c11] at H
      exact absurd H (by simp)
    ·rw [if_neg c10] at H
     exact absurd H (by simp)
   ·rw [if_neg c9] at H
    have c9b0:decide (x28_1< (t838.length:Int))=false:=decide_eq_false c9
    (try simp only [hl9_1] at c9b0)
    clear c9
    replace H:=Option.bind_eq_some_iff.mp H
    obtain ⟨⟨t847,t848,t849⟩,A220,H⟩:=H
    replace H:((spec_l1Has.f k1 t848 (l0_0.length:Int)).bind fun t854=>(if t854=true then (some (([]:List Int),false)) else (if 0≤(l0_0.length:Int) then (if ((l0_0.length:Int):Int).toNat≤35184372088832 then (spec_clSolve.l1 k1 a1 (l0_0.length:Int) t847 (List.replicate ((l0_0.length:Int):Int).toNat 0) t848 (t848.length:Int) 0 l0_0 a0_1) else (none)) else (none))))=some (r1,r2):=H
    have A22:=Aside0.mk A220
    clear A220
    replace H:=Option.bind_eq_some_iff.mp H
    obtain ⟨t854,A230,H⟩:=H
    replace H:(if t854=true then (some (([]:List Int),false)) else (if 0≤(l0_0.length:Int) then (if ((l0_0.length:Int):Int).toNat≤35184372088832 then (spec_clSolve.l1 k1 a1 (l0_0.length:Int) t847 (List.replicate ((l0_0.length:Int):Int).toNat 0) t848 (t848.length:Int) 0 l0_0 a0_1) else (none)) else (none)))=some (r1,r2):=H
    have A23:=Aside0.mk A230
    clear A230
    by_cases c24:t854=true
    ·subst c24
     have H1:(some (([]:List Int),false))=some (r1,r2):=by rw [if_pos rfl] at H;exact H
     clear H
     have H:=H1
     clear H1
     simp only [Option.some.injEq,Prod.mk.injEq] at H
     obtain ⟨rfl,rfl⟩:=H
     go_wp2_with (first|((with_reducible refine gate_callee (f:=61) rfl ?_);refine goesL_ (some 54) rfl rfl Try.func61 (by kernel_rfl) rfl #[.slice Ao8 x9_1.length co8,.int .i64 a1,.int .i64 (wrap64 ((l0_0.length:Int)+1))] rfl (by (try simp only [List.map_toArray,List.map_cons,List.map_nil]);first|done|rfl|(simp only [List.length_drop,List.length_take];rfl)) ?_;(with_reducible refine (spec_clSteps.calls k1 _ _ x9_1 a1 (wrap64 ((l0_0.length:Int)+1)) t847 t848 t849 _ ?side1 ?side2 A22.out).mono ?_);(case side1=>exact (Kd.S_reads' HO_9.out).2.2);(case side2=>exact (Kd.S_reads' HO_9.out).2.1);rintro e w25 ⟨v850,v852,rfl,ho0,ho1,hb⟩;refine ⟨_,rfl,?_⟩;have n0_:=Aside0.mk (Kd.S_mono (Kd.S_told (Kd.S_told (Kd.S_old (by exact HO_9.out) hb) (Kd.S_base ho0)) (Kd.R_base ho1)) (fun _ h_=>h_.1));have n1_:=Aside0.mk (Kd.S_lower (Kd.S_new' ho0 (Kd.S_lt (by exact HO_9.out))) (below_size (by exact HB.out)));have n2_:=Aside0.mk (Kd.R_lower ho1 (below_size (by exact HB.out)));have n3_:=Aside0.mk (blk_below (g:=gb837) (o:=.cells #[.slice A0_0 l0_0.length c0_0,.bool a0_1] 28 (0,0)) (by exact BK837.out) hb);have n4_:=Aside0.mk (below_step (by exact HB.out) hb);clear HO_9;clear BK837;clear HB;have HO_9:=n0_;have HO851:=n1_;have HO853:=n2_;have BK837:=n3_;have HB:=n4_;clear n0_ n1_ n2_ n3_ n4_;(try clear hb);(try clear hb2);(try clear hk);(try clear hi);(try clear ho0);(try clear ho1);obtain ⟨Ao26,co26,eo26⟩:=Kd.R_slice HO853.out;subst eo26)|((with_reducible refine gate_callee (f:=86) rfl ?_);refine goesL_ (some 60) rfl rfl Try.func86 (by kernel_rfl) rfl #[.slice Ao26 t848.length co26,.int .i64 (l0_0.length:Int)] rfl (by (try simp only [List.map_toArray,List.map_cons,List.map_nil]);first|done|rfl|(simp only [List.length_drop,List.length_take];rfl)) ?_;(with_reducible refine (spec_l1Has.calls k1 _ _ t848 (l0_0.length:Int) true _ ?side1 ?side2 A23.out).mono ?_);(case side1=>exact (Kd.R_reads' HO853.out).2.2);(case side2=>exact (Kd.R_reads' HO853.out).2.1);rintro e w' ⟨rfl,⟨nd,rfl⟩⟩;refine ⟨_,rfl,?_⟩))
     go_ret2
     exact ⟨_,by first|rfl|(simp [errW_none,errW_some]<;>rfl)|(simp [*,errW_none,errW_some]<;>rfl),by first|exact Kd.R_nil _ _ _ _ _|exact Kd.N_nil _ _ _ _ _|exact Kd.V_nil _ _ _ _ _|exact Kd.Q_nil _ _ _ _ _|exact Kd.S_nil _ _ _ _ _,by repeat (first|(with_reducible first|exact HB.out|apply below_alloc|apply pw_below_drewN|apply below_drew1|refine below_set ?_ GE837.out)|exact HB.out)⟩
    ·replace c24:=Bool.eq_false_iff.mpr c24
     subst c24
     have H1:(if 0≤(l0_0.length:Int) then (if ((l0_0.length:Int):Int).toNat≤35184372088832 then (spec_clSolve.l1 k1 a1 (l0_0.length:Int) t847 (List.replicate ((l0_0.length:Int):Int).toNat 0) t848 (t848.length:Int) 0 l0_0 a0_1) else (none)) else (none))=some (r1,r2):=by rw [if_neg (show ¬ (false=true) by decide)] at H;exact H
     clear H
     have H:=H1
     clear H1
     by_cases c27:0≤(l0_0.length:Int)
     ·rw [if_pos c27] at H
      have c27b0:=eq_true c27
      have c27b1:decide (0≤(l0_0.length:Int))=true:=decide_eq_true c27
      (try simp only [hl9_1] at c27b1)
      clear c27
      by_cases c28:((l0_0.length:Int):Int).toNat≤35184372088832
      ·rw [if_pos c28] at H
       have c28b0:=eq_true c28
       have c28b1:decide (((l0_0.length:Int):Int).toNat≤35184372088832)=true:=decide_eq_true c28
       (try simp only [hl9_1] at c28b1)
       clear c28
       obtain ⟨y855,hy855⟩:∃ y_:List Int,y_=(List.replicate ((l0_0.length:Int):Int).toNat 0):=⟨_,rfl⟩
       replace H:(spec_clSolve.l1 k1 a1 (l0_0.length:Int) t847 y855 t848 (t848.length:Int) 0 l0_0 a0_1)=some (r1,r2):=by first|(rw [hy855];with_reducible exact H)|(have H2_:=(Option.bind_some _ _).symm.trans H;rw [hy855];with_reducible exact H2_)|(have H2_:=(Option.bind_some _ _).symm.trans H;with_reducible exact H2_)|with_reducible exact H|(rw [hy855];exact H)|exact H
       have Ny855:=Aside0.mk hy855
       clear hy855
       have H':=Aside0.mk H
       clear H
       go_wp2_with (first|((with_reducible refine gate_callee (f:=61) rfl ?_);refine goesL_ (some 54) rfl rfl Try.func61 (by kernel_rfl) rfl #[.slice Ao8 x9_1.length co8,.int .i64 a1,.int .i64 (wrap64 ((l0_0.length:Int)+1))] rfl (by (try simp only [List.map_toArray,List.map_cons,List.map_nil]);first|done|rfl|(simp only [List.length_drop,List.length_take];rfl)) ?_;(with_reducible refine (spec_clSteps.calls k1 _ _ x9_1 a1 (wrap64 ((l0_0.length:Int)+1)) t847 t848 t849 _ ?side1 ?side2 A22.out).mono ?_);(case side1=>exact (Kd.S_reads' HO_9.out).2.2);(case side2=>exact (Kd.S_reads' HO_9.out).2.1);rintro e w29 ⟨v850,v852,rfl,ho0,ho1,hb⟩;refine ⟨_,rfl,?_⟩;have n0_:=Aside0.mk (Kd.S_mono (Kd.S_told (Kd.S_told (Kd.S_old (by exact HO_9.out) hb) (Kd.S_base ho0)) (Kd.R_base ho1)) (fun _ h_=>h_.1));have n1_:=Aside0.mk (Kd.S_lower (Kd.S_new' ho0 (Kd.S_lt (by exact HO_9.out))) (below_size (by exact HB.out)));have n2_:=Aside0.mk (Kd.R_lower ho1 (below_size (by exact HB.out)));have n3_:=Aside0.mk (blk_below (g:=gb837) (o:=.cells #[.slice A0_0 l0_0.length c0_0,.bool a0_1] 28 (0,0)) (by exact BK837.out) hb);have n4_:=Aside0.mk (below_step (by exact HB.out) hb);clear HO_9;clear BK837;clear HB;have HO_9:=n0_;have HO851:=n1_;have HO853:=n2_;have BK837:=n3_;have HB:=n4_;clear n0_ n1_ n2_ n3_ n4_;(try clear hb);(try clear hb2);(try clear hk);(try clear hi);(try clear ho0);(try clear ho1);obtain ⟨Ao30,co30,eo30⟩:=Kd.R_slice HO853.out;subst eo30)|((with_reducible refine gate_callee (f:=86) rfl ?_);refine goesL_ (some 60) rfl rfl Try.func86 (by kernel_rfl) rfl #[.slice Ao30 t848.length co30,.int .i64 (l0_0.length:Int)] rfl (by (try simp only [List.map_toArray,List.map_cons,List.map_nil]);first|done|rfl|(simp only [List.length_drop,List.length_take];rfl)) ?_;(with_reducible refine (spec_l1Has.calls k1 _ _ t848 (l0_0.length:Int) false _ ?side1 ?side2 A23.out).mono ?_);(case side1=>exact (Kd.R_reads' HO853.out).2.2);(case side2=>exact (Kd.R_reads' HO853.out).2.1);rintro e w' ⟨rfl,⟨nd,rfl⟩⟩;refine ⟨_,rfl,?_⟩)|((with_reducible refine gate_dst (N:=62) rfl ?_);refine Kd.R_make (Kd.int .i64) _ 3 rfl (N:=62) rfl 22 _ _ rfl (l0_0.length:Int) rfl rfl Try.underlying22 (.int .i64 0) 8 info3 rfl (by decide) (by omega) 0 (ok:=fun _=>True) (okp:=fun _=>True) rfl (fun _ hk=>hk) trivial (of_decide_eq_true (by first|(with_reducible assumption)|assumption)) (Nat.le_trans (Nat.mul_le_mul_right _ (of_decide_eq_true (by first|(with_reducible assumption)|assumption):(l0_0.length:Int).toNat≤35184372088832)) (by omega)) (Below.refl _ _) (Nat.le_refl _) ?_;intro v856 w31 ho32 hb hg_ hnew_;clear hg_ hnew_;(first|rw [← Ny855.out] at ho32|(simp only [Int.reduceToNat] at ho32;rw [← Ny855.out] at ho32));have n0_:=Aside0.mk (Kd.S_elder' (by exact HO_9.out) (Kd.R_base ho32) hb);have n1_:=Aside0.mk (Kd.S_elder' (by exact HO851.out) (Kd.R_base ho32) hb);have n2_:=Aside0.mk (Kd.R_elder' (by exact HO853.out) (Kd.R_base ho32) hb);have n3_:=Aside0.mk (Kd.R_lower (Kd.R_new' ho32 (Kd.R_lt (by exact HO853.out))) (below_size (by repeat (first|(with_reducible first|exact HB.out|apply below_alloc|apply pw_below_drewN|apply below_drew1|refine below_set ?_ GE837.out)|exact HB.out))));have n4_:=Aside0.mk (blk_below (g:=gb837) (o:=.cells #[.slice A0_0 l0_0.length c0_0,.bool a0_1] 28 (0,0)) (by exact BK837.out) hb);have n5_:=Aside0.mk (below_step (by repeat (first|(with_reducible first|exact HB.out|apply below_alloc|apply pw_below_drewN|apply below_drew1|refine below_set ?_ GE837.out)|exact HB.out)) hb);clear HO_9;clear HO851;clear HO853;clear BK837;clear HB;have HO_9:=n0_;have HO851:=n1_;have HO853:=n2_;have HO857:=n3_;have BK837:=n4_;have HB:=n5_;clear n0_ n1_ n2_ n3_ n4_ n5_;clear hb ho32))
       go_loopg [65] k1 (fun kq v65 w'=>∃ (x14_2:List Int) (x65_2:Int),v65=.int .i64 x65_2∧Aside0 (spec_clSolve.l1 kq a1 (l0_0.length:Int) t847 x14_2 t848 (t848.length:Int) x65_2 l0_0 a0_1=some (r1,r2))∧Aside0 (kq≤k1)∧Aside0 (Kd.S (Kd.slice 3 (Kd.int .i64)) 22 w' w.heap.size (fun k_=>some k_≠(v856:Value).ownBlock∧some k_≠((.slice Ao30 t848.length co30):Value).ownBlock) v850 t847)∧Aside0 (Kd.R (Kd.int .i64) 3 w' w.heap.size (fun k_=>some k_≠((.slice Ao30 t848.length co30):Value).ownBlock) v856 x14_2)∧Aside0 (Kd.R (Kd.int .i64) 3 w' w.heap.size (fun k_=>some k_≠(v856:Value).ownBlock) (.slice Ao30 t848.length co30) t848)∧Aside0 (w'.heap[gb837]?=some (.cells #[(.slice A0_0 l0_0.length c0_0),.bool a0_1] 28 (0,0)))∧Aside0 (Below w.heap.size w w'))
       case atStart=>exact ⟨(y855),(0),(by first|rfl|(simp;done)|(simp [*];done)),H',⟨Nat.le_refl _⟩,⟨by exact Kd.S_mono HO851.out (fun _ hk=>⟨hk.2,hk.1.1⟩)⟩,⟨by exact Kd.R_mono HO857.out (fun _ hk=>hk.2)⟩,⟨by exact Kd.R_mono HO853.out (fun _ hk=>hk.2)⟩,⟨by exact BK837.out⟩,⟨by exact HB.out⟩⟩
       case round=>
        clear H'
        (try clear c1);(try clear p1);(try clear q1);(try clear hx1);(try clear c2);(try clear p2);(try clear c6);(try clear p6);(try clear c8);(try clear p8);(try clear q8);(try clear hx8);(try clear c9);(try clear c9b0);(try clear c10);(try clear c10b0);(try clear c11);(try clear c11b0);(try clear c12);(try clear c12b0);(try clear c13);(try clear c13b0);(try clear c13b1);(try clear c14);(try clear p15);(try clear q15);(try clear c17);(try clear c19);(try clear hx19);(try clear hf19);(try clear c24);(try clear c27);(try clear c27b0);(try clear c27b1);(try clear c28);(try clear c28b0);(try clear c28b1);(try clear hcz6_0);(try clear hcz6_1);(try clear hfz6_0);(try clear hfz6_1);(try clear hx19_0);(try clear hx841_0);(try clear hx842_0);(try clear p15);(try clear p2);(try clear p841);(try clear p842);(try clear q15);(try clear q841);(try clear q842)
        obtain ⟨x14_2,x65_2,rfl,HA,HK2,HO_11,HO_14,HO_63,BK837,HB⟩:=hrel
        cases gk with
        |zero=>exact absurd HA.out (by simp [spec_clSolve.l1])
        |succ k2=>
         have H:=HA.out
         clear HA
         simp only [spec_clSolve.l1] at H
         by_cases c33:x65_2< (t848.length:Int)
         ·rw [if_pos c33] at H
          have c33b0:decide (x65_2< (t848.length:Int))=true:=decide_eq_true c33
          (try simp only [hl9_1] at c33b0)
          clear c33
          by_cases c34:0≤x65_2
          ·rw [if_pos c34] at H
           have c34b0:decide (0≤x65_2)=true:=decide_eq_true c34
           clear c34
           by_cases c35:x65_2< (t848.length:Int)
           ·rw [if_pos c35] at H
            have c35b0:decide (x65_2< (t848.length:Int))=true:=decide_eq_true c35
            (try simp only [hl9_1] at c35b0)
            clear c35
            by_cases c36:x65_2< (t847.length:Int)
            ·rw [if_pos c36] at H
             have c36b0:decide (x65_2< (t847.length:Int))=true:=decide_eq_true c36
             (try simp only [hl9_1] at c36b0)
             clear c36
             by_cases c37:0≤(l0_0.length:Int)
             ·rw [if_pos c37] at H
              have c37b0:decide (0≤(l0_0.length:Int))=true:=decide_eq_true c37
              (try simp only [hl9_1] at c37b0)
              have c37b1:decide (0≤l0_0.length)=true:=decide_eq_true (by omega)
              (try simp only [hl9_1] at c37b1)
              clear c37
              by_cases c38:(l0_0.length:Int)< ((rd_L1 t847 x65_2).length:Int)
              ·rw [if_pos c38] at H
               have c38b0:decide ((l0_0.length:Int)< ((rd_L1 t847 x65_2).length:Int))=true:=decide_eq_true c38
               (try simp only [hl9_1] at c38b0)
               have c38b1:decide (l0_0.length< (rd_L1 t847 x65_2).length)=true:=decide_eq_true (Int.ofNat_lt.mp c38)
               (try simp only [hl9_1] at c38b1)
               clear c38
               by_cases c39:0≤(rd t848 x65_2)
               ·rw [if_pos c39] at H
                have c39b0:decide (0≤(rd t848 x65_2))=true:=decide_eq_true c39
                clear c39
                by_cases c40:(rd t848 x65_2)< (x14_2.length:Int)
                ·rw [if_pos c40] at H
                 have c40b0:decide ((rd t848 x65_2)< (x14_2.length:Int))=true:=decide_eq_true c40
                 (try simp only [hl9_1] at c40b0)
                 clear c40
                 obtain ⟨y861,hy861⟩:∃ y_:List Int,y_=(x14_2.set ((rd t848 x65_2):Int).toNat (rd (rd_L1 t847 x65_2) (l0_0.length:Int))):=⟨_,rfl⟩
                 replace H:(spec_clSolve.l1 k2 a1 (l0_0.length:Int) t847 y861 t848 (t848.length:Int) (wrap64 (x65_2+1)) l0_0 a0_1)=some (r1,r2):=by first|(rw [hy861];with_reducible exact H)|(have H2_:=(Option.bind_some _ _).symm.trans H;rw [hy861];with_reducible exact H2_)|(have H2_:=(Option.bind_some _ _).symm.trans H;with_reducible exact H2_)|with_reducible exact H|(rw [hy861];exact H)|exact H
                 have Ny861:=Aside0.mk hy861
                 clear hy861
                 have H':=Aside0.mk H
                 clear H
                 have p858:0≤(x65_2:Int):=of_decide_eq_true (by first|(with_reducible assumption)|assumption)
                 have q858:x65_2< (t848.length:Int):=of_decide_eq_true (by first|(with_reducible assumption)|assumption)
                 obtain ⟨ad858,e858,hx858_0⟩:=Kd.at_int (Kd.R_reads' HO_63.out).2.2 x65_2 p858 q858
                 cases e858
                 replace p858:=eq_true p858
                 replace q858:=eq_true q858
                 obtain ⟨Ao42,co42,eo42⟩:=Kd.S_slice HO_11.out
                 subst eo42
                 have p859:0≤(x65_2:Int):=of_decide_eq_true (by first|(with_reducible assumption)|assumption)
                 have q859:x65_2< (t847.length:Int):=of_decide_eq_true (by first|(with_reducible assumption)|assumption)
                 obtain ⟨ad859,A859_0,c859_0,e859,hx859_0,hl859_0,hi859_0⟩:=at_L1 (Kd.S_reads' HO_11.out).2.2 x65_2 p859 q859
                 cases e859
                 obtain ⟨ce859,hce859,hMe859,hcc859⟩:=Kd.S_get HO_11.out [] x65_2 p859 (by first|exact q859|exact of_decide_eq_true (by first|(with_reducible assumption)|assumption)|(have e_:=(Kd.S_reads' HO_11.out).1;omega))
                 obtain ⟨ve859_0,rfl,ge859_0⟩:=hMe859
                 have hv859_0:=hcc859 0 _ rfl
                 rw [Nat.add_zero,show ((Kd.slice 3 (Kd.int .i64))).sz=1 from rfl,Nat.mul_one] at hv859_0
                 replace hv859_0:=Option.some.inj (hv859_0.symm.trans hx859_0)
                 rw [hv859_0] at ge859_0
                 have HL859_0:=Aside0.mk (show Kd.R (Kd.int .i64) 3 _ _ _ _ (rd_L1 t847 x65_2) from ge859_0)
                 clear hv859_0 ge859_0
                 have HX859_0:=Aside0.mk hx859_0
                 clear hcc859 hce859
                 have HR859_0:=Aside0.mk hi859_0
                 have HC859_0:=Aside0.mk hl859_0
                 clear hi859_0 hl859_0
                 replace p859:=eq_true p859
                 replace q859:=eq_true q859
                 have p860:0≤((l0_0.length:Int):Int):=of_decide_eq_true (by first|(with_reducible assumption)|assumption)
                 have q860:(l0_0.length:Int)< ((rd_L1 t847 x65_2).length:Int):=of_decide_eq_true (by first|(with_reducible assumption)|assumption)
                 obtain ⟨ad860,e860,hx860_0⟩:=Kd.at_int (by exact HR859_0.out) (l0_0.length:Int) p860 q860
                 cases e860
                 (try simp only [Go.IntWalk.toNatUp] at hx860_0)
                 (try simp only [hl9_1] at p860)
                 (try simp only [hl9_1] at q860)
                 (try simp only [hl9_1] at hx860_0)
                 replace p860:=eq_true p860
                 replace q860:=eq_true q860
                 have p41:0≤((rd t848 x65_2):Int):=of_decide_eq_true (by first|(with_reducible assumption)|assumption)
                 have q41:((rd t848 x65_2):Int)< ((x14_2.length:Int):Int):=of_decide_eq_true (by first|(with_reducible assumption)|assumption)
                 obtain ⟨go41,co41,eo41,gb41,gl41,cl41,HG41⟩:=Kd.R_form HO_14.out (by omega)
                 (first|cases eo41|(injection eo41 with ea_ en_ ec_;(first|subst ea_|(injection ea_ with ea_;subst ea_));subst ec_;clear en_))
                 have GB41:=Aside0.mk gb41
                 have GG41:=Aside0.mk HG41
                 clear gb41 gl41 HG41
                 obtain ⟨hx41_0,hf41_0⟩:=Kd.R_celln 0 HO_14.out ((rd t848 x65_2):Int) p41 q41
                 replace p41:=eq_true p41
                 replace q41:=eq_true q41
                 have HP43:=Kd.R_putg HO_14.out ((rd t848 x65_2):Int) (rd (rd_L1 t847 x65_2) (l0_0.length:Int))
                 go_wp2_with (first|((with_reducible refine gate_store (t:=3) (p:=79) rfl ?_);refine store_event (t:=3) (p:=79) (v:=?vo_w44) (w1:=(wr.setCell ⟨go41,((rd t848 x65_2):Int).toNat,none⟩ (.int .i64 (rd (rd_L1 t847 x65_2) (l0_0.length:Int))))) ?hg ?ho ?hn ?hr ?_;(case ho=>rfl);(case hg=>rfl);(case hn=>rfl);(case hr=>first|(go_simp;done)|(go_simp;rfl));intro w44 hw;have hg:wr.grownBy w44 (some go41):=(by rw [hw];exact HP43.2);have hp_:Kd.R (Kd.int .i64) 3 w44 w.heap.size (fun k_=>some k_≠(.slice (some ad858) t848.length co30:Value).ownBlock) (.slice (some ⟨go41,0,none⟩) x14_2.length co41) y861:=(by rw [hw,Ny861.out];exact HP43.1);clear HP43;have n0_:=Aside0.mk (Kd.S_after (v:=(.slice (some ⟨go41,0,none⟩) x14_2.length co41)) (v1:=(.slice (some ⟨go41,0,none⟩) x14_2.length co41)) (ok:=(fun k_=>some k_≠(.slice (some ad858) t848.length co30:Value).ownBlock)) (by exact Kd.S_mono HO_11.out (fun _ hk=>⟨hk.2,hk.1⟩)) hg (.inl rfl));have n1_:=Aside0.mk (hp_);have n2_:=Aside0.mk (Kd.R_after (v:=(.slice (some ⟨go41,0,none⟩) x14_2.length co41)) (v1:=(.slice (some ⟨go41,0,none⟩) x14_2.length co41)) (ok:=(fun _=>True)) (by exact Kd.R_mono HO_63.out (fun _ hk=>⟨trivial,hk⟩)) hg (.inl rfl));have n3_:=Aside0.mk (blk_grown (g:=gb837) (o:=.cells #[.slice A0_0 l0_0.length c0_0,.bool a0_1] 28 (0,0)) (by exact BK837.out) hg (Kd.R_ne HO_14.out BK837.out (by decide)));have n4_:=Aside0.mk (Kd.R_after (v:=(.slice (some ⟨go41,0,none⟩) x14_2.length co41)) (v1:=(.slice (some ⟨go41,0,none⟩) x14_2.length co41)) (ok:=(fun k_=>some k_≠(.slice (some ad859) t847.length co42:Value).ownBlock∧some k_≠(.slice (some ad858) t848.length co30:Value).ownBlock)) (by exact Kd.R_mono HL859_0.out (fun _ hk=>⟨⟨hk.2,hk.1.2⟩,hk.1.1⟩)) hg (.inl rfl));have n5_:=Aside0.mk ((by rw [hw];exact below_set (HB.out) GB41.out:Below w.heap.size w w44));clear HO_11;clear HO_14;clear HO_63;clear BK837;clear HL859_0;clear HB;have HO_11:=n0_;have HO_14:=n1_;have HO_63:=n2_;have BK837:=n3_;have HL859_0:=n4_;have HB:=n5_;clear n0_ n1_ n2_ n3_ n4_ n5_;clear hg hw hp_))
                 go_roundg k2
                 case measure=>have:=HK1.out;have:=HK2.out;omega
                 case rel=>exact ⟨(y861),(wrap64 (x65_2+1)),(by first|rfl|(simp;done)|(simp [*];done)),H',⟨by have:=HK1.out;have:=HK2.out;omega⟩,⟨by exact Kd.S_mono HO_11.out (fun _ hk=>⟨hk.2,hk.1⟩)⟩,⟨by exact HO_14.out⟩,⟨by exact Kd.R_mono HO_63.out (fun _ hk=>hk.2)⟩,⟨by exact BK837.out⟩,⟨by exact HB.out⟩⟩
                ·rw [if_neg c40] at H
                 exact absurd H (by simp)
               ·rw [if_neg c39] at H
                exact absurd H (by simp)
              ·rw [if_neg c38] at H
               exact absurd H (by simp)
             ·rw [if_neg c37] at H
              exact absurd H (by simp)
            ·rw [if_neg c36] at H
             exact absurd H (by simp)
           ·rw [if_neg c35] at H
            exact absurd H (by simp)
          ·rw [if_neg c34] at H
           exact absurd H (by simp)
         ·rw [if_neg c33] at H
          have c33b0:decide (x65_2< (t848.length:Int))=false:=decide_eq_false c33
          (try simp only [hl9_1] at c33b0)
          clear c33
          replace H:=Option.bind_eq_some_iff.mp H
          obtain ⟨t862,A450,H⟩:=H
          replace H:(spec_clSolve.l2 k2 a1 x14_2 t862 (t862.length:Int) 0)=some (r1,r2):=H
          have A45:=Aside0.mk A450
          clear A450
          have H':=Aside0.mk H
          clear H
          have hcz46_0:wr.cell? ⟨gb837,0,none⟩=some (.slice A0_0 l0_0.length c0_0):=(blk_cell BK837.out 0).trans rfl
          have hcz46_1:wr.cell? ⟨gb837,1,none⟩=some (.bool a0_1):=(blk_cell BK837.out 1).trans rfl
          have hfz46_0:=blk_frozen BK837.out 0
          have hfz46_1:=blk_frozen BK837.out 1
          go_wp2_with (first|((with_reducible refine gate_callee (f:=64) rfl ?_);refine goesL_ (some 83) rfl rfl Try.func64 (by kernel_rfl) rfl #[.agg #[.slice A0_0 l0_0.length c0_0,.bool a0_1],.int .i64 a1] rfl (by (try simp only [List.map_toArray,List.map_cons,List.map_nil]);first|done|rfl|(simp only [List.length_drop,List.length_take];rfl)) ?_;(with_reducible refine (spec_clQuiet.calls k2 _ _ l0_0 a0_1 a1 t862 _ ?side1 ?side2 A45.out).mono ?_);(case side1=>exact (Kd.C_below HR0_0.out HB.out));(case side2=>exact HC0_0.out);rintro e w47 ⟨v863,rfl,ho0,hb⟩;refine ⟨_,rfl,?_⟩;have n0_:=Aside0.mk (Kd.S_elder' (by exact HO_11.out) (Kd.S_base ho0) hb);have n1_:=Aside0.mk (Kd.R_below (by exact HO_14.out) hb);have n2_:=Aside0.mk (Kd.R_below (by exact HO_63.out) hb);have n3_:=Aside0.mk (Kd.S_lower (Kd.S_new' (Kd.S_new' (Kd.S_new' ho0 (Kd.S_lt (by exact HO_11.out))) (Kd.R_lt (by exact HO_14.out))) (Kd.R_lt (by exact HO_63.out))) (below_size (by exact HB.out)));have n4_:=Aside0.mk (blk_below (g:=gb837) (o:=.cells #[.slice A0_0 l0_0.length c0_0,.bool a0_1] 28 (0,0)) (by exact BK837.out) hb);have n5_:=Aside0.mk (below_step (by exact HB.out) hb);clear HO_11;clear HO_14;clear HO_63;clear BK837;clear HB;have HO_11:=n0_;have HO_14:=n1_;have HO_63:=n2_;have HO864:=n3_;have BK837:=n4_;have HB:=n5_;clear n0_ n1_ n2_ n3_ n4_ n5_;(try clear hb);(try clear hb2);(try clear hk);(try clear hi);(try clear ho0);obtain ⟨Ao48,co48,eo48⟩:=Kd.S_slice HO864.out;subst eo48))
          go_loopg [85] k2 (fun kq v85 w'=>∃ (x14_3:List Int) (x85_3:Int),v85=.int .i64 x85_3∧Aside0 (spec_clSolve.l2 kq a1 x14_3 t862 (t862.length:Int) x85_3=some (r1,r2))∧Aside0 (kq≤k2)∧Aside0 (Kd.R (Kd.int .i64) 3 w' w.heap.size (fun _=>True) v856 x14_3)∧Aside0 (Kd.S (Kd.slice 3 (Kd.int .i64)) 22 w' w.heap.size (fun k_=>some k_≠(v856:Value).ownBlock) (.slice Ao48 t862.length co48) t862)∧Aside0 (w'.heap[gb837]?=some (.cells #[(.slice A0_0 l0_0.length c0_0),.bool a0_1] 28 (0,0)))∧Aside0 (Below w.heap.size w w'))
          case atStart=>exact ⟨(x14_2),(0),(by first|rfl|(simp;done)|(simp [*];done)),H',⟨Nat.le_refl _⟩,⟨by exact Kd.R_mono HO_14.out (fun _ hk=>trivial)⟩,⟨by exact Kd.S_mono HO864.out (fun _ hk=>hk.1.2)⟩,⟨by exact BK837.out⟩,⟨by exact HB.out⟩⟩
          case round=>
           clear H'
           (try clear c1);(try clear p1);(try clear q1);(try clear hx1);(try clear c2);(try clear p2);(try clear c3);(try clear c4);(try clear p4);(try clear q4);(try clear hx4);(try clear hf4);(try clear c6);(try clear p6);(try clear c8);(try clear p8);(try clear q8);(try clear hx8);(try clear c9);(try clear c9b0);(try clear c10);(try clear c10b0);(try clear c11);(try clear c11b0);(try clear c12);(try clear c12b0);(try clear c13);(try clear c13b0);(try clear c13b1);(try clear c14);(try clear p15);(try clear q15);(try clear c17);(try clear c19);(try clear hx19);(try clear hf19);(try clear c24);(try clear c27);(try clear c27b0);(try clear c27b1);(try clear c28);(try clear c28b0);(try clear c28b1);(try clear c33);(try clear c33b0);(try clear c34);(try clear c34b0);(try clear c35);(try clear c35b0);(try clear c36);(try clear c36b0);(try clear c37);(try clear c37b0);(try clear c37b1);(try clear c38);(try clear c38b0);(try clear c38b1);(try clear c39);(try clear c39b0);(try clear c40);(try clear c40b0);(try clear p41);(try clear q41);(try clear hx41);(try clear hf41);(try clear hcz46_0);(try clear hcz46_1);(try clear hcz6_0);(try clear hcz6_1);(try clear hfz46_0);(try clear hfz46_1);(try clear hfz6_0);(try clear hfz6_1);(try clear hx19_0);(try clear hx41_0);(try clear hx841_0);(try clear hx842_0);(try clear hx858_0);(try clear hx859_0);(try clear hx860_0);(try clear p1);(try clear p15);(try clear p2);(try clear p41);(try clear p6);(try clear p8);(try clear p841);(try clear p842);(try clear p858);(try clear p859);(try clear p860);(try clear q1);(try clear q15);(try clear q41);(try clear q8);(try clear q841);(try clear q842);(try clear q858);(try clear q859);(try clear q860)
           obtain ⟨x14_3,x85_3,rfl,HA,HK3,HO_14,HO_83,BK837,HB⟩:=hrel
           cases gk with
           |zero=>exact absurd HA.out (by simp [spec_clSolve.l2])
           |succ k3=>
            have H:=HA.out
            clear HA
            simp only [spec_clSolve.l2] at H
            by_cases c49:x85_3< (t862.length:Int)
            ·rw [if_pos c49] at H
             have c49b0:decide (x85_3< (t862.length:Int))=true:=decide_eq_true c49
             (try simp only [hl9_1] at c49b0)
             clear c49
             by_cases c50:0≤x85_3
             ·rw [if_pos c50] at H
              have c50b0:decide (0≤x85_3)=true:=decide_eq_true c50
              clear c50
              by_cases c51:x85_3< (t862.length:Int)
              ·rw [if_pos c51] at H
               have c51b0:decide (x85_3< (t862.length:Int))=true:=decide_eq_true c51
               (try simp only [hl9_1] at c51b0)
               clear c51
               replace H:=Option.bind_eq_some_iff.mp H
               obtain ⟨t866,A520,H⟩:=H
               replace H:(if 0≤t866 then (if t866< (x14_3.length:Int) then (spec_clSolve.l3 k3 a1 x14_3 (rd_L1 t862 x85_3) (rd x14_3 t866) t862 (t862.length:Int) x85_3 (x14_3.length:Int) 0) else (none)) else (none))=some (r1,r2):=H
               have A52:=Aside0.mk A520
               clear A520
               by_cases c53:0≤t866
               ·rw [if_pos c53] at H
                have c53b0:decide (0≤t866)=true:=decide_eq_true c53
                clear c53
                by_cases c54:t866< (x14_3.length:Int)
                ·rw [if_pos c54] at H
                 have c54b0:decide (t866< (x14_3.length:Int))=true:=decide_eq_true c54
                 (try simp only [hl9_1] at c54b0)
                 clear c54
                 have H':=Aside0.mk H
                 clear H
                 have p865:0≤(x85_3:Int):=of_decide_eq_true (by first|(with_reducible assumption)|assumption)
                 have q865:x85_3< (t862.length:Int):=of_decide_eq_true (by first|(with_reducible assumption)|assumption)
                 obtain ⟨ad865,A865_0,c865_0,e865,hx865_0,hl865_0,hi865_0⟩:=at_L1 (Kd.S_reads' HO_83.out).2.2 x85_3 p865 q865
                 cases e865
                 obtain ⟨ce865,hce865,hMe865,hcc865⟩:=Kd.S_get HO_83.out [] x85_3 p865 (by first|exact q865|exact of_decide_eq_true (by first|(with_reducible assumption)|assumption)|(have e_:=(Kd.S_reads' HO_83.out).1;omega))
                 obtain ⟨ve865_0,rfl,ge865_0⟩:=hMe865
                 have hv865_0:=hcc865 0 _ rfl
                 rw [Nat.add_zero,show ((Kd.slice 3 (Kd.int .i64))).sz=1 from rfl,Nat.mul_one] at hv865_0
                 replace hv865_0:=Option.some.inj (hv865_0.symm.trans hx865_0)
                 rw [hv865_0] at ge865_0
                 have HL865_0:=Aside0.mk (show Kd.R (Kd.int .i64) 3 _ _ _ _ (rd_L1 t862 x85_3) from ge865_0)
                 clear hv865_0 ge865_0
                 have HX865_0:=Aside0.mk hx865_0
                 clear hcc865 hce865
                 have HR865_0:=Aside0.mk hi865_0
                 have HC865_0:=Aside0.mk hl865_0
                 clear hi865_0 hl865_0
                 replace p865:=eq_true p865
                 replace q865:=eq_true q865
                 go_wp2_with (first|((with_reducible refine gate_callee (f:=89) rfl ?_);refine goesL_ (some 91) rfl rfl Try.func89 (by kernel_rfl) rfl #[.slice A865_0 (rd_L1 t862 x85_3).length c865_0] rfl (by (try simp only [List.map_toArray,List.map_cons,List.map_nil]);first|done|rfl|(simp only [List.length_drop,List.length_take];rfl)) ?_;(with_reducible refine (spec_clFirst.calls k3 _ _ (rd_L1 t862 x85_3) t866 _ ?side1 ?side2 A52.out).mono ?_);(case side1=>exact HR865_0.out);(case side2=>exact HC865_0.out);rintro e w' ⟨rfl,⟨nd,rfl⟩⟩;refine ⟨_,rfl,?_⟩;obtain ⟨Ao55,co55,eo55⟩:=Kd.R_slice HO_14.out;subst eo55;have p867:0≤(t866:Int):=of_decide_eq_true (by first|(with_reducible assumption)|assumption);have q867:t866< (x14_3.length:Int):=of_decide_eq_true (by first|(with_reducible assumption)|assumption);obtain ⟨ad867,e867,hx867_0⟩:=Kd.at_int (Kd.R_reads' HO_14.out).2.2 t866 p867 q867;cases e867;replace p867:=eq_true p867;replace q867:=eq_true q867))
                 generalize Addr.add ad867 (Int.toNat t866)=pz_
                 go_loopg [96] k3 (fun kq v96 w'=>∃ (x14_4:List Int) (x96_4:Int),v96=.int .i64 x96_4∧Aside0 (spec_clSolve.l3 kq a1 x14_4 (rd_L1 t862 x85_3) (rd x14_3 t866) t862 (t862.length:Int) x85_3 (x14_3.length:Int) x96_4=some (r1,r2))∧Aside0 (kq≤k3)∧Aside0 (Kd.R (Kd.int .i64) 3 w' w.heap.size (fun _=>True) (.slice (some ad867) x14_3.length co55) x14_4)∧Aside0 (Kd.S (Kd.slice 3 (Kd.int .i64)) 22 w' w.heap.size (fun k_=>some k_≠((.slice (some ad867) x14_3.length co55):Value).ownBlock) (.slice (some ad865) t862.length co48) t862)∧Aside0 (Kd.V (Kd.int .i64) 3 w' w.heap.size (fun k_=>some k_≠((.slice (some ad867) x14_3.length co55):Value).ownBlock) (.slice A865_0 (rd_L1 t862 x85_3).length c865_0) (rd_L1 t862 x85_3))∧Aside0 (w'.heap[gb837]?=some (.cells #[(.slice A0_0 l0_0.length c0_0),.bool a0_1] 28 (0,0)))∧Aside0 (Below w.heap.size w w'))
                 case atStart=>exact ⟨(x14_3),(0),(by first|rfl|(simp;done)|(simp [*];done)),H',⟨Nat.le_refl _⟩,⟨by exact HO_14.out⟩,⟨by exact HO_83.out⟩,⟨by exact Kd.V_mono (Kd.R_V HL865_0.out) (fun _ hk=>by first|exact hk.2|exact hk.1|exact hk)⟩,⟨by exact BK837.out⟩,⟨by repeat (first|(with_reducible first|exact HB.out|apply below_alloc|apply pw_below_drewN|apply below_drew1|refine below_set ?_ GE837.out)|exact HB.out)⟩⟩
                 case round=>
                  clear H'
                  (try clear c1);(try clear p1);(try clear q1);(try clear hx1);(try clear c2);(try clear p2);(try clear c3);(try clear c4);(try clear p4);(try clear q4);(try clear hx4);(try clear hf4);(try clear c5);(try clear c6);(try clear p6);(try clear c8);(try clear p8);(try clear q8);(try clear hx8);(try clear c9);(try clear c9b0);(try clear c10);(try clear c10b0);(try clear c11);(try clear c11b0);(try clear c12);(try clear c12b0);(try clear c13);(try clear c13b0);(try clear c13b1);(try clear c14);(try clear p15);(try clear q15);(try clear c17);(try clear c19);(try clear hx19);(try clear hf19);(try clear c24);(try clear c27);(try clear c27b0);(try clear c27b1);(try clear c28);(try clear c28b0);(try clear c28b1);(try clear c33);(try clear c33b0);(try clear c34);(try clear c34b0);(try clear c35);(try clear c35b0);(try clear c36);(try clear c36b0);(try clear c37);(try clear c37b0);(try clear c37b1);(try clear c38);(try clear c38b0);(try clear c38b1);(try clear c39);(try clear c39b0);(try clear c40);(try clear c40b0);(try clear p41);(try clear q41);(try clear hx41);(try clear hf41);(try clear c49);(try clear c49b0);(try clear c50);(try clear c50b0);(try clear c51);(try clear c51b0);(try clear c53);(try clear c53b0);(try clear c54);(try clear c54b0);(try clear hcz46_0);(try clear hcz46_1);(try clear hcz6_0);(try clear hcz6_1);(try clear hfz46_0);(try clear hfz46_1);(try clear hfz6_0);(try clear hfz6_1);(try clear hx19_0);(try clear hx41_0);(try clear hx841_0);(try clear hx842_0);(try clear hx858_0);(try clear hx859_0);(try clear hx860_0);(try clear hx865_0);(try clear hx867_0);(try clear p1);(try clear p15);(try clear p2);(try clear p4);(try clear p41);(try clear p6);(try clear p8);(try clear p841);(try clear p842);(try clear p858);(try clear p859);(try clear p860);(try clear p865);(try clear p867);(try clear q1);(try clear q15);(try clear q4);(try clear q41);(try clear q8);(try clear q841);(try clear q842);(try clear q858);(try clear q859);(try clear q860);(try clear q865);(try clear q867)
                  obtain ⟨x14_4,x96_4,rfl,HA,HK4,HO_14,HO_83,HVE,BK837,HB⟩:=hrel
                  (try simp only [hl14_4] at HVE)
                  have hl14_4:=(Kd.R_reads' HO_14.out).1
                  rw [hl14_4] at HO_14
                  (try simp only [hl14_4])
                  (try simp only [hl14_4] at BK837)
                  (try simp only [hl14_4] at HO_83)
                  cases gk with
                  |zero=>exact absurd HA.out (by simp [spec_clSolve.l3])
                  |succ k4=>
                   have H:=HA.out
                   clear HA
                   simp only [spec_clSolve.l3] at H
                   by_cases c56:x96_4< (x14_3.length:Int)
                   ·rw [if_pos c56] at H
                    have c56b0:decide (x96_4< (x14_3.length:Int))=true:=decide_eq_true c56
                    (try simp only [hl9_1] at c56b0)
                    (try simp only [hl14_4] at c56b0)
                    clear c56
                    by_cases c57:0≤x96_4
                    ·rw [if_pos c57] at H
                     have c57b0:decide (0≤x96_4)=true:=decide_eq_true c57
                     clear c57
                     by_cases c58:x96_4< (x14_4.length:Int)
                     ·rw [if_pos c58] at H
                      have c58b0:decide (x96_4< (x14_4.length:Int))=true:=decide_eq_true c58
                      (try simp only [hl9_1] at c58b0)
                      (try simp only [hl14_4] at c58b0)
                      clear c58
                      by_cases c59:x96_4< ((rd_L1 t862 x85_3).length:Int)
                      ·rw [if_pos c59] at H
                       have c59b0:decide (x96_4< ((rd_L1 t862 x85_3).length:Int))=true:=decide_eq_true c59
                       (try simp only [hl9_1] at c59b0)
                       (try simp only [hl14_4] at c59b0)
                       clear c59
                       by_cases c60:a1=0
                       ·rw [if_pos c60] at H
                        exact absurd H (by simp)
                       ·rw [if_neg c60] at H
                        have c60b0:(a1==0)=false:=beq_eq_false_iff_ne.mpr c60
                        have c60b1:(a1 !=0)=true:=bne_iff_ne.mpr c60
                        obtain ⟨y870,hy870⟩:∃ y_:List Int,y_=(x14_4.set (x96_4:Int).toNat (Int.tmod (wrap64 ((rd x14_4 x96_4)+(wrap64 ((wrap64 (a1 - (rd x14_3 t866)))*(rd (rd_L1 t862 x85_3) x96_4))))) a1)):=⟨_,rfl⟩
                        replace H:(spec_clSolve.l3 k4 a1 y870 (rd_L1 t862 x85_3) (rd x14_3 t866) t862 (t862.length:Int) x85_3 (x14_3.length:Int) (wrap64 (x96_4+1)))=some (r1,r2):=by first|(rw [hy870];with_reducible exact H)|(have H2_:=(Option.bind_some _ _).symm.trans H;rw [hy870];with_reducible exact H2_)|(have H2_:=(Option.bind_some _ _).symm.trans H;with_reducible exact H2_)|with_reducible exact H|(rw [hy870];exact H)|exact H
                        have Ny870:=Aside0.mk hy870
                        clear hy870
                        have H':=Aside0.mk H
                        clear H
                        try go_wp2
                        have n0_:=Aside0.mk (Kd.R_drew HO_14.out)
                        have n1_:=Aside0.mk (Kd.S_drew HO_83.out)
                        have n2_:=Aside0.mk (blk_drew BK837.out)
                        have n3_:=Aside0.mk (below_drew1 HB.out)
                        clear HO_14;clear HO_83;clear BK837;clear HB
                        have HO_14:=n0_
                        have HO_83:=n1_
                        have BK837:=n2_
                        have HB:=n3_
                        clear n0_ n1_ n2_ n3_
                        have HVE2:=Aside0.mk (Kd.V_drew HVE.out)
                        have p868:0≤(x96_4:Int):=of_decide_eq_true (by first|(with_reducible assumption)|assumption)
                        have q868:x96_4< (x14_4.length:Int):=of_decide_eq_true (by first|(with_reducible assumption)|assumption)
                        obtain ⟨ad868,e868,hx868_0⟩:=Kd.at_int (Kd.R_reads' HO_14.out).2.2 x96_4 p868 q868
                        obtain rfl:ad867=ad868:=(by injection e868)
                        replace p868:=eq_true p868
                        replace q868:=eq_true q868
                        have p869:0≤(x96_4:Int):=of_decide_eq_true (by first|(with_reducible assumption)|assumption)
                        have q869:x96_4< ((rd_L1 t862 x85_3).length:Int):=of_decide_eq_true (by first|(with_reducible assumption)|assumption)
                        obtain ⟨ad869,e869,hx869_0⟩:=Kd.at_int (Kd.V_reads' HVE2.out).2.2 x96_4 p869 q869
                        have hw869_0:=hx869_0
                        cases e869
                        replace p869:=eq_true p869
                        replace q869:=eq_true q869
                        have p61:0≤(x96_4:Int):=of_decide_eq_true (by first|(with_reducible assumption)|assumption)
                        have q61:(x96_4:Int)< ((x14_4.length:Int):Int):=of_decide_eq_true (by first|(with_reducible assumption)|assumption)
                        obtain ⟨go61,co61,eo61,gb61,gl61,cl61,HG61⟩:=Kd.R_form HO_14.out (by omega)
                        (first|cases eo61|(injection eo61 with ea_ en_ ec_;(first|subst ea_|(injection ea_ with ea_;subst ea_));subst ec_;clear en_))
                        have GB61:=Aside0.mk gb61
                        have GG61:=Aside0.mk HG61
                        clear gb61 gl61 HG61
                        (first|simp only [add_plain] at hx867_0|skip)
                        (first|simp only [add_plain] at hx868_0|skip)
                        obtain ⟨hx61_0,hf61_0⟩:=Kd.R_celln 0 HO_14.out (x96_4:Int) p61 q61
                        replace p61:=eq_true p61
                        replace q61:=eq_true q61
                        have HP63:=Kd.R_putn HO_14.out (x96_4:Int) (Int.tmod (wrap64 ((rd x14_4 x96_4)+(wrap64 ((wrap64 (a1 - (rd x14_3 t866)))*(rd (rd_L1 t862 x85_3) x96_4))))) a1)
                        rw [← Ny870.out] at HP63
                        have HQ63:=Aside0.mk HP63
                        clear HP63
                        refine start_ (n:=19) (S:=fun w'=>w'.cell? ⟨go61,(x96_4).toNat,none⟩=some (.int .i64 (rd x14_4 x96_4))∧w'.cell? (ad869.add (x96_4).toNat)=some (.int .i64 (rd (rd_L1 t862 x85_3) x96_4))) (ds:=[18]) #[false,false,false,false,false,false,false,false,false,false,false,false,false,false,false,false,false,false,false] (by kernel_rfl) rfl rfl ⟨hx868_0,hw869_0⟩ (fun hHeld=>?_);refine with_tabW spec_clSolve.tab24 spec_clSolve.bits24 (fun HT_ HW_=>?_)
                        generalize wr.drew=w62 at HVE2 HO_14 HO_83 BK837 HB GG61 HQ63 hf61_0 hx61_0 hx868_0 hx869_0 hHeld ⊢
                        refine pure_ (i:=0) (N:=some 99) (v:=?_) (a':=?_) #[true,false,false,false,false,false,false,false,false,false,false,false,false,false,false,false,false,false,false] rfl rfl (any_of HT_.out (by kernel_rfl)) (fun _ _ _ h=>h) (Or.inl ⟨by rfl,?_⟩) ?_ ?_
                        rotate_left
                        ·intro w'
                         go_simp
                         with_reducible rfl
                        rotate_left
                        ·simp only [Act.put,List.setIfInBounds_toArray,List.set_cons_zero,List.set_cons_succ,i64_w,i32_w]
                         rfl
                        refine pure_ (i:=1) (N:=some 100) (v:=?_) (a':=?_) #[true,true,false,false,false,false,false,false,false,false,false,false,false,false,false,false,false,false,false] rfl rfl (any_of HT_.out (by kernel_rfl)) (fun _ _ _ h=>h) (Or.inl ⟨by rfl,?_⟩) ?_ ?_
                        rotate_left
                        ·intro w'
                         go_simp
                         with_reducible rfl
                        rotate_left
                        ·simp only [Act.put,List.setIfInBounds_toArray,List.set_cons_zero,List.set_cons_succ,i64_w,i32_w]
                         rfl
                        refine pure_ (i:=2) (N:=some 101) (v:=?_) (a':=?_) #[true,true,true,false,false,false,false,false,false,false,false,false,false,false,false,false,false,false,false] rfl rfl (any_of HT_.out (by kernel_rfl)) (fun _ _ _ h=>h) (Or.inl ⟨by rfl,?_⟩) ?_ ?_
                        rotate_left
                        ·intro w'
                         go_simp
                         with_reducible rfl
                        rotate_left
                        ·simp only [Act.put,List.setIfInBounds_toArray,List.set_cons_zero,List.set_cons_succ,i64_w,i32_w]
                         rfl
                        refine pure_ (i:=3) (N:=some 102) (v:=?_) (a':=?_) #[true,true,true,true,false,false,false,false,false,false,false,false,false,false,false,false,false,false,false] rfl rfl (any_of HT_.out (by kernel_rfl)) (fun _ _ _ h=>h) (Or.inl ⟨by rfl,?_⟩) ?_ ?_
                        rotate_left
                        ·intro w'
                         go_simp
                         with_reducible rfl
                        rotate_left
                        ·simp only [Act.put,List.setIfInBounds_toArray,List.set_cons_zero,List.set_cons_succ,i64_w,i32_w]
                         rfl
                        refine pure_ (i:=4) (N:=some 103) (v:=?_) (a':=?_) #[true,true,true,true,true,false,false,false,false,false,false,false,false,false,false,false,false,false,false] rfl rfl (any_of HT_.out (by kernel_rfl)) (fun _ _ _ h=>h) (Or.inl ⟨by rfl,?_⟩) ?_ ?_
                        rotate_left
                        ·intro w'
                         go_simp
                         with_reducible rfl
                        rotate_left
                        ·simp only [Act.put,List.setIfInBounds_toArray,List.set_cons_zero,List.set_cons_succ,i64_w,i32_w]
                         rfl
                        refine pure_ (i:=6) (N:=some 105) (v:=?_) (a':=?_) #[true,true,true,true,true,false,true,false,false,false,false,false,false,false,false,false,false,false,false] rfl rfl (any_of HT_.out (by kernel_rfl)) (fun _ _ _ h=>h) (Or.inl ⟨by rfl,?_⟩) ?_ ?_
                        rotate_left
                        ·intro w'
                         go_simp
                         with_reducible rfl
                        rotate_left
                        ·simp only [Act.put,List.setIfInBounds_toArray,List.set_cons_zero,List.set_cons_succ,i64_w,i32_w]
                         rfl
                        refine pure_ (i:=7) (N:=some 106) (v:=?_) (a':=?_) #[true,true,true,true,true,false,true,true,false,false,false,false,false,false,false,false,false,false,false] rfl rfl (any_of HT_.out (by kernel_rfl)) (fun _ _ _ h=>h) (Or.inl ⟨by rfl,?_⟩) ?_ ?_
                        rotate_left
                        ·intro w'
                         go_simp
                         with_reducible rfl
                        rotate_left
                        ·simp only [Act.put,List.setIfInBounds_toArray,List.set_cons_zero,List.set_cons_succ,i64_w,i32_w]
                         rfl
                        refine pure_ (i:=8) (N:=some 107) (v:=?_) (a':=?_) #[true,true,true,true,true,false,true,true,true,false,false,false,false,false,false,false,false,false,false] rfl rfl (any_of HT_.out (by kernel_rfl)) (fun _ _ _ h=>h) (Or.inl ⟨by rfl,?_⟩) ?_ ?_
                        rotate_left
                        ·intro w'
                         go_simp
                         with_reducible rfl
                        rotate_left
                        ·simp only [Act.put,List.setIfInBounds_toArray,List.set_cons_zero,List.set_cons_succ,i64_w,i32_w]
                         rfl
                        refine pure_ (i:=9) (N:=some 108) (v:=?_) (a':=?_) #[true,true,true,true,true,false,true,true,true,true,false,false,false,false,false,false,false,false,false] rfl rfl (any_of HT_.out (by kernel_rfl)) (fun _ _ _ h=>h) (Or.inl ⟨by rfl,?_⟩) ?_ ?_
                        rotate_left
                        ·intro w'
                         go_simp
                         with_reducible rfl
                        rotate_left
                        ·simp only [Act.put,List.setIfInBounds_toArray,List.set_cons_zero,List.set_cons_succ,i64_w,i32_w]
                         rfl
                        refine pure_ (i:=10) (N:=some 109) (v:=?_) (a':=?_) #[true,true,true,true,true,false,true,true,true,true,true,false,false,false,false,false,false,false,false] rfl rfl (any_of HT_.out (by kernel_rfl)) (fun _ _ _ h=>h) (Or.inl ⟨by rfl,?_⟩) ?_ ?_
                        rotate_left
                        ·intro w'
                         go_simp
                         with_reducible rfl
                        rotate_left
                        ·simp only [Act.put,List.setIfInBounds_toArray,List.set_cons_zero,List.set_cons_succ,i64_w,i32_w]
                         rfl
                        refine pure_ (i:=11) (N:=some 110) (v:=?_) (a':=?_) #[true,true,true,true,true,false,true,true,true,true,true,true,false,false,false,false,false,false,false] rfl rfl (any_of HT_.out (by kernel_rfl)) (fun _ _ _ h=>h) (Or.inl ⟨by rfl,?_⟩) ?_ ?_
                        rotate_left
                        ·intro w'
                         go_simp
                         with_reducible rfl
                        rotate_left
                        ·simp only [Act.put,List.setIfInBounds_toArray,List.set_cons_zero,List.set_cons_succ,i64_w,i32_w]
                         rfl
                        refine pure_ (i:=15) (N:=some 114) (v:=?_) (a':=?_) #[true,true,true,true,true,false,true,true,true,true,true,true,false,false,false,true,false,false,false] rfl rfl (any_of HT_.out (by kernel_rfl)) (fun _ _ _ h=>h) (Or.inl ⟨by rfl,?_⟩) ?_ ?_
                        rotate_left
                        ·intro w'
                         go_simp
                         with_reducible rfl
                        rotate_left
                        ·simp only [Act.put,List.setIfInBounds_toArray,List.set_cons_zero,List.set_cons_succ,i64_w,i32_w]
                         rfl
                        refine take_ (i:=5) (N:=some 104) (v:=?_) (a':=?_) #[true,true,true,true,true,true,true,true,true,true,true,true,false,false,false,true,false,false,false] rfl rfl (take_ofW HT_.out HW_.out (by kernel_rfl)) (fun _ _ _ h=>h) (Or.inl ⟨by rfl,?_⟩) hHeld ?_ ?_
                        rotate_left
                        ·rintro w' ⟨s0,s1⟩
                         go_simp
                         with_reducible rfl
                        rotate_left
                        ·simp only [Act.put,List.setIfInBounds_toArray,List.set_cons_zero,List.set_cons_succ,i64_w,i32_w]
                         rfl
                        refine take_ (i:=12) (N:=some 111) (v:=?_) (a':=?_) #[true,true,true,true,true,true,true,true,true,true,true,true,true,false,false,true,false,false,false] rfl rfl (take_ofW HT_.out HW_.out (by kernel_rfl)) (fun _ _ _ h=>h) (Or.inl ⟨by rfl,?_⟩) hHeld ?_ ?_
                        rotate_left
                        ·rintro w' ⟨s0,s1⟩
                         go_simp
                         with_reducible rfl
                        rotate_left
                        ·simp only [Act.put,List.setIfInBounds_toArray,List.set_cons_zero,List.set_cons_succ,i64_w,i32_w]
                         rfl
                        refine pure_ (i:=13) (N:=some 112) (v:=?_) (a':=?_) #[true,true,true,true,true,true,true,true,true,true,true,true,true,true,false,true,false,false,false] rfl rfl (any_of HT_.out (by kernel_rfl)) (fun _ _ _ h=>h) (Or.inl ⟨by rfl,?_⟩) ?_ ?_
                        rotate_left
                        ·intro w'
                         go_simp
                         with_reducible rfl
                        rotate_left
                        ·simp only [Act.put,List.setIfInBounds_toArray,List.set_cons_zero,List.set_cons_succ,i64_w,i32_w]
                         rfl
                        refine pure_ (i:=14) (N:=some 113) (v:=?_) (a':=?_) #[true,true,true,true,true,true,true,true,true,true,true,true,true,true,true,true,false,false,false] rfl rfl (any_of HT_.out (by kernel_rfl)) (fun _ _ _ h=>h) (Or.inl ⟨by rfl,?_⟩) ?_ ?_
                        rotate_left
                        ·intro w'
                         go_simp
                         with_reducible rfl
                        rotate_left
                        ·simp only [Act.put,List.setIfInBounds_toArray,List.set_cons_zero,List.set_cons_succ,i64_w,i32_w]
                         rfl
                        refine pure_ (i:=16) (N:=some 115) (v:=?_) (a':=?_) #[true,true,true,true,true,true,true,true,true,true,true,true,true,true,true,true,true,false,false] rfl rfl (any_of HT_.out (by kernel_rfl)) (fun _ _ _ h=>h) (Or.inl ⟨by rfl,?_⟩) ?_ ?_
                        rotate_left
                        ·intro w'
                         go_simp
                         with_reducible rfl
                        rotate_left
                        ·simp only [Act.put,List.setIfInBounds_toArray,List.set_cons_zero,List.set_cons_succ,i64_w,i32_w]
                         rfl
                        refine pure_ (i:=17) (N:=some 116) (v:=?_) (a':=?_) #[true,true,true,true,true,true,true,true,true,true,true,true,true,true,true,true,true,true,false] rfl rfl (any_of HT_.out (by kernel_rfl)) (fun _ _ _ h=>h) (Or.inl ⟨by rfl,?_⟩) ?_ ?_
                        rotate_left
                        ·intro w'
                         go_simp
                         with_reducible rfl
                        rotate_left
                        ·simp only [Act.put,List.setIfInBounds_toArray,List.set_cons_zero,List.set_cons_succ,i64_w,i32_w]
                         rfl
                        refine last_ (i:=18) (N:=none) #[true,true,true,true,true,true,true,true,true,true,true,true,true,true,true,true,true,true,true] rfl rfl (one_of HT_.out (by kernel_rfl)) (by decide) (fun K hK=>?_)
                        refine skip_ (w1:=?_) (by rfl) rfl ?_ ?_
                        rotate_left
                        ·go_simp
                         rfl
                        refine hK.out _ _ ?_
                        clear hK K
                        refine done_ (done_of HT_.out (by kernel_rfl)) ?_
                        try go_wp2
                        (try simp only [← hl14_4])
                        go_roundg k4
                        case measure=>have:=HK1.out;have:=HK2.out;have:=HK3.out;have:=HK4.out;omega
                        case rel=>exact ⟨(y870),(wrap64 (x96_4+1)),(by first|rfl|(simp;done)|(simp [*];done)),H',⟨by have:=HK1.out;have:=HK2.out;have:=HK3.out;have:=HK4.out;omega⟩,⟨by (try simp only [hl9_1]);(try simp only [hl14_4]);(with_reducible repeat (first|apply Kd.R_alloc|apply Kd.R_drewN|apply Kd.R_drew));exact HQ63.out⟩,⟨by exact Kd.S_mono (Kd.S_far (p:=⟨go61,(x96_4:Int).toNat,none⟩) (Kd.S_mono HO_83.out (fun k_ hk=>(⟨hk,fun e_=>hk (by rw [e_];rfl)⟩:_∧k_≠go61))) (fun _ hk=>hk.2) (.int .i64 (Int.tmod (wrap64 ((rd x14_4 x96_4)+(wrap64 ((wrap64 (a1 - (rd x14_3 t866)))*(rd (rd_L1 t862 x85_3) x96_4))))) a1))) (fun _ hk=>hk.1)⟩,⟨by exact Kd.V_mono (Kd.V_far (p:=⟨go61,(x96_4:Int).toNat,none⟩) (Kd.V_mono HVE2.out (fun k_ hk=>(⟨hk,fun e_=>hk (by rw [e_];rfl)⟩:_∧k_≠go61))) (fun _ hk=>hk.2) (.int .i64 (Int.tmod (wrap64 ((rd x14_4 x96_4)+(wrap64 ((wrap64 (a1 - (rd x14_3 t866)))*(rd (rd_L1 t862 x85_3) x96_4))))) a1))) (fun _ hk=>hk.1)⟩,⟨by (try simp only [hl9_1]);(try simp only [hl14_4]);(with_reducible repeat (first|refine blk_drewN ?_ _|refine blk_drew ?_|refine blk_alloc ?_ _));refine blk_far ?_ (by have h_:=Kd.R_ne HO_14.out BK837.out (by decide);intro e_;exact h_ (by rw [e_];rfl)) _;(with_reducible repeat (first|refine blk_drewN ?_ _|refine blk_drew ?_|refine blk_alloc ?_ _));exact BK837.out⟩,⟨by repeat (first|(with_reducible first|exact HB.out|apply below_alloc|apply pw_below_drewN|apply below_drew1|refine below_set ?_ GB61.out|refine below_set ?_ GE837.out)|exact HB.out)⟩⟩
                      ·rw [if_neg c59] at H
                       exact absurd H (by simp)
                     ·rw [if_neg c58] at H
                      exact absurd H (by simp)
                    ·rw [if_neg c57] at H
                     exact absurd H (by simp)
                   ·rw [if_neg c56] at H
                    have c56b0:decide (x96_4< (x14_3.length:Int))=false:=decide_eq_false c56
                    (try simp only [hl9_1] at c56b0)
                    (try simp only [hl14_4] at c56b0)
                    clear c56
                    have H':=Aside0.mk H
                    clear H
                    go_wp2
                    (try simp only [← hl14_4])
                    go_roundg k4
                    case measure=>have:=HK1.out;have:=HK2.out;have:=HK3.out;have:=HK4.out;omega
                    case rel=>exact ⟨(x14_4),(wrap64 (x85_3+1)),(by first|rfl|(simp;done)|(simp [*];done)),H',⟨by have:=HK1.out;have:=HK2.out;have:=HK3.out;have:=HK4.out;omega⟩,⟨by (try simp only [hl9_1]);(try simp only [hl14_4]);(with_reducible repeat (first|apply Kd.R_alloc|apply Kd.R_drewN|apply Kd.R_drew));exact HO_14.out⟩,⟨by exact HO_83.out⟩,⟨by exact BK837.out⟩,⟨by exact HB.out⟩⟩
                ·rw [if_neg c54] at H
                 exact absurd H (by simp)
               ·rw [if_neg c53] at H
                exact absurd H (by simp)
              ·rw [if_neg c51] at H
               exact absurd H (by simp)
             ·rw [if_neg c50] at H
              exact absurd H (by simp)
            ·rw [if_neg c49] at H
             have c49b0:decide (x85_3< (t862.length:Int))=false:=decide_eq_false c49
             (try simp only [hl9_1] at c49b0)
             clear c49
             simp only [Option.some.injEq,Prod.mk.injEq] at H
             obtain ⟨rfl,rfl⟩:=H
             go_wp2
             go_ret2
             exact ⟨_,by first|rfl|(simp [errW_none,errW_some]<;>rfl)|(simp [*,errW_none,errW_some]<;>rfl),by exact HO_14.out,by exact HB.out⟩
      ·rw [if_neg c28] at H
       exact absurd H (by simp)
     ·rw [if_neg c27] at H
      exact absurd H (by simp)
end Go.Proofs.Ytbbdjoahdbjljaa.P
