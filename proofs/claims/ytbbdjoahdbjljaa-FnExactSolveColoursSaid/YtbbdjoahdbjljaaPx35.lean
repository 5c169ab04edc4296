-- Written by a program of this session (wip/mp.py), which runs the kit's print with contracts of the session's own.
import Derived.Test.YtbbdjoahdbjljaaPx0
import Derived.Test.YtbbdjoahdbjljaaPx17
import Derived.Test.YtbbdjoahdbjljaaPx23
import Derived.Test.YtbbdjoahdbjljaaPx25
import Derived.Test.YtbbdjoahdbjljaaPx34
namespace Go.Proofs.Ytbbdjoahdbjljaa.P
open Go.RowKit Go.Proofs.YtbbdjoahdbjljaaW.PrintWords Go.Proofs.YtbbdjoahdbjljaaW.PrintLast Go.Proofs.YtbbdjoahdbjljaaW.PrintMore
attribute [local go_sem] max2_int min2_int max_two min_two max_three min_three max_four min_four -- for this text's walks alone
set_option linter.unusedVariables false
set_option linter.unusedSimpArgs false
/-! ### impl_Graph_solveColours: function 67 -/
mutual
def impl_Graph_solveColours.l0:Nat→Int→Int→List Int→List (List Int)→Int→Int→List Int→Bool→List (List Int)→List Int→Int→Option (List Int × Bool)
 |0,_,_,_,_,_,_,_,_,_,_,_=>none
 |k+1,x1,x8,x10,x28,x29,x30,x889000,x889001,x900000,x900001,x900002=>if x30< x29 then (if 0≤x30 then (if x30< (x28.length:Int) then (if x30< (x900001.length:Int) then (if 0≤x8 then (if x8< ((rd_L1 x28 x30).length:Int) then (if 0≤(rd x900001 x30) then (if (rd x900001 x30)< (x10.length:Int) then (impl_Graph_solveColours.l0 k x1 x8 (x10.set ((rd x900001 x30):Int).toNat (rd (rd_L1 x28 x30) x8)) x28 x29 (wrap64 (x30+1)) x889000 x889001 x900000 x900001 x900002) else (none)) else (none)) else (none)) else (none)) else (if 0≤x8 then (if x8< ((rd_L1 x28 x30).length:Int) then (if (rd (rd_L1 x28 x30) x8)=0 then (impl_Graph_solveColours.l0 k x1 x8 x10 x28 x29 (wrap64 (x30+1)) x889000 x889001 x900000 x900001 x900002) else (some (([]:List Int),false))) else (none)) else (none))) else (none)) else (none)) else ((impl_Graph_quietColours.f k x889000 x889001 x1).bind fun t908=>((impl_firstPlaces.f k t908).bind fun t911=>(impl_Graph_solveColours.l1 k x1 x10 t908 t911 (t911.length:Int) 0)))
def impl_Graph_solveColours.l1:Nat→Int→List Int→List (List Int)→List Int→Int→Int→Option (List Int × Bool)
 |0,_,_,_,_,_,_=>none
 |k+1,x1,x10,x13,x61,x62,x63=>if x63< x62 then (if 0≤x63 then (if x63< (x61.length:Int) then (if x63< (x13.length:Int) then (if 0≤(rd x61 x63) then (if (rd x61 x63)< (x10.length:Int) then ((impl_added.f k x10 (rd_L1 x13 x63) (wrap64 (-(rd x10 (rd x61 x63)))) x1).bind fun t917=>(impl_Graph_solveColours.l1 k x1 t917 x13 x61 x62 (wrap64 (x63+1)))) else (none)) else (none)) else (none)) else (none)) else (none)) else (some (x10,true))
end
def impl_Graph_solveColours.f (k:Nat) (l0_0:List Int) (a0_1:Bool) (a1:Int) (l2:List Int):Option (List Int × Bool):=(impl_scaled.f k l2 (-1) a1).bind fun t889=>((impl_Graph_solved.f k l0_0 a0_1 a1 t889).bind fun bt892=>(if 0≤(l0_0.length:Int) then (if ((l0_0.length:Int):Int).toNat≤35184372088832 then (impl_Graph_solveColours.l0 k a1 (l0_0.length:Int) (List.replicate ((l0_0.length:Int):Int).toNat 0) bt892.1 (bt892.1.length:Int) 0 l0_0 a0_1 bt892.1 bt892.2.1 bt892.2.2) else (none)) else (none)))
def impl_Graph_solveColours.T2:Bool × List (List Nat × List Nat):=(true,[([],[]),([],[]),([],[]),([],[]),([2,3],[2,3]),([0,1,4,4],[0,1,4]),([],[]),([6,5,5,0,1,2,3,4,5,6],[5,6])])
def impl_Graph_solveColours.B2:List Nat:=[0,0,0,0,12,31,0,127]
theorem impl_Graph_solveColours.tab2:rtab .any (opsOf Try.f67 2)=impl_Graph_solveColours.T2:=by kernel_rfl
theorem impl_Graph_solveColours.bits2:waitsOk impl_Graph_solveColours.T2.2 impl_Graph_solveColours.B2=true:=by kernel_rfl
def impl_Graph_solveColours.T8:Bool × List (List Nat × List Nat):=(true,[([],[]),([],[]),([1],[1]),([],[]),([2,3],[2,3]),([4],[4]),([],[]),([],[]),([6,7],[6,7]),([8],[8]),([0,5,0,1,2,3,4,5,6,7,8,9],[0,5]),([10,9,0,1,2,3,4,5,6,7,8,9],[9,10])])
def impl_Graph_solveColours.B8:List Nat:=[0,0,2,0,14,30,0,0,192,448,1023,2047]
theorem impl_Graph_solveColours.tab8:rtab .any (opsOf Try.f67 8)=impl_Graph_solveColours.T8:=by kernel_rfl
theorem impl_Graph_solveColours.bits8:waitsOk impl_Graph_solveColours.T8.2 impl_Graph_solveColours.B8=true:=by kernel_rfl
def impl_Graph_solveColours.T16:Bool × List (List Nat × List Nat):=(true,[([],[]),([],[]),([],[]),([1,2],[1,2]),([3],[3]),([],[]),([],[]),([5,6],[5,6]),([7],[7]),([8],[8]),([],[]),([0,4,9,10],[0,4,9,10]),([11,11,0,1,2,3,4,5,6,7,8,9,10,11],[0,5,11])])
def impl_Graph_solveColours.B16:List Nat:=[0,0,0,6,14,0,0,96,224,480,0,2047,4095]
theorem impl_Graph_solveColours.tab16:rtab .any (opsOf Try.f67 16)=impl_Graph_solveColours.T16:=by kernel_rfl
theorem impl_Graph_solveColours.bits16:waitsOk impl_Graph_solveColours.T16.2 impl_Graph_solveColours.B16=true:=by kernel_rfl
set_option maxHeartbeats 8000000 in
set_option maxRecDepth 100000 in
theorem impl_Graph_solveColours.calls (k:Nat) (A0_0:Option Addr) (c0_0:Nat) (l0_0:List Int) (a0_1:Bool) (a1:Int) (A2:Option Addr) (c2:Nat) (l2:List Int) (r1:List Int) (r2:Bool) (w:World) (hr0_0:Kd.C (Kd.int .i64) w A0_0 l0_0.length l0_0) (hc0_0:l0_0.length≤c0_0) (hr2:Kd.C (Kd.int .i64) w A2 l2.length l2) (hc2:l2.length≤c2) (h:impl_Graph_solveColours.f k l0_0 a0_1 a1 l2=some (r1,r2)):
  Calls Try.prog 67 #[.agg #[.slice A0_0 l0_0.length c0_0,.bool a0_1],.int .i64 a1,.slice A2 l2.length c2] w fun e w'=>∃ v0_:Value,e=.returned (.tuple #[v0_,.bool r2])∧Kd.R (Kd.int .i64) 3 w' w.heap.size (fun _=>True) v0_ r1∧Below w.heap.size w w':=by
 have hu28:=Try.underlying28
 have hu60:=Try.underlying60
 have HR0_0:=Aside0.mk hr0_0
 have HC0_0:=Aside0.mk hc0_0
 clear hr0_0 hc0_0
 have HR2:=Aside0.mk hr2
 have HC2:=Aside0.mk hc2
 clear hr2 hc2
 have HB:=Aside0.mk (Below.refl w.heap.size w)
 have H:((impl_scaled.f k l2 (-1) a1).bind fun t889=>((impl_Graph_solved.f k l0_0 a0_1 a1 t889).bind fun bt892=>(if 0≤(l0_0.length:Int) then (if ((l0_0.length:Int):Int).toNat≤35184372088832 then (impl_Graph_solveColours.l0 k a1 (l0_0.length:Int) (List.replicate ((l0_0.length:Int):Int).toNat 0) bt892.1 (bt892.1.length:Int) 0 l0_0 a0_1 bt892.1 bt892.2.1 bt892.2.2) else (none)) else (none))))=some (r1,r2):=h
 clear h
 replace H:=Option.bind_eq_some_iff.mp H
 obtain ⟨t889,A40,H⟩:=H
 replace H:((impl_Graph_solved.f k l0_0 a0_1 a1 t889).bind fun bt892=>(if 0≤(l0_0.length:Int) then (if ((l0_0.length:Int):Int).toNat≤35184372088832 then (impl_Graph_solveColours.l0 k a1 (l0_0.length:Int) (List.replicate ((l0_0.length:Int):Int).toNat 0) bt892.1 (bt892.1.length:Int) 0 l0_0 a0_1 bt892.1 bt892.2.1 bt892.2.2) else (none)) else (none)))=some (r1,r2):=H
 have A4:=Aside0.mk A40
 clear A40
 replace H:=Option.bind_eq_some_iff.mp H
 obtain ⟨⟨t892,t895,t898⟩,A50,H⟩:=H
 replace H:(if 0≤(l0_0.length:Int) then (if ((l0_0.length:Int):Int).toNat≤35184372088832 then (impl_Graph_solveColours.l0 k a1 (l0_0.length:Int) (List.replicate ((l0_0.length:Int):Int).toNat 0) t892 (t892.length:Int) 0 l0_0 a0_1 t892 t895 t898) else (none)) else (none))=some (r1,r2):=H
 have A5:=Aside0.mk A50
 clear A50
 by_cases c6:0≤(l0_0.length:Int)
 ·rw [if_pos c6] at H
  have c6b0:=eq_true c6
  have c6b1:decide (0≤(l0_0.length:Int))=true:=decide_eq_true c6
  clear c6
  by_cases c7:((l0_0.length:Int):Int).toNat≤35184372088832
  ·rw [if_pos c7] at H
   have c7b0:=eq_true c7
   have c7b1:decide (((l0_0.length:Int):Int).toNat≤35184372088832)=true:=decide_eq_true c7
   clear c7
   obtain ⟨y900,hy900⟩:∃ y_:List Int,y_=(List.replicate ((l0_0.length:Int):Int).toNat 0):=⟨_,rfl⟩
   replace H:(impl_Graph_solveColours.l0 k a1 (l0_0.length:Int) y900 t892 (t892.length:Int) 0 l0_0 a0_1 t892 t895 t898)=some (r1,r2):=by first|(rw [hy900];with_reducible exact H)|(have H2_:=(Option.bind_some _ _).symm.trans H;rw [hy900];with_reducible exact H2_)|(have H2_:=(Option.bind_some _ _).symm.trans H;with_reducible exact H2_)|with_reducible exact H|(rw [hy900];exact H)|exact H
   have Ny900:=Aside0.mk hy900
   clear hy900
   have H':=Aside0.mk H
   clear H
   go_enter Try.func67,Try.ntmps67
   try go_wp2_with (first|((with_reducible refine gate_dst (N:=3) rfl ?_);refine box_event ?hg (N:=3) ?hd (cs:=#[.slice A0_0 l0_0.length c0_0,.bool a0_1]) (t:=28) ?hr ?_;(case hd=>rfl);(case hg=>rfl);(case hr=>first|(go_simp;done)|(go_simp;rfl));intro gb888 hg w8 hbox hb;have n0_:=Aside0.mk (below_step (by exact HB.out) hb);have n1_:=Aside0.mk (hbox);have n2_:=Aside0.mk ((by rw [hg];exact (below_size (by exact HB.out)):w.heap.size≤gb888));have n3_:=Aside0.mk ((by rw [hg];exact (below_size (by exact HB.out)):w.heap.size≤gb888));clear HB;have HB:=n0_;have BK888:=n1_;have GW888:=n2_;have GE888:=n3_;clear n0_ n1_ n2_ n3_;clear hb hbox hg;have hcz9_0:w8.cell? ⟨gb888,0,none⟩=some (.slice A0_0 l0_0.length c0_0):=(blk_cell BK888.out 0).trans rfl;have hcz9_1:w8.cell? ⟨gb888,1,none⟩=some (.bool a0_1):=(blk_cell BK888.out 1).trans rfl;have hfz9_0:=blk_frozen BK888.out 0;have hfz9_1:=blk_frozen BK888.out 1))
   have n0_:=Aside0.mk (blk_drew BK888.out)
   have n1_:=Aside0.mk (below_drew1 HB.out)
   clear BK888;clear HB
   have BK888:=n0_
   have HB:=n1_
   clear n0_ n1_
   refine start_ (n:=8) (S:=fun w'=>w'.cell? ⟨gb888,0,none⟩=some (.slice A0_0 l0_0.length c0_0)∧w'.cell? ⟨gb888,1,none⟩=some (.bool a0_1)) (ds:=[]) #[false,false,false,false,false,false,false,false] (by kernel_rfl) rfl rfl ⟨(blk_cell BK888.out 0).trans rfl,(blk_cell BK888.out 1).trans rfl⟩ (fun hHeld=>?_);refine with_tabW impl_Graph_solveColours.tab2 impl_Graph_solveColours.bits2 (fun HT_ HW_=>?_)
   generalize w8.drew=w10 at BK888 HB hHeld ⊢
   refine pure_ (i:=1) (N:=some 20) (v:=?_) (a':=?_) #[false,true,false,false,false,false,false,false] rfl rfl (any_of HT_.out (by kernel_rfl)) (fun _ _ _ h=>h) (Or.inl ⟨by rfl,?_⟩) ?_ ?_
   rotate_left
   ·intro w'
    go_simp
    with_reducible rfl
   rotate_left
   ·simp only [Act.put,List.setIfInBounds_toArray,List.set_cons_zero,List.set_cons_succ,i64_w,i32_w]
    rfl
   refine pure_ (i:=2) (N:=some 21) (v:=?_) (a':=?_) #[false,true,true,false,false,false,false,false] rfl rfl (any_of HT_.out (by kernel_rfl)) (fun _ _ _ h=>h) (Or.inl ⟨by rfl,?_⟩) ?_ ?_
   rotate_left
   ·intro w'
    go_simp
    with_reducible rfl
   rotate_left
   ·simp only [Act.put,List.setIfInBounds_toArray,List.set_cons_zero,List.set_cons_succ,i64_w,i32_w]
    rfl
   refine pure_ (i:=3) (N:=some 22) (v:=?_) (a':=?_) #[false,true,true,true,false,false,false,false] rfl rfl (any_of HT_.out (by kernel_rfl)) (fun _ _ _ h=>h) (Or.inl ⟨by rfl,?_⟩) ?_ ?_
   rotate_left
   ·intro w'
    go_simp
    with_reducible rfl
   rotate_left
   ·simp only [Act.put,List.setIfInBounds_toArray,List.set_cons_zero,List.set_cons_succ,i64_w,i32_w]
    rfl
   refine take_ (i:=0) (N:=some 19) (v:=?_) (a':=?_) #[true,true,true,true,false,false,false,false] rfl rfl (take_ofW HT_.out HW_.out (by kernel_rfl)) (fun _ _ _ h=>h) (Or.inl ⟨by rfl,?_⟩) hHeld ?_ ?_
   rotate_left
   ·rintro w' ⟨s0,s1⟩
    (try simp only [Int.toNat_natCast] at s0)
    (try simp only [Int.toNat_natCast] at s1)
    go_simp
    with_reducible rfl
   rotate_left
   ·simp only [Act.put,List.setIfInBounds_toArray,List.set_cons_zero,List.set_cons_succ,i64_w,i32_w]
    rfl
   refine join_ (σ:=Value × Value × Value × Nat) 1 #[true,true,true,true,true,true,true,false] (fun s_=>[(23,s_.1),(24,.agg #[s_.2.1,s_.2.2.1,.int .i64 t898]),(9,.pointer (some ⟨s_.2.2.2,0,none⟩))]) (fun s_ w'=>(w'.cell? ⟨gb888,0,none⟩=some (.slice A0_0 l0_0.length c0_0)∧w'.cell? ⟨gb888,1,none⟩=some (.bool a0_1))∧(Kd.R (Kd.int .i64) 3 w' w.heap.size (fun k_=>some k_≠(s_.2.2.1:Value).ownBlock) s_.1 t889)∧(Kd.N (Kd.slice 3 (Kd.int .i64)) 22 w' w.heap.size (fun k_=>some k_≠(s_.1:Value).ownBlock∧some k_≠(s_.2.2.1:Value).ownBlock∧k_≠gb888∧k_≠s_.2.2.2) s_.2.1 t892)∧(Kd.R (Kd.int .i64) 3 w' w.heap.size (fun k_=>some k_≠(s_.1:Value).ownBlock) s_.2.2.1 t895)∧(w'.heap[gb888]?=some (.cells #[.slice A0_0 l0_0.length c0_0,.bool a0_1] 28 (0,0)))∧(w'.heap[s_.2.2.2]?=some (.cells #[.slice none 0 0,.slice none 0 0,.int .i64 0] 60 (0,0)))∧(w.heap.size≤s_.2.2.2)∧(w.heap.size≤s_.2.2.2)∧(gb888≠s_.2.2.2)∧(s_.2.2.2≠gb888)∧(Below w.heap.size w w')) ?_ ?_
   rotate_left
   ·intro hCont
    refine two_ (i:=4) (j:=6) (Ni:=some 23) (Nj:=some 9) #[true,true,true,true,true,false,false,false] #[true,true,true,true,false,false,true,false] rfl rfl rfl rfl (two_of HT_.out (by kernel_rfl)) (by decide) (by decide) (fun K hK=>?_) (fun K hK=>?_)
    ·skip
     refine goes_ Try.func90 (by kernel_rfl) rfl #[.slice A2 l2.length c2,.int .i64 (-1),.int .i64 a1] (by rfl) rfl rfl (by (try simp only [List.map_toArray,List.map_cons,List.map_nil]);first|done|rfl|(simp only [List.length_drop,List.length_take];rfl)) ?_
     with_reducible refine (impl_scaled.calls k _ _ l2 (-1) a1 t889 _ ?side1 ?side2 A4.out).mono ?_
     (case side1=>exact (Kd.C_below HR2.out HB.out))
     (case side2=>exact HC2.out)
     rintro e w11 ⟨v890,rfl,ho0,hb⟩
     refine ⟨_,rfl,?_⟩
     have n0_:=Aside0.mk (Kd.R_lower ho0 (below_size (by exact HB.out)))
     have n1_:=Aside0.mk (blk_below (g:=gb888) (o:=.cells #[.slice A0_0 l0_0.length c0_0,.bool a0_1] 28 (0,0)) (by exact BK888.out) hb)
     have n2_:=Aside0.mk (below_step (by exact HB.out) hb)
     clear BK888;clear HB
     have HO891:=n0_
     have BK888:=n1_
     have HB:=n2_
     clear n0_ n1_ n2_;(try clear hb);(try clear hb2);(try clear hk);(try clear hi);(try clear ho0)
     obtain ⟨Ao12,co12,eo12⟩:=Kd.R_slice HO891.out
     (first|subst eo12|(injection eo12 with f1_ f2_ f3_;have f4_:=f1_.symm;have f5_:=f3_.symm;clear f1_ f2_ f3_;subst f4_;subst f5_))
     refine hK.out _ _ ⟨(blk_cell BK888.out 0).trans rfl,(blk_cell BK888.out 1).trans rfl⟩ (fun hHeld=>?_)
     clear hK K
     refine norm_ (a':=?_) ?_ ?_
     rotate_left
     ·show Act.put _ (some 23) _=_
      simp only [Act.put,List.setIfInBounds_toArray,List.set_cons_zero,List.set_cons_succ,i64_w,i32_w]
      rfl
     refine two_ (i:=5) (j:=6) (Ni:=some 24) (Nj:=some 9) #[true,true,true,true,true,true,false,false] #[true,true,true,true,true,false,true,false] rfl rfl rfl rfl (two_of HT_.out (by kernel_rfl)) (by decide) (by decide) (fun K hK=>?_) (fun K hK=>?_)
     ·skip
      refine goes_ Try.func63 (by kernel_rfl) rfl #[.agg #[.slice A0_0 l0_0.length c0_0,.bool a0_1],.int .i64 a1,.slice Ao12 t889.length co12] (by rfl) rfl rfl (by (try simp only [List.map_toArray,List.map_cons,List.map_nil]);first|done|rfl|(simp only [List.length_drop,List.length_take];rfl)) ?_
      with_reducible refine (impl_Graph_solved.calls k _ _ l0_0 a0_1 a1 _ _ t889 t892 t895 t898 _ ?side1 ?side2 ?side3 ?side4 A5.out).mono ?_
      (case side1=>exact (Kd.C_below HR0_0.out HB.out))
      (case side2=>exact HC0_0.out)
      (case side3=>exact (Kd.R_reads' HO891.out).2.2)
      (case side4=>exact (Kd.R_reads' HO891.out).2.1)
      rintro e w13 ⟨v893,v896,rfl,ho0,ho1,hb⟩
      refine ⟨_,rfl,?_⟩
      have n0_:=Aside0.mk (Kd.R_elder' (by exact HO891.out) (Kd.R_base ho1) hb)
      have n1_:=Aside0.mk (Kd.N_lower (Kd.N_mono (ok':=fun k_=>some k_≠(v896:Value).ownBlock∧some k_≠(.slice Ao12 t889.length co12:Value).ownBlock∧k_≠gb888) ho0 (fun k_ hk_=>⟨hk_.2,(Kd.fresh' (Kd.R_lt (by exact HO891.out)) k_ hk_.1),(Kd.freshB (g:=gb888) (o:=.cells #[.slice A0_0 l0_0.length c0_0,.bool a0_1] 28 (0,0)) (by exact BK888.out) k_ hk_.1)⟩)) (below_size (by exact HB.out)))
      have n2_:=Aside0.mk (Kd.R_lower (Kd.R_new' (Kd.R_mono (ok':=fun k_=>True) ho1 (fun _ hk_=>trivial)) (Kd.R_lt (by exact HO891.out))) (below_size (by exact HB.out)))
      have n3_:=Aside0.mk (blk_below (g:=gb888) (o:=.cells #[.slice A0_0 l0_0.length c0_0,.bool a0_1] 28 (0,0)) (by exact BK888.out) hb)
      have n4_:=Aside0.mk (below_step (by exact HB.out) hb)
      clear HO891;clear BK888;clear HB
      have HO891:=n0_
      have HO894:=n1_
      have HO897:=n2_
      have BK888:=n3_
      have HB:=n4_
      clear n0_ n1_ n2_ n3_ n4_;(try clear hb);(try clear hb2);(try clear hk);(try clear hi);(try clear ho0);(try clear ho1)
      refine hK.out _ _ ⟨(blk_cell BK888.out 0).trans rfl,(blk_cell BK888.out 1).trans rfl⟩ (fun hHeld=>?_)
      clear hK K
      refine norm_ (a':=?_) ?_ ?_
      rotate_left
      ·show Act.put _ (some 24) _=_
       simp only [Act.put,List.setIfInBounds_toArray,List.set_cons_zero,List.set_cons_succ,i64_w,i32_w]
       rfl
      refine one_ (i:=6) (N:=some 9) #[true,true,true,true,true,true,true,false] rfl rfl (one_of HT_.out (by kernel_rfl)) (by decide) (fun K hK=>?_)
      refine box_step ?hg (N:=9) ?hd (cs:=#[.slice none 0 0,.slice none 0 0,.int .i64 0]) (t:=60) ?hr ?_;(case hd=>rfl);(case hg=>rfl);(case hr=>first|(go_simp;done)|(go_simp;rfl))
      intro gb899 hg w14 hbox hb
      have n0_:=Aside0.mk (Kd.R_below (by exact HO891.out) hb)
      have n1_:=Aside0.mk (Kd.N_below (Kd.N_elderB (by exact HO894.out) gb899 (Nat.le_of_eq hg.symm)) hb)
      have n2_:=Aside0.mk (Kd.R_below (by exact HO897.out) hb)
      have n3_:=Aside0.mk (blk_below (g:=gb888) (o:=.cells #[.slice A0_0 l0_0.length c0_0,.bool a0_1] 28 (0,0)) (by exact BK888.out) hb)
      have n4_:=Aside0.mk (below_step (by exact HB.out) hb)
      have n5_:=Aside0.mk (hbox)
      have n6_:=Aside0.mk ((by rw [hg];exact (below_size (by exact HB.out)):w.heap.size≤gb899))
      have n7_:=Aside0.mk ((by rw [hg];exact (below_size (by exact HB.out)):w.heap.size≤gb899))
      have n8_:=Aside0.mk ((by rw [hg];exact Nat.ne_of_lt (blk_lt (g:=gb888) (o:=.cells #[.slice A0_0 l0_0.length c0_0,.bool a0_1] 28 (0,0)) (by exact BK888.out)):gb888≠gb899))
      have n9_:=Aside0.mk ((by rw [hg];exact Nat.ne_of_gt (blk_lt (g:=gb888) (o:=.cells #[.slice A0_0 l0_0.length c0_0,.bool a0_1] 28 (0,0)) (by exact BK888.out)):gb899≠gb888))
      clear HO891;clear HO894;clear HO897;clear BK888;clear HB
      have HO891:=n0_
      have HO894:=n1_
      have HO897:=n2_
      have BK888:=n3_
      have HB:=n4_
      have BK899:=n5_
      have GW899:=n6_
      have GE899:=n7_
      have NB888_899:=n8_
      have NB899_888:=n9_
      clear n0_ n1_ n2_ n3_ n4_ n5_ n6_ n7_ n8_ n9_;clear hb hbox hg
      refine hK.out _ _ ⟨(blk_cell BK888.out 0).trans rfl,(blk_cell BK888.out 1).trans rfl⟩ (fun hHeld=>?_)
      clear hK K
      refine norm_ (a':=?_) ?_ ?_
      rotate_left
      ·show Act.put _ (some 9) _=_
       simp only [Act.put,List.setIfInBounds_toArray,List.set_cons_zero,List.set_cons_succ,i64_w,i32_w]
       rfl
      exact norm_ (by simp only [putAll,Act.put,List.setIfInBounds_toArray,List.set_cons_zero,List.set_cons_succ]) (hCont (.slice Ao12 t889.length co12,v893,v896,gb899) _ ⟨hHeld,(by exact Kd.R_mono HO891.out (fun _ hk=>hk.2)),(by exact Kd.N_mono HO894.out (fun _ hk=>⟨hk.1.2.1,⟨hk.1.1,⟨hk.1.2.2,hk.2⟩⟩⟩)),(by exact Kd.R_mono HO897.out (fun _ hk=>hk.2)),(by exact BK888.out),(by exact BK899.out),GW899.out,GE899.out,NB888_899.out,NB899_888.out,(by exact HB.out)⟩)
     ·skip
      refine box_step ?hg (N:=9) ?hd (cs:=#[.slice none 0 0,.slice none 0 0,.int .i64 0]) (t:=60) ?hr ?_;(case hd=>rfl);(case hg=>rfl);(case hr=>first|(go_simp;done)|(go_simp;rfl))
      intro gb899 hg w12 hbox hb
      have n0_:=Aside0.mk (Kd.R_below (by exact HO891.out) hb)
      have n1_:=Aside0.mk (blk_below (g:=gb888) (o:=.cells #[.slice A0_0 l0_0.length c0_0,.bool a0_1] 28 (0,0)) (by exact BK888.out) hb)
      have n2_:=Aside0.mk (below_step (by exact HB.out) hb)
      have n3_:=Aside0.mk (hbox)
      have n4_:=Aside0.mk ((by rw [hg];exact (below_size (by exact HB.out)):w.heap.size≤gb899))
      have n5_:=Aside0.mk ((by rw [hg];exact (below_size (by exact HB.out)):w.heap.size≤gb899))
      have n6_:=Aside0.mk ((by rw [hg];exact Nat.ne_of_lt (blk_lt (g:=gb888) (o:=.cells #[.slice A0_0 l0_0.length c0_0,.bool a0_1] 28 (0,0)) (by exact BK888.out)):gb888≠gb899))
      have n7_:=Aside0.mk ((by rw [hg];exact Nat.ne_of_gt (blk_lt (g:=gb888) (o:=.cells #[.slice A0_0 l0_0.length c0_0,.bool a0_1] 28 (0,0)) (by exact BK888.out)):gb899≠gb888))
      clear HO891;clear BK888;clear HB
      have HO891:=n0_
      have BK888:=n1_
      have HB:=n2_
      have BK899:=n3_
      have GW899:=n4_
      have GE899:=n5_
      have NB888_899:=n6_
      have NB899_888:=n7_
      clear n0_ n1_ n2_ n3_ n4_ n5_ n6_ n7_;clear hb hbox hg
      obtain ⟨Ao13,co13,eo13⟩:=Kd.R_slice HO891.out
      (first|subst eo13|(injection eo13 with f1_ f2_ f3_;have f4_:=f1_.symm;have f5_:=f3_.symm;clear f1_ f2_ f3_;subst f4_;subst f5_))
      refine hK.out _ _ ⟨(blk_cell BK888.out 0).trans rfl,(blk_cell BK888.out 1).trans rfl⟩ (fun hHeld=>?_)
      clear hK K
      refine norm_ (a':=?_) ?_ ?_
      rotate_left
      ·show Act.put _ (some 9) _=_
       simp only [Act.put,List.setIfInBounds_toArray,List.set_cons_zero,List.set_cons_succ,i64_w,i32_w]
       rfl
      refine one_ (i:=5) (N:=some 24) #[true,true,true,true,true,true,true,false] rfl rfl (one_of HT_.out (by kernel_rfl)) (by decide) (fun K hK=>?_)
      refine goes_ Try.func63 (by kernel_rfl) rfl #[.agg #[.slice A0_0 l0_0.length c0_0,.bool a0_1],.int .i64 a1,.slice Ao13 t889.length co13] (by rfl) rfl rfl (by (try simp only [List.map_toArray,List.map_cons,List.map_nil]);first|done|rfl|(simp only [List.length_drop,List.length_take];rfl)) ?_
      with_reducible refine (impl_Graph_solved.calls k _ _ l0_0 a0_1 a1 _ _ t889 t892 t895 t898 _ ?side1 ?side2 ?side3 ?side4 A5.out).mono ?_
      (case side1=>exact (Kd.C_below HR0_0.out HB.out))
      (case side2=>exact HC0_0.out)
      (case side3=>exact (Kd.R_reads' HO891.out).2.2)
      (case side4=>exact (Kd.R_reads' HO891.out).2.1)
      rintro e w14 ⟨v893,v896,rfl,ho0,ho1,hb⟩
      refine ⟨_,rfl,?_⟩
      have n0_:=Aside0.mk (Kd.R_elder' (by exact HO891.out) (Kd.R_base ho1) hb)
      have n1_:=Aside0.mk (Kd.N_lower (Kd.N_mono (ok':=fun k_=>some k_≠(v896:Value).ownBlock∧some k_≠(.slice Ao13 t889.length co13:Value).ownBlock∧k_≠gb888∧k_≠gb899) ho0 (fun k_ hk_=>⟨hk_.2,(Kd.fresh' (Kd.R_lt (by exact HO891.out)) k_ hk_.1),(Kd.freshB (g:=gb888) (o:=.cells #[.slice A0_0 l0_0.length c0_0,.bool a0_1] 28 (0,0)) (by exact BK888.out) k_ hk_.1),(Kd.freshB (g:=gb899) (o:=.cells #[.slice none 0 0,.slice none 0 0,.int .i64 0] 60 (0,0)) (by exact BK899.out) k_ hk_.1)⟩)) (below_size (by exact HB.out)))
      have n2_:=Aside0.mk (Kd.R_lower (Kd.R_new' (Kd.R_mono (ok':=fun k_=>True) ho1 (fun _ hk_=>trivial)) (Kd.R_lt (by exact HO891.out))) (below_size (by exact HB.out)))
      have n3_:=Aside0.mk (blk_below (g:=gb888) (o:=.cells #[.slice A0_0 l0_0.length c0_0,.bool a0_1] 28 (0,0)) (by exact BK888.out) hb)
      have n4_:=Aside0.mk (blk_below (g:=gb899) (o:=.cells #[.slice none 0 0,.slice none 0 0,.int .i64 0] 60 (0,0)) (by exact BK899.out) hb)
      have n5_:=Aside0.mk (below_step (by exact HB.out) hb)
      clear HO891;clear BK888;clear BK899;clear HB
      have HO891:=n0_
      have HO894:=n1_
      have HO897:=n2_
      have BK888:=n3_
      have BK899:=n4_
      have HB:=n5_
      clear n0_ n1_ n2_ n3_ n4_ n5_;(try clear hb);(try clear hb2);(try clear hk);(try clear hi);(try clear ho0);(try clear ho1)
      refine hK.out _ _ ⟨(blk_cell BK888.out 0).trans rfl,(blk_cell BK888.out 1).trans rfl⟩ (fun hHeld=>?_)
      clear hK K
      refine norm_ (a':=?_) ?_ ?_
      rotate_left
      ·show Act.put _ (some 24) _=_
       simp only [Act.put,List.setIfInBounds_toArray,List.set_cons_zero,List.set_cons_succ,i64_w,i32_w]
       rfl
      exact norm_ (by simp only [putAll,Act.put,List.setIfInBounds_toArray,List.set_cons_zero,List.set_cons_succ]) (hCont (.slice Ao13 t889.length co13,v893,v896,gb899) _ ⟨hHeld,(by exact Kd.R_mono HO891.out (fun _ hk=>hk.2)),(by exact Kd.N_mono HO894.out (fun _ hk=>⟨hk.2.1,⟨hk.1,⟨hk.2.2.1,hk.2.2.2⟩⟩⟩)),(by exact Kd.R_mono HO897.out (fun _ hk=>hk.2)),(by exact BK888.out),(by exact BK899.out),GW899.out,GE899.out,NB888_899.out,NB899_888.out,(by exact HB.out)⟩)
    ·skip
     refine box_step ?hg (N:=9) ?hd (cs:=#[.slice none 0 0,.slice none 0 0,.int .i64 0]) (t:=60) ?hr ?_;(case hd=>rfl);(case hg=>rfl);(case hr=>first|(go_simp;done)|(go_simp;rfl))
     intro gb899 hg w11 hbox hb
     have n0_:=Aside0.mk (blk_below (g:=gb888) (o:=.cells #[.slice A0_0 l0_0.length c0_0,.bool a0_1] 28 (0,0)) (by exact BK888.out) hb)
     have n1_:=Aside0.mk (below_step (by exact HB.out) hb)
     have n2_:=Aside0.mk (hbox)
     have n3_:=Aside0.mk ((by rw [hg];exact (below_size (by exact HB.out)):w.heap.size≤gb899))
     have n4_:=Aside0.mk ((by rw [hg];exact (below_size (by exact HB.out)):w.heap.size≤gb899))
     have n5_:=Aside0.mk ((by rw [hg];exact Nat.ne_of_lt (blk_lt (g:=gb888) (o:=.cells #[.slice A0_0 l0_0.length c0_0,.bool a0_1] 28 (0,0)) (by exact BK888.out)):gb888≠gb899))
     have n6_:=Aside0.mk ((by rw [hg];exact Nat.ne_of_gt (blk_lt (g:=gb888) (o:=.cells #[.slice A0_0 l0_0.length c0_0,.bool a0_1] 28 (0,0)) (by exact BK888.out)):gb899≠gb888))
     clear BK888;clear HB
     have BK888:=n0_
     have HB:=n1_
     have BK899:=n2_
     have GW899:=n3_
     have GE899:=n4_
     have NB888_899:=n5_
     have NB899_888:=n6_
     clear n0_ n1_ n2_ n3_ n4_ n5_ n6_;clear hb hbox hg
     refine hK.out _ _ ⟨(blk_cell BK888.out 0).trans rfl,(blk_cell BK888.out 1).trans rfl⟩ (fun hHeld=>?_)
     clear hK K
     refine norm_ (a':=?_) ?_ ?_
     rotate_left
     ·show Act.put _ (some 9) _=_
      simp only [Act.put,List.setIfInBounds_toArray,List.set_cons_zero,List.set_cons_succ,i64_w,i32_w]
      rfl
     refine one_ (i:=4) (N:=some 23) #[true,true,true,true,true,false,true,false] rfl rfl (one_of HT_.out (by kernel_rfl)) (by decide) (fun K hK=>?_)
     refine goes_ Try.func90 (by kernel_rfl) rfl #[.slice A2 l2.length c2,.int .i64 (-1),.int .i64 a1] (by rfl) rfl rfl (by (try simp only [List.map_toArray,List.map_cons,List.map_nil]);first|done|rfl|(simp only [List.length_drop,List.length_take];rfl)) ?_
     with_reducible refine (impl_scaled.calls k _ _ l2 (-1) a1 t889 _ ?side1 ?side2 A4.out).mono ?_
     (case side1=>exact (Kd.C_below HR2.out HB.out))
     (case side2=>exact HC2.out)
     rintro e w12 ⟨v890,rfl,ho0,hb⟩
     refine ⟨_,rfl,?_⟩
     have n0_:=Aside0.mk (Kd.R_lower ho0 (below_size (by exact HB.out)))
     have n1_:=Aside0.mk (blk_below (g:=gb888) (o:=.cells #[.slice A0_0 l0_0.length c0_0,.bool a0_1] 28 (0,0)) (by exact BK888.out) hb)
     have n2_:=Aside0.mk (blk_below (g:=gb899) (o:=.cells #[.slice none 0 0,.slice none 0 0,.int .i64 0] 60 (0,0)) (by exact BK899.out) hb)
     have n3_:=Aside0.mk (below_step (by exact HB.out) hb)
     clear BK888;clear BK899;clear HB
     have HO891:=n0_
     have BK888:=n1_
     have BK899:=n2_
     have HB:=n3_
     clear n0_ n1_ n2_ n3_;(try clear hb);(try clear hb2);(try clear hk);(try clear hi);(try clear ho0)
     obtain ⟨Ao13,co13,eo13⟩:=Kd.R_slice HO891.out
     (first|subst eo13|(injection eo13 with f1_ f2_ f3_;have f4_:=f1_.symm;have f5_:=f3_.symm;clear f1_ f2_ f3_;subst f4_;subst f5_))
     refine hK.out _ _ ⟨(blk_cell BK888.out 0).trans rfl,(blk_cell BK888.out 1).trans rfl⟩ (fun hHeld=>?_)
     clear hK K
     refine norm_ (a':=?_) ?_ ?_
     rotate_left
     ·show Act.put _ (some 23) _=_
      simp only [Act.put,List.setIfInBounds_toArray,List.set_cons_zero,List.set_cons_succ,i64_w,i32_w]
      rfl
     refine one_ (i:=5) (N:=some 24) #[true,true,true,true,true,true,true,false] rfl rfl (one_of HT_.out (by kernel_rfl)) (by decide) (fun K hK=>?_)
     refine goes_ Try.func63 (by kernel_rfl) rfl #[.agg #[.slice A0_0 l0_0.length c0_0,.bool a0_1],.int .i64 a1,.slice Ao13 t889.length co13] (by rfl) rfl rfl (by (try simp only [List.map_toArray,List.map_cons,List.map_nil]);first|done|rfl|(simp only [List.length_drop,List.length_take];rfl)) ?_
     with_reducible refine (impl_Graph_solved.calls k _ _ l0_0 a0_1 a1 _ _ t889 t892 t895 t898 _ ?side1 ?side2 ?side3 ?side4 A5.out).mono ?_
     (case side1=>exact (Kd.C_below HR0_0.out HB.out))
     (case side2=>exact HC0_0.out)
     (case side3=>exact (Kd.R_reads' HO891.out).2.2)
     (case side4=>exact (Kd.R_reads' HO891.out).2.1)
     rintro e w14 ⟨v893,v896,rfl,ho0,ho1,hb⟩
     refine ⟨_,rfl,?_⟩
     have n0_:=Aside0.mk (Kd.R_elder' (by exact HO891.out) (Kd.R_base ho1) hb)
     have n1_:=Aside0.mk (Kd.N_lower (Kd.N_mono (ok':=fun k_=>some k_≠(v896:Value).ownBlock∧some k_≠(.slice Ao13 t889.length co13:Value).ownBlock∧k_≠gb888∧k_≠gb899) ho0 (fun k_ hk_=>⟨hk_.2,(Kd.fresh' (Kd.R_lt (by exact HO891.out)) k_ hk_.1),(Kd.freshB (g:=gb888) (o:=.cells #[.slice A0_0 l0_0.length c0_0,.bool a0_1] 28 (0,0)) (by exact BK888.out) k_ hk_.1),(Kd.freshB (g:=gb899) (o:=.cells #[.slice none 0 0,.slice none 0 0,.int .i64 0] 60 (0,0)) (by exact BK899.out) k_ hk_.1)⟩)) (below_size (by exact HB.out)))
     have n2_:=Aside0.mk (Kd.R_lower (Kd.R_new' (Kd.R_mono (ok':=fun k_=>True) ho1 (fun _ hk_=>trivial)) (Kd.R_lt (by exact HO891.out))) (below_size (by exact HB.out)))
     have n3_:=Aside0.mk (blk_below (g:=gb888) (o:=.cells #[.slice A0_0 l0_0.length c0_0,.bool a0_1] 28 (0,0)) (by exact BK888.out) hb)
     have n4_:=Aside0.mk (blk_below (g:=gb899) (o:=.cells #[.slice none 0 0,.slice none 0 0,.int .i64 0] 60 (0,0)) (by exact BK899.out) hb)
     have n5_:=Aside0.mk (below_step (by exact HB.out) hb)
     clear HO891;clear BK888;clear BK899;clear HB
     have HO891:=n0_
     have HO894:=n1_
     have HO897:=n2_
     have BK888:=n3_
     have BK899:=n4_
     have HB:=n5_
     clear n0_ n1_ n2_ n3_ n4_ n5_;(try clear hb);(try clear hb2);(try clear hk);(try clear hi);(try clear ho0);(try clear ho1)
     refine hK.out _ _ ⟨(blk_cell BK888.out 0).trans rfl,(blk_cell BK888.out 1).trans rfl⟩ (fun hHeld=>?_)
     clear hK K
     refine norm_ (a':=?_) ?_ ?_
     rotate_left
     ·show Act.put _ (some 24) _=_
      simp only [Act.put,List.setIfInBounds_toArray,List.set_cons_zero,List.set_cons_succ,i64_w,i32_w]
      rfl
     exact norm_ (by simp only [putAll,Act.put,List.setIfInBounds_toArray,List.set_cons_zero,List.set_cons_succ]) (hCont (.slice Ao13 t889.length co13,v893,v896,gb899) _ ⟨hHeld,(by exact Kd.R_mono HO891.out (fun _ hk=>hk.2)),(by exact Kd.N_mono HO894.out (fun _ hk=>⟨hk.2.1,⟨hk.1,⟨hk.2.2.1,hk.2.2.2⟩⟩⟩)),(by exact Kd.R_mono HO897.out (fun _ hk=>hk.2)),(by exact BK888.out),(by exact BK899.out),GW899.out,GE899.out,NB888_899.out,NB899_888.out,(by exact HB.out)⟩)
   rintro ⟨v890,v893,v896,gb899⟩ w15 ⟨hS_,h0_,h1_,h2_,h3_,h4_,h5_,h6_,h7_,h8_,h9_⟩
   have n0_:Aside0 (Kd.R (Kd.int .i64) 3 w15 w.heap.size (fun k_=>some k_≠(v896:Value).ownBlock) v890 t889):=⟨h0_⟩
   have n1_:Aside0 (Kd.N (Kd.slice 3 (Kd.int .i64)) 22 w15 w.heap.size (fun k_=>some k_≠(v890:Value).ownBlock∧some k_≠(v896:Value).ownBlock∧k_≠gb888∧k_≠gb899) v893 t892):=⟨h1_⟩
   have n2_:Aside0 (Kd.R (Kd.int .i64) 3 w15 w.heap.size (fun k_=>some k_≠(v890:Value).ownBlock) v896 t895):=⟨h2_⟩
   have n3_:Aside0 (w15.heap[gb888]?=some (.cells #[.slice A0_0 l0_0.length c0_0,.bool a0_1] 28 (0,0))):=⟨h3_⟩
   have n4_:Aside0 (w15.heap[gb899]?=some (.cells #[.slice none 0 0,.slice none 0 0,.int .i64 0] 60 (0,0))):=⟨h4_⟩
   have n5_:Aside0 (w.heap.size≤gb899):=⟨h5_⟩
   have n6_:Aside0 (w.heap.size≤gb899):=⟨h6_⟩
   have n7_:Aside0 (gb888≠gb899):=⟨h7_⟩
   have n8_:Aside0 (gb899≠gb888):=⟨h8_⟩
   have n9_:Aside0 (Below w.heap.size w w15):=⟨h9_⟩
   clear BK888;clear HB;clear h0_ h1_ h2_ h3_ h4_ h5_ h6_ h7_ h8_ h9_
   have HO891:=n0_
   have HO894:=n1_
   have HO897:=n2_
   have BK888:=n3_
   have BK899:=n4_
   have GW899:=n5_
   have GE899:=n6_
   have NB888_899:=n7_
   have NB899_888:=n8_
   have HB:=n9_
   clear n0_ n1_ n2_ n3_ n4_ n5_ n6_ n7_ n8_ n9_
   have hHeld:w15.cell? ⟨gb888,0,none⟩=some (.slice A0_0 l0_0.length c0_0)∧w15.cell? ⟨gb888,1,none⟩=some (.bool a0_1):=hS_
   obtain ⟨Ao16,co16,eo16⟩:=Kd.N_slice HO894.out
   (first|subst eo16|(injection eo16 with f1_ f2_ f3_;have f4_:=f1_.symm;have f5_:=f3_.symm;clear f1_ f2_ f3_;subst f4_;subst f5_))
   obtain ⟨Ao18,co18,eo18⟩:=Kd.R_slice HO897.out
   (first|subst eo18|(injection eo18 with f1_ f2_ f3_;have f4_:=f1_.symm;have f5_:=f3_.symm;clear f1_ f2_ f3_;subst f4_;subst f5_))
   refine norm_ (a':=?_) ?_ ?_
   rotate_left
   ·simp only [putAll,Act.put,List.setIfInBounds_toArray,List.set_cons_zero,List.set_cons_succ]
    rfl
   refine one_ (i:=7) (N:=none) #[true,true,true,true,true,true,true,true] rfl rfl (one_of HT_.out (by kernel_rfl)) (by decide) (fun K hK=>?_)
   have hs17:w15.cell? ⟨gb899,0,none⟩=some (.slice none 0 0):=(blk_cell BK899.out 0).trans rfl
   have hfs17:=blk_frozen BK899.out 0
   have hns17_0:=NB888_899.out
   have hms17_0:=NB899_888.out
   have hs19:w15.cell? ⟨gb899,1,none⟩=some (.slice none 0 0):=(blk_cell BK899.out 1).trans rfl
   have hfs19:=blk_frozen BK899.out 1
   have hns19_0:=NB888_899.out
   have hms19_0:=NB899_888.out
   have hs20:w15.cell? ⟨gb899,2,none⟩=some (.int .i64 0):=(blk_cell BK899.out 2).trans rfl
   have hfs20:=blk_frozen BK899.out 2
   have hns20_0:=NB888_899.out
   have hms20_0:=NB899_888.out
   refine skip_ (w1:=?_) (by rfl) rfl ?_ ?_
   rotate_left
   ·go_simp
    rfl
   refine hK.out _ _ ⟨((cell_far (p:=⟨gb899,_,none⟩) NB888_899.out _).trans (((cell_far (p:=⟨gb899,_,none⟩) NB888_899.out _).trans (((cell_far (p:=⟨gb899,_,none⟩) NB888_899.out _).trans (hHeld.1)))))),((cell_far (p:=⟨gb899,_,none⟩) NB888_899.out _).trans (((cell_far (p:=⟨gb899,_,none⟩) NB888_899.out _).trans (((cell_far (p:=⟨gb899,_,none⟩) NB888_899.out _).trans (hHeld.2))))))⟩ (fun hHeld=>?_)
   clear hK K
   refine done_ (done_of HT_.out (by kernel_rfl)) ?_
   try go_wp2_with (first|((with_reducible refine gate_dst (N:=26) rfl ?_);refine Kd.R_make (Kd.int .i64) _ 3 rfl (N:=26) rfl 22 _ _ rfl (l0_0.length:Int) rfl rfl Try.underlying22 (.int .i64 0) 8 info3 rfl (by decide) (by omega) 0 (ok:=fun _=>True) (okp:=fun _=>True) rfl (fun _ hk=>hk) trivial (of_decide_eq_true (by first|(with_reducible assumption)|assumption)) (Nat.le_trans (Nat.mul_le_mul_right _ (of_decide_eq_true (by first|(with_reducible assumption)|assumption):(l0_0.length:Int).toNat≤35184372088832)) (by omega)) (Below.refl _ _) (Nat.le_refl _) ?_;intro v901 w21 ho22 hb hg_ hnew_;clear hg_ hnew_;(first|rw [← Ny900.out] at ho22|(simp only [Int.reduceToNat] at ho22;rw [← Ny900.out] at ho22));have n0_:=Aside0.mk (Kd.R_elder' (by exact (Kd.R_mono (Kd.R_far (p:=⟨gb899,2,none⟩) (Kd.R_far (p:=⟨gb899,1,none⟩) (Kd.R_far (p:=⟨gb899,0,none⟩) (Kd.R_types HO891.out BK899.out (by decide)) (fun _ hk=>hk.2) (.slice Ao16 t892.length co16)) (fun _ hk=>hk.2) (.slice Ao18 t895.length co18)) (fun _ hk=>hk.2) (.int .i64 t898)) (fun _ h_=>h_.1))) (Kd.R_base ho22) hb);have n1_:=Aside0.mk (Kd.N_elder' (by exact (Kd.N_mono (Kd.N_far (p:=⟨gb899,2,none⟩) (Kd.N_far (p:=⟨gb899,1,none⟩) (Kd.N_far (p:=⟨gb899,0,none⟩) (Kd.N_mono HO894.out (fun k_ hk=>(⟨hk,hk.2.2.2⟩:_∧k_≠gb899))) (fun _ hk=>hk.2) (.slice Ao16 t892.length co16)) (fun _ hk=>hk.2) (.slice Ao18 t895.length co18)) (fun _ hk=>hk.2) (.int .i64 t898)) (fun _ h_=>h_.1))) (Kd.R_base ho22) hb);have n2_:=Aside0.mk (Kd.R_elder' (by exact (Kd.R_mono (Kd.R_far (p:=⟨gb899,2,none⟩) (Kd.R_far (p:=⟨gb899,1,none⟩) (Kd.R_far (p:=⟨gb899,0,none⟩) (Kd.R_types HO897.out BK899.out (by decide)) (fun _ hk=>hk.2) (.slice Ao16 t892.length co16)) (fun _ hk=>hk.2) (.slice Ao18 t895.length co18)) (fun _ hk=>hk.2) (.int .i64 t898)) (fun _ h_=>h_.1))) (Kd.R_base ho22) hb);have n3_:=Aside0.mk (Kd.R_lower (Kd.R_new' (Kd.R_new' ho22 (Kd.R_lt (by exact (Kd.R_mono (Kd.R_far (p:=⟨gb899,2,none⟩) (Kd.R_far (p:=⟨gb899,1,none⟩) (Kd.R_far (p:=⟨gb899,0,none⟩) (Kd.R_types HO891.out BK899.out (by decide)) (fun _ hk=>hk.2) (.slice Ao16 t892.length co16)) (fun _ hk=>hk.2) (.slice Ao18 t895.length co18)) (fun _ hk=>hk.2) (.int .i64 t898)) (fun _ h_=>h_.1))))) (Kd.R_lt (by exact (Kd.R_mono (Kd.R_far (p:=⟨gb899,2,none⟩) (Kd.R_far (p:=⟨gb899,1,none⟩) (Kd.R_far (p:=⟨gb899,0,none⟩) (Kd.R_types HO897.out BK899.out (by decide)) (fun _ hk=>hk.2) (.slice Ao16 t892.length co16)) (fun _ hk=>hk.2) (.slice Ao18 t895.length co18)) (fun _ hk=>hk.2) (.int .i64 t898)) (fun _ h_=>h_.1))))) (below_size (by repeat (first|(with_reducible first|exact HB.out|apply below_alloc|apply pw_below_drewN|apply below_drew1|refine below_set ?_ GE888.out|refine below_set ?_ GE899.out)|exact HB.out))));have n4_:=Aside0.mk (blk_below (g:=gb888) (o:=.cells #[.slice A0_0 l0_0.length c0_0,.bool a0_1] 28 (0,0)) (by (with_reducible repeat (first|refine blk_drewN ?_ _|refine blk_drew ?_|refine blk_alloc ?_ _));refine blk_far ?_ NB888_899.out _;(with_reducible repeat (first|refine blk_drewN ?_ _|refine blk_drew ?_|refine blk_alloc ?_ _));refine blk_far ?_ NB888_899.out _;(with_reducible repeat (first|refine blk_drewN ?_ _|refine blk_drew ?_|refine blk_alloc ?_ _));refine blk_far ?_ NB888_899.out _;(with_reducible repeat (first|refine blk_drewN ?_ _|refine blk_drew ?_|refine blk_alloc ?_ _));exact BK888.out) hb);have n5_:=Aside0.mk (blk_below (g:=gb899) (o:=.cells #[.slice Ao16 t892.length co16,.slice Ao18 t895.length co18,.int .i64 t898] 60 (0,0)) (by (with_reducible repeat (first|refine blk_drewN ?_ _|refine blk_drew ?_|refine blk_alloc ?_ _));refine blk_put (cs:=#[.slice Ao16 t892.length co16,.slice Ao18 t895.length co18,.int .i64 0]) ?_ 2 _ rfl;(with_reducible repeat (first|refine blk_drewN ?_ _|refine blk_drew ?_|refine blk_alloc ?_ _));refine blk_put (cs:=#[.slice Ao16 t892.length co16,.slice none 0 0,.int .i64 0]) ?_ 1 _ rfl;(with_reducible repeat (first|refine blk_drewN ?_ _|refine blk_drew ?_|refine blk_alloc ?_ _));refine blk_put (cs:=#[.slice none 0 0,.slice none 0 0,.int .i64 0]) ?_ 0 _ rfl;(with_reducible repeat (first|refine blk_drewN ?_ _|refine blk_drew ?_|refine blk_alloc ?_ _));exact BK899.out) hb);have n6_:=Aside0.mk (below_step (by repeat (first|(with_reducible first|exact HB.out|apply below_alloc|apply pw_below_drewN|apply below_drew1|refine below_set ?_ GE888.out|refine below_set ?_ GE899.out)|exact HB.out)) hb);clear HO891;clear HO894;clear HO897;clear BK888;clear BK899;clear HB;have HO891:=n0_;have HO894:=n1_;have HO897:=n2_;have HO902:=n3_;have BK888:=n4_;have BK899:=n5_;have HB:=n6_;clear n0_ n1_ n2_ n3_ n4_ n5_ n6_;clear hb ho22;have hnb23:=NB899_888.out;have hnc23:=NB888_899.out;have hcz24_0:w21.cell? ⟨gb899,0,none⟩=some (.slice Ao16 t892.length co16):=(blk_cell BK899.out 0).trans rfl;have hcz24_1:w21.cell? ⟨gb899,1,none⟩=some (.slice Ao18 t895.length co18):=(blk_cell BK899.out 1).trans rfl;have hcz24_2:w21.cell? ⟨gb899,2,none⟩=some (.int .i64 t898):=(blk_cell BK899.out 2).trans rfl;have hfz24_0:=blk_frozen BK899.out 0;have hfz24_1:=blk_frozen BK899.out 1;have hfz24_2:=blk_frozen BK899.out 2))
   go_loopg [30] k (fun kq v30 w'=>∃ (x10_1:List Int) (x30_1:Int),v30=.int .i64 x30_1∧Aside0 (impl_Graph_solveColours.l0 kq a1 (l0_0.length:Int) x10_1 t892 (t892.length:Int) x30_1 l0_0 a0_1 t892 t895 t898=some (r1,r2))∧Aside0 (kq≤k)∧Aside0 (Kd.R (Kd.int .i64) 3 w' w.heap.size (fun k_=>some k_≠((.slice Ao18 t895.length co18):Value).ownBlock) v901 x10_1)∧Aside0 (Kd.N (Kd.slice 3 (Kd.int .i64)) 22 w' w.heap.size (fun k_=>some k_≠(v901:Value).ownBlock∧some k_≠((.slice Ao18 t895.length co18):Value).ownBlock∧k_≠gb888∧k_≠gb899) (.slice Ao16 t892.length co16) t892)∧Aside0 (Kd.N (Kd.slice 3 (Kd.int .i64)) 22 w' w.heap.size (fun k_=>some k_≠(v901:Value).ownBlock∧some k_≠((.slice Ao18 t895.length co18):Value).ownBlock∧k_≠gb888∧k_≠gb899) (.slice Ao16 t892.length co16) t892)∧Aside0 (Kd.R (Kd.int .i64) 3 w' w.heap.size (fun k_=>some k_≠(v901:Value).ownBlock) (.slice Ao18 t895.length co18) t895)∧Aside0 (w'.heap[gb888]?=some (.cells #[(.slice A0_0 l0_0.length c0_0),.bool a0_1] 28 (0,0)))∧Aside0 (w'.heap[gb899]?=some (.cells #[(.slice Ao16 t892.length co16),(.slice Ao18 t895.length co18),.int .i64 t898] 60 (0,0)))∧Aside0 (Below w.heap.size w w'))
   case atStart=>exact ⟨(y900),(0),(by first|rfl|(simp;done)|(simp [*];done)),H',⟨Nat.le_refl _⟩,⟨by exact Kd.R_mono HO902.out (fun _ hk=>hk.2)⟩,⟨by exact Kd.N_mono HO894.out (fun _ hk=>⟨hk.2,⟨hk.1.2.1,⟨hk.1.2.2.1,hk.1.2.2.2⟩⟩⟩)⟩,⟨by exact Kd.N_mono HO894.out (fun _ hk=>⟨hk.2,⟨hk.1.2.1,⟨hk.1.2.2.1,hk.1.2.2.2⟩⟩⟩)⟩,⟨by exact Kd.R_mono HO897.out (fun _ hk=>hk.2)⟩,⟨by exact BK888.out⟩,⟨by exact BK899.out⟩,⟨by exact HB.out⟩⟩
   case round=>
    clear H'
    (try clear c2);(try clear p2);(try clear c6);(try clear c6b0);(try clear c6b1);(try clear c7);(try clear c7b0);(try clear c7b1);(try clear c9);(try clear c23);(try clear hcz24_0);(try clear hcz24_1);(try clear hcz24_2);(try clear hcz9_0);(try clear hcz9_1);(try clear hfz24_0);(try clear hfz24_1);(try clear hfz24_2);(try clear hfz9_0);(try clear hfz9_1)
    obtain ⟨x10_1,x30_1,rfl,HA,HK1,HO_10,HO_28,HO_900000,HO_900001,BK888,BK899,HB⟩:=hrel
    cases gk with
    |zero=>exact absurd HA.out (by simp [impl_Graph_solveColours.l0])
    |succ k1=>
     have H:=HA.out
     clear HA
     simp only [impl_Graph_solveColours.l0] at H
     by_cases c25:x30_1< (t892.length:Int)
     ·rw [if_pos c25] at H
      have c25b0:decide (x30_1< (t892.length:Int))=true:=decide_eq_true c25
      clear c25
      by_cases c26:0≤x30_1
      ·rw [if_pos c26] at H
       have c26b0:decide (0≤x30_1)=true:=decide_eq_true c26
       clear c26
       by_cases c27:x30_1< (t892.length:Int)
       ·rw [if_pos c27] at H
        have c27b0:decide (x30_1< (t892.length:Int))=true:=decide_eq_true c27
        clear c27
        by_cases c28:x30_1< (t895.length:Int)
        ·rw [if_pos c28] at H
         have c28b0:decide (x30_1< (t895.length:Int))=true:=decide_eq_true c28
         clear c28
         by_cases c29:0≤(l0_0.length:Int)
         ·rw [if_pos c29] at H
          have c29b0:decide (0≤(l0_0.length:Int))=true:=decide_eq_true c29
          have c29b1:decide (0≤l0_0.length)=true:=decide_eq_true (by omega)
          clear c29
          by_cases c30:(l0_0.length:Int)< ((rd_L1 t892 x30_1).length:Int)
          ·rw [if_pos c30] at H
           have c30b0:decide ((l0_0.length:Int)< ((rd_L1 t892 x30_1).length:Int))=true:=decide_eq_true c30
           have c30b1:decide (l0_0.length< (rd_L1 t892 x30_1).length)=true:=decide_eq_true (Int.ofNat_lt.mp c30)
           clear c30
           by_cases c31:0≤(rd t895 x30_1)
           ·rw [if_pos c31] at H
            have c31b0:decide (0≤(rd t895 x30_1))=true:=decide_eq_true c31
            clear c31
            by_cases c32:(rd t895 x30_1)< (x10_1.length:Int)
            ·rw [if_pos c32] at H
             have c32b0:decide ((rd t895 x30_1)< (x10_1.length:Int))=true:=decide_eq_true c32
             clear c32
             obtain ⟨y906,hy906⟩:∃ y_:List Int,y_=(x10_1.set ((rd t895 x30_1):Int).toNat (rd (rd_L1 t892 x30_1) (l0_0.length:Int))):=⟨_,rfl⟩
             replace H:(impl_Graph_solveColours.l0 k1 a1 (l0_0.length:Int) y906 t892 (t892.length:Int) (wrap64 (x30_1+1)) l0_0 a0_1 t892 t895 t898)=some (r1,r2):=by first|(rw [hy906];with_reducible exact H)|(have H2_:=(Option.bind_some _ _).symm.trans H;rw [hy906];with_reducible exact H2_)|(have H2_:=(Option.bind_some _ _).symm.trans H;with_reducible exact H2_)|with_reducible exact H|(rw [hy906];exact H)|exact H
             have Ny906:=Aside0.mk hy906
             clear hy906
             have H':=Aside0.mk H
             clear H
             have p903:0≤(x30_1:Int):=of_decide_eq_true (by first|(with_reducible assumption)|assumption)
             have q903:x30_1< (t892.length:Int):=of_decide_eq_true (by first|(with_reducible assumption)|assumption)
             obtain ⟨ad903,A903_0,c903_0,e903,hx903_0,hl903_0,hi903_0⟩:=at_L1 (Kd.N_reads' HO_28.out).2.2 x30_1 p903 q903
             cases e903
             obtain ⟨ce903,hce903,hMe903,hcc903⟩:=Kd.N_get HO_28.out [] x30_1 p903 (by first|exact q903|exact of_decide_eq_true (by first|(with_reducible assumption)|assumption)|(have e_:=(Kd.N_reads' HO_28.out).1;omega))
             obtain ⟨ua903_0,uc903_0,rfl,ul903_0,ge903_0⟩:=Kd.FK_slice_open hMe903
             have hv903_0:=hcc903 0 _ rfl
             rw [Nat.add_zero,show ((Kd.slice 3 (Kd.int .i64))).sz=1 from rfl,Nat.mul_one] at hv903_0
             replace hv903_0:=Option.some.inj (hv903_0.symm.trans hx903_0)
             injection hv903_0 with hva_ hvn_ hvc_
             rw [hva_] at ge903_0
             rw [hvc_] at ul903_0
             have HL903_0:=Aside0.mk (show Kd.V (Kd.int .i64) 3 _ w.heap.size _ _ (rd_L1 t892 x30_1) from Kd.V_mk ul903_0 ge903_0)
             clear hva_ hvn_ hvc_ ge903_0 ul903_0;clear hcc903 hce903
             have HR903_0:=Aside0.mk hi903_0
             have HC903_0:=Aside0.mk hl903_0
             clear hi903_0 hl903_0
             replace p903:=eq_true p903
             replace q903:=eq_true q903
             have hnb34:=NB899_888.out
             have hnc34:=NB888_899.out
             have hcz35_0:wr.cell? ⟨gb899,0,none⟩=some (.slice (some ad903) t892.length co16):=(blk_cell BK899.out 0).trans rfl
             have hcz35_1:wr.cell? ⟨gb899,1,none⟩=some (.slice Ao18 t895.length co18):=(blk_cell BK899.out 1).trans rfl
             have hcz35_2:wr.cell? ⟨gb899,2,none⟩=some (.int .i64 t898):=(blk_cell BK899.out 2).trans rfl
             have hfz35_0:=blk_frozen BK899.out 0
             have hfz35_1:=blk_frozen BK899.out 1
             have hfz35_2:=blk_frozen BK899.out 2
             try go_wp2
             have n0_:=Aside0.mk (Kd.R_drew HO_10.out)
             have n1_:=Aside0.mk (Kd.N_drew HO_28.out)
             have n2_:=Aside0.mk (Kd.N_drew HO_900000.out)
             have n3_:=Aside0.mk (Kd.R_drew HO_900001.out)
             have n4_:=Aside0.mk (Kd.V_drew HL903_0.out)
             have n5_:=Aside0.mk (blk_drew BK888.out)
             have n6_:=Aside0.mk (blk_drew BK899.out)
             have n7_:=Aside0.mk (Kd.C_drew HR903_0.out)
             have n8_:=Aside0.mk (below_drew1 HB.out)
             clear HO_10;clear HO_28;clear HO_900000;clear HO_900001;clear HL903_0;clear BK888;clear BK899;clear HR903_0;clear HB
             have HO_10:=n0_
             have HO_28:=n1_
             have HO_900000:=n2_
             have HO_900001:=n3_
             have HL903_0:=n4_
             have BK888:=n5_
             have BK899:=n6_
             have HR903_0:=n7_
             have HB:=n8_
             clear n0_ n1_ n2_ n3_ n4_ n5_ n6_ n7_ n8_
             have p904:0≤(x30_1:Int):=of_decide_eq_true (by first|(with_reducible assumption)|assumption)
             have q904:x30_1< (t895.length:Int):=of_decide_eq_true (by first|(with_reducible assumption)|assumption)
             obtain ⟨ad904,e904,hx904_0⟩:=Kd.at_int (Kd.R_reads' HO_900001.out).2.2 x30_1 p904 q904
             cases e904
             replace p904:=eq_true p904
             replace q904:=eq_true q904
             have p905:0≤((l0_0.length:Int):Int):=of_decide_eq_true (by first|(with_reducible assumption)|assumption)
             have q905:(l0_0.length:Int)< ((rd_L1 t892 x30_1).length:Int):=of_decide_eq_true (by first|(with_reducible assumption)|assumption)
             obtain ⟨ad905,e905,hx905_0⟩:=Kd.at_int (by exact HR903_0.out) (l0_0.length:Int) p905 q905
             cases e905
             (try simp only [Go.IntWalk.toNatUp] at hx905_0)
             replace p905:=eq_true p905
             replace q905:=eq_true q905
             have p33:0≤((rd t895 x30_1):Int):=of_decide_eq_true (by first|(with_reducible assumption)|assumption)
             have q33:((rd t895 x30_1):Int)< ((x10_1.length:Int):Int):=of_decide_eq_true (by first|(with_reducible assumption)|assumption)
             obtain ⟨go33,co33,eo33,gb33,gl33,cl33,HG33⟩:=Kd.R_form HO_10.out (by omega)
             (first|cases eo33|(injection eo33 with ea_ en_ ec_;(first|subst ea_|(injection ea_ with ea_;subst ea_));subst ec_;clear en_))
             have GB33:=Aside0.mk gb33
             have GG33:=Aside0.mk HG33
             clear gb33 gl33 HG33
             obtain ⟨hx33_0,hf33_0⟩:=Kd.R_celln 0 HO_10.out ((rd t895 x30_1):Int) p33 q33
             replace p33:=eq_true p33
             replace q33:=eq_true q33
             have HP37:=Kd.R_putn HO_10.out ((rd t895 x30_1):Int) (rd (rd_L1 t892 x30_1) (l0_0.length:Int))
             rw [← Ny906.out] at HP37
             have HQ37:=Aside0.mk HP37
             clear HP37
             refine start_ (n:=12) (S:=fun w'=>w'.cell? ⟨gb899,0,none⟩=some (.slice (some ad903) t892.length co16)∧w'.cell? ⟨gb899,1,none⟩=some (.slice (some ad904) t895.length co18)∧w'.cell? ⟨gb899,2,none⟩=some (.int .i64 t898)∧w'.cell? (ad904.add (x30_1).toNat)=some (.int .i64 (rd t895 x30_1))∧w'.cell? (ad905.add ((l0_0.length:Int)).toNat)=some (.int .i64 (rd (rd_L1 t892 x30_1) (l0_0.length:Int)))) (ds:=[11]) #[false,false,false,false,false,false,false,false,false,false,false,false] (by kernel_rfl) rfl rfl ⟨(blk_cell BK899.out 0).trans rfl,(blk_cell BK899.out 1).trans rfl,(blk_cell BK899.out 2).trans rfl,hx904_0,hx905_0⟩ (fun hHeld=>?_);refine with_tabW impl_Graph_solveColours.tab8 impl_Graph_solveColours.bits8 (fun HT_ HW_=>?_)
             generalize wr.drew=w36 at HO_10 HO_28 HO_900000 HO_900001 HL903_0 BK888 BK899 HR903_0 HB GG33 HQ37 hf33_0 hx33_0 hx904_0 hx905_0 hHeld ⊢
             refine pure_ (i:=0) (N:=some 40) (v:=?_) (a':=?_) #[true,false,false,false,false,false,false,false,false,false,false,false] rfl rfl (any_of HT_.out (by kernel_rfl)) (fun _ _ _ h=>h) (Or.inl ⟨by rfl,?_⟩) ?_ ?_
             rotate_left
             ·intro w'
              go_simp
              with_reducible rfl
             rotate_left
             ·simp only [Act.put,List.setIfInBounds_toArray,List.set_cons_zero,List.set_cons_succ,i64_w,i32_w]
              rfl
             refine pure_ (i:=1) (N:=some 41) (v:=?_) (a':=?_) #[true,true,false,false,false,false,false,false,false,false,false,false] rfl rfl (any_of HT_.out (by kernel_rfl)) (fun _ _ _ h=>h) (Or.inl ⟨by rfl,?_⟩) ?_ ?_
             rotate_left
             ·intro w'
              go_simp
              with_reducible rfl
             rotate_left
             ·simp only [Act.put,List.setIfInBounds_toArray,List.set_cons_zero,List.set_cons_succ,i64_w,i32_w]
              rfl
             refine pure_ (i:=3) (N:=some 43) (v:=?_) (a':=?_) #[true,true,false,true,false,false,false,false,false,false,false,false] rfl rfl (any_of HT_.out (by kernel_rfl)) (fun _ _ _ h=>h) (Or.inl ⟨by rfl,?_⟩) ?_ ?_
             rotate_left
             ·intro w'
              go_simp
              with_reducible rfl
             rotate_left
             ·simp only [Act.put,List.setIfInBounds_toArray,List.set_cons_zero,List.set_cons_succ,i64_w,i32_w]
              rfl
             refine pure_ (i:=6) (N:=some 46) (v:=?_) (a':=?_) #[true,true,false,true,false,false,true,false,false,false,false,false] rfl rfl (any_of HT_.out (by kernel_rfl)) (fun _ _ _ h=>h) (Or.inl ⟨by rfl,?_⟩) ?_ ?_
             rotate_left
             ·intro w'
              go_simp
              with_reducible rfl
             rotate_left
             ·simp only [Act.put,List.setIfInBounds_toArray,List.set_cons_zero,List.set_cons_succ,i64_w,i32_w]
              rfl
             refine pure_ (i:=7) (N:=some 47) (v:=?_) (a':=?_) #[true,true,false,true,false,false,true,true,false,false,false,false] rfl rfl (any_of HT_.out (by kernel_rfl)) (fun _ _ _ h=>h) (Or.inl ⟨by rfl,?_⟩) ?_ ?_
             rotate_left
             ·intro w'
              go_simp
              with_reducible rfl
             rotate_left
             ·simp only [Act.put,List.setIfInBounds_toArray,List.set_cons_zero,List.set_cons_succ,i64_w,i32_w]
              rfl
             refine pure_ (i:=8) (N:=some 48) (v:=?_) (a':=?_) #[true,true,false,true,false,false,true,true,true,false,false,false] rfl rfl (any_of HT_.out (by kernel_rfl)) (fun _ _ _ h=>h) (Or.inl ⟨by rfl,?_⟩) ?_ ?_
             rotate_left
             ·intro w'
              go_simp
              with_reducible rfl
             rotate_left
             ·simp only [Act.put,List.setIfInBounds_toArray,List.set_cons_zero,List.set_cons_succ,i64_w,i32_w]
              rfl
             refine take_ (i:=2) (N:=some 42) (v:=?_) (a':=?_) #[true,true,true,true,false,false,true,true,true,false,false,false] rfl rfl (take_ofW HT_.out HW_.out (by kernel_rfl)) (fun _ _ _ h=>h) (Or.inl ⟨by rfl,?_⟩) hHeld ?_ ?_
             rotate_left
             ·rintro w' ⟨s0,s1,s2,s3,s4⟩
              (try simp only [Int.toNat_natCast] at s0)
              (try simp only [Int.toNat_natCast] at s1)
              (try simp only [Int.toNat_natCast] at s2)
              (try simp only [Int.toNat_natCast] at s3)
              (try simp only [Int.toNat_natCast] at s4)
              go_simp
              with_reducible rfl
             rotate_left
             ·simp only [Act.put,List.setIfInBounds_toArray,List.set_cons_zero,List.set_cons_succ,i64_w,i32_w]
              rfl
             refine pure_ (i:=4) (N:=some 44) (v:=?_) (a':=?_) #[true,true,true,true,true,false,true,true,true,false,false,false] rfl rfl (any_of HT_.out (by kernel_rfl)) (fun _ _ _ h=>h) (Or.inl ⟨by rfl,?_⟩) ?_ ?_
             rotate_left
             ·intro w'
              go_simp
              with_reducible rfl
             rotate_left
             ·simp only [Act.put,List.setIfInBounds_toArray,List.set_cons_zero,List.set_cons_succ,i64_w,i32_w]
              rfl
             refine take_ (i:=5) (N:=some 45) (v:=?_) (a':=?_) #[true,true,true,true,true,true,true,true,true,false,false,false] rfl rfl (take_ofW HT_.out HW_.out (by kernel_rfl)) (fun _ _ _ h=>h) (Or.inl ⟨by rfl,?_⟩) hHeld ?_ ?_
             rotate_left
             ·rintro w' ⟨s0,s1,s2,s3,s4⟩
              (try simp only [Int.toNat_natCast] at s0)
              (try simp only [Int.toNat_natCast] at s1)
              (try simp only [Int.toNat_natCast] at s2)
              (try simp only [Int.toNat_natCast] at s3)
              (try simp only [Int.toNat_natCast] at s4)
              go_simp
              with_reducible rfl
             rotate_left
             ·simp only [Act.put,List.setIfInBounds_toArray,List.set_cons_zero,List.set_cons_succ,i64_w,i32_w]
              rfl
             refine take_ (i:=9) (N:=some 49) (v:=?_) (a':=?_) #[true,true,true,true,true,true,true,true,true,true,false,false] rfl rfl (take_ofW HT_.out HW_.out (by kernel_rfl)) (fun _ _ _ h=>h) (Or.inl ⟨by rfl,?_⟩) hHeld ?_ ?_
             rotate_left
             ·rintro w' ⟨s0,s1,s2,s3,s4⟩
              (try simp only [Int.toNat_natCast] at s0)
              (try simp only [Int.toNat_natCast] at s1)
              (try simp only [Int.toNat_natCast] at s2)
              (try simp only [Int.toNat_natCast] at s3)
              (try simp only [Int.toNat_natCast] at s4)
              go_simp
              with_reducible rfl
             rotate_left
             ·simp only [Act.put,List.setIfInBounds_toArray,List.set_cons_zero,List.set_cons_succ,i64_w,i32_w]
              rfl
             refine pure_ (i:=10) (N:=some 50) (v:=?_) (a':=?_) #[true,true,true,true,true,true,true,true,true,true,true,false] rfl rfl (any_of HT_.out (by kernel_rfl)) (fun _ _ _ h=>h) (Or.inl ⟨by rfl,?_⟩) ?_ ?_
             rotate_left
             ·intro w'
              go_simp
              with_reducible rfl
             rotate_left
             ·simp only [Act.put,List.setIfInBounds_toArray,List.set_cons_zero,List.set_cons_succ,i64_w,i32_w]
              rfl
             refine last_ (i:=11) (N:=none) #[true,true,true,true,true,true,true,true,true,true,true,true] rfl rfl (one_of HT_.out (by kernel_rfl)) (by decide) (fun K hK=>?_)
             refine skip_ (w1:=?_) (by rfl) rfl ?_ ?_
             rotate_left
             ·go_simp
              rfl
             refine hK.out _ _ ?_
             clear hK K
             refine done_ (done_of HT_.out (by kernel_rfl)) ?_
             try go_wp2
             go_roundg k1
             case measure=>have:=HK1.out;omega
             case rel=>exact ⟨(y906),(wrap64 (x30_1+1)),(by first|rfl|(simp;done)|(simp [*];done)),H',⟨by have:=HK1.out;omega⟩,⟨by exact HQ37.out⟩,⟨by exact Kd.N_mono (Kd.N_far (p:=⟨go33,((rd t895 x30_1):Int).toNat,none⟩) (Kd.N_mono HO_28.out (fun k_ hk=>(⟨hk,fun e_=>hk.1 (by rw [e_];rfl)⟩:_∧k_≠go33))) (fun _ hk=>hk.2) (.int .i64 (rd (rd_L1 t892 x30_1) (l0_0.length:Int)))) (fun _ hk=>⟨hk.1.1,⟨hk.1.2.1,⟨hk.1.2.2.1,hk.1.2.2.2⟩⟩⟩)⟩,⟨by exact Kd.N_mono (Kd.N_far (p:=⟨go33,((rd t895 x30_1):Int).toNat,none⟩) (Kd.N_mono HO_900000.out (fun k_ hk=>(⟨hk,fun e_=>hk.1 (by rw [e_];rfl)⟩:_∧k_≠go33))) (fun _ hk=>hk.2) (.int .i64 (rd (rd_L1 t892 x30_1) (l0_0.length:Int)))) (fun _ hk=>⟨hk.1.1,⟨hk.1.2.1,⟨hk.1.2.2.1,hk.1.2.2.2⟩⟩⟩)⟩,⟨by exact Kd.R_mono (Kd.R_far (p:=⟨go33,((rd t895 x30_1):Int).toNat,none⟩) (Kd.R_mono HO_900001.out (fun k_ hk=>(⟨hk,fun e_=>hk (by rw [e_];rfl)⟩:_∧k_≠go33))) (fun _ hk=>hk.2) (.int .i64 (rd (rd_L1 t892 x30_1) (l0_0.length:Int)))) (fun _ hk=>hk.1)⟩,⟨by (with_reducible repeat (first|refine blk_drewN ?_ _|refine blk_drew ?_|refine blk_alloc ?_ _));refine blk_far ?_ (by have h_:=Kd.R_ne HO_10.out BK888.out (by decide);intro e_;exact h_ (by rw [e_];rfl)) _;(with_reducible repeat (first|refine blk_drewN ?_ _|refine blk_drew ?_|refine blk_alloc ?_ _));exact BK888.out⟩,⟨by (with_reducible repeat (first|refine blk_drewN ?_ _|refine blk_drew ?_|refine blk_alloc ?_ _));refine blk_far ?_ (by have h_:=Kd.R_ne HO_10.out BK899.out (by decide);intro e_;exact h_ (by rw [e_];rfl)) _;(with_reducible repeat (first|refine blk_drewN ?_ _|refine blk_drew ?_|refine blk_alloc ?_ _));exact BK899.out⟩,⟨by repeat (first|(with_reducible first|exact HB.out|apply below_alloc|apply pw_below_drewN|apply below_drew1|refine below_set ?_ GB33.out|refine below_set ?_ GE888.out|refine below_set ?_ GE899.out)|exact HB.out)⟩⟩
            ·rw [if_neg c32] at H
             exact absurd H (by simp)
           ·rw [if_neg c31] at H
            exact absurd H (by simp)
          ·rw [if_neg c30] at H
           exact absurd H (by simp)
         ·rw [if_neg c29] at H
          exact absurd H (by simp)
        ·rw [if_neg c28] at H
         have c28b0:decide (x30_1< (t895.length:Int))=false:=decide_eq_false c28
         clear c28
         by_cases c38:0≤(l0_0.length:Int)
         ·rw [if_pos c38] at H
          have c38b0:decide (0≤(l0_0.length:Int))=true:=decide_eq_true c38
          have c38b1:decide (0≤l0_0.length)=true:=decide_eq_true (by omega)
          clear c38
          by_cases c39:(l0_0.length:Int)< ((rd_L1 t892 x30_1).length:Int)
          ·rw [if_pos c39] at H
           have c39b0:decide ((l0_0.length:Int)< ((rd_L1 t892 x30_1).length:Int))=true:=decide_eq_true c39
           have c39b1:decide (l0_0.length< (rd_L1 t892 x30_1).length)=true:=decide_eq_true (Int.ofNat_lt.mp c39)
           clear c39
           by_cases c40:(rd (rd_L1 t892 x30_1) (l0_0.length:Int))=0
           ·rw [if_pos c40] at H
            have c40b0:((rd (rd_L1 t892 x30_1) (l0_0.length:Int))==0)=true:=beq_iff_eq.mpr c40
            have c40b1:((rd (rd_L1 t892 x30_1) (l0_0.length:Int)) !=0)=false:=bne_eq_false_iff_eq.mpr c40
            clear c40
            have H':=Aside0.mk H
            clear H
            have p903:0≤(x30_1:Int):=of_decide_eq_true (by first|(with_reducible assumption)|assumption)
            have q903:x30_1< (t892.length:Int):=of_decide_eq_true (by first|(with_reducible assumption)|assumption)
            obtain ⟨ad903,A903_0,c903_0,e903,hx903_0,hl903_0,hi903_0⟩:=at_L1 (Kd.N_reads' HO_28.out).2.2 x30_1 p903 q903
            cases e903
            obtain ⟨ce903,hce903,hMe903,hcc903⟩:=Kd.N_get HO_28.out [] x30_1 p903 (by first|exact q903|exact of_decide_eq_true (by first|(with_reducible assumption)|assumption)|(have e_:=(Kd.N_reads' HO_28.out).1;omega))
            obtain ⟨ua903_0,uc903_0,rfl,ul903_0,ge903_0⟩:=Kd.FK_slice_open hMe903
            have hv903_0:=hcc903 0 _ rfl
            rw [Nat.add_zero,show ((Kd.slice 3 (Kd.int .i64))).sz=1 from rfl,Nat.mul_one] at hv903_0
            replace hv903_0:=Option.some.inj (hv903_0.symm.trans hx903_0)
            injection hv903_0 with hva_ hvn_ hvc_
            rw [hva_] at ge903_0
            rw [hvc_] at ul903_0
            have HL903_0:=Aside0.mk (show Kd.V (Kd.int .i64) 3 _ w.heap.size _ _ (rd_L1 t892 x30_1) from Kd.V_mk ul903_0 ge903_0)
            clear hva_ hvn_ hvc_ ge903_0 ul903_0;clear hcc903 hce903
            have HR903_0:=Aside0.mk hi903_0
            have HC903_0:=Aside0.mk hl903_0
            clear hi903_0 hl903_0
            replace p903:=eq_true p903
            replace q903:=eq_true q903
            have hnb41:=NB899_888.out
            have hnc41:=NB888_899.out
            have hcz42_0:wr.cell? ⟨gb899,0,none⟩=some (.slice (some ad903) t892.length co16):=(blk_cell BK899.out 0).trans rfl
            have hcz42_1:wr.cell? ⟨gb899,1,none⟩=some (.slice Ao18 t895.length co18):=(blk_cell BK899.out 1).trans rfl
            have hcz42_2:wr.cell? ⟨gb899,2,none⟩=some (.int .i64 t898):=(blk_cell BK899.out 2).trans rfl
            have hfz42_0:=blk_frozen BK899.out 0
            have hfz42_1:=blk_frozen BK899.out 1
            have hfz42_2:=blk_frozen BK899.out 2
            have p907:0≤((l0_0.length:Int):Int):=of_decide_eq_true (by first|(with_reducible assumption)|assumption)
            have q907:(l0_0.length:Int)< ((rd_L1 t892 x30_1).length:Int):=of_decide_eq_true (by first|(with_reducible assumption)|assumption)
            obtain ⟨ad907,e907,hx907_0⟩:=Kd.at_int (by exact HR903_0.out) (l0_0.length:Int) p907 q907
            cases e907
            (try simp only [Go.IntWalk.toNatUp] at hx907_0)
            replace p907:=eq_true p907
            replace q907:=eq_true q907
            go_wp2
            go_roundg k1
            case measure=>have:=HK1.out;omega
            case rel=>exact ⟨(x10_1),(wrap64 (x30_1+1)),(by first|rfl|(simp;done)|(simp [*];done)),H',⟨by have:=HK1.out;omega⟩,⟨by exact HO_10.out⟩,⟨by exact HO_28.out⟩,⟨by exact HO_900000.out⟩,⟨by exact HO_900001.out⟩,⟨by exact BK888.out⟩,⟨by exact BK899.out⟩,⟨by exact HB.out⟩⟩
           ·rw [if_neg c40] at H
            have c40b0:((rd (rd_L1 t892 x30_1) (l0_0.length:Int))==0)=false:=beq_eq_false_iff_ne.mpr c40
            have c40b1:((rd (rd_L1 t892 x30_1) (l0_0.length:Int)) !=0)=true:=bne_iff_ne.mpr c40
            simp only [Option.some.injEq,Prod.mk.injEq] at H
            obtain ⟨rfl,rfl⟩:=H
            have p903:0≤(x30_1:Int):=of_decide_eq_true (by first|(with_reducible assumption)|assumption)
            have q903:x30_1< (t892.length:Int):=of_decide_eq_true (by first|(with_reducible assumption)|assumption)
            obtain ⟨ad903,A903_0,c903_0,e903,hx903_0,hl903_0,hi903_0⟩:=at_L1 (Kd.N_reads' HO_28.out).2.2 x30_1 p903 q903
            cases e903
            obtain ⟨ce903,hce903,hMe903,hcc903⟩:=Kd.N_get HO_28.out [] x30_1 p903 (by first|exact q903|exact of_decide_eq_true (by first|(with_reducible assumption)|assumption)|(have e_:=(Kd.N_reads' HO_28.out).1;omega))
            obtain ⟨ua903_0,uc903_0,rfl,ul903_0,ge903_0⟩:=Kd.FK_slice_open hMe903
            have hv903_0:=hcc903 0 _ rfl
            rw [Nat.add_zero,show ((Kd.slice 3 (Kd.int .i64))).sz=1 from rfl,Nat.mul_one] at hv903_0
            replace hv903_0:=Option.some.inj (hv903_0.symm.trans hx903_0)
            injection hv903_0 with hva_ hvn_ hvc_
            rw [hva_] at ge903_0
            rw [hvc_] at ul903_0
            have HL903_0:=Aside0.mk (show Kd.V (Kd.int .i64) 3 _ w.heap.size _ _ (rd_L1 t892 x30_1) from Kd.V_mk ul903_0 ge903_0)
            clear hva_ hvn_ hvc_ ge903_0 ul903_0;clear hcc903 hce903
            have HR903_0:=Aside0.mk hi903_0
            have HC903_0:=Aside0.mk hl903_0
            clear hi903_0 hl903_0
            replace p903:=eq_true p903
            replace q903:=eq_true q903
            have hnb43:=NB899_888.out
            have hnc43:=NB888_899.out
            have hcz44_0:wr.cell? ⟨gb899,0,none⟩=some (.slice (some ad903) t892.length co16):=(blk_cell BK899.out 0).trans rfl
            have hcz44_1:wr.cell? ⟨gb899,1,none⟩=some (.slice Ao18 t895.length co18):=(blk_cell BK899.out 1).trans rfl
            have hcz44_2:wr.cell? ⟨gb899,2,none⟩=some (.int .i64 t898):=(blk_cell BK899.out 2).trans rfl
            have hfz44_0:=blk_frozen BK899.out 0
            have hfz44_1:=blk_frozen BK899.out 1
            have hfz44_2:=blk_frozen BK899.out 2
            have p907:0≤((l0_0.length:Int):Int):=of_decide_eq_true (by first|(with_reducible assumption)|assumption)
            have q907:(l0_0.length:Int)< ((rd_L1 t892 x30_1).length:Int):=of_decide_eq_true (by first|(with_reducible assumption)|assumption)
            obtain ⟨ad907,e907,hx907_0⟩:=Kd.at_int (by exact HR903_0.out) (l0_0.length:Int) p907 q907
            cases e907
            (try simp only [Go.IntWalk.toNatUp] at hx907_0)
            replace p907:=eq_true p907
            replace q907:=eq_true q907
            go_wp2
            go_ret2
            exact ⟨_,by first|rfl|(simp [errW_none,errW_some]<;>rfl)|(simp [*,errW_none,errW_some]<;>rfl),by first|exact Kd.R_nil _ _ _ _ _|exact Kd.N_nil _ _ _ _ _|exact Kd.V_nil _ _ _ _ _|exact Kd.Q_nil _ _ _ _ _|exact Kd.S_nil _ _ _ _ _,by exact HB.out⟩
          ·rw [if_neg c39] at H
           exact absurd H (by simp)
         ·rw [if_neg c38] at H
          exact absurd H (by simp)
       ·rw [if_neg c27] at H
        exact absurd H (by simp)
      ·rw [if_neg c26] at H
       exact absurd H (by simp)
     ·rw [if_neg c25] at H
      have c25b0:decide (x30_1< (t892.length:Int))=false:=decide_eq_false c25
      clear c25
      replace H:=Option.bind_eq_some_iff.mp H
      obtain ⟨t908,A450,H⟩:=H
      replace H:((impl_firstPlaces.f k1 t908).bind fun t911=>(impl_Graph_solveColours.l1 k1 a1 x10_1 t908 t911 (t911.length:Int) 0))=some (r1,r2):=H
      have A45:=Aside0.mk A450
      clear A450
      replace H:=Option.bind_eq_some_iff.mp H
      obtain ⟨t911,A460,H⟩:=H
      replace H:(impl_Graph_solveColours.l1 k1 a1 x10_1 t908 t911 (t911.length:Int) 0)=some (r1,r2):=H
      have A46:=Aside0.mk A460
      clear A460
      have H':=Aside0.mk H
      clear H
      have hnb47:=NB888_899.out
      have hnc47:=NB899_888.out
      have hcz48_0:wr.cell? ⟨gb888,0,none⟩=some (.slice A0_0 l0_0.length c0_0):=(blk_cell BK888.out 0).trans rfl
      have hcz48_1:wr.cell? ⟨gb888,1,none⟩=some (.bool a0_1):=(blk_cell BK888.out 1).trans rfl
      have hfz48_0:=blk_frozen BK888.out 0
      have hfz48_1:=blk_frozen BK888.out 1
      go_wp2_with (first|((with_reducible refine gate_callee (f:=65) rfl ?_);refine goesL_ (some 59) rfl rfl Try.func65 (by kernel_rfl) rfl #[.agg #[.slice A0_0 l0_0.length c0_0,.bool a0_1],.int .i64 a1] rfl (by (try simp only [List.map_toArray,List.map_cons,List.map_nil]);first|done|rfl|(simp only [List.length_drop,List.length_take];rfl)) ?_;(with_reducible refine (impl_Graph_quietColours.calls k1 _ _ l0_0 a0_1 a1 t908 _ ?side1 ?side2 A45.out).mono ?_);(case side1=>exact (Kd.C_below HR0_0.out HB.out));(case side2=>exact HC0_0.out);rintro e w49 ⟨v909,rfl,ho0,hb⟩;refine ⟨_,rfl,?_⟩;have n0_:=Aside0.mk (Kd.R_below (by exact HO_10.out) hb);have n1_:=Aside0.mk (Kd.N_elder' (by exact HO_28.out) (Kd.N_base ho0) hb);have n2_:=Aside0.mk (Kd.N_elder' (by exact HO_900000.out) (Kd.N_base ho0) hb);have n3_:=Aside0.mk (Kd.R_below (by exact HO_900001.out) hb);have n4_:=Aside0.mk (Kd.N_lower (Kd.N_mono (ok':=fun k_=>some k_≠(v901:Value).ownBlock∧some k_≠(.slice Ao16 t892.length co16:Value).ownBlock∧some k_≠(.slice Ao16 t892.length co16:Value).ownBlock∧some k_≠(.slice Ao18 t895.length co18:Value).ownBlock∧k_≠gb888∧k_≠gb899) ho0 (fun k_ hk_=>⟨(Kd.fresh' (Kd.R_lt (by exact HO_10.out)) k_ hk_),(Kd.fresh' (Kd.N_lt (by exact HO_28.out)) k_ hk_),(Kd.fresh' (Kd.N_lt (by exact HO_900000.out)) k_ hk_),(Kd.fresh' (Kd.R_lt (by exact HO_900001.out)) k_ hk_),(Kd.freshB (g:=gb888) (o:=.cells #[.slice A0_0 l0_0.length c0_0,.bool a0_1] 28 (0,0)) (by exact BK888.out) k_ hk_),(Kd.freshB (g:=gb899) (o:=.cells #[.slice Ao16 t892.length co16,.slice Ao18 t895.length co18,.int .i64 t898] 60 (0,0)) (by exact BK899.out) k_ hk_)⟩)) (below_size (by exact HB.out)));have n5_:=Aside0.mk (blk_below (g:=gb888) (o:=.cells #[.slice A0_0 l0_0.length c0_0,.bool a0_1] 28 (0,0)) (by exact BK888.out) hb);have n6_:=Aside0.mk (blk_below (g:=gb899) (o:=.cells #[.slice Ao16 t892.length co16,.slice Ao18 t895.length co18,.int .i64 t898] 60 (0,0)) (by exact BK899.out) hb);have n7_:=Aside0.mk (below_step (by exact HB.out) hb);clear HO_10;clear HO_28;clear HO_900000;clear HO_900001;clear BK888;clear BK899;clear HB;have HO_10:=n0_;have HO_28:=n1_;have HO_900000:=n2_;have HO_900001:=n3_;have HO910:=n4_;have BK888:=n5_;have BK899:=n6_;have HB:=n7_;clear n0_ n1_ n2_ n3_ n4_ n5_ n6_ n7_;(try clear hb);(try clear hb2);(try clear hk);(try clear hi);(try clear ho0);obtain ⟨Ao50,co50,eo50⟩:=Kd.N_slice HO910.out;subst eo50)|((with_reducible refine gate_callee (f:=91) rfl ?_);refine goesL_ (some 61) rfl rfl Try.func91 (by kernel_rfl) rfl #[.slice Ao50 t908.length co50] rfl (by (try simp only [List.map_toArray,List.map_cons,List.map_nil]);first|done|rfl|(simp only [List.length_drop,List.length_take];rfl)) ?_;(with_reducible refine (impl_firstPlaces.calls k1 _ _ t908 t911 _ ?side1 ?side2 A46.out).mono ?_);(case side1=>exact (Kd.N_reads' HO910.out).2.2);(case side2=>exact (Kd.N_reads' HO910.out).2.1);rintro e w51 ⟨v912,rfl,ho0,hb⟩;refine ⟨_,rfl,?_⟩;have n0_:=Aside0.mk (Kd.R_elder' (by exact HO_10.out) (Kd.R_base ho0) hb);have n1_:=Aside0.mk (Kd.N_elder' (by exact HO_28.out) (Kd.R_base ho0) hb);have n2_:=Aside0.mk (Kd.N_elder' (by exact HO_900000.out) (Kd.R_base ho0) hb);have n3_:=Aside0.mk (Kd.R_elder' (by exact HO_900001.out) (Kd.R_base ho0) hb);have n4_:=Aside0.mk (Kd.N_elder' (by exact HO910.out) (Kd.R_base ho0) hb);have n5_:=Aside0.mk (Kd.R_lower (Kd.R_new' (Kd.R_new' ho0 (Kd.R_lt (by exact HO_10.out))) (Kd.R_lt (by exact HO_900001.out))) (below_size (by exact HB.out)));have n6_:=Aside0.mk (blk_below (g:=gb888) (o:=.cells #[.slice A0_0 l0_0.length c0_0,.bool a0_1] 28 (0,0)) (by exact BK888.out) hb);have n7_:=Aside0.mk (blk_below (g:=gb899) (o:=.cells #[.slice Ao16 t892.length co16,.slice Ao18 t895.length co18,.int .i64 t898] 60 (0,0)) (by exact BK899.out) hb);have n8_:=Aside0.mk (below_step (by exact HB.out) hb);clear HO_10;clear HO_28;clear HO_900000;clear HO_900001;clear HO910;clear BK888;clear BK899;clear HB;have HO_10:=n0_;have HO_28:=n1_;have HO_900000:=n2_;have HO_900001:=n3_;have HO910:=n4_;have HO913:=n5_;have BK888:=n6_;have BK899:=n7_;have HB:=n8_;clear n0_ n1_ n2_ n3_ n4_ n5_ n6_ n7_ n8_;(try clear hb);(try clear hb2);(try clear hk);(try clear hi);(try clear ho0);obtain ⟨Ao52,co52,eo52⟩:=Kd.R_slice HO913.out;subst eo52))
      go_loopg [10,63] k1 (fun kq v10 v63 w'=>∃ (x10_2:List Int) (x63_2:Int),v63=.int .i64 x63_2∧Aside0 (impl_Graph_solveColours.l1 kq a1 x10_2 t908 t911 (t911.length:Int) x63_2=some (r1,r2))∧Aside0 (kq≤k1)∧Aside0 (Kd.R (Kd.int .i64) 3 w' w.heap.size (fun k_=>some k_≠((.slice Ao52 t911.length co52):Value).ownBlock∧some k_≠((.slice Ao18 t895.length co18):Value).ownBlock) v10 x10_2)∧Aside0 (Kd.N (Kd.slice 3 (Kd.int .i64)) 22 w' w.heap.size (fun k_=>some k_≠(v10:Value).ownBlock∧some k_≠((.slice Ao52 t911.length co52):Value).ownBlock∧some k_≠((.slice Ao16 t892.length co16):Value).ownBlock∧some k_≠((.slice Ao18 t895.length co18):Value).ownBlock∧k_≠gb888∧k_≠gb899) (.slice Ao50 t908.length co50) t908)∧Aside0 (Kd.R (Kd.int .i64) 3 w' w.heap.size (fun k_=>some k_≠(v10:Value).ownBlock∧some k_≠((.slice Ao18 t895.length co18):Value).ownBlock) (.slice Ao52 t911.length co52) t911)∧Aside0 (Kd.N (Kd.slice 3 (Kd.int .i64)) 22 w' w.heap.size (fun k_=>some k_≠(v10:Value).ownBlock∧some k_≠((.slice Ao50 t908.length co50):Value).ownBlock∧some k_≠((.slice Ao52 t911.length co52):Value).ownBlock∧some k_≠((.slice Ao18 t895.length co18):Value).ownBlock∧k_≠gb888∧k_≠gb899) (.slice Ao16 t892.length co16) t892)∧Aside0 (Kd.R (Kd.int .i64) 3 w' w.heap.size (fun k_=>some k_≠(v10:Value).ownBlock∧some k_≠((.slice Ao52 t911.length co52):Value).ownBlock) (.slice Ao18 t895.length co18) t895)∧Aside0 (w'.heap[gb888]?=some (.cells #[(.slice A0_0 l0_0.length c0_0),.bool a0_1] 28 (0,0)))∧Aside0 (w'.heap[gb899]?=some (.cells #[(.slice Ao16 t892.length co16),(.slice Ao18 t895.length co18),.int .i64 t898] 60 (0,0)))∧Aside0 (Below w.heap.size w w'))
      case atStart=>exact ⟨(x10_1),(0),(by first|rfl|(simp;done)|(simp [*];done)),H',⟨Nat.le_refl _⟩,⟨by exact Kd.R_mono HO_10.out (fun _ hk=>⟨hk.2,hk.1⟩)⟩,⟨by exact Kd.N_mono HO910.out (fun _ hk=>⟨hk.1.1,⟨hk.2,⟨hk.1.2.2.1,⟨hk.1.2.2.2.1,⟨hk.1.2.2.2.2.1,hk.1.2.2.2.2.2⟩⟩⟩⟩⟩)⟩,⟨by exact Kd.R_mono HO913.out (fun _ hk=>⟨hk.1.2,hk.2⟩)⟩,⟨by exact Kd.N_mono HO_900000.out (fun _ hk=>⟨hk.1.1.1,⟨hk.1.2,⟨hk.2,⟨hk.1.1.2.1,⟨hk.1.1.2.2.1,hk.1.1.2.2.2⟩⟩⟩⟩⟩)⟩,⟨by exact HO_900001.out⟩,⟨by exact BK888.out⟩,⟨by exact BK899.out⟩,⟨by exact HB.out⟩⟩
      case round=>
       clear H'
       (try clear c2);(try clear p2);(try clear c3);(try clear p3);(try clear q3);(try clear hx3);(try clear hf3);(try clear c4);(try clear c6);(try clear c6b0);(try clear c6b1);(try clear p6);(try clear c7);(try clear c7b0);(try clear c7b1);(try clear c9);(try clear p9);(try clear q9);(try clear hx9);(try clear c23);(try clear c25);(try clear c25b0);(try clear c26);(try clear c26b0);(try clear c27);(try clear c27b0);(try clear c28);(try clear c28b0);(try clear c29);(try clear c29b0);(try clear c29b1);(try clear c30);(try clear c30b0);(try clear c30b1);(try clear c31);(try clear c31b0);(try clear c32);(try clear c32b0);(try clear p33);(try clear q33);(try clear hx33);(try clear hf33);(try clear c34);(try clear c38);(try clear c38b0);(try clear c38b1);(try clear c39);(try clear c39b0);(try clear c39b1);(try clear c40);(try clear c40b0);(try clear c40b1);(try clear c41);(try clear c43);(try clear c47);(try clear hcz24_0);(try clear hcz24_1);(try clear hcz24_2);(try clear hcz35_0);(try clear hcz35_1);(try clear hcz35_2);(try clear hcz42_0);(try clear hcz42_1);(try clear hcz42_2);(try clear hcz44_0);(try clear hcz44_1);(try clear hcz44_2);(try clear hcz48_0);(try clear hcz48_1);(try clear hcz9_0);(try clear hcz9_1);(try clear hfz24_0);(try clear hfz24_1);(try clear hfz24_2);(try clear hfz35_0);(try clear hfz35_1);(try clear hfz35_2);(try clear hfz42_0);(try clear hfz42_1);(try clear hfz42_2);(try clear hfz44_0);(try clear hfz44_1);(try clear hfz44_2);(try clear hfz48_0);(try clear hfz48_1);(try clear hfz9_0);(try clear hfz9_1);(try clear hx33_0);(try clear hx903_0);(try clear hx904_0);(try clear hx905_0);(try clear hx907_0);(try clear p2);(try clear p33);(try clear p903);(try clear p904);(try clear p905);(try clear p907);(try clear q33);(try clear q903);(try clear q904);(try clear q905);(try clear q907)
       obtain ⟨x10_2,x63_2,rfl,HA,HK2,HO_10,HO_13,HO_61,HO_900000,HO_900001,BK888,BK899,HB⟩:=hrel
       cases gk with
       |zero=>exact absurd HA.out (by simp [impl_Graph_solveColours.l1])
       |succ k2=>
        have H:=HA.out
        clear HA
        simp only [impl_Graph_solveColours.l1] at H
        by_cases c53:x63_2< (t911.length:Int)
        ·rw [if_pos c53] at H
         have c53b0:decide (x63_2< (t911.length:Int))=true:=decide_eq_true c53
         clear c53
         by_cases c54:0≤x63_2
         ·rw [if_pos c54] at H
          have c54b0:decide (0≤x63_2)=true:=decide_eq_true c54
          clear c54
          by_cases c55:x63_2< (t911.length:Int)
          ·rw [if_pos c55] at H
           have c55b0:decide (x63_2< (t911.length:Int))=true:=decide_eq_true c55
           clear c55
           by_cases c56:x63_2< (t908.length:Int)
           ·rw [if_pos c56] at H
            have c56b0:decide (x63_2< (t908.length:Int))=true:=decide_eq_true c56
            clear c56
            by_cases c57:0≤(rd t911 x63_2)
            ·rw [if_pos c57] at H
             have c57b0:decide (0≤(rd t911 x63_2))=true:=decide_eq_true c57
             clear c57
             by_cases c58:(rd t911 x63_2)< (x10_2.length:Int)
             ·rw [if_pos c58] at H
              have c58b0:decide ((rd t911 x63_2)< (x10_2.length:Int))=true:=decide_eq_true c58
              clear c58
              replace H:=Option.bind_eq_some_iff.mp H
              obtain ⟨t917,A590,H⟩:=H
              replace H:(impl_Graph_solveColours.l1 k2 a1 t917 t908 t911 (t911.length:Int) (wrap64 (x63_2+1)))=some (r1,r2):=H
              have A59:=Aside0.mk A590
              clear A590
              have H':=Aside0.mk H
              clear H
              have p914:0≤(x63_2:Int):=of_decide_eq_true (by first|(with_reducible assumption)|assumption)
              have q914:x63_2< (t911.length:Int):=of_decide_eq_true (by first|(with_reducible assumption)|assumption)
              obtain ⟨ad914,e914,hx914_0⟩:=Kd.at_int (Kd.R_reads' HO_61.out).2.2 x63_2 p914 q914
              cases e914
              replace p914:=eq_true p914
              replace q914:=eq_true q914
              try go_wp2
              have n0_:=Aside0.mk (Kd.R_drew HO_10.out)
              have n1_:=Aside0.mk (Kd.N_drew HO_13.out)
              have n2_:=Aside0.mk (Kd.R_drew HO_61.out)
              have n3_:=Aside0.mk (Kd.N_drew HO_900000.out)
              have n4_:=Aside0.mk (Kd.R_drew HO_900001.out)
              have n5_:=Aside0.mk (blk_drew BK888.out)
              have n6_:=Aside0.mk (blk_drew BK899.out)
              have n7_:=Aside0.mk (below_drew1 HB.out)
              clear HO_10;clear HO_13;clear HO_61;clear HO_900000;clear HO_900001;clear BK888;clear BK899;clear HB
              have HO_10:=n0_
              have HO_13:=n1_
              have HO_61:=n2_
              have HO_900000:=n3_
              have HO_900001:=n4_
              have BK888:=n5_
              have BK899:=n6_
              have HB:=n7_
              clear n0_ n1_ n2_ n3_ n4_ n5_ n6_ n7_
              have p915:0≤(x63_2:Int):=of_decide_eq_true (by first|(with_reducible assumption)|assumption)
              have q915:x63_2< (t908.length:Int):=of_decide_eq_true (by first|(with_reducible assumption)|assumption)
              obtain ⟨ad915,A915_0,c915_0,e915,hx915_0,hl915_0,hi915_0⟩:=at_L1 (Kd.N_reads' HO_13.out).2.2 x63_2 p915 q915
              cases e915
              obtain ⟨ce915,hce915,hMe915,hcc915⟩:=Kd.N_get HO_13.out [] x63_2 p915 (by first|exact q915|exact of_decide_eq_true (by first|(with_reducible assumption)|assumption)|(have e_:=(Kd.N_reads' HO_13.out).1;omega))
              obtain ⟨ua915_0,uc915_0,rfl,ul915_0,ge915_0⟩:=Kd.FK_slice_open hMe915
              have hv915_0:=hcc915 0 _ rfl
              rw [Nat.add_zero,show ((Kd.slice 3 (Kd.int .i64))).sz=1 from rfl,Nat.mul_one] at hv915_0
              replace hv915_0:=Option.some.inj (hv915_0.symm.trans hx915_0)
              injection hv915_0 with hva_ hvn_ hvc_
              rw [hva_] at ge915_0
              rw [hvc_] at ul915_0
              have HL915_0:=Aside0.mk (show Kd.V (Kd.int .i64) 3 _ w.heap.size _ _ (rd_L1 t908 x63_2) from Kd.V_mk ul915_0 ge915_0)
              clear hva_ hvn_ hvc_ ge915_0 ul915_0;clear hcc915 hce915
              have HR915_0:=Aside0.mk hi915_0
              have HC915_0:=Aside0.mk hl915_0
              clear hi915_0 hl915_0
              replace p915:=eq_true p915
              replace q915:=eq_true q915
              obtain ⟨Ao61,co61,eo61⟩:=Kd.R_slice HO_10.out
              (first|subst eo61|(injection eo61 with f1_ f2_ f3_;have f4_:=f1_.symm;have f5_:=f3_.symm;clear f1_ f2_ f3_;subst f4_;subst f5_))
              have p916:0≤((rd t911 x63_2):Int):=of_decide_eq_true (by first|(with_reducible assumption)|assumption)
              have q916:(rd t911 x63_2)< (x10_2.length:Int):=of_decide_eq_true (by first|(with_reducible assumption)|assumption)
              obtain ⟨ad916,e916,hx916_0⟩:=Kd.at_int (Kd.R_reads' HO_10.out).2.2 (rd t911 x63_2) p916 q916
              cases e916
              replace p916:=eq_true p916
              replace q916:=eq_true q916
              refine start_ (n:=13) (S:=fun w'=>w'.cell? (ad915.add (x63_2).toNat)=some (.slice A915_0 (rd_L1 t908 x63_2).length c915_0)∧w'.cell? (ad916.add ((rd t911 x63_2)).toNat)=some (.int .i64 (rd x10_2 (rd t911 x63_2)))) (ds:=[]) #[false,false,false,false,false,false,false,false,false,false,false,false,false] (by kernel_rfl) rfl rfl ⟨hx915_0,hx916_0⟩ (fun hHeld=>?_);refine with_tabW impl_Graph_solveColours.tab16 impl_Graph_solveColours.bits16 (fun HT_ HW_=>?_)
              generalize wr.drew=w60 at HO_10 HO_13 HO_61 HO_900000 HO_900001 BK888 BK899 HB HL915_0 HR915_0 hx915_0 hx916_0 hHeld ⊢
              refine pure_ (i:=0) (N:=some 68) (v:=?_) (a':=?_) #[true,false,false,false,false,false,false,false,false,false,false,false,false] rfl rfl (any_of HT_.out (by kernel_rfl)) (fun _ _ _ h=>h) (Or.inl ⟨by rfl,?_⟩) ?_ ?_
              rotate_left
              ·intro w'
               go_simp
               with_reducible rfl
              rotate_left
              ·simp only [Act.put,List.setIfInBounds_toArray,List.set_cons_zero,List.set_cons_succ,i64_w,i32_w]
               rfl
              refine pure_ (i:=1) (N:=some 69) (v:=?_) (a':=?_) #[true,true,false,false,false,false,false,false,false,false,false,false,false] rfl rfl (any_of HT_.out (by kernel_rfl)) (fun _ _ _ h=>h) (Or.inl ⟨by rfl,?_⟩) ?_ ?_
              rotate_left
              ·intro w'
               go_simp
               with_reducible rfl
              rotate_left
              ·simp only [Act.put,List.setIfInBounds_toArray,List.set_cons_zero,List.set_cons_succ,i64_w,i32_w]
               rfl
              refine pure_ (i:=2) (N:=some 70) (v:=?_) (a':=?_) #[true,true,true,false,false,false,false,false,false,false,false,false,false] rfl rfl (any_of HT_.out (by kernel_rfl)) (fun _ _ _ h=>h) (Or.inl ⟨by rfl,?_⟩) ?_ ?_
              rotate_left
              ·intro w'
               go_simp
               with_reducible rfl
              rotate_left
              ·simp only [Act.put,List.setIfInBounds_toArray,List.set_cons_zero,List.set_cons_succ,i64_w,i32_w]
               rfl
              refine pure_ (i:=3) (N:=some 71) (v:=?_) (a':=?_) #[true,true,true,true,false,false,false,false,false,false,false,false,false] rfl rfl (any_of HT_.out (by kernel_rfl)) (fun _ _ _ h=>h) (Or.inl ⟨by rfl,?_⟩) ?_ ?_
              rotate_left
              ·intro w'
               go_simp
               with_reducible rfl
              rotate_left
              ·simp only [Act.put,List.setIfInBounds_toArray,List.set_cons_zero,List.set_cons_succ,i64_w,i32_w]
               rfl
              refine pure_ (i:=5) (N:=some 73) (v:=?_) (a':=?_) #[true,true,true,true,false,true,false,false,false,false,false,false,false] rfl rfl (any_of HT_.out (by kernel_rfl)) (fun _ _ _ h=>h) (Or.inl ⟨by rfl,?_⟩) ?_ ?_
              rotate_left
              ·intro w'
               go_simp
               with_reducible rfl
              rotate_left
              ·simp only [Act.put,List.setIfInBounds_toArray,List.set_cons_zero,List.set_cons_succ,i64_w,i32_w]
               rfl
              refine pure_ (i:=6) (N:=some 74) (v:=?_) (a':=?_) #[true,true,true,true,false,true,true,false,false,false,false,false,false] rfl rfl (any_of HT_.out (by kernel_rfl)) (fun _ _ _ h=>h) (Or.inl ⟨by rfl,?_⟩) ?_ ?_
              rotate_left
              ·intro w'
               go_simp
               with_reducible rfl
              rotate_left
              ·simp only [Act.put,List.setIfInBounds_toArray,List.set_cons_zero,List.set_cons_succ,i64_w,i32_w]
               rfl
              refine pure_ (i:=7) (N:=some 75) (v:=?_) (a':=?_) #[true,true,true,true,false,true,true,true,false,false,false,false,false] rfl rfl (any_of HT_.out (by kernel_rfl)) (fun _ _ _ h=>h) (Or.inl ⟨by rfl,?_⟩) ?_ ?_
              rotate_left
              ·intro w'
               go_simp
               with_reducible rfl
              rotate_left
              ·simp only [Act.put,List.setIfInBounds_toArray,List.set_cons_zero,List.set_cons_succ,i64_w,i32_w]
               rfl
              refine pure_ (i:=10) (N:=some 78) (v:=?_) (a':=?_) #[true,true,true,true,false,true,true,true,false,false,true,false,false] rfl rfl (any_of HT_.out (by kernel_rfl)) (fun _ _ _ h=>h) (Or.inl ⟨by rfl,?_⟩) ?_ ?_
              rotate_left
              ·intro w'
               go_simp
               with_reducible rfl
              rotate_left
              ·simp only [Act.put,List.setIfInBounds_toArray,List.set_cons_zero,List.set_cons_succ,i64_w,i32_w]
               rfl
              refine take_ (i:=4) (N:=some 72) (v:=?_) (a':=?_) #[true,true,true,true,true,true,true,true,false,false,true,false,false] rfl rfl (take_ofW HT_.out HW_.out (by kernel_rfl)) (fun _ _ _ h=>h) (Or.inl ⟨by rfl,?_⟩) hHeld ?_ ?_
              rotate_left
              ·rintro w' ⟨s0,s1⟩
               (try simp only [Int.toNat_natCast] at s0)
               (try simp only [Int.toNat_natCast] at s1)
               go_simp
               with_reducible rfl
              rotate_left
              ·simp only [Act.put,List.setIfInBounds_toArray,List.set_cons_zero,List.set_cons_succ,i64_w,i32_w]
               rfl
              refine take_ (i:=8) (N:=some 76) (v:=?_) (a':=?_) #[true,true,true,true,true,true,true,true,true,false,true,false,false] rfl rfl (take_ofW HT_.out HW_.out (by kernel_rfl)) (fun _ _ _ h=>h) (Or.inl ⟨by rfl,?_⟩) hHeld ?_ ?_
              rotate_left
              ·rintro w' ⟨s0,s1⟩
               (try simp only [Int.toNat_natCast] at s0)
               (try simp only [Int.toNat_natCast] at s1)
               go_simp
               with_reducible rfl
              rotate_left
              ·simp only [Act.put,List.setIfInBounds_toArray,List.set_cons_zero,List.set_cons_succ,i64_w,i32_w]
               rfl
              refine pure_ (i:=9) (N:=some 77) (v:=?_) (a':=?_) #[true,true,true,true,true,true,true,true,true,true,true,false,false] rfl rfl (any_of HT_.out (by kernel_rfl)) (fun _ _ _ h=>h) (Or.inl ⟨by rfl,?_⟩) ?_ ?_
              rotate_left
              ·intro w'
               go_simp
               with_reducible rfl
              rotate_left
              ·simp only [Act.put,List.setIfInBounds_toArray,List.set_cons_zero,List.set_cons_succ,i64_w,i32_w]
               rfl
              refine one_ (i:=11) (N:=some 79) #[true,true,true,true,true,true,true,true,true,true,true,true,false] rfl rfl (one_of HT_.out (by kernel_rfl)) (by decide) (fun K hK=>?_)
              refine goes_ Try.func92 (by kernel_rfl) rfl #[.slice (some ad916) x10_2.length co61,.slice A915_0 (rd_L1 t908 x63_2).length c915_0,.int .i64 (wrap64 (-(rd x10_2 (rd t911 x63_2)))),.int .i64 a1] (by rfl) rfl rfl (by (try simp only [List.map_toArray,List.map_cons,List.map_nil]);first|done|rfl|(simp only [List.length_drop,List.length_take];rfl)) ?_
              with_reducible refine (impl_added.calls k2 _ _ x10_2 _ _ (rd_L1 t908 x63_2) (wrap64 (-(rd x10_2 (rd t911 x63_2)))) a1 t917 _ ?side1 ?side2 ?side3 ?side4 A59.out).mono ?_
              (case side1=>exact (Kd.R_reads' HO_10.out).2.2)
              (case side2=>exact (Kd.R_reads' HO_10.out).2.1)
              (case side3=>exact HR915_0.out)
              (case side4=>exact HC915_0.out)
              rintro e w62 ⟨v918,rfl,ho0,hb⟩
              have HS0_:=(hb.cell (World.block_lt_of_cell? _ _ (hHeld.1))).trans (hHeld.1)
              have HS1_:=(hb.cell (World.block_lt_of_cell? _ _ (hHeld.2))).trans (hHeld.2)
              refine ⟨_,rfl,?_⟩
              have n0_:=Aside0.mk (Kd.R_elder' (by exact HO_10.out) (Kd.R_base ho0) hb)
              have n1_:=Aside0.mk (Kd.N_elder' (by exact HO_13.out) (Kd.R_base ho0) hb)
              have n2_:=Aside0.mk (Kd.R_elder' (by exact HO_61.out) (Kd.R_base ho0) hb)
              have n3_:=Aside0.mk (Kd.N_elder' (by exact HO_900000.out) (Kd.R_base ho0) hb)
              have n4_:=Aside0.mk (Kd.R_elder' (by exact HO_900001.out) (Kd.R_base ho0) hb)
              have n5_:=Aside0.mk (Kd.V_elder' (by exact HL915_0.out) (Kd.R_base ho0) hb)
              have n6_:=Aside0.mk (Kd.R_lower (Kd.R_new' (Kd.R_new' (Kd.R_new' ho0 (Kd.R_lt (by exact HO_10.out))) (Kd.R_lt (by exact HO_61.out))) (Kd.R_lt (by exact HO_900001.out))) (below_size (by exact HB.out)))
              have n7_:=Aside0.mk (blk_below (g:=gb888) (o:=.cells #[.slice A0_0 l0_0.length c0_0,.bool a0_1] 28 (0,0)) (by exact BK888.out) hb)
              have n8_:=Aside0.mk (blk_below (g:=gb899) (o:=.cells #[.slice Ao16 t892.length co16,.slice Ao18 t895.length co18,.int .i64 t898] 60 (0,0)) (by exact BK899.out) hb)
              have n9_:=Aside0.mk (Kd.C_below (by exact HR915_0.out) hb)
              have n10_:=Aside0.mk (below_step (by exact HB.out) hb)
              clear HO_10;clear HO_13;clear HO_61;clear HO_900000;clear HO_900001;clear HL915_0;clear BK888;clear BK899;clear HR915_0;clear HB
              have HO_10:=n0_
              have HO_13:=n1_
              have HO_61:=n2_
              have HO_900000:=n3_
              have HO_900001:=n4_
              have HL915_0:=n5_
              have HO919:=n6_
              have BK888:=n7_
              have BK899:=n8_
              have HR915_0:=n9_
              have HB:=n10_
              clear n0_ n1_ n2_ n3_ n4_ n5_ n6_ n7_ n8_ n9_ n10_;(try clear hb);(try clear hb2);(try clear hk);(try clear hi);(try clear ho0)
              refine hK.out _ _ ⟨HS0_,HS1_⟩ (fun hHeld=>?_)
              clear hK K
              refine norm_ (a':=?_) ?_ ?_
              rotate_left
              ·show Act.put _ (some 79) _=_
               simp only [Act.put,List.setIfInBounds_toArray,List.set_cons_zero,List.set_cons_succ,i64_w,i32_w]
               rfl
              refine pure_ (i:=12) (N:=some 10) (v:=?_) (a':=?_) #[true,true,true,true,true,true,true,true,true,true,true,true,true] rfl rfl (any_of HT_.out (by kernel_rfl)) (fun _ _ _ h=>h) (Or.inl ⟨by rfl,?_⟩) ?_ ?_
              rotate_left
              ·intro w'
               go_simp
               with_reducible rfl
              rotate_left
              ·simp only [Act.put,List.setIfInBounds_toArray,List.set_cons_zero,List.set_cons_succ,i64_w,i32_w]
               rfl
              refine done_ (done_of HT_.out (by kernel_rfl)) ?_
              try go_wp2
              go_roundg k2
              case measure=>have:=HK1.out;have:=HK2.out;omega
              case rel=>exact ⟨(t917),(wrap64 (x63_2+1)),(by first|rfl|(simp;done)|(simp [*];done)),H',⟨by have:=HK1.out;have:=HK2.out;omega⟩,⟨by exact Kd.R_mono HO919.out (fun _ hk=>⟨hk.1.2,hk.2⟩)⟩,⟨by exact Kd.N_mono HO_13.out (fun _ hk=>⟨hk.2,⟨hk.1.2.1,⟨hk.1.2.2.1,⟨hk.1.2.2.2.1,⟨hk.1.2.2.2.2.1,hk.1.2.2.2.2.2⟩⟩⟩⟩⟩)⟩,⟨by exact Kd.R_mono HO_61.out (fun _ hk=>⟨hk.2,hk.1.2⟩)⟩,⟨by exact Kd.N_mono HO_900000.out (fun _ hk=>⟨hk.2,⟨hk.1.2.1,⟨hk.1.2.2.1,⟨hk.1.2.2.2.1,⟨hk.1.2.2.2.2.1,hk.1.2.2.2.2.2⟩⟩⟩⟩⟩)⟩,⟨by exact Kd.R_mono HO_900001.out (fun _ hk=>⟨hk.2,hk.1.2⟩)⟩,⟨by exact BK888.out⟩,⟨by exact BK899.out⟩,⟨by exact HB.out⟩⟩
             ·rw [if_neg c58] at H
              exact absurd H (by simp)
            ·rw [if_neg c57] at H
             exact absurd H (by simp)
           ·rw [if_neg c56] at H
            exact absurd H (by simp)
          ·rw [if_neg c55] at H
           exact absurd H (by simp)
         ·rw [if_neg c54] at H
          exact absurd H (by simp)
        ·rw [if_neg c53] at H
         have c53b0:decide (x63_2< (t911.length:Int))=false:=decide_eq_false c53
         clear c53
         simp only [Option.some.injEq,Prod.mk.injEq] at H
         obtain ⟨rfl,rfl⟩:=H
         go_wp2
         go_ret2
         exact ⟨_,by first|rfl|(simp [errW_none,errW_some]<;>rfl)|(simp [*,errW_none,errW_some]<;>rfl),by exact Kd.R_mono HO_10.out (fun _ hk=>trivial),by exact HB.out⟩
  ·rw [if_neg c7] at H
   exact absurd H (by simp)
 ·rw [if_neg c6] at H
  exact absurd H (by simp)
end Go.Proofs.Ytbbdjoahdbjljaa.P
