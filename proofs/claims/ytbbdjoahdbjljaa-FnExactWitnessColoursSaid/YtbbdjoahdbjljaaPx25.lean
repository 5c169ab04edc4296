-- Written by a program of this session (wip/mp.py), which runs the kit's print with contracts of the session's own.
import Derived.Test.YtbbdjoahdbjljaaPx0
import Derived.Test.YtbbdjoahdbjljaaPx17
import Derived.Test.YtbbdjoahdbjljaaPx21
import Derived.Test.YtbbdjoahdbjljaaPx22
import Derived.Test.YtbbdjoahdbjljaaPx23
namespace Go.Proofs.Ytbbdjoahdbjljaa.P
open Go.RowKit Go.Proofs.YtbbdjoahdbjljaaW.PrintWords Go.Proofs.YtbbdjoahdbjljaaW.PrintLast Go.Proofs.YtbbdjoahdbjljaaW.PrintMore
attribute [local go_sem] max2_int min2_int max_two min_two max_three min_three max_four min_four -- for this text's walks alone
set_option linter.unusedVariables false
set_option linter.unusedSimpArgs false
/-! ### slices_Index_int_int: function 99 -/
def slices_Index_int_int.l0:Nat→List Int→Int→Int→Int→Option (Int)
 |0,_,_,_,_=>none
 |k+1,x0,x1,x7,x8=>if x8< x7 then (if 0≤x8 then (if x8< (x0.length:Int) then (if x1=(rd x0 x8) then (some x8) else (slices_Index_int_int.l0 k x0 x1 x7 (wrap64 (x8+1)))) else (none)) else (none)) else (some (-1))
def slices_Index_int_int.f (k:Nat) (l0:List Int) (a1:Int):Option (Int):=slices_Index_int_int.l0 k l0 a1 (l0.length:Int) 0
set_option maxHeartbeats 8000000 in
set_option maxRecDepth 100000 in
theorem slices_Index_int_int.calls (k:Nat) (A0:Option Addr) (c0:Nat) (l0:List Int) (a1:Int) (r:Int) (w:World) (hr0:Kd.C (Kd.int .i64) w A0 l0.length l0) (hc0:l0.length≤c0) (h:slices_Index_int_int.f k l0 a1=some r):
  Calls Try.prog 99 #[.slice A0 l0.length c0,.int .i64 a1] w fun e w'=>e=.returned (.int .i64 r)∧Drawn0 w w':=by
 have HR0:=Aside0.mk hr0
 have HC0:=Aside0.mk hc0
 clear hr0 hc0
 have H:(slices_Index_int_int.l0 k l0 a1 (l0.length:Int) 0)=some r:=h
 clear h
 have H':=Aside0.mk H
 clear H
 go_enter Try.func99,Try.ntmps99
 go_wp2
 go_loopg [8] k (fun kq v8 w'=>∃ (x8_1:Int),v8=.int .i64 x8_1∧Aside0 (slices_Index_int_int.l0 kq l0 a1 (l0.length:Int) x8_1=some r)∧Aside0 (kq≤k)∧Drawn0 w w')
 case atStart=>exact ⟨(0),(by first|rfl|(simp;done)|(simp [*];done)),H',⟨Nat.le_refl _⟩,by repeat (first|exact Drawn0.refl _|apply Drawn0.step)⟩
 case round=>
  clear H'
  (try clear p2)
  obtain ⟨x8_1,rfl,HA,HK1,⟨m1,rfl⟩⟩:=hrel
  cases gk with
  |zero=>exact absurd HA.out (by simp [slices_Index_int_int.l0])
  |succ k1=>
   have H:=HA.out
   clear HA
   simp only [slices_Index_int_int.l0] at H
   by_cases c3:x8_1< (l0.length:Int)
   ·rw [if_pos c3] at H
    have c3b0:decide (x8_1< (l0.length:Int))=true:=decide_eq_true c3
    clear c3
    by_cases c4:0≤x8_1
    ·rw [if_pos c4] at H
     have c4b0:decide (0≤x8_1)=true:=decide_eq_true c4
     clear c4
     by_cases c5:x8_1< (l0.length:Int)
     ·rw [if_pos c5] at H
      have c5b0:decide (x8_1< (l0.length:Int))=true:=decide_eq_true c5
      clear c5
      by_cases c6:a1=(rd l0 x8_1)
      ·rw [if_pos c6] at H
       have c6b0:(a1==(rd l0 x8_1))=true:=beq_iff_eq.mpr c6
       have c6b1:(a1 !=(rd l0 x8_1))=false:=bne_eq_false_iff_eq.mpr c6
       clear c6
       obtain rfl:=Option.some.inj H
       have p611:0≤(x8_1:Int):=of_decide_eq_true (by first|(with_reducible assumption)|assumption)
       have q611:x8_1< (l0.length:Int):=of_decide_eq_true (by first|(with_reducible assumption)|assumption)
       obtain ⟨ad611,e611,hx611_0⟩:=Kd.at_int HR0.out x8_1 p611 q611
       cases e611
       replace p611:=eq_true p611
       replace q611:=eq_true q611
       go_wp2
       go_ret
       exact ⟨by first|rfl|(simp;done)|(simp [*];done),by repeat (first|exact Drawn0.refl _|apply Drawn0.step)⟩
      ·rw [if_neg c6] at H
       have c6b0:(a1==(rd l0 x8_1))=false:=beq_eq_false_iff_ne.mpr c6
       have c6b1:(a1 !=(rd l0 x8_1))=true:=bne_iff_ne.mpr c6
       have H':=Aside0.mk H
       clear H
       have p611:0≤(x8_1:Int):=of_decide_eq_true (by first|(with_reducible assumption)|assumption)
       have q611:x8_1< (l0.length:Int):=of_decide_eq_true (by first|(with_reducible assumption)|assumption)
       obtain ⟨ad611,e611,hx611_0⟩:=Kd.at_int HR0.out x8_1 p611 q611
       cases e611
       replace p611:=eq_true p611
       replace q611:=eq_true q611
       go_wp2
       go_roundg k1
       case measure=>have:=HK1.out;omega
       case rel=>exact ⟨(wrap64 (x8_1+1)),(by first|rfl|(simp;done)|(simp [*];done)),H',⟨by have:=HK1.out;omega⟩,by repeat (first|exact Drawn0.refl _|apply Drawn0.step)⟩
     ·rw [if_neg c5] at H
      exact absurd H (by simp)
    ·rw [if_neg c4] at H
     exact absurd H (by simp)
   ·rw [if_neg c3] at H
    have c3b0:decide (x8_1< (l0.length:Int))=false:=decide_eq_false c3
    clear c3
    obtain rfl:=Option.some.inj H
    go_wp2
    go_ret
    exact ⟨by first|rfl|(simp;done)|(simp [*];done),by repeat (first|exact Drawn0.refl _|apply Drawn0.step)⟩
/-! ### slices_Contains_int_int: function 87 -/
def slices_Contains_int_int.f (k:Nat) (l0:List Int) (a1:Int):Option (Bool):=(slices_Index_int_int.f k l0 a1).bind fun t612=>(some (decide (t612≥0)))
set_option maxHeartbeats 8000000 in
set_option maxRecDepth 100000 in
theorem slices_Contains_int_int.calls (k:Nat) (A0:Option Addr) (c0:Nat) (l0:List Int) (a1:Int) (r:Bool) (w:World) (hr0:Kd.C (Kd.int .i64) w A0 l0.length l0) (hc0:l0.length≤c0) (h:slices_Contains_int_int.f k l0 a1=some r):
  Calls Try.prog 87 #[.slice A0 l0.length c0,.int .i64 a1] w fun e w'=>e=.returned (.bool r)∧Drawn0 w w':=by
 have HR0:=Aside0.mk hr0
 have HC0:=Aside0.mk hc0
 clear hr0 hc0
 have H:((slices_Index_int_int.f k l0 a1).bind fun t612=>(some (decide (t612≥0))))=some r:=h
 clear h
 replace H:=Option.bind_eq_some_iff.mp H
 obtain ⟨t612,A30,H⟩:=H
 replace H:(some (decide (t612≥0)))=some r:=H
 have A3:=Aside0.mk A30
 clear A30
 obtain rfl:=Option.some.inj H
 go_enter Try.func87,Try.ntmps87
 go_wp2_with (first|((with_reducible refine gate_callee (f:=99) rfl ?_);refine goesL_ (some 7) rfl rfl Try.func99 (by kernel_rfl) rfl #[.slice A0 l0.length c0,.int .i64 a1] rfl (by (try simp only [List.map_toArray,List.map_cons,List.map_nil]);first|done|rfl|(simp only [List.length_drop,List.length_take];rfl)) ?_;(with_reducible refine (slices_Index_int_int.calls k _ _ l0 a1 t612 _ ?side1 ?side2 A3.out).mono ?_);(case side1=>repeat (first|exact HR0.out|(with_reducible refine Kd.C_alloc ?_ _)|(with_reducible refine Kd.C_drewN ?_ _)|(with_reducible refine Kd.C_drew ?_)));(case side2=>exact HC0.out);rintro e w' ⟨rfl,⟨nd,rfl⟩⟩;refine ⟨_,rfl,?_⟩))
 go_ret
 exact ⟨by first|rfl|(simp;done)|(simp [*];done),by repeat (first|exact Drawn0.refl _|apply Drawn0.step)⟩
/-! ### impl_Graph_quietColours: function 65 -/
mutual
def impl_Graph_quietColours.l0:Nat→Int→Int→List (List Int)→Int→Int→List (List Int)→List Int→Int→Option ((List (List Int)))
 |0,_,_,_,_,_,_,_,_=>none
 |k+1,x1,x5,x7,x21,x22,x625000,x625001,x625002=>if x22< x21 then ((slices_Contains_int_int.f k x625001 x22).bind fun t635=>(if t635=true then (impl_Graph_quietColours.l0 k x1 x5 x7 x21 (wrap64 (x22+1)) x625000 x625001 x625002) else (if 0≤x5 then (if (x5:Int).toNat≤35184372088832 then ((some (List.replicate (x5:Int).toNat 0:List Int)).bind fun y636=>(if 0≤x22 then (if x22< (y636.length:Int) then (impl_Graph_quietColours.l1 k x1 x5 x7 x22 (y636.set (x22:Int).toNat 1) x21 x22 x625001 (x625001.length:Int) 0 x625000 x625001 x625002) else (none)) else (none))) else (none)) else (none)))) else ((pseudo_elimS.f k x7 x5 x1).bind fun bt628=>(some bt628.1))
def impl_Graph_quietColours.l1:Nat→Int→Int→List (List Int)→Int→List Int→Int→Int→List Int→Int→Int→List (List Int)→List Int→Int→Option ((List (List Int)))
 |0,_,_,_,_,_,_,_,_,_,_,_,_,_=>none
 |k+1,x1,x5,x7,x8,x9,x21,x22,x35,x36,x37,x625000,x625001,x625002=>if x37< x36 then (if 0≤x37 then (if x37< (x35.length:Int) then (if x37< (x625000.length:Int) then (if 0≤x8 then (if x8< ((rd_L1 x625000 x37).length:Int) then ((impl_mod.f (wrap64 (-(rd (rd_L1 x625000 x37) x8))) x1).bind fun t643=>(if 0≤(rd x35 x37) then (if (rd x35 x37)< (x9.length:Int) then (impl_Graph_quietColours.l1 k x1 x5 x7 x8 (x9.set ((rd x35 x37):Int).toNat t643) x21 x22 x35 x36 (wrap64 (x37+1)) x625000 x625001 x625002) else (none)) else (none))) else (none)) else (none)) else (none)) else (none)) else (none)) else (if x7.length< 5864062014805 then (impl_Graph_quietColours.l0 k x1 x5 (x7++[x9]) x21 (wrap64 (x22+1)) x625000 x625001 x625002) else (none))
end
def impl_Graph_quietColours.f (k:Nat) (l0_0:List Int) (a0_1:Bool) (a1:Int):Option ((List (List Int))):=if 0≤(l0_0.length:Int) then (if ((l0_0.length:Int):Int).toNat≤35184372088832 then ((impl_Graph_solved.f k l0_0 a0_1 a1 (List.replicate ((l0_0.length:Int):Int).toNat 0)).bind fun bt617=>(impl_Graph_quietColours.l0 k a1 (l0_0.length:Int) (([]:List (List Int))) (l0_0.length:Int) 0 bt617.1 bt617.2.1 bt617.2.2)) else (none)) else (none)
set_option maxHeartbeats 8000000 in
set_option maxRecDepth 100000 in
theorem impl_Graph_quietColours.calls (k:Nat) (A0_0:Option Addr) (c0_0:Nat) (l0_0:List Int) (a0_1:Bool) (a1:Int) (r:List (List Int)) (w:World) (hr0_0:Kd.C (Kd.int .i64) w A0_0 l0_0.length l0_0) (hc0_0:l0_0.length≤c0_0) (h:impl_Graph_quietColours.f k l0_0 a0_1 a1=some r):
  Calls Try.prog 65 #[.agg #[.slice A0_0 l0_0.length c0_0,.bool a0_1],.int .i64 a1] w fun e w'=>∃ v0_:Value,e=.returned (v0_)∧Kd.S (Kd.slice 3 (Kd.int .i64)) 22 w' w.heap.size (fun _=>True) v0_ r∧Below w.heap.size w w':=by
 have hu28:=Try.underlying28
 have hu60:=Try.underlying60
 have HR0_0:=Aside0.mk hr0_0
 have HC0_0:=Aside0.mk hc0_0
 clear hr0_0 hc0_0
 have HB:=Aside0.mk (Below.refl w.heap.size w)
 have H:(if 0≤(l0_0.length:Int) then (if ((l0_0.length:Int):Int).toNat≤35184372088832 then ((impl_Graph_solved.f k l0_0 a0_1 a1 (List.replicate ((l0_0.length:Int):Int).toNat 0)).bind fun bt617=>(impl_Graph_quietColours.l0 k a1 (l0_0.length:Int) (([]:List (List Int))) (l0_0.length:Int) 0 bt617.1 bt617.2.1 bt617.2.2)) else (none)) else (none))=some r:=h
 clear h
 by_cases c3:0≤(l0_0.length:Int)
 ·rw [if_pos c3] at H
  have c3b0:=eq_true c3
  have c3b1:decide (0≤(l0_0.length:Int))=true:=decide_eq_true c3
  clear c3
  by_cases c4:((l0_0.length:Int):Int).toNat≤35184372088832
  ·rw [if_pos c4] at H
   have c4b0:=eq_true c4
   have c4b1:decide (((l0_0.length:Int):Int).toNat≤35184372088832)=true:=decide_eq_true c4
   clear c4
   obtain ⟨y614,hy614⟩:∃ y_:List Int,y_=(List.replicate ((l0_0.length:Int):Int).toNat 0):=⟨_,rfl⟩
   replace H:((impl_Graph_solved.f k l0_0 a0_1 a1 y614).bind fun bt617=>(impl_Graph_quietColours.l0 k a1 (l0_0.length:Int) (([]:List (List Int))) (l0_0.length:Int) 0 bt617.1 bt617.2.1 bt617.2.2))=some r:=by first|(rw [hy614];with_reducible exact H)|(have H2_:=(Option.bind_some _ _).symm.trans H;rw [hy614];with_reducible exact H2_)|(have H2_:=(Option.bind_some _ _).symm.trans H;with_reducible exact H2_)|with_reducible exact H|(rw [hy614];exact H)|exact H
   have Ny614:=Aside0.mk hy614
   clear hy614
   replace H:=Option.bind_eq_some_iff.mp H
   obtain ⟨⟨t617,t620,t623⟩,A50,H⟩:=H
   replace H:(impl_Graph_quietColours.l0 k a1 (l0_0.length:Int) (([]:List (List Int))) (l0_0.length:Int) 0 t617 t620 t623)=some r:=H
   have A5:=Aside0.mk A50
   clear A50
   obtain ⟨y625,hy625⟩:∃ y_:List (List Int),y_=(([]:List (List Int))):=⟨_,rfl⟩
   replace H:(impl_Graph_quietColours.l0 k a1 (l0_0.length:Int) y625 (l0_0.length:Int) 0 t617 t620 t623)=some r:=by first|(rw [hy625];with_reducible exact H)|(have H2_:=(Option.bind_some _ _).symm.trans H;rw [hy625];with_reducible exact H2_)|(have H2_:=(Option.bind_some _ _).symm.trans H;with_reducible exact H2_)|with_reducible exact H|(rw [hy625];exact H)|exact H
   have Ny625:=Aside0.mk hy625
   clear hy625
   have H':=Aside0.mk H
   clear H
   go_enter Try.func65,Try.ntmps65
   try go_wp2_with (first|((with_reducible refine gate_dst (N:=2) rfl ?_);refine box_event ?hg (N:=2) ?hd (cs:=#[.slice A0_0 l0_0.length c0_0,.bool a0_1]) (t:=28) ?hr ?_;(case hd=>rfl);(case hg=>rfl);(case hr=>first|(go_simp;done)|(go_simp;rfl));intro gb613 hg w6 hbox hb;have n0_:=Aside0.mk (below_step (by repeat (first|(with_reducible first|exact HB.out|apply below_alloc|apply pw_below_drewN|apply below_drew1)|exact HB.out)) hb);have n1_:=Aside0.mk (hbox);have n2_:=Aside0.mk ((by rw [hg];exact (below_size (by repeat (first|(with_reducible first|exact HB.out|apply below_alloc|apply pw_below_drewN|apply below_drew1)|exact HB.out))):w.heap.size≤gb613));have n3_:=Aside0.mk ((by rw [hg];exact (below_size (by repeat (first|(with_reducible first|exact HB.out|apply below_alloc|apply pw_below_drewN|apply below_drew1)|exact HB.out))):w.heap.size≤gb613));clear HB;have HB:=n0_;have BK613:=n1_;have GW613:=n2_;have GE613:=n3_;clear n0_ n1_ n2_ n3_;clear hb hbox hg;have hcz7_0:w6.cell? ⟨gb613,0,none⟩=some (.slice A0_0 l0_0.length c0_0):=(blk_cell BK613.out 0).trans rfl;have hcz7_1:w6.cell? ⟨gb613,1,none⟩=some (.bool a0_1):=(blk_cell BK613.out 1).trans rfl;have hfz7_0:=blk_frozen BK613.out 0;have hfz7_1:=blk_frozen BK613.out 1))
   have n0_:=Aside0.mk (blk_drew BK613.out)
   have n1_:=Aside0.mk (below_drew1 HB.out)
   clear BK613;clear HB
   have BK613:=n0_
   have HB:=n1_
   clear n0_ n1_
   refine start_ (n:=7) (S:=fun w'=>w'.cell? ⟨gb613,0,none⟩=some (.slice A0_0 l0_0.length c0_0)∧w'.cell? ⟨gb613,1,none⟩=some (.bool a0_1)) (ds:=[]) #[false,false,false,false,false,false,false] (by kernel_rfl) rfl rfl ⟨(blk_cell BK613.out 0).trans rfl,(blk_cell BK613.out 1).trans rfl⟩ (fun hHeld=>?_)
   generalize w6.drew=w8 at BK613 HB hHeld ⊢
   refine pure_ (i:=1) (N:=some 16) (v:=?_) (a':=?_) #[false,true,false,false,false,false,false] rfl rfl (by kernel_rfl) (fun _ _ _ h=>h) (Or.inl ⟨by rfl,?_⟩) ?_ ?_
   rotate_left
   ·intro w'
    go_simp
    with_reducible rfl
   rotate_left
   ·simp only [Act.put,List.setIfInBounds_toArray,List.set_cons_zero,List.set_cons_succ,i64_w,i32_w]
    rfl
   refine pure_ (i:=2) (N:=some 17) (v:=?_) (a':=?_) #[false,true,true,false,false,false,false] rfl rfl (by kernel_rfl) (fun _ _ _ h=>h) (Or.inl ⟨by rfl,?_⟩) ?_ ?_
   rotate_left
   ·intro w'
    go_simp
    with_reducible rfl
   rotate_left
   ·simp only [Act.put,List.setIfInBounds_toArray,List.set_cons_zero,List.set_cons_succ,i64_w,i32_w]
    rfl
   refine take_ (i:=0) (N:=some 15) (v:=?_) (a':=?_) #[true,true,true,false,false,false,false] rfl rfl (by kernel_rfl) (fun _ _ _ h=>h) (Or.inl ⟨by rfl,?_⟩) hHeld ?_ ?_
   rotate_left
   ·rintro w' ⟨s0,s1⟩
    go_simp
    with_reducible rfl
   rotate_left
   ·simp only [Act.put,List.setIfInBounds_toArray,List.set_cons_zero,List.set_cons_succ,i64_w,i32_w]
    rfl
   refine join_ (σ:=Value × Value × Value × Nat) 1 #[true,true,true,true,true,true,false] (fun s_=>[(18,s_.1),(19,.agg #[s_.2.1,s_.2.2.1,.int .i64 t623]),(6,.pointer (some ⟨s_.2.2.2,0,none⟩))]) (fun s_ w'=>(w'.cell? ⟨gb613,0,none⟩=some (.slice A0_0 l0_0.length c0_0)∧w'.cell? ⟨gb613,1,none⟩=some (.bool a0_1))∧(Kd.R (Kd.int .i64) 3 w' w.heap.size (fun k_=>some k_≠(s_.2.2.1:Value).ownBlock) s_.1 y614)∧(Kd.S (Kd.slice 3 (Kd.int .i64)) 22 w' w.heap.size (fun k_=>some k_≠(s_.1:Value).ownBlock∧some k_≠(s_.2.2.1:Value).ownBlock) s_.2.1 t617)∧(Kd.R (Kd.int .i64) 3 w' w.heap.size (fun k_=>some k_≠(s_.1:Value).ownBlock) s_.2.2.1 t620)∧(w'.heap[gb613]?=some (.cells #[.slice A0_0 l0_0.length c0_0,.bool a0_1] 28 (0,0)))∧(w'.heap[s_.2.2.2]?=some (.cells #[.slice none 0 0,.slice none 0 0,.int .i64 0] 60 (0,0)))∧(w.heap.size≤s_.2.2.2)∧(w.heap.size≤s_.2.2.2)∧(gb613≠s_.2.2.2)∧(s_.2.2.2≠gb613)∧(Below w.heap.size w w')) ?_ ?_
   rotate_left
   ·intro hCont
    refine two_ (i:=3) (j:=5) (Ni:=some 18) (Nj:=some 6) #[true,true,true,true,false,false,false] #[true,true,true,false,false,true,false] rfl rfl rfl rfl (by kernel_rfl) (by decide) (by decide) (fun K hK=>?_) (fun K hK=>?_)
    ·skip
     refine Kd.R_make_step (Kd.int .i64) _ 3 (by rfl) (N:=18) rfl 22 _ _ rfl (l0_0.length:Int) rfl rfl Try.underlying22 (.int .i64 0) 8 info3 rfl (by decide) (by omega) 0 (ok:=fun _=>True) (okp:=fun _=>True) rfl (fun _ hk=>hk) trivial (of_decide_eq_true (by first|(with_reducible assumption)|assumption)) (Nat.le_trans (Nat.mul_le_mul_right _ (of_decide_eq_true (by first|(with_reducible assumption)|assumption):(l0_0.length:Int).toNat≤35184372088832)) (by omega)) (Below.refl _ _) (Nat.le_refl _) ?_
     intro v615 w9 ho10 hb hg_ hnew_
     clear hg_ hnew_
     (first|rw [← Ny614.out] at ho10|(simp only [Int.reduceToNat] at ho10;rw [← Ny614.out] at ho10))
     have n0_:=Aside0.mk (Kd.R_lower ho10 (below_size (by repeat (first|(with_reducible first|exact HB.out|apply below_alloc|apply pw_below_drewN|apply below_drew1|refine below_set ?_ GE613.out)|exact HB.out))))
     have n1_:=Aside0.mk (blk_below (g:=gb613) (o:=.cells #[.slice A0_0 l0_0.length c0_0,.bool a0_1] 28 (0,0)) (by (with_reducible repeat (first|refine blk_drewN ?_ _|refine blk_drew ?_|refine blk_alloc ?_ _));exact BK613.out) hb)
     have n2_:=Aside0.mk (below_step (by repeat (first|(with_reducible first|exact HB.out|apply below_alloc|apply pw_below_drewN|apply below_drew1|refine below_set ?_ GE613.out)|exact HB.out)) hb)
     clear BK613;clear HB
     have HO616:=n0_
     have BK613:=n1_
     have HB:=n2_
     clear n0_ n1_ n2_;clear hb ho10
     obtain ⟨Ao11,co11,eo11⟩:=Kd.R_slice HO616.out
     (first|subst eo11|(injection eo11 with f1_ f2_ f3_;have f4_:=f1_.symm;have f5_:=f3_.symm;clear f1_ f2_ f3_;subst f4_;subst f5_))
     refine hK.out _ _ ⟨(blk_cell BK613.out 0).trans rfl,(blk_cell BK613.out 1).trans rfl⟩ (fun hHeld=>?_)
     clear hK K
     refine norm_ (a':=?_) ?_ ?_
     rotate_left
     ·show Act.put _ (some 18) _=_
      simp only [Act.put,List.setIfInBounds_toArray,List.set_cons_zero,List.set_cons_succ,i64_w,i32_w]
      rfl
     refine two_ (i:=4) (j:=5) (Ni:=some 19) (Nj:=some 6) #[true,true,true,true,true,false,false] #[true,true,true,true,false,true,false] rfl rfl rfl rfl (by kernel_rfl) (by decide) (by decide) (fun K hK=>?_) (fun K hK=>?_)
     ·skip
      refine goes_ Try.func63 (by kernel_rfl) rfl #[.agg #[.slice A0_0 l0_0.length c0_0,.bool a0_1],.int .i64 a1,.slice Ao11 y614.length co11] (by rfl) rfl rfl (by (try simp only [List.map_toArray,List.map_cons,List.map_nil]);first|done|rfl|(simp only [List.length_drop,List.length_take];rfl)) ?_
      with_reducible refine (impl_Graph_solved.calls k _ _ l0_0 a0_1 a1 _ _ y614 t617 t620 t623 _ ?side1 ?side2 ?side3 ?side4 A5.out).mono ?_
      (case side1=>repeat (first|exact (Kd.C_below HR0_0.out HB.out)|(with_reducible refine Kd.C_alloc ?_ _)|(with_reducible refine Kd.C_drewN ?_ _)|(with_reducible refine Kd.C_drew ?_)))
      (case side2=>exact HC0_0.out)
      (case side3=>repeat (first|exact (Kd.R_reads' HO616.out).2.2|(with_reducible refine Kd.C_alloc ?_ _)|(with_reducible refine Kd.C_drewN ?_ _)|(with_reducible refine Kd.C_drew ?_)))
      (case side4=>exact (Kd.R_reads' HO616.out).2.1)
      rintro e w12 ⟨v618,v621,rfl,ho0,ho1,hb⟩
      refine ⟨_,rfl,?_⟩
      have n0_:=Aside0.mk (Kd.R_elder' (by (with_reducible repeat (first|apply Kd.R_alloc|apply Kd.R_drewN|apply Kd.R_drew));exact HO616.out) (Kd.R_base ho1) hb)
      have n1_:=Aside0.mk (Kd.S_lower (Kd.S_new' ho0 (Kd.R_lt (by (with_reducible repeat (first|apply Kd.R_alloc|apply Kd.R_drewN|apply Kd.R_drew));exact HO616.out))) (below_size (by repeat (first|(with_reducible first|exact HB.out|apply below_alloc|apply pw_below_drewN|apply below_drew1|refine below_set ?_ GE613.out)|exact HB.out))))
      have n2_:=Aside0.mk (Kd.R_lower (Kd.R_new' ho1 (Kd.R_lt (by (with_reducible repeat (first|apply Kd.R_alloc|apply Kd.R_drewN|apply Kd.R_drew));exact HO616.out))) (below_size (by repeat (first|(with_reducible first|exact HB.out|apply below_alloc|apply pw_below_drewN|apply below_drew1|refine below_set ?_ GE613.out)|exact HB.out))))
      have n3_:=Aside0.mk (blk_below (g:=gb613) (o:=.cells #[.slice A0_0 l0_0.length c0_0,.bool a0_1] 28 (0,0)) (by (with_reducible repeat (first|refine blk_drewN ?_ _|refine blk_drew ?_|refine blk_alloc ?_ _));exact BK613.out) hb)
      have n4_:=Aside0.mk (below_step (by repeat (first|(with_reducible first|exact HB.out|apply below_alloc|apply pw_below_drewN|apply below_drew1|refine below_set ?_ GE613.out)|exact HB.out)) hb)
      clear HO616;clear BK613;clear HB
      have HO616:=n0_
      have HO619:=n1_
      have HO622:=n2_
      have BK613:=n3_
      have HB:=n4_
      clear n0_ n1_ n2_ n3_ n4_;(try clear hb);(try clear hb2);(try clear hk);(try clear hi);(try clear ho0);(try clear ho1)
      refine hK.out _ _ ⟨(blk_cell BK613.out 0).trans rfl,(blk_cell BK613.out 1).trans rfl⟩ (fun hHeld=>?_)
      clear hK K
      refine norm_ (a':=?_) ?_ ?_
      rotate_left
      ·show Act.put _ (some 19) _=_
       simp only [Act.put,List.setIfInBounds_toArray,List.set_cons_zero,List.set_cons_succ,i64_w,i32_w]
       rfl
      refine one_ (i:=5) (N:=some 6) #[true,true,true,true,true,true,false] rfl rfl (by kernel_rfl) (by decide) (fun K hK=>?_)
      refine box_step ?hg (N:=6) ?hd (cs:=#[.slice none 0 0,.slice none 0 0,.int .i64 0]) (t:=60) ?hr ?_;(case hd=>rfl);(case hg=>rfl);(case hr=>first|(go_simp;done)|(go_simp;rfl))
      intro gb624 hg w13 hbox hb
      have n0_:=Aside0.mk (Kd.R_below (by (with_reducible repeat (first|apply Kd.R_alloc|apply Kd.R_drewN|apply Kd.R_drew));exact HO616.out) hb)
      have n1_:=Aside0.mk (Kd.S_below (by (with_reducible repeat (first|apply Kd.S_alloc|apply Kd.S_drewN|apply Kd.S_drew));exact HO619.out) hb)
      have n2_:=Aside0.mk (Kd.R_below (by (with_reducible repeat (first|apply Kd.R_alloc|apply Kd.R_drewN|apply Kd.R_drew));exact HO622.out) hb)
      have n3_:=Aside0.mk (blk_below (g:=gb613) (o:=.cells #[.slice A0_0 l0_0.length c0_0,.bool a0_1] 28 (0,0)) (by (with_reducible repeat (first|refine blk_drewN ?_ _|refine blk_drew ?_|refine blk_alloc ?_ _));exact BK613.out) hb)
      have n4_:=Aside0.mk (below_step (by repeat (first|(with_reducible first|exact HB.out|apply below_alloc|apply pw_below_drewN|apply below_drew1|refine below_set ?_ GE613.out)|exact HB.out)) hb)
      have n5_:=Aside0.mk (hbox)
      have n6_:=Aside0.mk ((by rw [hg];exact (below_size (by repeat (first|(with_reducible first|exact HB.out|apply below_alloc|apply pw_below_drewN|apply below_drew1|refine below_set ?_ GE613.out)|exact HB.out))):w.heap.size≤gb624))
      have n7_:=Aside0.mk ((by rw [hg];exact (below_size (by repeat (first|(with_reducible first|exact HB.out|apply below_alloc|apply pw_below_drewN|apply below_drew1|refine below_set ?_ GE613.out)|exact HB.out))):w.heap.size≤gb624))
      have n8_:=Aside0.mk ((by rw [hg];exact Nat.ne_of_lt (blk_lt (g:=gb613) (o:=.cells #[.slice A0_0 l0_0.length c0_0,.bool a0_1] 28 (0,0)) (by (with_reducible repeat (first|refine blk_drewN ?_ _|refine blk_drew ?_|refine blk_alloc ?_ _));exact BK613.out)):gb613≠gb624))
      have n9_:=Aside0.mk ((by rw [hg];exact Nat.ne_of_gt (blk_lt (g:=gb613) (o:=.cells #[.slice A0_0 l0_0.length c0_0,.bool a0_1] 28 (0,0)) (by (with_reducible repeat (first|refine blk_drewN ?_ _|refine blk_drew ?_|refine blk_alloc ?_ _));exact BK613.out)):gb624≠gb613))
      clear HO616;clear HO619;clear HO622;clear BK613;clear HB
      have HO616:=n0_
      have HO619:=n1_
      have HO622:=n2_
      have BK613:=n3_
      have HB:=n4_
      have BK624:=n5_
      have GW624:=n6_
      have GE624:=n7_
      have NB613_624:=n8_
      have NB624_613:=n9_
      clear n0_ n1_ n2_ n3_ n4_ n5_ n6_ n7_ n8_ n9_;clear hb hbox hg
      refine hK.out _ _ ⟨(blk_cell BK613.out 0).trans rfl,(blk_cell BK613.out 1).trans rfl⟩ (fun hHeld=>?_)
      clear hK K
      refine norm_ (a':=?_) ?_ ?_
      rotate_left
      ·show Act.put _ (some 6) _=_
       simp only [Act.put,List.setIfInBounds_toArray,List.set_cons_zero,List.set_cons_succ,i64_w,i32_w]
       rfl
      exact norm_ (by simp only [putAll,Act.put,List.setIfInBounds_toArray,List.set_cons_zero,List.set_cons_succ]) (hCont (.slice Ao11 y614.length co11,v618,v621,gb624) _ ⟨hHeld,(by (with_reducible repeat (first|apply Kd.R_alloc|apply Kd.R_drewN|apply Kd.R_drew));exact Kd.R_mono HO616.out (fun _ hk=>hk.2)),(by (with_reducible repeat (first|apply Kd.S_alloc|apply Kd.S_drewN|apply Kd.S_drew));exact Kd.S_mono HO619.out (fun _ hk=>⟨hk.2,hk.1⟩)),(by (with_reducible repeat (first|apply Kd.R_alloc|apply Kd.R_drewN|apply Kd.R_drew));exact Kd.R_mono HO622.out (fun _ hk=>hk.2)),(by (with_reducible repeat (first|refine blk_drewN ?_ _|refine blk_drew ?_|refine blk_alloc ?_ _));exact BK613.out),(by (with_reducible repeat (first|refine blk_drewN ?_ _|refine blk_drew ?_|refine blk_alloc ?_ _));exact BK624.out),GW624.out,GE624.out,NB613_624.out,NB624_613.out,(by repeat (first|(with_reducible first|exact HB.out|apply below_alloc|apply pw_below_drewN|apply below_drew1|refine below_set ?_ GE613.out|refine below_set ?_ GE624.out)|exact HB.out))⟩)
     ·skip
      refine box_step ?hg (N:=6) ?hd (cs:=#[.slice none 0 0,.slice none 0 0,.int .i64 0]) (t:=60) ?hr ?_;(case hd=>rfl);(case hg=>rfl);(case hr=>first|(go_simp;done)|(go_simp;rfl))
      intro gb624 hg w11 hbox hb
      have n0_:=Aside0.mk (Kd.R_below (by (with_reducible repeat (first|apply Kd.R_alloc|apply Kd.R_drewN|apply Kd.R_drew));exact HO616.out) hb)
      have n1_:=Aside0.mk (blk_below (g:=gb613) (o:=.cells #[.slice A0_0 l0_0.length c0_0,.bool a0_1] 28 (0,0)) (by (with_reducible repeat (first|refine blk_drewN ?_ _|refine blk_drew ?_|refine blk_alloc ?_ _));exact BK613.out) hb)
      have n2_:=Aside0.mk (below_step (by repeat (first|(with_reducible first|exact HB.out|apply below_alloc|apply pw_below_drewN|apply below_drew1|refine below_set ?_ GE613.out)|exact HB.out)) hb)
      have n3_:=Aside0.mk (hbox)
      have n4_:=Aside0.mk ((by rw [hg];exact (below_size (by repeat (first|(with_reducible first|exact HB.out|apply below_alloc|apply pw_below_drewN|apply below_drew1|refine below_set ?_ GE613.out)|exact HB.out))):w.heap.size≤gb624))
      have n5_:=Aside0.mk ((by rw [hg];exact (below_size (by repeat (first|(with_reducible first|exact HB.out|apply below_alloc|apply pw_below_drewN|apply below_drew1|refine below_set ?_ GE613.out)|exact HB.out))):w.heap.size≤gb624))
      have n6_:=Aside0.mk ((by rw [hg];exact Nat.ne_of_lt (blk_lt (g:=gb613) (o:=.cells #[.slice A0_0 l0_0.length c0_0,.bool a0_1] 28 (0,0)) (by (with_reducible repeat (first|refine blk_drewN ?_ _|refine blk_drew ?_|refine blk_alloc ?_ _));exact BK613.out)):gb613≠gb624))
      have n7_:=Aside0.mk ((by rw [hg];exact Nat.ne_of_gt (blk_lt (g:=gb613) (o:=.cells #[.slice A0_0 l0_0.length c0_0,.bool a0_1] 28 (0,0)) (by (with_reducible repeat (first|refine blk_drewN ?_ _|refine blk_drew ?_|refine blk_alloc ?_ _));exact BK613.out)):gb624≠gb613))
      clear HO616;clear BK613;clear HB
      have HO616:=n0_
      have BK613:=n1_
      have HB:=n2_
      have BK624:=n3_
      have GW624:=n4_
      have GE624:=n5_
      have NB613_624:=n6_
      have NB624_613:=n7_
      clear n0_ n1_ n2_ n3_ n4_ n5_ n6_ n7_;clear hb hbox hg
      obtain ⟨Ao12,co12,eo12⟩:=Kd.R_slice HO616.out
      (first|subst eo12|(injection eo12 with f1_ f2_ f3_;have f4_:=f1_.symm;have f5_:=f3_.symm;clear f1_ f2_ f3_;subst f4_;subst f5_))
      refine hK.out _ _ ⟨(blk_cell BK613.out 0).trans rfl,(blk_cell BK613.out 1).trans rfl⟩ (fun hHeld=>?_)
      clear hK K
      refine norm_ (a':=?_) ?_ ?_
      rotate_left
      ·show Act.put _ (some 6) _=_
       simp only [Act.put,List.setIfInBounds_toArray,List.set_cons_zero,List.set_cons_succ,i64_w,i32_w]
       rfl
      refine one_ (i:=4) (N:=some 19) #[true,true,true,true,true,true,false] rfl rfl (by kernel_rfl) (by decide) (fun K hK=>?_)
      refine goes_ Try.func63 (by kernel_rfl) rfl #[.agg #[.slice A0_0 l0_0.length c0_0,.bool a0_1],.int .i64 a1,.slice Ao12 y614.length co12] (by rfl) rfl rfl (by (try simp only [List.map_toArray,List.map_cons,List.map_nil]);first|done|rfl|(simp only [List.length_drop,List.length_take];rfl)) ?_
      with_reducible refine (impl_Graph_solved.calls k _ _ l0_0 a0_1 a1 _ _ y614 t617 t620 t623 _ ?side1 ?side2 ?side3 ?side4 A5.out).mono ?_
      (case side1=>repeat (first|exact (Kd.C_below HR0_0.out HB.out)|(with_reducible refine Kd.C_alloc ?_ _)|(with_reducible refine Kd.C_drewN ?_ _)|(with_reducible refine Kd.C_drew ?_)))
      (case side2=>exact HC0_0.out)
      (case side3=>repeat (first|exact (Kd.R_reads' HO616.out).2.2|(with_reducible refine Kd.C_alloc ?_ _)|(with_reducible refine Kd.C_drewN ?_ _)|(with_reducible refine Kd.C_drew ?_)))
      (case side4=>exact (Kd.R_reads' HO616.out).2.1)
      rintro e w13 ⟨v618,v621,rfl,ho0,ho1,hb⟩
      refine ⟨_,rfl,?_⟩
      have n0_:=Aside0.mk (Kd.R_elder' (by (with_reducible repeat (first|apply Kd.R_alloc|apply Kd.R_drewN|apply Kd.R_drew));exact HO616.out) (Kd.R_base ho1) hb)
      have n1_:=Aside0.mk (Kd.S_lower (Kd.S_new' ho0 (Kd.R_lt (by (with_reducible repeat (first|apply Kd.R_alloc|apply Kd.R_drewN|apply Kd.R_drew));exact HO616.out))) (below_size (by repeat (first|(with_reducible first|exact HB.out|apply below_alloc|apply pw_below_drewN|apply below_drew1|refine below_set ?_ GE613.out|refine below_set ?_ GE624.out)|exact HB.out))))
      have n2_:=Aside0.mk (Kd.R_lower (Kd.R_new' ho1 (Kd.R_lt (by (with_reducible repeat (first|apply Kd.R_alloc|apply Kd.R_drewN|apply Kd.R_drew));exact HO616.out))) (below_size (by repeat (first|(with_reducible first|exact HB.out|apply below_alloc|apply pw_below_drewN|apply below_drew1|refine below_set ?_ GE613.out|refine below_set ?_ GE624.out)|exact HB.out))))
      have n3_:=Aside0.mk (blk_below (g:=gb613) (o:=.cells #[.slice A0_0 l0_0.length c0_0,.bool a0_1] 28 (0,0)) (by (with_reducible repeat (first|refine blk_drewN ?_ _|refine blk_drew ?_|refine blk_alloc ?_ _));exact BK613.out) hb)
      have n4_:=Aside0.mk (blk_below (g:=gb624) (o:=.cells #[.slice none 0 0,.slice none 0 0,.int .i64 0] 60 (0,0)) (by (with_reducible repeat (first|refine blk_drewN ?_ _|refine blk_drew ?_|refine blk_alloc ?_ _));exact BK624.out) hb)
      have n5_:=Aside0.mk (below_step (by repeat (first|(with_reducible first|exact HB.out|apply below_alloc|apply pw_below_drewN|apply below_drew1|refine below_set ?_ GE613.out|refine below_set ?_ GE624.out)|exact HB.out)) hb)
      clear HO616;clear BK613;clear BK624;clear HB
      have HO616:=n0_
      have HO619:=n1_
      have HO622:=n2_
      have BK613:=n3_
      have BK624:=n4_
      have HB:=n5_
      clear n0_ n1_ n2_ n3_ n4_ n5_;(try clear hb);(try clear hb2);(try clear hk);(try clear hi);(try clear ho0);(try clear ho1)
      refine hK.out _ _ ⟨(blk_cell BK613.out 0).trans rfl,(blk_cell BK613.out 1).trans rfl⟩ (fun hHeld=>?_)
      clear hK K
      refine norm_ (a':=?_) ?_ ?_
      rotate_left
      ·show Act.put _ (some 19) _=_
       simp only [Act.put,List.setIfInBounds_toArray,List.set_cons_zero,List.set_cons_succ,i64_w,i32_w]
       rfl
      exact norm_ (by simp only [putAll,Act.put,List.setIfInBounds_toArray,List.set_cons_zero,List.set_cons_succ]) (hCont (.slice Ao12 y614.length co12,v618,v621,gb624) _ ⟨hHeld,(by (with_reducible repeat (first|apply Kd.R_alloc|apply Kd.R_drewN|apply Kd.R_drew));exact Kd.R_mono HO616.out (fun _ hk=>hk.2)),(by (with_reducible repeat (first|apply Kd.S_alloc|apply Kd.S_drewN|apply Kd.S_drew));exact Kd.S_mono HO619.out (fun _ hk=>⟨hk.2,hk.1⟩)),(by (with_reducible repeat (first|apply Kd.R_alloc|apply Kd.R_drewN|apply Kd.R_drew));exact Kd.R_mono HO622.out (fun _ hk=>hk.2)),(by (with_reducible repeat (first|refine blk_drewN ?_ _|refine blk_drew ?_|refine blk_alloc ?_ _));exact BK613.out),(by (with_reducible repeat (first|refine blk_drewN ?_ _|refine blk_drew ?_|refine blk_alloc ?_ _));exact BK624.out),GW624.out,GE624.out,NB613_624.out,NB624_613.out,(by repeat (first|(with_reducible first|exact HB.out|apply below_alloc|apply pw_below_drewN|apply below_drew1|refine below_set ?_ GE613.out|refine below_set ?_ GE624.out)|exact HB.out))⟩)
    ·skip
     refine box_step ?hg (N:=6) ?hd (cs:=#[.slice none 0 0,.slice none 0 0,.int .i64 0]) (t:=60) ?hr ?_;(case hd=>rfl);(case hg=>rfl);(case hr=>first|(go_simp;done)|(go_simp;rfl))
     intro gb624 hg w9 hbox hb
     have n0_:=Aside0.mk (blk_below (g:=gb613) (o:=.cells #[.slice A0_0 l0_0.length c0_0,.bool a0_1] 28 (0,0)) (by (with_reducible repeat (first|refine blk_drewN ?_ _|refine blk_drew ?_|refine blk_alloc ?_ _));exact BK613.out) hb)
     have n1_:=Aside0.mk (below_step (by repeat (first|(with_reducible first|exact HB.out|apply below_alloc|apply pw_below_drewN|apply below_drew1|refine below_set ?_ GE613.out)|exact HB.out)) hb)
     have n2_:=Aside0.mk (hbox)
     have n3_:=Aside0.mk ((by rw [hg];exact (below_size (by repeat (first|(with_reducible first|exact HB.out|apply below_alloc|apply pw_below_drewN|apply below_drew1|refine below_set ?_ GE613.out)|exact HB.out))):w.heap.size≤gb624))
     have n4_:=Aside0.mk ((by rw [hg];exact (below_size (by repeat (first|(with_reducible first|exact HB.out|apply below_alloc|apply pw_below_drewN|apply below_drew1|refine below_set ?_ GE613.out)|exact HB.out))):w.heap.size≤gb624))
     have n5_:=Aside0.mk ((by rw [hg];exact Nat.ne_of_lt (blk_lt (g:=gb613) (o:=.cells #[.slice A0_0 l0_0.length c0_0,.bool a0_1] 28 (0,0)) (by (with_reducible repeat (first|refine blk_drewN ?_ _|refine blk_drew ?_|refine blk_alloc ?_ _));exact BK613.out)):gb613≠gb624))
     have n6_:=Aside0.mk ((by rw [hg];exact Nat.ne_of_gt (blk_lt (g:=gb613) (o:=.cells #[.slice A0_0 l0_0.length c0_0,.bool a0_1] 28 (0,0)) (by (with_reducible repeat (first|refine blk_drewN ?_ _|refine blk_drew ?_|refine blk_alloc ?_ _));exact BK613.out)):gb624≠gb613))
     clear BK613;clear HB
     have BK613:=n0_
     have HB:=n1_
     have BK624:=n2_
     have GW624:=n3_
     have GE624:=n4_
     have NB613_624:=n5_
     have NB624_613:=n6_
     clear n0_ n1_ n2_ n3_ n4_ n5_ n6_;clear hb hbox hg
     refine hK.out _ _ ⟨(blk_cell BK613.out 0).trans rfl,(blk_cell BK613.out 1).trans rfl⟩ (fun hHeld=>?_)
     clear hK K
     refine norm_ (a':=?_) ?_ ?_
     rotate_left
     ·show Act.put _ (some 6) _=_
      simp only [Act.put,List.setIfInBounds_toArray,List.set_cons_zero,List.set_cons_succ,i64_w,i32_w]
      rfl
     refine one_ (i:=3) (N:=some 18) #[true,true,true,true,false,true,false] rfl rfl (by kernel_rfl) (by decide) (fun K hK=>?_)
     refine Kd.R_make_step (Kd.int .i64) _ 3 (by rfl) (N:=18) rfl 22 _ _ rfl (l0_0.length:Int) rfl rfl Try.underlying22 (.int .i64 0) 8 info3 rfl (by decide) (by omega) 0 (ok:=fun _=>True) (okp:=fun _=>True) rfl (fun _ hk=>hk) trivial (of_decide_eq_true (by first|(with_reducible assumption)|assumption)) (Nat.le_trans (Nat.mul_le_mul_right _ (of_decide_eq_true (by first|(with_reducible assumption)|assumption):(l0_0.length:Int).toNat≤35184372088832)) (by omega)) (Below.refl _ _) (Nat.le_refl _) ?_
     intro v615 w10 ho11 hb hg_ hnew_
     clear hg_ hnew_
     (first|rw [← Ny614.out] at ho11|(simp only [Int.reduceToNat] at ho11;rw [← Ny614.out] at ho11))
     have n0_:=Aside0.mk (Kd.R_lower ho11 (below_size (by repeat (first|(with_reducible first|exact HB.out|apply below_alloc|apply pw_below_drewN|apply below_drew1|refine below_set ?_ GE613.out|refine below_set ?_ GE624.out)|exact HB.out))))
     have n1_:=Aside0.mk (blk_below (g:=gb613) (o:=.cells #[.slice A0_0 l0_0.length c0_0,.bool a0_1] 28 (0,0)) (by (with_reducible repeat (first|refine blk_drewN ?_ _|refine blk_drew ?_|refine blk_alloc ?_ _));exact BK613.out) hb)
     have n2_:=Aside0.mk (blk_below (g:=gb624) (o:=.cells #[.slice none 0 0,.slice none 0 0,.int .i64 0] 60 (0,0)) (by (with_reducible repeat (first|refine blk_drewN ?_ _|refine blk_drew ?_|refine blk_alloc ?_ _));exact BK624.out) hb)
     have n3_:=Aside0.mk (below_step (by repeat (first|(with_reducible first|exact HB.out|apply below_alloc|apply pw_below_drewN|apply below_drew1|refine below_set ?_ GE613.out|refine below_set ?_ GE624.out)|exact HB.out)) hb)
     clear BK613;clear BK624;clear HB
     have HO616:=n0_
     have BK613:=n1_
     have BK624:=n2_
     have HB:=n3_
     clear n0_ n1_ n2_ n3_;clear hb ho11
     obtain ⟨Ao12,co12,eo12⟩:=Kd.R_slice HO616.out
     (first|subst eo12|(injection eo12 with f1_ f2_ f3_;have f4_:=f1_.symm;have f5_:=f3_.symm;clear f1_ f2_ f3_;subst f4_;subst f5_))
     refine hK.out _ _ ⟨(blk_cell BK613.out 0).trans rfl,(blk_cell BK613.out 1).trans rfl⟩ (fun hHeld=>?_)
     clear hK K
     refine norm_ (a':=?_) ?_ ?_
     rotate_left
     ·show Act.put _ (some 18) _=_
      simp only [Act.put,List.setIfInBounds_toArray,List.set_cons_zero,List.set_cons_succ,i64_w,i32_w]
      rfl
     refine one_ (i:=4) (N:=some 19) #[true,true,true,true,true,true,false] rfl rfl (by kernel_rfl) (by decide) (fun K hK=>?_)
     refine goes_ Try.func63 (by kernel_rfl) rfl #[.agg #[.slice A0_0 l0_0.length c0_0,.bool a0_1],.int .i64 a1,.slice Ao12 y614.length co12] (by rfl) rfl rfl (by (try simp only [List.map_toArray,List.map_cons,List.map_nil]);first|done|rfl|(simp only [List.length_drop,List.length_take];rfl)) ?_
     with_reducible refine (impl_Graph_solved.calls k _ _ l0_0 a0_1 a1 _ _ y614 t617 t620 t623 _ ?side1 ?side2 ?side3 ?side4 A5.out).mono ?_
     (case side1=>repeat (first|exact (Kd.C_below HR0_0.out HB.out)|(with_reducible refine Kd.C_alloc ?_ _)|(with_reducible refine Kd.C_drewN ?_ _)|(with_reducible refine Kd.C_drew ?_)))
     (case side2=>exact HC0_0.out)
     (case side3=>repeat (first|exact (Kd.R_reads' HO616.out).2.2|(with_reducible refine Kd.C_alloc ?_ _)|(with_reducible refine Kd.C_drewN ?_ _)|(with_reducible refine Kd.C_drew ?_)))
     (case side4=>exact (Kd.R_reads' HO616.out).2.1)
     rintro e w13 ⟨v618,v621,rfl,ho0,ho1,hb⟩
     refine ⟨_,rfl,?_⟩
     have n0_:=Aside0.mk (Kd.R_elder' (by (with_reducible repeat (first|apply Kd.R_alloc|apply Kd.R_drewN|apply Kd.R_drew));exact HO616.out) (Kd.R_base ho1) hb)
     have n1_:=Aside0.mk (Kd.S_lower (Kd.S_new' ho0 (Kd.R_lt (by (with_reducible repeat (first|apply Kd.R_alloc|apply Kd.R_drewN|apply Kd.R_drew));exact HO616.out))) (below_size (by repeat (first|(with_reducible first|exact HB.out|apply below_alloc|apply pw_below_drewN|apply below_drew1|refine below_set ?_ GE613.out|refine below_set ?_ GE624.out)|exact HB.out))))
     have n2_:=Aside0.mk (Kd.R_lower (Kd.R_new' ho1 (Kd.R_lt (by (with_reducible repeat (first|apply Kd.R_alloc|apply Kd.R_drewN|apply Kd.R_drew));exact HO616.out))) (below_size (by repeat (first|(with_reducible first|exact HB.out|apply below_alloc|apply pw_below_drewN|apply below_drew1|refine below_set ?_ GE613.out|refine below_set ?_ GE624.out)|exact HB.out))))
     have n3_:=Aside0.mk (blk_below (g:=gb613) (o:=.cells #[.slice A0_0 l0_0.length c0_0,.bool a0_1] 28 (0,0)) (by (with_reducible repeat (first|refine blk_drewN ?_ _|refine blk_drew ?_|refine blk_alloc ?_ _));exact BK613.out) hb)
     have n4_:=Aside0.mk (blk_below (g:=gb624) (o:=.cells #[.slice none 0 0,.slice none 0 0,.int .i64 0] 60 (0,0)) (by (with_reducible repeat (first|refine blk_drewN ?_ _|refine blk_drew ?_|refine blk_alloc ?_ _));exact BK624.out) hb)
     have n5_:=Aside0.mk (below_step (by repeat (first|(with_reducible first|exact HB.out|apply below_alloc|apply pw_below_drewN|apply below_drew1|refine below_set ?_ GE613.out|refine below_set ?_ GE624.out)|exact HB.out)) hb)
     clear HO616;clear BK613;clear BK624;clear HB
     have HO616:=n0_
     have HO619:=n1_
     have HO622:=n2_
     have BK613:=n3_
     have BK624:=n4_
     have HB:=n5_
     clear n0_ n1_ n2_ n3_ n4_ n5_;(try clear hb);(try clear hb2);(try clear hk);(try clear hi);(try clear ho0);(try clear ho1)
     refine hK.out _ _ ⟨(blk_cell BK613.out 0).trans rfl,(blk_cell BK613.out 1).trans rfl⟩ (fun hHeld=>?_)
     clear hK K
     refine norm_ (a':=?_) ?_ ?_
     rotate_left
     ·show Act.put _ (some 19) _=_
      simp only [Act.put,List.setIfInBounds_toArray,List.set_cons_zero,List.set_cons_succ,i64_w,i32_w]
      rfl
     exact norm_ (by simp only [putAll,Act.put,List.setIfInBounds_toArray,List.set_cons_zero,List.set_cons_succ]) (hCont (.slice Ao12 y614.length co12,v618,v621,gb624) _ ⟨hHeld,(by (with_reducible repeat (first|apply Kd.R_alloc|apply Kd.R_drewN|apply Kd.R_drew));exact Kd.R_mono HO616.out (fun _ hk=>hk.2)),(by (with_reducible repeat (first|apply Kd.S_alloc|apply Kd.S_drewN|apply Kd.S_drew));exact Kd.S_mono HO619.out (fun _ hk=>⟨hk.2,hk.1⟩)),(by (with_reducible repeat (first|apply Kd.R_alloc|apply Kd.R_drewN|apply Kd.R_drew));exact Kd.R_mono HO622.out (fun _ hk=>hk.2)),(by (with_reducible repeat (first|refine blk_drewN ?_ _|refine blk_drew ?_|refine blk_alloc ?_ _));exact BK613.out),(by (with_reducible repeat (first|refine blk_drewN ?_ _|refine blk_drew ?_|refine blk_alloc ?_ _));exact BK624.out),GW624.out,GE624.out,NB613_624.out,NB624_613.out,(by repeat (first|(with_reducible first|exact HB.out|apply below_alloc|apply pw_below_drewN|apply below_drew1|refine below_set ?_ GE613.out|refine below_set ?_ GE624.out)|exact HB.out))⟩)
   rintro ⟨v615,v618,v621,gb624⟩ w14 ⟨hS_,h0_,h1_,h2_,h3_,h4_,h5_,h6_,h7_,h8_,h9_⟩
   have n0_:Aside0 (Kd.R (Kd.int .i64) 3 w14 w.heap.size (fun k_=>some k_≠(v621:Value).ownBlock) v615 y614):=⟨h0_⟩
   have n1_:Aside0 (Kd.S (Kd.slice 3 (Kd.int .i64)) 22 w14 w.heap.size (fun k_=>some k_≠(v615:Value).ownBlock∧some k_≠(v621:Value).ownBlock) v618 t617):=⟨h1_⟩
   have n2_:Aside0 (Kd.R (Kd.int .i64) 3 w14 w.heap.size (fun k_=>some k_≠(v615:Value).ownBlock) v621 t620):=⟨h2_⟩
   have n3_:Aside0 (w14.heap[gb613]?=some (.cells #[.slice A0_0 l0_0.length c0_0,.bool a0_1] 28 (0,0))):=⟨h3_⟩
   have n4_:Aside0 (w14.heap[gb624]?=some (.cells #[.slice none 0 0,.slice none 0 0,.int .i64 0] 60 (0,0))):=⟨h4_⟩
   have n5_:Aside0 (w.heap.size≤gb624):=⟨h5_⟩
   have n6_:Aside0 (w.heap.size≤gb624):=⟨h6_⟩
   have n7_:Aside0 (gb613≠gb624):=⟨h7_⟩
   have n8_:Aside0 (gb624≠gb613):=⟨h8_⟩
   have n9_:Aside0 (Below w.heap.size w w14):=⟨h9_⟩
   clear BK613;clear HB;clear h0_ h1_ h2_ h3_ h4_ h5_ h6_ h7_ h8_ h9_
   have HO616:=n0_
   have HO619:=n1_
   have HO622:=n2_
   have BK613:=n3_
   have BK624:=n4_
   have GW624:=n5_
   have GE624:=n6_
   have NB613_624:=n7_
   have NB624_613:=n8_
   have HB:=n9_
   clear n0_ n1_ n2_ n3_ n4_ n5_ n6_ n7_ n8_ n9_
   have hHeld:w14.cell? ⟨gb613,0,none⟩=some (.slice A0_0 l0_0.length c0_0)∧w14.cell? ⟨gb613,1,none⟩=some (.bool a0_1):=hS_
   obtain ⟨Ao15,co15,eo15⟩:=Kd.S_slice HO619.out
   (first|subst eo15|(injection eo15 with f1_ f2_ f3_;have f4_:=f1_.symm;have f5_:=f3_.symm;clear f1_ f2_ f3_;subst f4_;subst f5_))
   obtain ⟨Ao17,co17,eo17⟩:=Kd.R_slice HO622.out
   (first|subst eo17|(injection eo17 with f1_ f2_ f3_;have f4_:=f1_.symm;have f5_:=f3_.symm;clear f1_ f2_ f3_;subst f4_;subst f5_))
   refine norm_ (a':=?_) ?_ ?_
   rotate_left
   ·simp only [putAll,Act.put,List.setIfInBounds_toArray,List.set_cons_zero,List.set_cons_succ]
    rfl
   refine one_ (i:=6) (N:=none) #[true,true,true,true,true,true,true] rfl rfl (by kernel_rfl) (by decide) (fun K hK=>?_)
   have hs16:w14.cell? ⟨gb624,0,none⟩=some (.slice none 0 0):=(blk_cell BK624.out 0).trans rfl
   have hfs16:=blk_frozen BK624.out 0
   have hns16_0:=NB613_624.out
   have hms16_0:=NB624_613.out
   have hs18:w14.cell? ⟨gb624,1,none⟩=some (.slice none 0 0):=(blk_cell BK624.out 1).trans rfl
   have hfs18:=blk_frozen BK624.out 1
   have hns18_0:=NB613_624.out
   have hms18_0:=NB624_613.out
   have hs19:w14.cell? ⟨gb624,2,none⟩=some (.int .i64 0):=(blk_cell BK624.out 2).trans rfl
   have hfs19:=blk_frozen BK624.out 2
   have hns19_0:=NB613_624.out
   have hms19_0:=NB624_613.out
   refine skip_ (w1:=?_) (by rfl) rfl ?_ ?_
   rotate_left
   ·go_simp
    rfl
   refine hK.out _ _ ⟨((cell_far (p:=⟨gb624,_,none⟩) NB613_624.out _).trans (((cell_far (p:=⟨gb624,_,none⟩) NB613_624.out _).trans (((cell_far (p:=⟨gb624,_,none⟩) NB613_624.out _).trans (hHeld.1)))))),((cell_far (p:=⟨gb624,_,none⟩) NB613_624.out _).trans (((cell_far (p:=⟨gb624,_,none⟩) NB613_624.out _).trans (((cell_far (p:=⟨gb624,_,none⟩) NB613_624.out _).trans (hHeld.2))))))⟩ (fun hHeld=>?_)
   clear hK K
   refine done_ (by kernel_rfl) ?_
   try go_wp2_with (first|((with_reducible refine gate_dst (N:=20) rfl ?_);refine Kd.S_lit (Kd.slice 3 (Kd.int .i64)) _ 22 ?hg (N:=20) ?hd (xs:=([]:List (List Int))) (inner:=[]) (ok:=fun _=>True) (okp:=fun _=>True) ?hr ?hp (fun _ hk=>hk) trivial (Below.refl _ _) (Nat.le_refl _) (by simp) ?_;(case hd=>rfl);(case hg=>rfl);(case hr=>first|(go_simp;done)|(go_simp;rfl));(case hp=>exact (Reps.none _ _));intro v626 w20 ho21 hb hg_ hnew_;clear hg_ hnew_;(first|rw [← Ny625.out] at ho21|(simp only [Int.reduceToNat] at ho21;rw [← Ny625.out] at ho21));have n0_:=Aside0.mk (Kd.R_below (by (with_reducible repeat (first|apply Kd.R_alloc|apply Kd.R_drewN|apply Kd.R_drew));exact (Kd.R_mono (Kd.R_far (p:=⟨gb624,2,none⟩) (Kd.R_far (p:=⟨gb624,1,none⟩) (Kd.R_far (p:=⟨gb624,0,none⟩) (Kd.R_types HO616.out BK624.out (by decide)) (fun _ hk=>hk.2) (.slice Ao15 t617.length co15)) (fun _ hk=>hk.2) (.slice Ao17 t620.length co17)) (fun _ hk=>hk.2) (.int .i64 t623)) (fun _ h_=>h_.1))) hb);have n1_:=Aside0.mk (Kd.S_elder' (by (with_reducible repeat (first|apply Kd.S_alloc|apply Kd.S_drewN|apply Kd.S_drew));exact (Kd.S_mono (Kd.S_far (p:=⟨gb624,2,none⟩) (Kd.S_far (p:=⟨gb624,1,none⟩) (Kd.S_far (p:=⟨gb624,0,none⟩) (Kd.S_types HO619.out BK624.out (by decide)) (fun _ hk=>hk.2) (.slice Ao15 t617.length co15)) (fun _ hk=>hk.2) (.slice Ao17 t620.length co17)) (fun _ hk=>hk.2) (.int .i64 t623)) (fun _ h_=>h_.1))) (Kd.S_base ho21) hb);have n2_:=Aside0.mk (Kd.R_below (by (with_reducible repeat (first|apply Kd.R_alloc|apply Kd.R_drewN|apply Kd.R_drew));exact (Kd.R_mono (Kd.R_far (p:=⟨gb624,2,none⟩) (Kd.R_far (p:=⟨gb624,1,none⟩) (Kd.R_far (p:=⟨gb624,0,none⟩) (Kd.R_types HO622.out BK624.out (by decide)) (fun _ hk=>hk.2) (.slice Ao15 t617.length co15)) (fun _ hk=>hk.2) (.slice Ao17 t620.length co17)) (fun _ hk=>hk.2) (.int .i64 t623)) (fun _ h_=>h_.1))) hb);have n3_:=Aside0.mk (Kd.S_lower (Kd.S_new' (Kd.S_new' (Kd.S_new' ho21 (Kd.R_lt (by (with_reducible repeat (first|apply Kd.R_alloc|apply Kd.R_drewN|apply Kd.R_drew));exact (Kd.R_mono (Kd.R_far (p:=⟨gb624,2,none⟩) (Kd.R_far (p:=⟨gb624,1,none⟩) (Kd.R_far (p:=⟨gb624,0,none⟩) (Kd.R_types HO616.out BK624.out (by decide)) (fun _ hk=>hk.2) (.slice Ao15 t617.length co15)) (fun _ hk=>hk.2) (.slice Ao17 t620.length co17)) (fun _ hk=>hk.2) (.int .i64 t623)) (fun _ h_=>h_.1))))) (Kd.S_lt (by (with_reducible repeat (first|apply Kd.S_alloc|apply Kd.S_drewN|apply Kd.S_drew));exact (Kd.S_mono (Kd.S_far (p:=⟨gb624,2,none⟩) (Kd.S_far (p:=⟨gb624,1,none⟩) (Kd.S_far (p:=⟨gb624,0,none⟩) (Kd.S_types HO619.out BK624.out (by decide)) (fun _ hk=>hk.2) (.slice Ao15 t617.length co15)) (fun _ hk=>hk.2) (.slice Ao17 t620.length co17)) (fun _ hk=>hk.2) (.int .i64 t623)) (fun _ h_=>h_.1))))) (Kd.R_lt (by (with_reducible repeat (first|apply Kd.R_alloc|apply Kd.R_drewN|apply Kd.R_drew));exact (Kd.R_mono (Kd.R_far (p:=⟨gb624,2,none⟩) (Kd.R_far (p:=⟨gb624,1,none⟩) (Kd.R_far (p:=⟨gb624,0,none⟩) (Kd.R_types HO622.out BK624.out (by decide)) (fun _ hk=>hk.2) (.slice Ao15 t617.length co15)) (fun _ hk=>hk.2) (.slice Ao17 t620.length co17)) (fun _ hk=>hk.2) (.int .i64 t623)) (fun _ h_=>h_.1))))) (below_size (by repeat (first|(with_reducible first|exact HB.out|apply below_alloc|apply pw_below_drewN|apply below_drew1|refine below_set ?_ GE613.out|refine below_set ?_ GE624.out)|exact HB.out))));have n4_:=Aside0.mk (blk_below (g:=gb613) (o:=.cells #[.slice A0_0 l0_0.length c0_0,.bool a0_1] 28 (0,0)) (by (with_reducible repeat (first|refine blk_drewN ?_ _|refine blk_drew ?_|refine blk_alloc ?_ _));refine blk_far ?_ NB613_624.out _;(with_reducible repeat (first|refine blk_drewN ?_ _|refine blk_drew ?_|refine blk_alloc ?_ _));refine blk_far ?_ NB613_624.out _;(with_reducible repeat (first|refine blk_drewN ?_ _|refine blk_drew ?_|refine blk_alloc ?_ _));refine blk_far ?_ NB613_624.out _;(with_reducible repeat (first|refine blk_drewN ?_ _|refine blk_drew ?_|refine blk_alloc ?_ _));exact BK613.out) hb);have n5_:=Aside0.mk (blk_below (g:=gb624) (o:=.cells #[.slice Ao15 t617.length co15,.slice Ao17 t620.length co17,.int .i64 t623] 60 (0,0)) (by (with_reducible repeat (first|refine blk_drewN ?_ _|refine blk_drew ?_|refine blk_alloc ?_ _));refine blk_put (cs:=#[.slice Ao15 t617.length co15,.slice Ao17 t620.length co17,.int .i64 0]) ?_ 2 _ rfl;(with_reducible repeat (first|refine blk_drewN ?_ _|refine blk_drew ?_|refine blk_alloc ?_ _));refine blk_put (cs:=#[.slice Ao15 t617.length co15,.slice none 0 0,.int .i64 0]) ?_ 1 _ rfl;(with_reducible repeat (first|refine blk_drewN ?_ _|refine blk_drew ?_|refine blk_alloc ?_ _));refine blk_put (cs:=#[.slice none 0 0,.slice none 0 0,.int .i64 0]) ?_ 0 _ rfl;(with_reducible repeat (first|refine blk_drewN ?_ _|refine blk_drew ?_|refine blk_alloc ?_ _));exact BK624.out) hb);have n6_:=Aside0.mk (below_step (by repeat (first|(with_reducible first|exact HB.out|apply below_alloc|apply pw_below_drewN|apply below_drew1|refine below_set ?_ GE613.out|refine below_set ?_ GE624.out)|exact HB.out)) hb);clear HO616;clear HO619;clear HO622;clear BK613;clear BK624;clear HB;have HO616:=n0_;have HO619:=n1_;have HO622:=n2_;have HO627:=n3_;have BK613:=n4_;have BK624:=n5_;have HB:=n6_;clear n0_ n1_ n2_ n3_ n4_ n5_ n6_;clear hb ho21))
   go_loopg [7,22] k (fun kq v7 v22 w'=>∃ (x7_1:List (List Int)) (x22_1:Int) (x625001_1:List Int) (u625001:Value),v22=.int .i64 x22_1∧Aside0 (impl_Graph_quietColours.l0 kq a1 (l0_0.length:Int) x7_1 (l0_0.length:Int) x22_1 t617 x625001_1 t623=some r)∧Aside0 (kq≤k)∧Aside0 (Kd.S (Kd.slice 3 (Kd.int .i64)) 22 w' w.heap.size (fun k_=>some k_≠((.slice Ao15 t617.length co15):Value).ownBlock∧some k_≠(u625001:Value).ownBlock) v7 x7_1)∧Aside0 (Kd.S (Kd.slice 3 (Kd.int .i64)) 22 w' w.heap.size (fun k_=>some k_≠(v7:Value).ownBlock∧some k_≠(u625001:Value).ownBlock) (.slice Ao15 t617.length co15) t617)∧Aside0 (Kd.R (Kd.int .i64) 3 w' w.heap.size (fun _=>True) u625001 x625001_1)∧Aside0 (w'.heap[gb613]?=some (.cells #[(.slice A0_0 l0_0.length c0_0),.bool a0_1] 28 (0,0)))∧Aside0 (w'.heap[gb624]?=some (.cells #[(.slice Ao15 t617.length co15),u625001,.int .i64 t623] 60 (0,0)))∧Aside0 (Below w.heap.size w w'))
   case atStart=>exact ⟨(y625),(0),(t620),(.slice Ao17 t620.length co17),(by first|rfl|(simp;done)|(simp [*];done)),H',⟨Nat.le_refl _⟩,⟨by (with_reducible repeat (first|apply Kd.S_alloc|apply Kd.S_drewN|apply Kd.S_drew));exact Kd.S_mono HO627.out (fun _ hk=>⟨hk.1.2,hk.2⟩)⟩,⟨by (with_reducible repeat (first|apply Kd.S_alloc|apply Kd.S_drewN|apply Kd.S_drew));exact Kd.S_mono HO619.out (fun _ hk=>⟨hk.2,hk.1.2⟩)⟩,⟨by (with_reducible repeat (first|apply Kd.R_alloc|apply Kd.R_drewN|apply Kd.R_drew));exact Kd.R_mono HO622.out (fun _ hk=>trivial)⟩,⟨by (with_reducible repeat (first|refine blk_drewN ?_ _|refine blk_drew ?_|refine blk_alloc ?_ _));exact BK613.out⟩,⟨by (with_reducible repeat (first|refine blk_drewN ?_ _|refine blk_drew ?_|refine blk_alloc ?_ _));exact BK624.out⟩,⟨by repeat (first|(with_reducible first|exact HB.out|apply below_alloc|apply pw_below_drewN|apply below_drew1|refine below_set ?_ GE613.out|refine below_set ?_ GE624.out)|exact HB.out)⟩⟩
   case round=>
    clear H'
    (try clear p2);(try clear c3);(try clear c3b0);(try clear c3b1);(try clear c4);(try clear c4b0);(try clear c4b1);(try clear c6);(try clear hcz7_0);(try clear hcz7_1);(try clear hfz7_0);(try clear hfz7_1)
    obtain ⟨x7_1,x22_1,x625001_1,u625001,rfl,HA,HK1,HO_7,HO_625000,HO_625001,BK613,BK624,HB⟩:=hrel
    cases gk with
    |zero=>exact absurd HA.out (by simp [impl_Graph_quietColours.l0])
    |succ k1=>
     have H:=HA.out
     clear HA
     simp only [impl_Graph_quietColours.l0] at H
     by_cases c22:x22_1< (l0_0.length:Int)
     ·rw [if_pos c22] at H
      have c22b0:decide (x22_1< (l0_0.length:Int))=true:=decide_eq_true c22
      clear c22
      replace H:=Option.bind_eq_some_iff.mp H
      obtain ⟨t635,A230,H⟩:=H
      replace H:(if t635=true then (impl_Graph_quietColours.l0 k1 a1 (l0_0.length:Int) x7_1 (l0_0.length:Int) (wrap64 (x22_1+1)) t617 x625001_1 t623) else (if 0≤(l0_0.length:Int) then (if ((l0_0.length:Int):Int).toNat≤35184372088832 then ((some (List.replicate ((l0_0.length:Int):Int).toNat 0:List Int)).bind fun y636=>(if 0≤x22_1 then (if x22_1< (y636.length:Int) then (impl_Graph_quietColours.l1 k1 a1 (l0_0.length:Int) x7_1 x22_1 (y636.set (x22_1:Int).toNat 1) (l0_0.length:Int) x22_1 x625001_1 (x625001_1.length:Int) 0 t617 x625001_1 t623) else (none)) else (none))) else (none)) else (none)))=some r:=H
      have A23:=Aside0.mk A230
      clear A230
      by_cases c24:t635=true
      ·subst c24
       have H1:(impl_Graph_quietColours.l0 k1 a1 (l0_0.length:Int) x7_1 (l0_0.length:Int) (wrap64 (x22_1+1)) t617 x625001_1 t623)=some r:=by rw [if_pos rfl] at H;exact H
       clear H
       have H:=H1
       clear H1
       have H':=Aside0.mk H
       clear H
       have hnb25:=NB624_613.out
       have hnc25:=NB613_624.out
       have hcz26_0:wr.cell? ⟨gb624,0,none⟩=some (.slice Ao15 t617.length co15):=(blk_cell BK624.out 0).trans rfl
       have hcz26_1:wr.cell? ⟨gb624,1,none⟩=some (u625001):=(blk_cell BK624.out 1).trans rfl
       have hcz26_2:wr.cell? ⟨gb624,2,none⟩=some (.int .i64 t623):=(blk_cell BK624.out 2).trans rfl
       have hfz26_0:=blk_frozen BK624.out 0
       have hfz26_1:=blk_frozen BK624.out 1
       have hfz26_2:=blk_frozen BK624.out 2
       obtain ⟨Ao27,co27,eo27⟩:=Kd.R_slice HO_625001.out
       subst eo27
       go_wp2_with (first|((with_reducible refine gate_callee (f:=87) rfl ?_);refine goesL_ (some 28) rfl rfl Try.func87 (by kernel_rfl) rfl #[.slice Ao27 x625001_1.length co27,.int .i64 x22_1] rfl (by (try simp only [List.map_toArray,List.map_cons,List.map_nil]);first|done|rfl|(simp only [List.length_drop,List.length_take];rfl)) ?_;(with_reducible refine (slices_Contains_int_int.calls k1 _ _ x625001_1 x22_1 true _ ?side1 ?side2 A23.out).mono ?_);(case side1=>repeat (first|exact (Kd.R_reads' HO_625001.out).2.2|(with_reducible refine Kd.C_alloc ?_ _)|(with_reducible refine Kd.C_drewN ?_ _)|(with_reducible refine Kd.C_drew ?_)));(case side2=>exact (Kd.R_reads' HO_625001.out).2.1);rintro e w' ⟨rfl,⟨nd,rfl⟩⟩;refine ⟨_,rfl,?_⟩))
       go_roundg k1
       case measure=>have:=HK1.out;omega
       case rel=>exact ⟨(x7_1),(wrap64 (x22_1+1)),(x625001_1),(.slice Ao27 x625001_1.length co27),(by first|rfl|(simp;done)|(simp [*];done)),H',⟨by have:=HK1.out;omega⟩,⟨by (with_reducible repeat (first|apply Kd.S_alloc|apply Kd.S_drewN|apply Kd.S_drew));exact HO_7.out⟩,⟨by (with_reducible repeat (first|apply Kd.S_alloc|apply Kd.S_drewN|apply Kd.S_drew));exact HO_625000.out⟩,⟨by (with_reducible repeat (first|apply Kd.R_alloc|apply Kd.R_drewN|apply Kd.R_drew));exact HO_625001.out⟩,⟨by (with_reducible repeat (first|refine blk_drewN ?_ _|refine blk_drew ?_|refine blk_alloc ?_ _));exact BK613.out⟩,⟨by (with_reducible repeat (first|refine blk_drewN ?_ _|refine blk_drew ?_|refine blk_alloc ?_ _));exact BK624.out⟩,⟨by repeat (first|(with_reducible first|exact HB.out|apply below_alloc|apply pw_below_drewN|apply below_drew1|refine below_set ?_ GE613.out|refine below_set ?_ GE624.out)|exact HB.out)⟩⟩
      ·replace c24:=Bool.eq_false_iff.mpr c24
       subst c24
       have H1:(if 0≤(l0_0.length:Int) then (if ((l0_0.length:Int):Int).toNat≤35184372088832 then ((some (List.replicate ((l0_0.length:Int):Int).toNat 0:List Int)).bind fun y636=>(if 0≤x22_1 then (if x22_1< (y636.length:Int) then (impl_Graph_quietColours.l1 k1 a1 (l0_0.length:Int) x7_1 x22_1 (y636.set (x22_1:Int).toNat 1) (l0_0.length:Int) x22_1 x625001_1 (x625001_1.length:Int) 0 t617 x625001_1 t623) else (none)) else (none))) else (none)) else (none))=some r:=by rw [if_neg (show ¬ (false=true) by decide)] at H;exact H
       clear H
       have H:=H1
       clear H1
       by_cases c28:0≤(l0_0.length:Int)
       ·rw [if_pos c28] at H
        have c28b0:=eq_true c28
        have c28b1:decide (0≤(l0_0.length:Int))=true:=decide_eq_true c28
        clear c28
        by_cases c29:((l0_0.length:Int):Int).toNat≤35184372088832
        ·rw [if_pos c29] at H
         have c29b0:=eq_true c29
         have c29b1:decide (((l0_0.length:Int):Int).toNat≤35184372088832)=true:=decide_eq_true c29
         clear c29
         obtain ⟨y636,hy636⟩:∃ y_:List Int,y_=(List.replicate ((l0_0.length:Int):Int).toNat 0):=⟨_,rfl⟩
         replace H:(if 0≤x22_1 then (if x22_1< (y636.length:Int) then (impl_Graph_quietColours.l1 k1 a1 (l0_0.length:Int) x7_1 x22_1 (y636.set (x22_1:Int).toNat 1) (l0_0.length:Int) x22_1 x625001_1 (x625001_1.length:Int) 0 t617 x625001_1 t623) else (none)) else (none))=some r:=by first|(rw [hy636];with_reducible exact H)|(have H2_:=(Option.bind_some _ _).symm.trans H;rw [hy636];with_reducible exact H2_)|(have H2_:=(Option.bind_some _ _).symm.trans H;with_reducible exact H2_)|with_reducible exact H|(rw [hy636];exact H)|exact H
         have Ny636:=Aside0.mk hy636
         clear hy636
         by_cases c30:0≤x22_1
         ·rw [if_pos c30] at H
          have c30b0:decide (0≤x22_1)=true:=decide_eq_true c30
          clear c30
          by_cases c31:x22_1< (y636.length:Int)
          ·rw [if_pos c31] at H
           have c31b0:decide (x22_1< (y636.length:Int))=true:=decide_eq_true c31
           clear c31
           obtain ⟨y639,hy639⟩:∃ y_:List Int,y_=(y636.set (x22_1:Int).toNat 1):=⟨_,rfl⟩
           replace H:(impl_Graph_quietColours.l1 k1 a1 (l0_0.length:Int) x7_1 x22_1 y639 (l0_0.length:Int) x22_1 x625001_1 (x625001_1.length:Int) 0 t617 x625001_1 t623)=some r:=by first|(rw [hy639];with_reducible exact H)|(have H2_:=(Option.bind_some _ _).symm.trans H;rw [hy639];with_reducible exact H2_)|(have H2_:=(Option.bind_some _ _).symm.trans H;with_reducible exact H2_)|with_reducible exact H|(rw [hy639];exact H)|exact H
           have Ny639:=Aside0.mk hy639
           clear hy639
           have H':=Aside0.mk H
           clear H
           have hnb33:=NB624_613.out
           have hnc33:=NB613_624.out
           have hcz34_0:wr.cell? ⟨gb624,0,none⟩=some (.slice Ao15 t617.length co15):=(blk_cell BK624.out 0).trans rfl
           have hcz34_1:wr.cell? ⟨gb624,1,none⟩=some (u625001):=(blk_cell BK624.out 1).trans rfl
           have hcz34_2:wr.cell? ⟨gb624,2,none⟩=some (.int .i64 t623):=(blk_cell BK624.out 2).trans rfl
           have hfz34_0:=blk_frozen BK624.out 0
           have hfz34_1:=blk_frozen BK624.out 1
           have hfz34_2:=blk_frozen BK624.out 2
           obtain ⟨Ao35,co35,eo35⟩:=Kd.R_slice HO_625001.out
           subst eo35
           go_wp2_with (first|((with_reducible refine gate_callee (f:=87) rfl ?_);refine goesL_ (some 28) rfl rfl Try.func87 (by kernel_rfl) rfl #[.slice Ao35 x625001_1.length co35,.int .i64 x22_1] rfl (by (try simp only [List.map_toArray,List.map_cons,List.map_nil]);first|done|rfl|(simp only [List.length_drop,List.length_take];rfl)) ?_;(with_reducible refine (slices_Contains_int_int.calls k1 _ _ x625001_1 x22_1 false _ ?side1 ?side2 A23.out).mono ?_);(case side1=>repeat (first|exact (Kd.R_reads' HO_625001.out).2.2|(with_reducible refine Kd.C_alloc ?_ _)|(with_reducible refine Kd.C_drewN ?_ _)|(with_reducible refine Kd.C_drew ?_)));(case side2=>exact (Kd.R_reads' HO_625001.out).2.1);rintro e w' ⟨rfl,⟨nd,rfl⟩⟩;refine ⟨_,rfl,?_⟩;(try (rw [drewN_self wr];generalize hq_:World.drewN wr _=wr;have n0_:Aside0 (Kd.S (Kd.slice 3 (Kd.int .i64)) 22 wr w.heap.size (fun k_=>some k_≠(u7:Value).ownBlock∧some k_≠(.slice Ao35 x625001_1.length co35:Value).ownBlock) (.slice Ao15 t617.length co15) t617):=⟨by rw [← hq_];exact (by (with_reducible repeat (first|apply Kd.S_alloc|apply Kd.S_drewN|apply Kd.S_drew));exact HO_625000.out)⟩;have n1_:Aside0 (Kd.R (Kd.int .i64) 3 wr w.heap.size (fun _=>True) (.slice Ao35 x625001_1.length co35) x625001_1):=⟨by rw [← hq_];exact (by (with_reducible repeat (first|apply Kd.R_alloc|apply Kd.R_drewN|apply Kd.R_drew));exact HO_625001.out)⟩;have n2_:Aside0 (Kd.S (Kd.slice 3 (Kd.int .i64)) 22 wr w.heap.size (fun k_=>some k_≠(.slice Ao15 t617.length co15:Value).ownBlock∧some k_≠(.slice Ao35 x625001_1.length co35:Value).ownBlock) u7 x7_1):=⟨by rw [← hq_];exact (by (with_reducible repeat (first|apply Kd.S_alloc|apply Kd.S_drewN|apply Kd.S_drew));exact HO_7.out)⟩;have n3_:Aside0 (wr.heap[gb613]?=some (.cells #[.slice A0_0 l0_0.length c0_0,.bool a0_1] 28 (0,0))):=⟨by rw [← hq_];exact (by (with_reducible repeat (first|refine blk_drewN ?_ _|refine blk_drew ?_|refine blk_alloc ?_ _));exact BK613.out)⟩;have n4_:Aside0 (wr.heap[gb624]?=some (.cells #[.slice Ao15 t617.length co15,.slice Ao35 x625001_1.length co35,.int .i64 t623] 60 (0,0))):=⟨by rw [← hq_];exact (by (with_reducible repeat (first|refine blk_drewN ?_ _|refine blk_drew ?_|refine blk_alloc ?_ _));exact BK624.out)⟩;have n5_:Aside0 (Below w.heap.size w wr):=⟨by rw [← hq_];exact (by repeat (first|(with_reducible first|exact HB.out|apply below_alloc|apply pw_below_drewN|apply below_drew1|refine below_set ?_ GE613.out|refine below_set ?_ GE624.out)|exact HB.out))⟩;clear HO_625000 HO_625001 HO_7 BK613 BK624 HB hq_;have HO_625000:=n0_;have HO_625001:=n1_;have HO_7:=n2_;have BK613:=n3_;have BK624:=n4_;have HB:=n5_;clear n0_ n1_ n2_ n3_ n4_ n5_)))|((with_reducible refine gate_dst (N:=30) rfl ?_);refine Kd.R_make (Kd.int .i64) _ 3 rfl (N:=30) rfl 22 _ _ rfl (l0_0.length:Int) rfl rfl Try.underlying22 (.int .i64 0) 8 info3 rfl (by decide) (by omega) 0 (ok:=fun _=>True) (okp:=fun _=>True) rfl (fun _ hk=>hk) trivial (of_decide_eq_true (by first|(with_reducible assumption)|assumption)) (Nat.le_trans (Nat.mul_le_mul_right _ (of_decide_eq_true (by first|(with_reducible assumption)|assumption):(l0_0.length:Int).toNat≤35184372088832)) (by omega)) (Below.refl _ _) (Nat.le_refl _) ?_;intro v637 w36 ho37 hb hg_ hnew_;clear hg_ hnew_;(first|rw [← Ny636.out] at ho37|(simp only [Int.reduceToNat] at ho37;rw [← Ny636.out] at ho37));have n0_:=Aside0.mk (Kd.S_elder' (by (with_reducible repeat (first|apply Kd.S_alloc|apply Kd.S_drewN|apply Kd.S_drew));exact HO_7.out) (Kd.R_base ho37) hb);have n1_:=Aside0.mk (Kd.S_elder' (by (with_reducible repeat (first|apply Kd.S_alloc|apply Kd.S_drewN|apply Kd.S_drew));exact HO_625000.out) (Kd.R_base ho37) hb);have n2_:=Aside0.mk (Kd.R_elder' (by (with_reducible repeat (first|apply Kd.R_alloc|apply Kd.R_drewN|apply Kd.R_drew));exact HO_625001.out) (Kd.R_base ho37) hb);have n3_:=Aside0.mk (Kd.R_lower (Kd.R_new' ho37 (Kd.R_lt (by (with_reducible repeat (first|apply Kd.R_alloc|apply Kd.R_drewN|apply Kd.R_drew));exact HO_625001.out))) (below_size (by repeat (first|(with_reducible first|exact HB.out|apply below_alloc|apply pw_below_drewN|apply below_drew1|refine below_set ?_ GE613.out|refine below_set ?_ GE624.out)|exact HB.out))));have n4_:=Aside0.mk (blk_below (g:=gb613) (o:=.cells #[.slice A0_0 l0_0.length c0_0,.bool a0_1] 28 (0,0)) (by (with_reducible repeat (first|refine blk_drewN ?_ _|refine blk_drew ?_|refine blk_alloc ?_ _));exact BK613.out) hb);have n5_:=Aside0.mk (blk_below (g:=gb624) (o:=.cells #[.slice Ao15 t617.length co15,.slice Ao35 x625001_1.length co35,.int .i64 t623] 60 (0,0)) (by (with_reducible repeat (first|refine blk_drewN ?_ _|refine blk_drew ?_|refine blk_alloc ?_ _));exact BK624.out) hb);have n6_:=Aside0.mk (below_step (by repeat (first|(with_reducible first|exact HB.out|apply below_alloc|apply pw_below_drewN|apply below_drew1|refine below_set ?_ GE613.out|refine below_set ?_ GE624.out)|exact HB.out)) hb);clear HO_7;clear HO_625000;clear HO_625001;clear BK613;clear BK624;clear HB;have HO_7:=n0_;have HO_625000:=n1_;have HO_625001:=n2_;have HO638:=n3_;have BK613:=n4_;have BK624:=n5_;have HB:=n6_;clear n0_ n1_ n2_ n3_ n4_ n5_ n6_;clear hb ho37;have p32:0≤(x22_1:Int):=of_decide_eq_true (by first|(with_reducible assumption)|assumption);have q32:(x22_1:Int)< ((y636.length:Int):Int):=of_decide_eq_true (by first|(with_reducible assumption)|assumption);obtain ⟨go32,co32,eo32,gb32,gl32,cl32,HG32⟩:=Kd.R_form HO638.out (by omega);(first|cases eo32|(injection eo32 with ea_ en_ ec_;(first|subst ea_|(injection ea_ with ea_;subst ea_));subst ec_;clear en_));have GB32:=Aside0.mk gb32;have GG32:=Aside0.mk HG32;clear gb32 gl32 HG32;obtain ⟨hx32_0,hf32_0⟩:=Kd.R_celln 0 HO638.out (x22_1:Int) p32 q32;replace p32:=eq_true p32;replace q32:=eq_true q32;have n_:=Aside0.mk (Kd.R_mono (ok':=(fun k_=>some k_≠(.slice Ao35 x625001_1.length co35:Value).ownBlock)) HO638.out (fun k_ hk=>hk.2));clear HO638;have HO638:=n_;clear n_;obtain ⟨hy38_,hz38_⟩:=Kd.R_celln 0 HO638.out (x22_1:Int) (of_decide_eq_true (by first|(with_reducible assumption)|assumption)) (of_decide_eq_true (by first|(with_reducible assumption)|assumption));have HP38:=Kd.R_putg HO638.out (x22_1:Int) 1)|((with_reducible refine gate_store (t:=3) (p:=33) rfl ?_);refine store_event (t:=3) (p:=33) (v:=?vo_w39) (w1:=(w36.setCell ⟨go32,(x22_1:Int).toNat,none⟩ (.int .i64 1))) ?hg ?ho ?hn ?hr ?_;(case ho=>rfl);(case hg=>rfl);(case hn=>rfl);(case hr=>first|(go_simp;done)|(go_simp;rfl));intro w39 hw;have hg:w36.grownBy w39 (some go32):=(by rw [hw];exact HP38.2);have hp_:Kd.R (Kd.int .i64) 3 w39 w.heap.size (fun k_=>some k_≠(.slice Ao35 x625001_1.length co35:Value).ownBlock) (.slice (some ⟨go32,0,none⟩) y636.length co32) y639:=(by rw [hw,Ny639.out];exact HP38.1);clear HP38;have n0_:=Aside0.mk (Kd.S_after (v:=(.slice (some ⟨go32,0,none⟩) y636.length co32)) (v1:=(.slice (some ⟨go32,0,none⟩) y636.length co32)) (ok:=(fun k_=>some k_≠(.slice Ao15 t617.length co15:Value).ownBlock∧some k_≠(.slice Ao35 x625001_1.length co35:Value).ownBlock)) (by (with_reducible repeat (first|apply Kd.S_alloc|apply Kd.S_drewN|apply Kd.S_drew));exact HO_7.out) hg (.inl rfl));have n1_:=Aside0.mk (Kd.S_after (v:=(.slice (some ⟨go32,0,none⟩) y636.length co32)) (v1:=(.slice (some ⟨go32,0,none⟩) y636.length co32)) (ok:=(fun k_=>some k_≠(u7:Value).ownBlock∧some k_≠(.slice Ao35 x625001_1.length co35:Value).ownBlock)) (by (with_reducible repeat (first|apply Kd.S_alloc|apply Kd.S_drewN|apply Kd.S_drew));exact HO_625000.out) hg (.inl rfl));have n2_:=Aside0.mk (Kd.R_after (v:=(.slice (some ⟨go32,0,none⟩) y636.length co32)) (v1:=(.slice (some ⟨go32,0,none⟩) y636.length co32)) (ok:=(fun _=>True)) (by (with_reducible repeat (first|apply Kd.R_alloc|apply Kd.R_drewN|apply Kd.R_drew));exact HO_625001.out) hg (.inl rfl));have n3_:=Aside0.mk (blk_grown (g:=gb613) (o:=.cells #[.slice A0_0 l0_0.length c0_0,.bool a0_1] 28 (0,0)) (by (with_reducible repeat (first|refine blk_drewN ?_ _|refine blk_drew ?_|refine blk_alloc ?_ _));exact BK613.out) hg (Kd.R_ne HO638.out BK613.out (by decide)));have n4_:=Aside0.mk (blk_grown (g:=gb624) (o:=.cells #[.slice Ao15 t617.length co15,.slice Ao35 x625001_1.length co35,.int .i64 t623] 60 (0,0)) (by (with_reducible repeat (first|refine blk_drewN ?_ _|refine blk_drew ?_|refine blk_alloc ?_ _));exact BK624.out) hg (Kd.R_ne HO638.out BK624.out (by decide)));have n5_:=Aside0.mk (hp_);have n6_:=Aside0.mk ((by rw [hw];exact below_set (HB.out) GB32.out:Below w.heap.size w w39));clear HO_7;clear HO_625000;clear HO_625001;clear BK613;clear BK624;clear HO638;clear HB;have HO_7:=n0_;have HO_625000:=n1_;have HO_625001:=n2_;have BK613:=n3_;have BK624:=n4_;have HO638:=n5_;have HB:=n6_;clear n0_ n1_ n2_ n3_ n4_ n5_ n6_;clear hg hw hp_;have hcz40_0:w39.cell? ⟨gb624,0,none⟩=some (.slice Ao15 t617.length co15):=(blk_cell BK624.out 0).trans rfl;have hcz40_1:w39.cell? ⟨gb624,1,none⟩=some (.slice Ao35 x625001_1.length co35):=(blk_cell BK624.out 1).trans rfl;have hcz40_2:w39.cell? ⟨gb624,2,none⟩=some (.int .i64 t623):=(blk_cell BK624.out 2).trans rfl;have hfz40_0:=blk_frozen BK624.out 0;have hfz40_1:=blk_frozen BK624.out 1;have hfz40_2:=blk_frozen BK624.out 2))
           go_loopg [37] k1 (fun kq v37 w'=>∃ (x9_2:List Int) (x37_2:Int),v37=.int .i64 x37_2∧Aside0 (impl_Graph_quietColours.l1 kq a1 (l0_0.length:Int) x7_1 x22_1 x9_2 (l0_0.length:Int) x22_1 x625001_1 (x625001_1.length:Int) x37_2 t617 x625001_1 t623=some r)∧Aside0 (kq≤k1)∧Aside0 (Kd.S (Kd.slice 3 (Kd.int .i64)) 22 w' w.heap.size (fun k_=>some k_≠((.slice (some ⟨go32,0,none⟩) y636.length co32):Value).ownBlock∧some k_≠((.slice Ao35 x625001_1.length co35):Value).ownBlock∧some k_≠((.slice Ao15 t617.length co15):Value).ownBlock∧some k_≠((.slice Ao35 x625001_1.length co35):Value).ownBlock) u7 x7_1)∧Aside0 (Kd.R (Kd.int .i64) 3 w' w.heap.size (fun k_=>some k_≠((.slice Ao35 x625001_1.length co35):Value).ownBlock∧some k_≠((.slice Ao35 x625001_1.length co35):Value).ownBlock) (.slice (some ⟨go32,0,none⟩) y636.length co32) x9_2)∧Aside0 (Kd.R (Kd.int .i64) 3 w' w.heap.size (fun k_=>some k_≠((.slice (some ⟨go32,0,none⟩) y636.length co32):Value).ownBlock) (.slice Ao35 x625001_1.length co35) x625001_1)∧Aside0 (Kd.S (Kd.slice 3 (Kd.int .i64)) 22 w' w.heap.size (fun k_=>some k_≠(u7:Value).ownBlock∧some k_≠((.slice (some ⟨go32,0,none⟩) y636.length co32):Value).ownBlock∧some k_≠((.slice Ao35 x625001_1.length co35):Value).ownBlock∧some k_≠((.slice Ao35 x625001_1.length co35):Value).ownBlock) (.slice Ao15 t617.length co15) t617)∧Aside0 (Kd.R (Kd.int .i64) 3 w' w.heap.size (fun k_=>some k_≠((.slice (some ⟨go32,0,none⟩) y636.length co32):Value).ownBlock) (.slice Ao35 x625001_1.length co35) x625001_1)∧Aside0 (w'.heap[gb613]?=some (.cells #[(.slice A0_0 l0_0.length c0_0),.bool a0_1] 28 (0,0)))∧Aside0 (w'.heap[gb624]?=some (.cells #[(.slice Ao15 t617.length co15),(.slice Ao35 x625001_1.length co35),.int .i64 t623] 60 (0,0)))∧Aside0 (Below w.heap.size w w'))
           case atStart=>exact ⟨(y639),(0),(by first|rfl|(simp;done)|(simp [*];done)),H',⟨Nat.le_refl _⟩,⟨by (with_reducible repeat (first|apply Kd.S_alloc|apply Kd.S_drewN|apply Kd.S_drew));exact Kd.S_mono HO_7.out (fun _ hk=>⟨hk.2,⟨hk.1.2,⟨hk.1.1,hk.1.2⟩⟩⟩)⟩,⟨by (with_reducible repeat (first|apply Kd.R_alloc|apply Kd.R_drewN|apply Kd.R_drew));exact Kd.R_mono HO638.out (fun _ hk=>⟨hk,hk⟩)⟩,⟨by (with_reducible repeat (first|apply Kd.R_alloc|apply Kd.R_drewN|apply Kd.R_drew));exact Kd.R_mono HO_625001.out (fun _ hk=>hk.2)⟩,⟨by (with_reducible repeat (first|apply Kd.S_alloc|apply Kd.S_drewN|apply Kd.S_drew));exact Kd.S_mono HO_625000.out (fun _ hk=>⟨hk.1.1,⟨hk.2,⟨hk.1.2,hk.1.2⟩⟩⟩)⟩,⟨by (with_reducible repeat (first|apply Kd.R_alloc|apply Kd.R_drewN|apply Kd.R_drew));exact Kd.R_mono HO_625001.out (fun _ hk=>hk.2)⟩,⟨by (with_reducible repeat (first|refine blk_drewN ?_ _|refine blk_drew ?_|refine blk_alloc ?_ _));exact BK613.out⟩,⟨by (with_reducible repeat (first|refine blk_drewN ?_ _|refine blk_drew ?_|refine blk_alloc ?_ _));exact BK624.out⟩,⟨by repeat (first|(with_reducible first|exact HB.out|apply below_alloc|apply pw_below_drewN|apply below_drew1|refine below_set ?_ GE613.out|refine below_set ?_ GE624.out)|exact HB.out)⟩⟩
           case round=>
            clear H'
            (try clear c2);(try clear p2);(try clear c3);(try clear c3b0);(try clear c3b1);(try clear p3);(try clear q3);(try clear hx3);(try clear hf3);(try clear c4);(try clear c4b0);(try clear c4b1);(try clear c6);(try clear p6);(try clear c8);(try clear c22);(try clear c22b0);(try clear c24);(try clear c25);(try clear c28);(try clear c28b0);(try clear c28b1);(try clear c29);(try clear c29b0);(try clear c29b1);(try clear c30);(try clear c30b0);(try clear c31);(try clear c31b0);(try clear p32);(try clear q32);(try clear hx32);(try clear hf32);(try clear c33);(try clear hcz26_0);(try clear hcz26_1);(try clear hcz26_2);(try clear hcz34_0);(try clear hcz34_1);(try clear hcz34_2);(try clear hcz40_0);(try clear hcz40_1);(try clear hcz40_2);(try clear hcz7_0);(try clear hcz7_1);(try clear hfz26_0);(try clear hfz26_1);(try clear hfz26_2);(try clear hfz34_0);(try clear hfz34_1);(try clear hfz34_2);(try clear hfz40_0);(try clear hfz40_1);(try clear hfz40_2);(try clear hfz7_0);(try clear hfz7_1);(try clear hx32_0);(try clear p2);(try clear p32);(try clear q32)
            obtain ⟨x9_2,x37_2,rfl,HA,HK2,HO_7,HO_9,HO_35,HO_625000,HO_625001,BK613,BK624,HB⟩:=hrel
            have hl9_2:=(Kd.R_reads' HO_9.out).1
            rw [hl9_2] at HO_9
            (try simp only [hl9_2])
            (try simp only [hl9_2] at BK613)
            (try simp only [hl9_2] at BK624)
            (try simp only [hl9_2] at HO_7)
            (try simp only [hl9_2] at HO_35)
            (try simp only [hl9_2] at HO_625000)
            (try simp only [hl9_2] at HO_625001)
            cases gk with
            |zero=>exact absurd HA.out (by simp [impl_Graph_quietColours.l1])
            |succ k2=>
             have H:=HA.out
             clear HA
             simp only [impl_Graph_quietColours.l1] at H
             by_cases c41:x37_2< (x625001_1.length:Int)
             ·rw [if_pos c41] at H
              have c41b0:decide (x37_2< (x625001_1.length:Int))=true:=decide_eq_true c41
              clear c41
              by_cases c42:0≤x37_2
              ·rw [if_pos c42] at H
               have c42b0:decide (0≤x37_2)=true:=decide_eq_true c42
               clear c42
               by_cases c43:x37_2< (x625001_1.length:Int)
               ·rw [if_pos c43] at H
                have c43b0:decide (x37_2< (x625001_1.length:Int))=true:=decide_eq_true c43
                clear c43
                by_cases c44:x37_2< (t617.length:Int)
                ·rw [if_pos c44] at H
                 have c44b0:decide (x37_2< (t617.length:Int))=true:=decide_eq_true c44
                 clear c44
                 by_cases c45:0≤x22_1
                 ·rw [if_pos c45] at H
                  have c45b0:decide (0≤x22_1)=true:=decide_eq_true c45
                  clear c45
                  by_cases c46:x22_1< ((rd_L1 t617 x37_2).length:Int)
                  ·rw [if_pos c46] at H
                   have c46b0:decide (x22_1< ((rd_L1 t617 x37_2).length:Int))=true:=decide_eq_true c46
                   clear c46
                   replace H:=Option.bind_eq_some_iff.mp H
                   obtain ⟨t643,A470,H⟩:=H
                   replace H:(if 0≤(rd x625001_1 x37_2) then (if (rd x625001_1 x37_2)< (x9_2.length:Int) then (impl_Graph_quietColours.l1 k2 a1 (l0_0.length:Int) x7_1 x22_1 (x9_2.set ((rd x625001_1 x37_2):Int).toNat t643) (l0_0.length:Int) x22_1 x625001_1 (x625001_1.length:Int) (wrap64 (x37_2+1)) t617 x625001_1 t623) else (none)) else (none))=some r:=H
                   have A47:=Aside0.mk A470
                   clear A470
                   by_cases c48:0≤(rd x625001_1 x37_2)
                   ·rw [if_pos c48] at H
                    have c48b0:decide (0≤(rd x625001_1 x37_2))=true:=decide_eq_true c48
                    clear c48
                    by_cases c49:(rd x625001_1 x37_2)< (x9_2.length:Int)
                    ·rw [if_pos c49] at H
                     have c49b0:decide ((rd x625001_1 x37_2)< (x9_2.length:Int))=true:=decide_eq_true c49
                     clear c49
                     obtain ⟨y644,hy644⟩:∃ y_:List Int,y_=(x9_2.set ((rd x625001_1 x37_2):Int).toNat t643):=⟨_,rfl⟩
                     replace H:(impl_Graph_quietColours.l1 k2 a1 (l0_0.length:Int) x7_1 x22_1 y644 (l0_0.length:Int) x22_1 x625001_1 (x625001_1.length:Int) (wrap64 (x37_2+1)) t617 x625001_1 t623)=some r:=by first|(rw [hy644];with_reducible exact H)|(have H2_:=(Option.bind_some _ _).symm.trans H;rw [hy644];with_reducible exact H2_)|(have H2_:=(Option.bind_some _ _).symm.trans H;with_reducible exact H2_)|with_reducible exact H|(rw [hy644];exact H)|exact H
                     have Ny644:=Aside0.mk hy644
                     clear hy644
                     have H':=Aside0.mk H
                     clear H
                     have p640:0≤(x37_2:Int):=of_decide_eq_true (by first|(with_reducible assumption)|assumption)
                     have q640:x37_2< (x625001_1.length:Int):=of_decide_eq_true (by first|(with_reducible assumption)|assumption)
                     obtain ⟨ad640,e640,hx640_0⟩:=Kd.at_int (Kd.R_reads' HO_35.out).2.2 x37_2 p640 q640
                     cases e640
                     replace p640:=eq_true p640
                     replace q640:=eq_true q640
                     have hnb51:=NB624_613.out
                     have hnc51:=NB613_624.out
                     have hcz52_0:wr.cell? ⟨gb624,0,none⟩=some (.slice Ao15 t617.length co15):=(blk_cell BK624.out 0).trans rfl
                     have hcz52_1:wr.cell? ⟨gb624,1,none⟩=some (.slice (some ad640) x625001_1.length co35):=(blk_cell BK624.out 1).trans rfl
                     have hcz52_2:wr.cell? ⟨gb624,2,none⟩=some (.int .i64 t623):=(blk_cell BK624.out 2).trans rfl
                     have hfz52_0:=blk_frozen BK624.out 0
                     have hfz52_1:=blk_frozen BK624.out 1
                     have hfz52_2:=blk_frozen BK624.out 2
                     have p641:0≤(x37_2:Int):=of_decide_eq_true (by first|(with_reducible assumption)|assumption)
                     have q641:x37_2< (t617.length:Int):=of_decide_eq_true (by first|(with_reducible assumption)|assumption)
                     obtain ⟨ad641,A641_0,c641_0,e641,hx641_0,hl641_0,hi641_0⟩:=at_L1 (Kd.S_reads' HO_625000.out).2.2 x37_2 p641 q641
                     cases e641
                     obtain ⟨ce641,hce641,hMe641,hcc641⟩:=Kd.S_get HO_625000.out [] x37_2 p641 (by first|exact q641|exact of_decide_eq_true (by first|(with_reducible assumption)|assumption)|(have e_:=(Kd.S_reads' HO_625000.out).1;omega))
                     obtain ⟨ve641_0,rfl,ge641_0⟩:=hMe641
                     have hv641_0:=hcc641 0 _ rfl
                     rw [Nat.add_zero,show ((Kd.slice 3 (Kd.int .i64))).sz=1 from rfl,Nat.mul_one] at hv641_0
                     replace hv641_0:=Option.some.inj (hv641_0.symm.trans hx641_0)
                     rw [hv641_0] at ge641_0
                     have HL641_0:=Aside0.mk (show Kd.R (Kd.int .i64) 3 _ _ _ _ (rd_L1 t617 x37_2) from ge641_0)
                     clear hv641_0 ge641_0;clear hcc641 hce641
                     have HR641_0:=Aside0.mk hi641_0
                     have HC641_0:=Aside0.mk hl641_0
                     clear hi641_0 hl641_0
                     replace p641:=eq_true p641
                     replace q641:=eq_true q641
                     have p642:0≤(x22_1:Int):=of_decide_eq_true (by first|(with_reducible assumption)|assumption)
                     have q642:x22_1< ((rd_L1 t617 x37_2).length:Int):=of_decide_eq_true (by first|(with_reducible assumption)|assumption)
                     obtain ⟨ad642,e642,hx642_0⟩:=Kd.at_int (by repeat (first|(with_reducible exact HR641_0.out)|(with_reducible refine Kd.C_alloc ?_ _)|(with_reducible refine Kd.C_drewN ?_ _)|(with_reducible refine Kd.C_drew ?_)|exact HR641_0.out)) x22_1 p642 q642
                     cases e642
                     replace p642:=eq_true p642
                     replace q642:=eq_true q642
                     go_wp2_with (first|((with_reducible refine gate_callee (f:=88) rfl ?_);refine goesL_ (some 54) rfl rfl Try.func88 (by kernel_rfl) rfl #[.int .i64 (wrap64 (-(rd (rd_L1 t617 x37_2) x22_1))),.int .i64 a1] rfl (by (try simp only [List.map_toArray,List.map_cons,List.map_nil]);first|done|rfl|(simp only [List.length_drop,List.length_take];rfl)) ?_;(with_reducible refine (impl_mod.calls (wrap64 (-(rd (rd_L1 t617 x37_2) x22_1))) a1 t643 _ A47.out).mono ?_);rintro e w' ⟨rfl,⟨nd,rfl⟩⟩;refine ⟨_,rfl,?_⟩;(try (rw [drewN_self wr];generalize hq_:World.drewN wr _=wr;have n0_:Aside0 (Kd.R (Kd.int .i64) 3 wr w.heap.size (fun k_=>some k_≠(.slice (some ad640) x625001_1.length co35:Value).ownBlock∧some k_≠(.slice (some ad641) t617.length co15:Value).ownBlock∧some k_≠(.slice (some ad640) x625001_1.length co35:Value).ownBlock∧some k_≠(u7:Value).ownBlock∧some k_≠(.slice (some ⟨go32,0,none⟩) x9_2.length co32:Value).ownBlock) (.slice (some ad642) (rd_L1 t617 x37_2).length c641_0) (rd_L1 t617 x37_2)):=⟨by rw [← hq_];exact (by (with_reducible repeat (first|apply Kd.R_alloc|apply Kd.R_drewN|apply Kd.R_drew));exact Kd.R_mono HL641_0.out (fun _ hk=>by (repeat' apply And.intro)<;>(first|exact hk.1|exact hk.2.1|exact hk.2.2.1|exact hk.2.2.2.1|exact hk.2.2.2.2.1|exact hk.2.2.2.2.2.1|exact hk.2.2.2.2.2.2.1|exact hk.2.2.2.2.2.2.2.1|exact hk.2.2.2.2.2.2.2.2.1|exact hk.2.2|exact hk.2.2.2|exact hk.2.2.2.2|exact hk.2.2.2.2.2|exact hk.2.2.2.2.2.2|exact hk.2.2.2.2.2.2.2|exact hk.2.2.2.2.2.2.2.2|exact hk.1.1|exact hk.1.2.1|exact hk.1.2.2.1|exact hk.1.2.2.2.1|exact hk.1.2.2.2.2.1|exact hk.1.2.2.2.2.2.1|exact hk.1.2.2.2.2.2.2.1|exact hk.1.2.2.2.2.2.2.2.1|exact hk.1.2|exact hk.1.2.2|exact hk.1.2.2.2|exact hk.1.2.2.2.2|exact hk.1.2.2.2.2.2|exact hk.1.2.2.2.2.2.2|exact hk.1.2.2.2.2.2.2.2|exact hk.1.2.2.2.2.2.2.2.2|exact hk.2)))⟩;have n1_:Aside0 (Kd.R (Kd.int .i64) 3 wr w.heap.size (fun k_=>some k_≠(.slice (some ⟨go32,0,none⟩) x9_2.length co32:Value).ownBlock) (.slice (some ad640) x625001_1.length co35) x625001_1):=⟨by rw [← hq_];exact (by (with_reducible repeat (first|apply Kd.R_alloc|apply Kd.R_drewN|apply Kd.R_drew));exact HO_35.out)⟩;have n2_:Aside0 (Kd.S (Kd.slice 3 (Kd.int .i64)) 22 wr w.heap.size (fun k_=>some k_≠(.slice (some ad640) x625001_1.length co35:Value).ownBlock∧some k_≠(.slice (some ad640) x625001_1.length co35:Value).ownBlock∧some k_≠(u7:Value).ownBlock∧some k_≠(.slice (some ⟨go32,0,none⟩) x9_2.length co32:Value).ownBlock) (.slice (some ad641) t617.length co15) t617):=⟨by rw [← hq_];exact (by (with_reducible repeat (first|apply Kd.S_alloc|apply Kd.S_drewN|apply Kd.S_drew));exact Kd.S_mono HO_625000.out (fun _ hk=>by (repeat' apply And.intro)<;>(first|exact hk.1|exact hk.2.1|exact hk.2.2.1|exact hk.2.2.2.1|exact hk.2.2.2.2.1|exact hk.2.2.2.2.2.1|exact hk.2.2.2.2.2.2.1|exact hk.2.2.2.2.2.2.2.1|exact hk.2.2.2.2.2.2.2.2.1|exact hk.2.2|exact hk.2.2.2|exact hk.2.2.2.2|exact hk.2.2.2.2.2|exact hk.2.2.2.2.2.2|exact hk.2.2.2.2.2.2.2|exact hk.2.2.2.2.2.2.2.2|exact hk.1.1|exact hk.1.2.1|exact hk.1.2.2.1|exact hk.1.2.2.2.1|exact hk.1.2.2.2.2.1|exact hk.1.2.2.2.2.2.1|exact hk.1.2.2.2.2.2.2.1|exact hk.1.2.2.2.2.2.2.2.1|exact hk.1.2|exact hk.1.2.2|exact hk.1.2.2.2|exact hk.1.2.2.2.2|exact hk.1.2.2.2.2.2|exact hk.1.2.2.2.2.2.2|exact hk.1.2.2.2.2.2.2.2|exact hk.1.2.2.2.2.2.2.2.2|exact hk.2)))⟩;have n3_:Aside0 (Kd.R (Kd.int .i64) 3 wr w.heap.size (fun k_=>some k_≠(.slice (some ⟨go32,0,none⟩) x9_2.length co32:Value).ownBlock) (.slice (some ad640) x625001_1.length co35) x625001_1):=⟨by rw [← hq_];exact (by (with_reducible repeat (first|apply Kd.R_alloc|apply Kd.R_drewN|apply Kd.R_drew));exact HO_625001.out)⟩;have n4_:Aside0 (Kd.S (Kd.slice 3 (Kd.int .i64)) 22 wr w.heap.size (fun k_=>some k_≠(.slice (some ad640) x625001_1.length co35:Value).ownBlock∧some k_≠(.slice (some ad641) t617.length co15:Value).ownBlock∧some k_≠(.slice (some ad640) x625001_1.length co35:Value).ownBlock∧some k_≠(.slice (some ⟨go32,0,none⟩) x9_2.length co32:Value).ownBlock) u7 x7_1):=⟨by rw [← hq_];exact (by (with_reducible repeat (first|apply Kd.S_alloc|apply Kd.S_drewN|apply Kd.S_drew));exact Kd.S_mono HO_7.out (fun _ hk=>by (repeat' apply And.intro)<;>(first|exact hk.1|exact hk.2.1|exact hk.2.2.1|exact hk.2.2.2.1|exact hk.2.2.2.2.1|exact hk.2.2.2.2.2.1|exact hk.2.2.2.2.2.2.1|exact hk.2.2.2.2.2.2.2.1|exact hk.2.2.2.2.2.2.2.2.1|exact hk.2.2|exact hk.2.2.2|exact hk.2.2.2.2|exact hk.2.2.2.2.2|exact hk.2.2.2.2.2.2|exact hk.2.2.2.2.2.2.2|exact hk.2.2.2.2.2.2.2.2|exact hk.1.1|exact hk.1.2.1|exact hk.1.2.2.1|exact hk.1.2.2.2.1|exact hk.1.2.2.2.2.1|exact hk.1.2.2.2.2.2.1|exact hk.1.2.2.2.2.2.2.1|exact hk.1.2.2.2.2.2.2.2.1|exact hk.1.2|exact hk.1.2.2|exact hk.1.2.2.2|exact hk.1.2.2.2.2|exact hk.1.2.2.2.2.2|exact hk.1.2.2.2.2.2.2|exact hk.1.2.2.2.2.2.2.2|exact hk.1.2.2.2.2.2.2.2.2|exact hk.2)))⟩;have n5_:Aside0 (Kd.R (Kd.int .i64) 3 wr w.heap.size (fun k_=>some k_≠(.slice (some ad640) x625001_1.length co35:Value).ownBlock∧some k_≠(.slice (some ad640) x625001_1.length co35:Value).ownBlock) (.slice (some ⟨go32,0,none⟩) x9_2.length co32) x9_2):=⟨by rw [← hq_];exact (by (with_reducible repeat (first|apply Kd.R_alloc|apply Kd.R_drewN|apply Kd.R_drew));exact HO_9.out)⟩;have n6_:Aside0 (wr.heap[gb613]?=some (.cells #[.slice A0_0 l0_0.length c0_0,.bool a0_1] 28 (0,0))):=⟨by rw [← hq_];exact (by (with_reducible repeat (first|refine blk_drewN ?_ _|refine blk_drew ?_|refine blk_alloc ?_ _));exact BK613.out)⟩;have n7_:Aside0 (wr.heap[gb624]?=some (.cells #[.slice (some ad641) t617.length co15,.slice (some ad640) x625001_1.length co35,.int .i64 t623] 60 (0,0))):=⟨by rw [← hq_];exact (by (with_reducible repeat (first|refine blk_drewN ?_ _|refine blk_drew ?_|refine blk_alloc ?_ _));exact BK624.out)⟩;have n8_:Aside0 (Below w.heap.size w wr):=⟨by rw [← hq_];exact (by repeat (first|(with_reducible first|exact HB.out|apply below_alloc|apply pw_below_drewN|apply below_drew1|refine below_set ?_ GE613.out|refine below_set ?_ GE624.out)|exact HB.out))⟩;have n9_:Aside0 (Kd.C (Kd.int .i64) wr (some ad642) (rd_L1 t617 x37_2).length (rd_L1 t617 x37_2)):=⟨by rw [← hq_];exact (by repeat (first|(with_reducible exact HR641_0.out)|(with_reducible refine Kd.C_alloc ?_ _)|(with_reducible refine Kd.C_drewN ?_ _)|(with_reducible refine Kd.C_drew ?_)|exact HR641_0.out))⟩;clear HL641_0 HO_35 HO_625000 HO_625001 HO_7 HO_9 BK613 BK624 HB HR641_0 hq_;have HL641_0:=n0_;have HO_35:=n1_;have HO_625000:=n2_;have HO_625001:=n3_;have HO_7:=n4_;have HO_9:=n5_;have BK613:=n6_;have BK624:=n7_;have HB:=n8_;have HR641_0:=n9_;clear n0_ n1_ n2_ n3_ n4_ n5_ n6_ n7_ n8_ n9_));have p50:0≤((rd x625001_1 x37_2):Int):=of_decide_eq_true (by first|(with_reducible assumption)|assumption);have q50:((rd x625001_1 x37_2):Int)< ((x9_2.length:Int):Int):=of_decide_eq_true (by first|(with_reducible assumption)|assumption);obtain ⟨hx50_0,hf50_0⟩:=Kd.R_celln 0 HO_9.out ((rd x625001_1 x37_2):Int) p50 q50;replace p50:=eq_true p50;replace q50:=eq_true q50;obtain ⟨hy53_,hz53_⟩:=Kd.R_celln 0 HO_9.out ((rd x625001_1 x37_2):Int) (of_decide_eq_true (by first|(with_reducible assumption)|assumption)) (of_decide_eq_true (by first|(with_reducible assumption)|assumption));have HP53:=Kd.R_putg HO_9.out ((rd x625001_1 x37_2):Int) t643)|((with_reducible refine gate_store (t:=3) (p:=55) rfl ?_);refine store_event (t:=3) (p:=55) (v:=?vo_w54) (w1:=(wr.setCell ⟨go32,((rd x625001_1 x37_2):Int).toNat,none⟩ (.int .i64 t643))) ?hg ?ho ?hn ?hr ?_;(case ho=>rfl);(case hg=>rfl);(case hn=>rfl);(case hr=>first|(go_simp;done)|(go_simp;rfl));intro w54 hw;have hg:wr.grownBy w54 (some go32):=(by rw [hw];exact HP53.2);have hp_:Kd.R (Kd.int .i64) 3 w54 w.heap.size (fun k_=>some k_≠(.slice (some ad640) x625001_1.length co35:Value).ownBlock∧some k_≠(.slice (some ad640) x625001_1.length co35:Value).ownBlock) (.slice (some ⟨go32,0,none⟩) x9_2.length co32) y644:=(by rw [hw,Ny644.out];exact HP53.1);clear HP53;have n0_:=Aside0.mk (Kd.S_after (v:=(.slice (some ⟨go32,0,none⟩) x9_2.length co32)) (v1:=(.slice (some ⟨go32,0,none⟩) x9_2.length co32)) (ok:=(fun k_=>some k_≠(.slice (some ad640) x625001_1.length co35:Value).ownBlock∧some k_≠(.slice (some ad641) t617.length co15:Value).ownBlock∧some k_≠(.slice (some ad640) x625001_1.length co35:Value).ownBlock)) (by (with_reducible repeat (first|apply Kd.S_alloc|apply Kd.S_drewN|apply Kd.S_drew));exact Kd.S_mono HO_7.out (fun _ hk=>by (repeat' apply And.intro)<;>(first|exact hk.1|exact hk.2.1|exact hk.2.2.1|exact hk.2.2.2.1|exact hk.2.2.2.2.1|exact hk.2.2.2.2.2.1|exact hk.2.2.2.2.2.2.1|exact hk.2.2.2.2.2.2.2.1|exact hk.2.2.2.2.2.2.2.2.1|exact hk.2.2|exact hk.2.2.2|exact hk.2.2.2.2|exact hk.2.2.2.2.2|exact hk.2.2.2.2.2.2|exact hk.2.2.2.2.2.2.2|exact hk.2.2.2.2.2.2.2.2|exact hk.1.1|exact hk.1.2.1|exact hk.1.2.2.1|exact hk.1.2.2.2.1|exact hk.1.2.2.2.2.1|exact hk.1.2.2.2.2.2.1|exact hk.1.2.2.2.2.2.2.1|exact hk.1.2.2.2.2.2.2.2.1|exact hk.1.2|exact hk.1.2.2|exact hk.1.2.2.2|exact hk.1.2.2.2.2|exact hk.1.2.2.2.2.2|exact hk.1.2.2.2.2.2.2|exact hk.1.2.2.2.2.2.2.2|exact hk.1.2.2.2.2.2.2.2.2|exact hk.2))) hg (.inl rfl));have n1_:=Aside0.mk (hp_);have n2_:=Aside0.mk (Kd.R_after (v:=(.slice (some ⟨go32,0,none⟩) x9_2.length co32)) (v1:=(.slice (some ⟨go32,0,none⟩) x9_2.length co32)) (ok:=(fun _=>True)) (by (with_reducible repeat (first|apply Kd.R_alloc|apply Kd.R_drewN|apply Kd.R_drew));exact Kd.R_mono HO_35.out (fun _ hk=>⟨trivial,hk⟩)) hg (.inl rfl));have n3_:=Aside0.mk (Kd.S_after (v:=(.slice (some ⟨go32,0,none⟩) x9_2.length co32)) (v1:=(.slice (some ⟨go32,0,none⟩) x9_2.length co32)) (ok:=(fun k_=>some k_≠(u7:Value).ownBlock∧some k_≠(.slice (some ad640) x625001_1.length co35:Value).ownBlock∧some k_≠(.slice (some ad640) x625001_1.length co35:Value).ownBlock)) (by (with_reducible repeat (first|apply Kd.S_alloc|apply Kd.S_drewN|apply Kd.S_drew));exact Kd.S_mono HO_625000.out (fun _ hk=>by (repeat' apply And.intro)<;>(first|exact hk.1|exact hk.2.1|exact hk.2.2.1|exact hk.2.2.2.1|exact hk.2.2.2.2.1|exact hk.2.2.2.2.2.1|exact hk.2.2.2.2.2.2.1|exact hk.2.2.2.2.2.2.2.1|exact hk.2.2.2.2.2.2.2.2.1|exact hk.2.2|exact hk.2.2.2|exact hk.2.2.2.2|exact hk.2.2.2.2.2|exact hk.2.2.2.2.2.2|exact hk.2.2.2.2.2.2.2|exact hk.2.2.2.2.2.2.2.2|exact hk.1.1|exact hk.1.2.1|exact hk.1.2.2.1|exact hk.1.2.2.2.1|exact hk.1.2.2.2.2.1|exact hk.1.2.2.2.2.2.1|exact hk.1.2.2.2.2.2.2.1|exact hk.1.2.2.2.2.2.2.2.1|exact hk.1.2|exact hk.1.2.2|exact hk.1.2.2.2|exact hk.1.2.2.2.2|exact hk.1.2.2.2.2.2|exact hk.1.2.2.2.2.2.2|exact hk.1.2.2.2.2.2.2.2|exact hk.1.2.2.2.2.2.2.2.2|exact hk.2))) hg (.inl rfl));have n4_:=Aside0.mk (Kd.R_after (v:=(.slice (some ⟨go32,0,none⟩) x9_2.length co32)) (v1:=(.slice (some ⟨go32,0,none⟩) x9_2.length co32)) (ok:=(fun _=>True)) (by (with_reducible repeat (first|apply Kd.R_alloc|apply Kd.R_drewN|apply Kd.R_drew));exact Kd.R_mono HO_625001.out (fun _ hk=>⟨trivial,hk⟩)) hg (.inl rfl));have n5_:=Aside0.mk (blk_grown (g:=gb613) (o:=.cells #[.slice A0_0 l0_0.length c0_0,.bool a0_1] 28 (0,0)) (by (with_reducible repeat (first|refine blk_drewN ?_ _|refine blk_drew ?_|refine blk_alloc ?_ _));exact BK613.out) hg (Kd.R_ne HO_9.out BK613.out (by decide)));have n6_:=Aside0.mk (blk_grown (g:=gb624) (o:=.cells #[.slice (some ad641) t617.length co15,.slice (some ad640) x625001_1.length co35,.int .i64 t623] 60 (0,0)) (by (with_reducible repeat (first|refine blk_drewN ?_ _|refine blk_drew ?_|refine blk_alloc ?_ _));exact BK624.out) hg (Kd.R_ne HO_9.out BK624.out (by decide)));have n7_:=Aside0.mk (Kd.R_after (v:=(.slice (some ⟨go32,0,none⟩) x9_2.length co32)) (v1:=(.slice (some ⟨go32,0,none⟩) x9_2.length co32)) (ok:=(fun k_=>some k_≠(u7:Value).ownBlock∧some k_≠(.slice (some ad640) x625001_1.length co35:Value).ownBlock∧some k_≠(.slice (some ad641) t617.length co15:Value).ownBlock∧some k_≠(.slice (some ad640) x625001_1.length co35:Value).ownBlock)) (by (with_reducible repeat (first|apply Kd.R_alloc|apply Kd.R_drewN|apply Kd.R_drew));exact Kd.R_mono HL641_0.out (fun _ hk=>by (repeat' apply And.intro)<;>(first|exact hk.1|exact hk.2.1|exact hk.2.2.1|exact hk.2.2.2.1|exact hk.2.2.2.2.1|exact hk.2.2.2.2.2.1|exact hk.2.2.2.2.2.2.1|exact hk.2.2.2.2.2.2.2.1|exact hk.2.2.2.2.2.2.2.2.1|exact hk.2.2|exact hk.2.2.2|exact hk.2.2.2.2|exact hk.2.2.2.2.2|exact hk.2.2.2.2.2.2|exact hk.2.2.2.2.2.2.2|exact hk.2.2.2.2.2.2.2.2|exact hk.1.1|exact hk.1.2.1|exact hk.1.2.2.1|exact hk.1.2.2.2.1|exact hk.1.2.2.2.2.1|exact hk.1.2.2.2.2.2.1|exact hk.1.2.2.2.2.2.2.1|exact hk.1.2.2.2.2.2.2.2.1|exact hk.1.2|exact hk.1.2.2|exact hk.1.2.2.2|exact hk.1.2.2.2.2|exact hk.1.2.2.2.2.2|exact hk.1.2.2.2.2.2.2|exact hk.1.2.2.2.2.2.2.2|exact hk.1.2.2.2.2.2.2.2.2|exact hk.2))) hg (.inl rfl));have n8_:=Aside0.mk ((by rw [hw];exact below_set (HB.out) GB32.out:Below w.heap.size w w54));clear HO_7;clear HO_9;clear HO_35;clear HO_625000;clear HO_625001;clear BK613;clear BK624;clear HL641_0;clear HB;have HO_7:=n0_;have HO_9:=n1_;have HO_35:=n2_;have HO_625000:=n3_;have HO_625001:=n4_;have BK613:=n5_;have BK624:=n6_;have HL641_0:=n7_;have HB:=n8_;clear n0_ n1_ n2_ n3_ n4_ n5_ n6_ n7_ n8_;clear hg hw hp_))
                     (try simp only [← hl9_2])
                     go_roundg k2
                     case measure=>have:=HK1.out;have:=HK2.out;omega
                     case rel=>exact ⟨(y644),(wrap64 (x37_2+1)),(by first|rfl|(simp;done)|(simp [*];done)),H',⟨by have:=HK1.out;have:=HK2.out;omega⟩,⟨by (try simp only [hl9_2]);(with_reducible repeat (first|apply Kd.S_alloc|apply Kd.S_drewN|apply Kd.S_drew));exact Kd.S_mono HO_7.out (fun _ hk=>by (repeat' apply And.intro)<;>(first|exact hk.1|exact hk.2.1|exact hk.2.2.1|exact hk.2.2.2.1|exact hk.2.2.2.2.1|exact hk.2.2.2.2.2.1|exact hk.2.2.2.2.2.2.1|exact hk.2.2.2.2.2.2.2.1|exact hk.2.2.2.2.2.2.2.2.1|exact hk.2.2|exact hk.2.2.2|exact hk.2.2.2.2|exact hk.2.2.2.2.2|exact hk.2.2.2.2.2.2|exact hk.2.2.2.2.2.2.2|exact hk.2.2.2.2.2.2.2.2|exact hk.1.1|exact hk.1.2.1|exact hk.1.2.2.1|exact hk.1.2.2.2.1|exact hk.1.2.2.2.2.1|exact hk.1.2.2.2.2.2.1|exact hk.1.2.2.2.2.2.2.1|exact hk.1.2.2.2.2.2.2.2.1|exact hk.1.2|exact hk.1.2.2|exact hk.1.2.2.2|exact hk.1.2.2.2.2|exact hk.1.2.2.2.2.2|exact hk.1.2.2.2.2.2.2|exact hk.1.2.2.2.2.2.2.2|exact hk.1.2.2.2.2.2.2.2.2|exact hk.2))⟩,⟨by (try simp only [hl9_2]);(with_reducible repeat (first|apply Kd.R_alloc|apply Kd.R_drewN|apply Kd.R_drew));exact HO_9.out⟩,⟨by (try simp only [hl9_2]);(with_reducible repeat (first|apply Kd.R_alloc|apply Kd.R_drewN|apply Kd.R_drew));exact Kd.R_mono HO_35.out (fun _ hk=>hk.2)⟩,⟨by (try simp only [hl9_2]);(with_reducible repeat (first|apply Kd.S_alloc|apply Kd.S_drewN|apply Kd.S_drew));exact Kd.S_mono HO_625000.out (fun _ hk=>by (repeat' apply And.intro)<;>(first|exact hk.1|exact hk.2.1|exact hk.2.2.1|exact hk.2.2.2.1|exact hk.2.2.2.2.1|exact hk.2.2.2.2.2.1|exact hk.2.2.2.2.2.2.1|exact hk.2.2.2.2.2.2.2.1|exact hk.2.2.2.2.2.2.2.2.1|exact hk.2.2|exact hk.2.2.2|exact hk.2.2.2.2|exact hk.2.2.2.2.2|exact hk.2.2.2.2.2.2|exact hk.2.2.2.2.2.2.2|exact hk.2.2.2.2.2.2.2.2|exact hk.1.1|exact hk.1.2.1|exact hk.1.2.2.1|exact hk.1.2.2.2.1|exact hk.1.2.2.2.2.1|exact hk.1.2.2.2.2.2.1|exact hk.1.2.2.2.2.2.2.1|exact hk.1.2.2.2.2.2.2.2.1|exact hk.1.2|exact hk.1.2.2|exact hk.1.2.2.2|exact hk.1.2.2.2.2|exact hk.1.2.2.2.2.2|exact hk.1.2.2.2.2.2.2|exact hk.1.2.2.2.2.2.2.2|exact hk.1.2.2.2.2.2.2.2.2|exact hk.2))⟩,⟨by (try simp only [hl9_2]);(with_reducible repeat (first|apply Kd.R_alloc|apply Kd.R_drewN|apply Kd.R_drew));exact Kd.R_mono HO_625001.out (fun _ hk=>hk.2)⟩,⟨by (try simp only [hl9_2]);(with_reducible repeat (first|refine blk_drewN ?_ _|refine blk_drew ?_|refine blk_alloc ?_ _));exact BK613.out⟩,⟨by (try simp only [hl9_2]);(with_reducible repeat (first|refine blk_drewN ?_ _|refine blk_drew ?_|refine blk_alloc ?_ _));exact BK624.out⟩,⟨by repeat (first|(with_reducible first|exact HB.out|apply below_alloc|apply pw_below_drewN|apply below_drew1|refine below_set ?_ GE613.out|refine below_set ?_ GE624.out)|exact HB.out)⟩⟩
                    ·rw [if_neg c49] at H
                     exact absurd H (by simp)
                   ·rw [if_neg c48] at H
                    exact absurd H (by simp)
                  ·rw [if_neg c46] at H
                   exact absurd H (by simp)
                 ·rw [if_neg c45] at H
                  exact absurd H (by simp)
                ·rw [if_neg c44] at H
                 exact absurd H (by simp)
               ·rw [if_neg c43] at H
                exact absurd H (by simp)
              ·rw [if_neg c42] at H
               exact absurd H (by simp)
             ·rw [if_neg c41] at H
              have c41b0:decide (x37_2< (x625001_1.length:Int))=false:=decide_eq_false c41
              clear c41
              by_cases c55:x7_1.length< 5864062014805
              ·rw [if_pos c55] at H
               have LMc55:=Aside0.mk c55
               clear c55
               obtain ⟨y645,hy645⟩:∃ y_:List (List Int),y_=(x7_1++[x9_2]):=⟨_,rfl⟩
               replace H:(impl_Graph_quietColours.l0 k2 a1 (l0_0.length:Int) y645 (l0_0.length:Int) (wrap64 (x22_1+1)) t617 x625001_1 t623)=some r:=by first|(rw [hy645];with_reducible exact H)|(have H2_:=(Option.bind_some _ _).symm.trans H;rw [hy645];with_reducible exact H2_)|(have H2_:=(Option.bind_some _ _).symm.trans H;with_reducible exact H2_)|with_reducible exact H|(rw [hy645];exact H)|exact H
               have Ny645:=Aside0.mk hy645
               clear hy645
               have H':=Aside0.mk H
               clear H
               go_wp2_with (first|((with_reducible refine gate_builtin (b:=.append) (xs:=#[.tmp 57,.tmp 59]) rfl ?_);at_builtin;refine Kd.S_append (Kd.slice 3 (Kd.int .i64)) (w0:=w) w.heap.size rfl (.tmp 57) (.tmp 59) 44 22 (.slice none 0 0) 24 rfl Try.underlying44 info22 rfl (by decide) (by omega) u7 x7_1 x9_2 [.slice (some ⟨go32,0,none⟩) x9_2.length co32] (fun k_=>some k_≠(.slice Ao35 x625001_1.length co35:Value).ownBlock∧some k_≠(.slice Ao15 t617.length co15:Value).ownBlock∧some k_≠(.slice Ao35 x625001_1.length co35:Value).ownBlock) (fun k_=>some k_=(.slice (some ⟨go32,0,none⟩) x9_2.length co32:Value).ownBlock) rfl rfl ?aP (fun k_ hk_=>((Kd.R_mono (ok':=fun k_=>((fun k_=>some k_≠(.slice Ao35 x625001_1.length co35:Value).ownBlock∧some k_≠(.slice Ao15 t617.length co15:Value).ownBlock∧some k_≠(.slice Ao35 x625001_1.length co35:Value).ownBlock)) k_∧some k_≠(u7:Value).ownBlock) (Kd.R_apart' (Kd.R_apart' (HO_9.out) (Kd.S_typed HO_625000.out) (by decide)) (Kd.S_typed HO_7.out) (by decide)) (fun k_ hk=>⟨⟨hk.1.1.1,⟨hk.1.2,hk.1.1.2⟩⟩,hk.2⟩))).1 k_ hk_.symm) ?aF ?aO ?aB ?aS ?aL ?_;(case aP=>exact Kd.M_row (Kd.R_mono (Kd.R_tight rfl (Kd.R_mono (ok':=fun k_=>((fun k_=>some k_≠(.slice Ao35 x625001_1.length co35:Value).ownBlock∧some k_≠(.slice Ao15 t617.length co15:Value).ownBlock∧some k_≠(.slice Ao35 x625001_1.length co35:Value).ownBlock)) k_∧some k_≠(u7:Value).ownBlock) (Kd.R_apart' (Kd.R_apart' (HO_9.out) (Kd.S_typed HO_625000.out) (by decide)) (Kd.S_typed HO_7.out) (by decide)) (fun k_ hk=>⟨⟨hk.1.1.1,⟨hk.1.2,hk.1.1.2⟩⟩,hk.2⟩))) (fun _ h_=>h_)));(case aB=>exact (by repeat (first|(with_reducible first|exact HB.out|apply below_alloc|apply pw_below_drewN|apply below_drew1|refine below_set ?_ GE613.out|refine below_set ?_ GE624.out)|exact HB.out)));(case aF=>exact (fun k_ hk=>⟨Kd.fresh' (Kd.R_lt (by (with_reducible repeat (first|apply Kd.R_alloc|apply Kd.R_drewN|apply Kd.R_drew));exact HO_35.out)) k_ hk,Kd.fresh' (Kd.S_lt (by (with_reducible repeat (first|apply Kd.S_alloc|apply Kd.S_drewN|apply Kd.S_drew));exact HO_625000.out)) k_ hk,Kd.fresh' (Kd.R_lt (by (with_reducible repeat (first|apply Kd.R_alloc|apply Kd.R_drewN|apply Kd.R_drew));exact HO_625001.out)) k_ hk⟩));(case aO=>exact (by (with_reducible repeat (first|apply Kd.S_alloc|apply Kd.S_drewN|apply Kd.S_drew));exact Kd.S_mono HO_7.out (fun k_ hk=>⟨⟨hk.2.1,⟨hk.2.2.1,hk.2.2.2⟩⟩,fun e_=>hk.1 e_⟩)));(case aS=>exact (below_size (by repeat (first|(with_reducible first|exact HB.out|apply below_alloc|apply pw_below_drewN|apply below_drew1|refine below_set ?_ GE613.out|refine below_set ?_ GE624.out)|exact HB.out))));(case aL=>have:=LMc55.out;omega);intro v646 w56 ho hb hg hat;rw [← Ny645.out] at ho;have n0_:=Aside0.mk (Kd.R_over' (by (with_reducible repeat (first|apply Kd.R_alloc|apply Kd.R_drewN|apply Kd.R_drew));exact HO_35.out) (Kd.S_typed (by (with_reducible repeat (first|apply Kd.S_alloc|apply Kd.S_drewN|apply Kd.S_drew));exact HO_7.out)) (by decide) hg);have n1_:=Aside0.mk (Kd.S_after (ok:=(fun k_=>some k_≠(.slice (some ⟨go32,0,none⟩) x9_2.length co32:Value).ownBlock∧some k_≠(.slice Ao35 x625001_1.length co35:Value).ownBlock∧some k_≠(.slice Ao35 x625001_1.length co35:Value).ownBlock)) (by (with_reducible repeat (first|apply Kd.S_alloc|apply Kd.S_drewN|apply Kd.S_drew));exact Kd.S_mono HO_625000.out (fun _ hk=>⟨⟨hk.2.1,⟨hk.2.2.1,hk.2.2.2⟩⟩,hk.1⟩)) hg hat);have n2_:=Aside0.mk (Kd.R_over' (by (with_reducible repeat (first|apply Kd.R_alloc|apply Kd.R_drewN|apply Kd.R_drew));exact HO_625001.out) (Kd.S_typed (by (with_reducible repeat (first|apply Kd.S_alloc|apply Kd.S_drewN|apply Kd.S_drew));exact HO_7.out)) (by decide) hg);have n3_:=Aside0.mk (blk_grown (g:=gb613) (o:=.cells #[.slice A0_0 l0_0.length c0_0,.bool a0_1] 28 (0,0)) (by (with_reducible repeat (first|refine blk_drewN ?_ _|refine blk_drew ?_|refine blk_alloc ?_ _));exact BK613.out) hg (Kd.S_ne HO_7.out BK613.out (by decide)));have n4_:=Aside0.mk (blk_grown (g:=gb624) (o:=.cells #[.slice Ao15 t617.length co15,.slice Ao35 x625001_1.length co35,.int .i64 t623] 60 (0,0)) (by (with_reducible repeat (first|refine blk_drewN ?_ _|refine blk_drew ?_|refine blk_alloc ?_ _));exact BK624.out) hg (Kd.S_ne HO_7.out BK624.out (by decide)));have n5_:=Aside0.mk (hb);have n6_:=Aside0.mk (ho);clear HO_35;clear HO_625000;clear HO_625001;clear BK613;clear BK624;clear HB;clear HO_7;clear HO_9;have HO_35:=n0_;have HO_625000:=n1_;have HO_625001:=n2_;have BK613:=n3_;have BK624:=n4_;have HB:=n5_;have HO647:=n6_;clear n0_ n1_ n2_ n3_ n4_ n5_ n6_;clear ho hb hg hat))
               (try simp only [← hl9_2])
               go_roundg k2
               case measure=>have:=HK1.out;have:=HK2.out;omega
               case rel=>exact ⟨(y645),(wrap64 (x22_1+1)),(x625001_1),(.slice Ao35 x625001_1.length co35),(by first|rfl|(simp;done)|(simp [*];done)),H',⟨by have:=HK1.out;have:=HK2.out;omega⟩,⟨by (try simp only [hl9_2]);(with_reducible repeat (first|apply Kd.S_alloc|apply Kd.S_drewN|apply Kd.S_drew));exact Kd.S_mono HO647.out (fun _ hk=>by (repeat' apply And.intro)<;>(first|exact hk.1|exact hk.2.1|exact hk.2.2.1|exact hk.2.2.2.1|exact hk.2.2.2.2.1|exact hk.2.2.2.2.2.1|exact hk.2.2.2.2.2.2.1|exact hk.2.2.2.2.2.2.2.1|exact hk.2.2.2.2.2.2.2.2.1|exact hk.2.2|exact hk.2.2.2|exact hk.2.2.2.2|exact hk.2.2.2.2.2|exact hk.2.2.2.2.2.2|exact hk.2.2.2.2.2.2.2|exact hk.2.2.2.2.2.2.2.2|exact hk.1.1|exact hk.1.2.1|exact hk.1.2.2.1|exact hk.1.2.2.2.1|exact hk.1.2.2.2.2.1|exact hk.1.2.2.2.2.2.1|exact hk.1.2.2.2.2.2.2.1|exact hk.1.2.2.2.2.2.2.2.1|exact hk.1.2|exact hk.1.2.2|exact hk.1.2.2.2|exact hk.1.2.2.2.2|exact hk.1.2.2.2.2.2|exact hk.1.2.2.2.2.2.2|exact hk.1.2.2.2.2.2.2.2|exact hk.1.2.2.2.2.2.2.2.2|exact hk.2))⟩,⟨by (try simp only [hl9_2]);(with_reducible repeat (first|apply Kd.S_alloc|apply Kd.S_drewN|apply Kd.S_drew));exact Kd.S_mono HO_625000.out (fun _ hk=>by (repeat' apply And.intro)<;>(first|exact hk.1|exact hk.2.1|exact hk.2.2.1|exact hk.2.2.2.1|exact hk.2.2.2.2.1|exact hk.2.2.2.2.2.1|exact hk.2.2.2.2.2.2.1|exact hk.2.2.2.2.2.2.2.1|exact hk.2.2.2.2.2.2.2.2.1|exact hk.2.2|exact hk.2.2.2|exact hk.2.2.2.2|exact hk.2.2.2.2.2|exact hk.2.2.2.2.2.2|exact hk.2.2.2.2.2.2.2|exact hk.2.2.2.2.2.2.2.2|exact hk.1.1|exact hk.1.2.1|exact hk.1.2.2.1|exact hk.1.2.2.2.1|exact hk.1.2.2.2.2.1|exact hk.1.2.2.2.2.2.1|exact hk.1.2.2.2.2.2.2.1|exact hk.1.2.2.2.2.2.2.2.1|exact hk.1.2|exact hk.1.2.2|exact hk.1.2.2.2|exact hk.1.2.2.2.2|exact hk.1.2.2.2.2.2|exact hk.1.2.2.2.2.2.2|exact hk.1.2.2.2.2.2.2.2|exact hk.1.2.2.2.2.2.2.2.2|exact hk.2))⟩,⟨by (try simp only [hl9_2]);(with_reducible repeat (first|apply Kd.R_alloc|apply Kd.R_drewN|apply Kd.R_drew));exact Kd.R_mono HO_625001.out (fun _ hk=>trivial)⟩,⟨by (try simp only [hl9_2]);(with_reducible repeat (first|refine blk_drewN ?_ _|refine blk_drew ?_|refine blk_alloc ?_ _));exact BK613.out⟩,⟨by (try simp only [hl9_2]);(with_reducible repeat (first|refine blk_drewN ?_ _|refine blk_drew ?_|refine blk_alloc ?_ _));exact BK624.out⟩,⟨by repeat (first|(with_reducible first|exact HB.out|apply below_alloc|apply pw_below_drewN|apply below_drew1|refine below_set ?_ GE613.out|refine below_set ?_ GE624.out)|exact HB.out)⟩⟩
              ·rw [if_neg c55] at H
               exact absurd H (by simp)
          ·rw [if_neg c31] at H
           exact absurd H (by simp)
         ·rw [if_neg c30] at H
          exact absurd H (by simp)
        ·rw [if_neg c29] at H
         exact absurd H (by simp)
       ·rw [if_neg c28] at H
        exact absurd H (by simp)
     ·rw [if_neg c22] at H
      have c22b0:decide (x22_1< (l0_0.length:Int))=false:=decide_eq_false c22
      clear c22
      replace H:=Option.bind_eq_some_iff.mp H
      obtain ⟨⟨t628,t631,t634⟩,A570,H⟩:=H
      replace H:(some t628)=some r:=H
      have A57:=Aside0.mk A570
      clear A570
      obtain rfl:=Option.some.inj H
      obtain ⟨Ao58,co58,eo58⟩:=Kd.S_slice HO_7.out
      subst eo58
      go_wp2_with (first|((with_reducible refine gate_callee (f:=84) rfl ?_);refine goesL_ (some 65) rfl rfl Try.func84 (by kernel_rfl) rfl #[.slice Ao58 x7_1.length co58,.int .i64 (l0_0.length:Int),.int .i64 a1] rfl (by (try simp only [List.map_toArray,List.map_cons,List.map_nil]);first|done|rfl|(simp only [List.length_drop,List.length_take];rfl)) ?_;(with_reducible refine (impl_eliminate.calls k1 (fun k_=>w.heap.size≤k_) _ x7_1 (l0_0.length:Int) a1 t628 t631 t634 w _ ?side1 ?side2 (by have h_:=A57.out;unfold pseudo_elimS.f at h_;exact h_)).mono ?_);(case side1=>exact (by repeat (first|(with_reducible first|exact HB.out|apply below_alloc|apply pw_below_drewN|apply below_drew1|refine below_set ?_ GE613.out|refine below_set ?_ GE624.out)|exact HB.out)));(case side2=>exact (by (with_reducible repeat (first|apply Kd.S_alloc|apply Kd.S_drewN|apply Kd.S_drew));exact Kd.S_mono (Kd.S_bound HO_7.out) (fun k_ hk=>hk.2.1)));rintro e w59 ⟨v629,v632,rfl,ho0,ho1,hb,hk⟩;obtain ⟨Az0,cz0,ez0⟩:=Kd.S_slice ho0;subst ez0;obtain ⟨Az1,cz1,ez1⟩:=Kd.R_slice ho1;subst ez1;have hfd_:∀ w:World,(Instr.field 60 (.agg #[.slice Az0 t628.length cz0,.slice Az1 t631.length cz1,.int .i64 t634]) 0).run Try.prog w=.ok (.slice Az0 t628.length cz0) w:=fun _=>(by kernel_rfl);refine ⟨_,rfl,?_⟩;have n0_:=Aside0.mk (Kd.S_mono (ok':=fun _=>True) ho0 (fun _ _=>trivial));have n1_:=Aside0.mk hb;clear HO_7;clear HO_625000;clear HO_625001;clear BK613;clear BK624;clear HB;have HO630:=n0_;have HB:=n1_;clear n0_ n1_ hb hk ho0 ho1))
      go_ret
      exact ⟨_,by first|rfl|(simp [errW_none,errW_some]<;>rfl)|(simp [*,errW_none,errW_some]<;>rfl),by (with_reducible repeat (first|apply Kd.S_alloc|apply Kd.S_drewN|apply Kd.S_drew));exact Kd.S_mono HO630.out (fun _ hk=>trivial),by repeat (first|(with_reducible first|exact HB.out|apply below_alloc|apply pw_below_drewN|apply below_drew1|refine below_set ?_ GE613.out|refine below_set ?_ GE624.out)|exact HB.out)⟩
  ·rw [if_neg c4] at H
   exact absurd H (by simp)
 ·rw [if_neg c3] at H
  exact absurd H (by simp)
end Go.Proofs.Ytbbdjoahdbjljaa.P
