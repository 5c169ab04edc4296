-- Written by a program of this session (wip/mp.py), which runs the kit's print with contracts of the session's own.
import Derived.Test.YtcdobojoijmaaaaPx0
import Derived.Test.YtcdobojoijmaaaaPx1
import Derived.Test.YtcdobojoijmaaaaPx2
import Derived.Test.YtcdobojoijmaaaaPx4
import Derived.Test.YtcdobojoijmaaaaPx5
import Derived.Test.YtcdobojoijmaaaaPx7
import Derived.Test.YtcdobojoijmaaaaPx9
namespace Go.Proofs.Ytcdobojoijmaaaa.P
open Go.RowKit Go.Proofs.YtcdobojoijmaaaaW.PrintWords Go.Proofs.YtcdobojoijmaaaaW.PrintLast Go.Proofs.YtcdobojoijmaaaaW.PrintMore
attribute [local go_sem] max2_int min2_int max_two min_two max_three min_three max_four min_four   -- for this text's walks alone
set_option linter.unusedVariables false
set_option linter.unusedSimpArgs false

/-! ### laws_FnExactFromParents: function 9 -/
mutual
def laws_FnExactFromParents.j0 : Nat → List Int → Bool → Bool → List Int → Bool → Bool → List Int → Bool → List Int → Bool → Option (Bool)
  | 0, _, _, _, _, _, _, _, _, _, _ => none
  | k + 1, x0, x1, x6, x7, x9, x41, x315000, x315001, x324000, x324001 => if x41 = true then (some false) else ((laws_toIntS.f k x0).bind fun t325 => ((laws_eqIntS.f k x7 t325).bind fun t328 => (if t328 = true then ((laws_markIntS.f k x7 1).bind fun bt329 => (if bt329.1 < 0 then (laws_FnExactFromParents.j1 k x0 x1 x6 true x315000 x315001 x324000 x324001) else ((laws_eqGraph.f k x324000 x324001 x315000 x315001).bind fun t331 => (if t331 = true then (laws_FnExactFromParents.j1 k x0 x1 x6 (x9 != x6) x315000 x315001 x324000 x324001) else (laws_FnExactFromParents.j1 k x0 x1 x6 true x315000 x315001 x324000 x324001))))) else (some false))))
def laws_FnExactFromParents.j1 : Nat → List Int → Bool → Bool → Bool → List Int → Bool → List Int → Bool → Option (Bool)
  | 0, _, _, _, _, _, _, _, _ => none
  | k + 1, x0, x1, x6, x62, x315000, x315001, x324000, x324001 => if x62 = true then (some false) else ((laws_markGraph.f k x324000 x324001 1).bind fun bt332 => ((laws_heldGraph.f k bt332.2 x324001 1).bind fun t334 => (if t334 < 0 then (some false) else (if t334 = bt332.1 then ((laws_toIntS.f k x0).bind fun t335 => ((impl_FromParents.f k t335 x1).bind fun bt338 => ((laws_eqGraph.f k bt338.1 bt338.2.1 x315000 x315001).bind fun t344 => (if t344 = true then (laws_FnExactFromParents.j2 k bt332.1 (bt338.2.2 != x6) bt332.2 x324001) else (laws_FnExactFromParents.j2 k bt332.1 true bt332.2 x324001))))) else (some false)))))
def laws_FnExactFromParents.j2 : Nat → Int → Bool → List Int → Bool → Option (Bool)
  | 0, _, _, _, _ => none
  | k + 1, x11, x89, x324000, x324001 => if x89 = true then (some false) else ((laws_heldGraph.f k x324000 x324001 1).bind fun t345 => (if t345 < 0 then (some false) else (if t345 = x11 then (some true) else (some false))))
end
def laws_FnExactFromParents.f (k : Nat) (l0 : List Int) (a1 : Bool) : Option (Bool) := if (l0.length : Int) > 1048576 then (some true) else ((laws_toIntS.f k l0).bind fun t306 => ((spec_FromParents.f k t306 a1).bind fun bt309 => ((laws_toIntS.f k l0).bind fun t315 => ((impl_FromParents.f k t315 a1).bind fun bt318 => ((laws_eqGraph.f k bt318.1 bt318.2.1 bt309.1 bt309.2.1).bind fun t324 => (if t324 = true then (laws_FnExactFromParents.j0 k l0 a1 bt309.2.2 t315 bt318.2.2 (bt318.2.2 != bt309.2.2) bt309.1 bt309.2.1 bt318.1 bt318.2.1) else (laws_FnExactFromParents.j0 k l0 a1 bt309.2.2 t315 bt318.2.2 true bt309.1 bt309.2.1 bt318.1 bt318.2.1)))))))
theorem laws_FnExactFromParents.mono_l : ∀ k, (∀ y0 y1 y2 y3 y4 y5 y6 y7 y8 y9, LeO (laws_FnExactFromParents.j0 k y0 y1 y2 y3 y4 y5 y6 y7 y8 y9) (laws_FnExactFromParents.j0 (k + 1) y0 y1 y2 y3 y4 y5 y6 y7 y8 y9)) ∧ (∀ y0 y1 y2 y3 y4 y5 y6 y7, LeO (laws_FnExactFromParents.j1 k y0 y1 y2 y3 y4 y5 y6 y7) (laws_FnExactFromParents.j1 (k + 1) y0 y1 y2 y3 y4 y5 y6 y7)) ∧ (∀ y0 y1 y2 y3, LeO (laws_FnExactFromParents.j2 k y0 y1 y2 y3) (laws_FnExactFromParents.j2 (k + 1) y0 y1 y2 y3))
  | 0 => ⟨fun _ _ _ _ _ _ _ _ _ _ r h => by simp [laws_FnExactFromParents.j0] at h, fun _ _ _ _ _ _ _ _ r h => by simp [laws_FnExactFromParents.j1] at h, fun _ _ _ _ r h => by simp [laws_FnExactFromParents.j2] at h⟩
  | k + 1 => by
    obtain ⟨ih0, ih1, ih2⟩ := laws_FnExactFromParents.mono_l k
    refine ⟨?_, ?_, ?_⟩
    · intro y0 y1 y2 y3 y4 y5 y6 y7 y8 y9
      unfold laws_FnExactFromParents.j0
      repeat' first
      | (with_reducible exact ih0 _ _ _ _ _ _ _ _ _ _)
      | (with_reducible exact ih1 _ _ _ _ _ _ _ _)
      | (with_reducible exact ih2 _ _ _ _)
      | (with_reducible exact impl_FromParents.mono _ _ _)
      | (with_reducible exact laws_eqGraph.mono _ _ _ _ _)
      | (with_reducible exact laws_eqIntS.mono _ _ _)
      | (with_reducible exact laws_heldGraph.mono _ _ _ _)
      | (with_reducible exact laws_markGraph.mono _ _ _ _)
      | (with_reducible exact laws_markIntS.mono _ _ _)
      | (with_reducible exact laws_toIntS.mono _ _)
      | (with_reducible exact spec_FromParents.mono _ _ _)
      | (with_reducible exact LeO.refl _)
      | (with_reducible exact LeO.none _)
      | (with_reducible refine LeO.ite ?_ ?_)
      | (with_reducible refine LeO.bind ?_ (fun _ => ?_))
      | exact ih0 _ _ _ _ _ _ _ _ _ _
      | exact ih1 _ _ _ _ _ _ _ _
      | exact ih2 _ _ _ _
      | exact impl_FromParents.mono _ _ _
      | exact laws_eqGraph.mono _ _ _ _ _
      | exact laws_eqIntS.mono _ _ _
      | exact laws_heldGraph.mono _ _ _ _
      | exact laws_markGraph.mono _ _ _ _
      | exact laws_markIntS.mono _ _ _
      | exact laws_toIntS.mono _ _
      | exact spec_FromParents.mono _ _ _
      | exact LeO.none _
      | refine LeO.ite ?_ ?_
      | refine LeO.bind ?_ (fun _ => ?_)
    · intro y0 y1 y2 y3 y4 y5 y6 y7
      unfold laws_FnExactFromParents.j1
      repeat' first
      | (with_reducible exact ih0 _ _ _ _ _ _ _ _ _ _)
      | (with_reducible exact ih1 _ _ _ _ _ _ _ _)
      | (with_reducible exact ih2 _ _ _ _)
      | (with_reducible exact impl_FromParents.mono _ _ _)
      | (with_reducible exact laws_eqGraph.mono _ _ _ _ _)
      | (with_reducible exact laws_eqIntS.mono _ _ _)
      | (with_reducible exact laws_heldGraph.mono _ _ _ _)
      | (with_reducible exact laws_markGraph.mono _ _ _ _)
      | (with_reducible exact laws_markIntS.mono _ _ _)
      | (with_reducible exact laws_toIntS.mono _ _)
      | (with_reducible exact spec_FromParents.mono _ _ _)
      | (with_reducible exact LeO.refl _)
      | (with_reducible exact LeO.none _)
      | (with_reducible refine LeO.ite ?_ ?_)
      | (with_reducible refine LeO.bind ?_ (fun _ => ?_))
      | exact ih0 _ _ _ _ _ _ _ _ _ _
      | exact ih1 _ _ _ _ _ _ _ _
      | exact ih2 _ _ _ _
      | exact impl_FromParents.mono _ _ _
      | exact laws_eqGraph.mono _ _ _ _ _
      | exact laws_eqIntS.mono _ _ _
      | exact laws_heldGraph.mono _ _ _ _
      | exact laws_markGraph.mono _ _ _ _
      | exact laws_markIntS.mono _ _ _
      | exact laws_toIntS.mono _ _
      | exact spec_FromParents.mono _ _ _
      | exact LeO.none _
      | refine LeO.ite ?_ ?_
      | refine LeO.bind ?_ (fun _ => ?_)
    · intro y0 y1 y2 y3
      unfold laws_FnExactFromParents.j2
      repeat' first
      | (with_reducible exact ih0 _ _ _ _ _ _ _ _ _ _)
      | (with_reducible exact ih1 _ _ _ _ _ _ _ _)
      | (with_reducible exact ih2 _ _ _ _)
      | (with_reducible exact impl_FromParents.mono _ _ _)
      | (with_reducible exact laws_eqGraph.mono _ _ _ _ _)
      | (with_reducible exact laws_eqIntS.mono _ _ _)
      | (with_reducible exact laws_heldGraph.mono _ _ _ _)
      | (with_reducible exact laws_markGraph.mono _ _ _ _)
      | (with_reducible exact laws_markIntS.mono _ _ _)
      | (with_reducible exact laws_toIntS.mono _ _)
      | (with_reducible exact spec_FromParents.mono _ _ _)
      | (with_reducible exact LeO.refl _)
      | (with_reducible exact LeO.none _)
      | (with_reducible refine LeO.ite ?_ ?_)
      | (with_reducible refine LeO.bind ?_ (fun _ => ?_))
      | exact ih0 _ _ _ _ _ _ _ _ _ _
      | exact ih1 _ _ _ _ _ _ _ _
      | exact ih2 _ _ _ _
      | exact impl_FromParents.mono _ _ _
      | exact laws_eqGraph.mono _ _ _ _ _
      | exact laws_eqIntS.mono _ _ _
      | exact laws_heldGraph.mono _ _ _ _
      | exact laws_markGraph.mono _ _ _ _
      | exact laws_markIntS.mono _ _ _
      | exact laws_toIntS.mono _ _
      | exact spec_FromParents.mono _ _ _
      | exact LeO.none _
      | refine LeO.ite ?_ ?_
      | refine LeO.bind ?_ (fun _ => ?_)
theorem laws_FnExactFromParents.mono : ∀ a0 a1 k, LeO (laws_FnExactFromParents.f k a0 a1) (laws_FnExactFromParents.f (k + 1) a0 a1) := by
  intro a0 a1 k
  obtain ⟨ih0, ih1, ih2⟩ := laws_FnExactFromParents.mono_l k
  unfold laws_FnExactFromParents.f
  repeat' first
      | (with_reducible exact ih0 _ _ _ _ _ _ _ _ _ _)
      | (with_reducible exact ih1 _ _ _ _ _ _ _ _)
      | (with_reducible exact ih2 _ _ _ _)
      | (with_reducible exact impl_FromParents.mono _ _ _)
      | (with_reducible exact laws_eqGraph.mono _ _ _ _ _)
      | (with_reducible exact laws_eqIntS.mono _ _ _)
      | (with_reducible exact laws_heldGraph.mono _ _ _ _)
      | (with_reducible exact laws_markGraph.mono _ _ _ _)
      | (with_reducible exact laws_markIntS.mono _ _ _)
      | (with_reducible exact laws_toIntS.mono _ _)
      | (with_reducible exact spec_FromParents.mono _ _ _)
      | (with_reducible exact LeO.refl _)
      | (with_reducible exact LeO.none _)
      | (with_reducible refine LeO.ite ?_ ?_)
      | (with_reducible refine LeO.bind ?_ (fun _ => ?_))
      | exact ih0 _ _ _ _ _ _ _ _ _ _
      | exact ih1 _ _ _ _ _ _ _ _
      | exact ih2 _ _ _ _
      | exact impl_FromParents.mono _ _ _
      | exact laws_eqGraph.mono _ _ _ _ _
      | exact laws_eqIntS.mono _ _ _
      | exact laws_heldGraph.mono _ _ _ _
      | exact laws_markGraph.mono _ _ _ _
      | exact laws_markIntS.mono _ _ _
      | exact laws_toIntS.mono _ _
      | exact spec_FromParents.mono _ _ _
      | exact LeO.none _
      | refine LeO.ite ?_ ?_
      | refine LeO.bind ?_ (fun _ => ?_)
set_option maxHeartbeats 8000000 in
set_option maxRecDepth 100000 in
theorem laws_FnExactFromParents.calls (k : Nat) (A0 : Option Addr) (c0 : Nat) (l0 : List Int) (a1 : Bool) (r : Bool) (w : World) (hr0 : Kd.C (Kd.int .i64) w A0 l0.length l0) (hc0 : l0.length ≤ c0) (h : laws_FnExactFromParents.f k l0 a1 = some r) :
    Calls Try.prog 9 #[.slice A0 l0.length c0, .bool a1] w fun e w' => e = .returned (.bool r) ∧ Below w.heap.size w w' := by
  have hu36 := Try.underlying36
  have HR0 := Aside0.mk hr0
  have HC0 := Aside0.mk hc0
  clear hr0 hc0
  have HB := Aside0.mk (Below.refl w.heap.size w)
  have H : (if (l0.length : Int) > 1048576 then (some true) else ((laws_toIntS.f k l0).bind fun t306 => ((spec_FromParents.f k t306 a1).bind fun bt309 => ((laws_toIntS.f k l0).bind fun t315 => ((impl_FromParents.f k t315 a1).bind fun bt318 => ((laws_eqGraph.f k bt318.1 bt318.2.1 bt309.1 bt309.2.1).bind fun t324 => (if t324 = true then (laws_FnExactFromParents.j0 k l0 a1 bt309.2.2 t315 bt318.2.2 (bt318.2.2 != bt309.2.2) bt309.1 bt309.2.1 bt318.1 bt318.2.1) else (laws_FnExactFromParents.j0 k l0 a1 bt309.2.2 t315 bt318.2.2 true bt309.1 bt309.2.1 bt318.1 bt318.2.1)))))))) = some r := h
  clear h
  by_cases c3 : (l0.length : Int) > 1048576
  · rw [if_pos c3] at H
    have c3b0 : decide (1048576 < (l0.length : Int)) = true := decide_eq_true c3
    have c3b1 : decide (1048576 < l0.length) = true := decide_eq_true (by omega)
    clear c3
    obtain rfl := Option.some.inj H
    go_enter Try.func9, Try.ntmps9
    go_wp2
    go_ret
    exact ⟨by first | rfl | (simp [errW_none, errW_some] <;> rfl) | (simp [*, errW_none, errW_some] <;> rfl), by repeat (first | (with_reducible first | exact HB.out | apply below_alloc | apply pw_below_drewN | apply below_drew1) | exact HB.out)⟩
  · rw [if_neg c3] at H
    have c3b0 : decide (1048576 < (l0.length : Int)) = false := decide_eq_false c3
    have c3b1 : decide (1048576 < l0.length) = false := decide_eq_false (by omega)
    clear c3
    replace H := Option.bind_eq_some_iff.mp H
    obtain ⟨t306, A40, H⟩ := H
    replace H : ((spec_FromParents.f k t306 a1).bind fun bt309 => ((laws_toIntS.f k l0).bind fun t315 => ((impl_FromParents.f k t315 a1).bind fun bt318 => ((laws_eqGraph.f k bt318.1 bt318.2.1 bt309.1 bt309.2.1).bind fun t324 => (if t324 = true then (laws_FnExactFromParents.j0 k l0 a1 bt309.2.2 t315 bt318.2.2 (bt318.2.2 != bt309.2.2) bt309.1 bt309.2.1 bt318.1 bt318.2.1) else (laws_FnExactFromParents.j0 k l0 a1 bt309.2.2 t315 bt318.2.2 true bt309.1 bt309.2.1 bt318.1 bt318.2.1)))))) = some r := H
    have A4 := Aside0.mk A40
    clear A40
    replace H := Option.bind_eq_some_iff.mp H
    obtain ⟨⟨t309, t312, t313⟩, A50, H⟩ := H
    replace H : ((laws_toIntS.f k l0).bind fun t315 => ((impl_FromParents.f k t315 a1).bind fun bt318 => ((laws_eqGraph.f k bt318.1 bt318.2.1 t309 t312).bind fun t324 => (if t324 = true then (laws_FnExactFromParents.j0 k l0 a1 t313 t315 bt318.2.2 (bt318.2.2 != t313) t309 t312 bt318.1 bt318.2.1) else (laws_FnExactFromParents.j0 k l0 a1 t313 t315 bt318.2.2 true t309 t312 bt318.1 bt318.2.1))))) = some r := H
    have A5 := Aside0.mk A50
    clear A50
    replace H := Option.bind_eq_some_iff.mp H
    obtain ⟨t315, A60, H⟩ := H
    replace H : ((impl_FromParents.f k t315 a1).bind fun bt318 => ((laws_eqGraph.f k bt318.1 bt318.2.1 t309 t312).bind fun t324 => (if t324 = true then (laws_FnExactFromParents.j0 k l0 a1 t313 t315 bt318.2.2 (bt318.2.2 != t313) t309 t312 bt318.1 bt318.2.1) else (laws_FnExactFromParents.j0 k l0 a1 t313 t315 bt318.2.2 true t309 t312 bt318.1 bt318.2.1)))) = some r := H
    have A6 := Aside0.mk A60
    clear A60
    replace H := Option.bind_eq_some_iff.mp H
    obtain ⟨⟨t318, t321, t322⟩, A70, H⟩ := H
    replace H : ((laws_eqGraph.f k t318 t321 t309 t312).bind fun t324 => (if t324 = true then (laws_FnExactFromParents.j0 k l0 a1 t313 t315 t322 (t322 != t313) t309 t312 t318 t321) else (laws_FnExactFromParents.j0 k l0 a1 t313 t315 t322 true t309 t312 t318 t321))) = some r := H
    have A7 := Aside0.mk A70
    clear A70
    have HC8 := Aside0.mk H
    clear H
    go_enter Try.func9, Try.ntmps9
    go_upto_region 6 with (first | ((with_reducible refine gate_callee (f := 20) rfl ?_); refine goesL_ (some 20) rfl rfl Try.func20 (by kernel_rfl) rfl #[.slice A0 l0.length c0] rfl (by (try simp only [List.map_toArray, List.map_cons, List.map_nil]); first | done | rfl | (simp only [List.length_drop, List.length_take]; rfl)) ?_; (with_reducible refine (laws_toIntS.calls k _ _ l0 t306 _ ?side1 ?side2 A4.out).mono ?_); (case side1 => repeat (first | exact HR0.out | (with_reducible refine Kd.C_alloc ?_ _) | (with_reducible refine Kd.C_drewN ?_ _) | (with_reducible refine Kd.C_drew ?_))); (case side2 => exact HC0.out); rintro e w9 ⟨v307, rfl, ho0, hb⟩; refine ⟨_, rfl, ?_⟩; have n0_ := Aside0.mk (Kd.R_lower ho0 (below_size (by repeat (first | (with_reducible first | exact HB.out | apply below_alloc | apply pw_below_drewN | apply below_drew1) | exact HB.out)))); have n1_ := Aside0.mk (below_step (by repeat (first | (with_reducible first | exact HB.out | apply below_alloc | apply pw_below_drewN | apply below_drew1) | exact HB.out)) hb); clear HB; have HO308 := n0_; have HB := n1_; clear n0_ n1_; (try clear hb); (try clear hb2); (try clear hk); (try clear hi); (try clear ho0); obtain ⟨Ao10, co10, eo10⟩ := Kd.R_slice HO308.out; subst eo10) | ((with_reducible refine gate_callee (f := 34) rfl ?_); refine goesL_ (some 22) rfl rfl Try.func34 (by kernel_rfl) rfl #[.slice Ao10 t306.length co10, .bool a1] rfl (by (try simp only [List.map_toArray, List.map_cons, List.map_nil]); first | done | rfl | (simp only [List.length_drop, List.length_take]; rfl)) ?_; (with_reducible refine (spec_FromParents.calls k _ _ t306 a1 t309 t312 t313 _ ?side1 ?side2 A5.out).mono ?_); (case side1 => repeat (first | exact (Kd.R_reads' HO308.out).2.2 | (with_reducible refine Kd.C_alloc ?_ _) | (with_reducible refine Kd.C_drewN ?_ _) | (with_reducible refine Kd.C_drew ?_))); (case side2 => exact (Kd.R_reads' HO308.out).2.1); rintro e w11 ⟨v310, rfl, ho0, hb⟩; refine ⟨_, rfl, ?_⟩; have n0_ := Aside0.mk (Kd.R_elder' (by (with_reducible repeat (first | apply Kd.R_alloc | apply Kd.R_drewN | apply Kd.R_drew)); exact HO308.out) (Kd.R_base ho0) hb); have n1_ := Aside0.mk (Kd.R_lower (Kd.R_new' ho0 (Kd.R_lt (by (with_reducible repeat (first | apply Kd.R_alloc | apply Kd.R_drewN | apply Kd.R_drew)); exact HO308.out))) (below_size (by repeat (first | (with_reducible first | exact HB.out | apply below_alloc | apply pw_below_drewN | apply below_drew1) | exact HB.out)))); have n2_ := Aside0.mk (below_step (by repeat (first | (with_reducible first | exact HB.out | apply below_alloc | apply pw_below_drewN | apply below_drew1) | exact HB.out)) hb); clear HO308; clear HB; have HO308 := n0_; have HO311 := n1_; have HB := n2_; clear n0_ n1_ n2_; (try clear hb); (try clear hb2); (try clear hk); (try clear hi); (try clear ho0)) | ((with_reducible refine gate_dst (N := 5) rfl ?_); refine box_event ?hg (N := 5) ?hd (cs := #[.slice none 0 0, .bool false]) (t := 36) ?hr ?_; (case hd => rfl); (case hg => rfl); (case hr => first | (go_simp; done) | (go_simp; rfl)); intro gb314 hg w12 hbox hb; have n0_ := Aside0.mk (Kd.R_below (by (with_reducible repeat (first | apply Kd.R_alloc | apply Kd.R_drewN | apply Kd.R_drew)); exact HO308.out) hb); have n1_ := Aside0.mk (Kd.R_below (by (with_reducible repeat (first | apply Kd.R_alloc | apply Kd.R_drewN | apply Kd.R_drew)); exact HO311.out) hb); have n2_ := Aside0.mk (below_step (by repeat (first | (with_reducible first | exact HB.out | apply below_alloc | apply pw_below_drewN | apply below_drew1) | exact HB.out)) hb); have n3_ := Aside0.mk (hbox); have n4_ := Aside0.mk ((by rw [hg]; exact (below_size (by repeat (first | (with_reducible first | exact HB.out | apply below_alloc | apply pw_below_drewN | apply below_drew1) | exact HB.out))) : w.heap.size ≤ gb314)); have n5_ := Aside0.mk ((by rw [hg]; exact (below_size (by repeat (first | (with_reducible first | exact HB.out | apply below_alloc | apply pw_below_drewN | apply below_drew1) | exact HB.out))) : w.heap.size ≤ gb314)); clear HO308; clear HO311; clear HB; have HO308 := n0_; have HO311 := n1_; have HB := n2_; have BK314 := n3_; have GW314 := n4_; have GE314 := n5_; clear n0_ n1_ n2_ n3_ n4_ n5_; clear hb hbox hg; obtain ⟨Ao13, co13, eo13⟩ := Kd.R_slice HO311.out; subst eo13; have hcz14_0 : w12.cell? ⟨gb314, 0, none⟩ = some (.slice none 0 0) := (blk_cell BK314.out 0).trans rfl; have hcz14_1 : w12.cell? ⟨gb314, 1, none⟩ = some (.bool false) := (blk_cell BK314.out 1).trans rfl; have hfz14_0 := blk_frozen BK314.out 0; have hfz14_1 := blk_frozen BK314.out 1) | ((with_reducible refine gate_callee (f := 20) rfl ?_); refine goesL_ (some 26) rfl rfl Try.func20 (by kernel_rfl) rfl #[.slice A0 l0.length c0] rfl (by (try simp only [List.map_toArray, List.map_cons, List.map_nil]); first | done | rfl | (simp only [List.length_drop, List.length_take]; rfl)) ?_; (with_reducible refine (laws_toIntS.calls k _ _ l0 t315 _ ?side1 ?side2 A6.out).mono ?_); (case side1 => exact Kd.C_below HR0.out (by repeat (first | (with_reducible first | exact HB.out | apply below_alloc | apply pw_below_drewN | apply below_drew1 | refine below_set ?_ GE314.out) | exact HB.out))); (case side2 => exact HC0.out); rintro e w15 ⟨v316, rfl, ho0, hb⟩; refine ⟨_, rfl, ?_⟩; have n0_ := Aside0.mk (Kd.R_elder' (by (with_reducible repeat (first | apply Kd.R_alloc | apply Kd.R_drewN | apply Kd.R_drew)); exact (Kd.R_mono (Kd.R_far (p := ⟨gb314, 1, none⟩) (Kd.R_far (p := ⟨gb314, 0, none⟩) (Kd.R_types HO308.out BK314.out (by decide)) (fun _ hk => hk.2) (.slice Ao13 t309.length co13)) (fun _ hk => hk.2) (.bool t312)) (fun _ h_ => h_.1))) (Kd.R_base ho0) hb); have n1_ := Aside0.mk (Kd.R_elder' (by (with_reducible repeat (first | apply Kd.R_alloc | apply Kd.R_drewN | apply Kd.R_drew)); exact (Kd.R_mono (Kd.R_far (p := ⟨gb314, 1, none⟩) (Kd.R_far (p := ⟨gb314, 0, none⟩) (Kd.R_types HO311.out BK314.out (by decide)) (fun _ hk => hk.2) (.slice Ao13 t309.length co13)) (fun _ hk => hk.2) (.bool t312)) (fun _ h_ => h_.1))) (Kd.R_base ho0) hb); have n2_ := Aside0.mk (Kd.R_lower (Kd.R_new' (Kd.R_new' ho0 (Kd.R_lt (by (with_reducible repeat (first | apply Kd.R_alloc | apply Kd.R_drewN | apply Kd.R_drew)); exact (Kd.R_mono (Kd.R_far (p := ⟨gb314, 1, none⟩) (Kd.R_far (p := ⟨gb314, 0, none⟩) (Kd.R_types HO308.out BK314.out (by decide)) (fun _ hk => hk.2) (.slice Ao13 t309.length co13)) (fun _ hk => hk.2) (.bool t312)) (fun _ h_ => h_.1))))) (Kd.R_lt (by (with_reducible repeat (first | apply Kd.R_alloc | apply Kd.R_drewN | apply Kd.R_drew)); exact (Kd.R_mono (Kd.R_far (p := ⟨gb314, 1, none⟩) (Kd.R_far (p := ⟨gb314, 0, none⟩) (Kd.R_types HO311.out BK314.out (by decide)) (fun _ hk => hk.2) (.slice Ao13 t309.length co13)) (fun _ hk => hk.2) (.bool t312)) (fun _ h_ => h_.1))))) (below_size (by repeat (first | (with_reducible first | exact HB.out | apply below_alloc | apply pw_below_drewN | apply below_drew1 | refine below_set ?_ GE314.out) | exact HB.out)))); have n3_ := Aside0.mk (blk_below (g := gb314) (o := .cells #[.slice Ao13 t309.length co13, .bool t312] 36 (0, 0)) (by (with_reducible repeat (first | refine blk_drewN ?_ _ | refine blk_drew ?_ | refine blk_alloc ?_ _)); refine blk_put (cs := #[.slice Ao13 t309.length co13, .bool false]) ?_ 1 _ rfl; (with_reducible repeat (first | refine blk_drewN ?_ _ | refine blk_drew ?_ | refine blk_alloc ?_ _)); refine blk_put (cs := #[.slice none 0 0, .bool false]) ?_ 0 _ rfl; (with_reducible repeat (first | refine blk_drewN ?_ _ | refine blk_drew ?_ | refine blk_alloc ?_ _)); exact BK314.out) hb); have n4_ := Aside0.mk (below_step (by repeat (first | (with_reducible first | exact HB.out | apply below_alloc | apply pw_below_drewN | apply below_drew1 | refine below_set ?_ GE314.out) | exact HB.out)) hb); clear HO308; clear HO311; clear BK314; clear HB; have HO308 := n0_; have HO311 := n1_; have HO317 := n2_; have BK314 := n3_; have HB := n4_; clear n0_ n1_ n2_ n3_ n4_; (try clear hb); (try clear hb2); (try clear hk); (try clear hi); (try clear ho0); obtain ⟨Ao16, co16, eo16⟩ := Kd.R_slice HO317.out; subst eo16) | ((with_reducible refine gate_callee (f := 35) rfl ?_); refine goesL_ (some 30) rfl rfl Try.func35 (by kernel_rfl) rfl #[.slice Ao16 t315.length co16, .bool a1] rfl (by (try simp only [List.map_toArray, List.map_cons, List.map_nil]); first | done | rfl | (simp only [List.length_drop, List.length_take]; rfl)) ?_; (with_reducible refine (impl_FromParents.calls k _ _ t315 a1 t318 t321 t322 _ ?side1 ?side2 A7.out).mono ?_); (case side1 => repeat (first | exact (Kd.R_reads' HO317.out).2.2 | (with_reducible refine Kd.C_alloc ?_ _) | (with_reducible refine Kd.C_drewN ?_ _) | (with_reducible refine Kd.C_drew ?_))); (case side2 => exact (Kd.R_reads' HO317.out).2.1); rintro e w17 ⟨v319, rfl, ho0, hb⟩; refine ⟨_, rfl, ?_⟩; have n0_ := Aside0.mk (Kd.R_elder' (by (with_reducible repeat (first | apply Kd.R_alloc | apply Kd.R_drewN | apply Kd.R_drew)); exact HO308.out) (Kd.R_base ho0) hb); have n1_ := Aside0.mk (Kd.R_elder' (by (with_reducible repeat (first | apply Kd.R_alloc | apply Kd.R_drewN | apply Kd.R_drew)); exact HO311.out) (Kd.R_base ho0) hb); have n2_ := Aside0.mk (Kd.R_elder' (by (with_reducible repeat (first | apply Kd.R_alloc | apply Kd.R_drewN | apply Kd.R_drew)); exact HO317.out) (Kd.R_base ho0) hb); have n3_ := Aside0.mk (Kd.R_lower (Kd.R_new' (Kd.R_new' (Kd.R_new' ho0 (Kd.R_lt (by (with_reducible repeat (first | apply Kd.R_alloc | apply Kd.R_drewN | apply Kd.R_drew)); exact HO308.out))) (Kd.R_lt (by (with_reducible repeat (first | apply Kd.R_alloc | apply Kd.R_drewN | apply Kd.R_drew)); exact HO311.out))) (Kd.R_lt (by (with_reducible repeat (first | apply Kd.R_alloc | apply Kd.R_drewN | apply Kd.R_drew)); exact HO317.out))) (below_size (by repeat (first | (with_reducible first | exact HB.out | apply below_alloc | apply pw_below_drewN | apply below_drew1 | refine below_set ?_ GE314.out) | exact HB.out)))); have n4_ := Aside0.mk (blk_below (g := gb314) (o := .cells #[.slice Ao13 t309.length co13, .bool t312] 36 (0, 0)) (by (with_reducible repeat (first | refine blk_drewN ?_ _ | refine blk_drew ?_ | refine blk_alloc ?_ _)); exact BK314.out) hb); have n5_ := Aside0.mk (below_step (by repeat (first | (with_reducible first | exact HB.out | apply below_alloc | apply pw_below_drewN | apply below_drew1 | refine below_set ?_ GE314.out) | exact HB.out)) hb); clear HO308; clear HO311; clear HO317; clear BK314; clear HB; have HO308 := n0_; have HO311 := n1_; have HO317 := n2_; have HO320 := n3_; have BK314 := n4_; have HB := n5_; clear n0_ n1_ n2_ n3_ n4_ n5_; (try clear hb); (try clear hb2); (try clear hk); (try clear hi); (try clear ho0)) | ((with_reducible refine gate_dst (N := 8) rfl ?_); refine box_event ?hg (N := 8) ?hd (cs := #[.slice none 0 0, .bool false]) (t := 36) ?hr ?_; (case hd => rfl); (case hg => rfl); (case hr => first | (go_simp; done) | (go_simp; rfl)); intro gb323 hg w18 hbox hb; have n0_ := Aside0.mk (Kd.R_below (by (with_reducible repeat (first | apply Kd.R_alloc | apply Kd.R_drewN | apply Kd.R_drew)); exact HO308.out) hb); have n1_ := Aside0.mk (Kd.R_below (by (with_reducible repeat (first | apply Kd.R_alloc | apply Kd.R_drewN | apply Kd.R_drew)); exact HO311.out) hb); have n2_ := Aside0.mk (Kd.R_below (by (with_reducible repeat (first | apply Kd.R_alloc | apply Kd.R_drewN | apply Kd.R_drew)); exact HO317.out) hb); have n3_ := Aside0.mk (Kd.R_below (by (with_reducible repeat (first | apply Kd.R_alloc | apply Kd.R_drewN | apply Kd.R_drew)); exact HO320.out) hb); have n4_ := Aside0.mk (blk_below (g := gb314) (o := .cells #[.slice Ao13 t309.length co13, .bool t312] 36 (0, 0)) (by (with_reducible repeat (first | refine blk_drewN ?_ _ | refine blk_drew ?_ | refine blk_alloc ?_ _)); exact BK314.out) hb); have n5_ := Aside0.mk (below_step (by repeat (first | (with_reducible first | exact HB.out | apply below_alloc | apply pw_below_drewN | apply below_drew1 | refine below_set ?_ GE314.out) | exact HB.out)) hb); have n6_ := Aside0.mk (hbox); have n7_ := Aside0.mk ((by rw [hg]; exact (below_size (by repeat (first | (with_reducible first | exact HB.out | apply below_alloc | apply pw_below_drewN | apply below_drew1 | refine below_set ?_ GE314.out) | exact HB.out))) : w.heap.size ≤ gb323)); have n8_ := Aside0.mk ((by rw [hg]; exact (below_size (by repeat (first | (with_reducible first | exact HB.out | apply below_alloc | apply pw_below_drewN | apply below_drew1 | refine below_set ?_ GE314.out) | exact HB.out))) : w.heap.size ≤ gb323)); have n9_ := Aside0.mk ((by rw [hg]; exact Nat.ne_of_lt (blk_lt (g := gb314) (o := .cells #[.slice Ao13 t309.length co13, .bool t312] 36 (0, 0)) (by (with_reducible repeat (first | refine blk_drewN ?_ _ | refine blk_drew ?_ | refine blk_alloc ?_ _)); exact BK314.out)) : gb314 ≠ gb323)); have n10_ := Aside0.mk ((by rw [hg]; exact Nat.ne_of_gt (blk_lt (g := gb314) (o := .cells #[.slice Ao13 t309.length co13, .bool t312] 36 (0, 0)) (by (with_reducible repeat (first | refine blk_drewN ?_ _ | refine blk_drew ?_ | refine blk_alloc ?_ _)); exact BK314.out)) : gb323 ≠ gb314)); clear HO308; clear HO311; clear HO317; clear HO320; clear BK314; clear HB; have HO308 := n0_; have HO311 := n1_; have HO317 := n2_; have HO320 := n3_; have BK314 := n4_; have HB := n5_; have BK323 := n6_; have GW323 := n7_; have GE323 := n8_; have NB314_323 := n9_; have NB323_314 := n10_; clear n0_ n1_ n2_ n3_ n4_ n5_ n6_ n7_ n8_ n9_ n10_; clear hb hbox hg; obtain ⟨Ao19, co19, eo19⟩ := Kd.R_slice HO320.out; subst eo19; have hnb20 := NB323_314.out; have hnc20 := NB314_323.out; have hcz21_0 : w18.cell? ⟨gb323, 0, none⟩ = some (.slice none 0 0) := (blk_cell BK323.out 0).trans rfl; have hcz21_1 : w18.cell? ⟨gb323, 1, none⟩ = some (.bool false) := (blk_cell BK323.out 1).trans rfl; have hfz21_0 := blk_frozen BK323.out 0; have hfz21_1 := blk_frozen BK323.out 1))
    (try simp only [Act.put, List.setIfInBounds_toArray, List.set_cons_zero, List.set_cons_succ])
    go_cut [41] (fun v41 wc => ∃ (kq : Nat) (x41_7 : Bool), v41 = .bool x41_7 ∧ Aside0 (laws_FnExactFromParents.j0 kq l0 a1 t313 t315 t322 x41_7 t309 t312 t318 t321 = some r) ∧ Aside0 (kq ≤ k) ∧ Aside0 (Kd.R (Kd.int .i64) 3 wc w.heap.size (fun k_ => some k_ ≠ ((.slice Ao13 t309.length co13) : Value).ownBlock ∧ some k_ ≠ ((.slice Ao19 t318.length co19) : Value).ownBlock) (.slice Ao16 t315.length co16) t315) ∧ Aside0 (Kd.R (Kd.int .i64) 3 wc w.heap.size (fun k_ => some k_ ≠ ((.slice Ao16 t315.length co16) : Value).ownBlock ∧ some k_ ≠ ((.slice Ao19 t318.length co19) : Value).ownBlock) (.slice Ao13 t309.length co13) t309) ∧ Aside0 (Kd.R (Kd.int .i64) 3 wc w.heap.size (fun k_ => some k_ ≠ ((.slice Ao16 t315.length co16) : Value).ownBlock ∧ some k_ ≠ ((.slice Ao13 t309.length co13) : Value).ownBlock) (.slice Ao19 t318.length co19) t318) ∧ Aside0 (wc.heap[gb314]? = some (.cells #[(.slice Ao13 t309.length co13), .bool t312] 36 (0, 0))) ∧ Aside0 (wc.heap[gb323]? = some (.cells #[(.slice Ao19 t318.length co19), .bool t321] 36 (0, 0))) ∧ Aside0 (Below w.heap.size w wc))
    case first =>
      have H := HC8.out
      clear HC8
      replace H := Option.bind_eq_some_iff.mp H
      obtain ⟨t324, A220, H⟩ := H
      replace H : (if t324 = true then (laws_FnExactFromParents.j0 k l0 a1 t313 t315 t322 (t322 != t313) t309 t312 t318 t321) else (laws_FnExactFromParents.j0 k l0 a1 t313 t315 t322 true t309 t312 t318 t321)) = some r := H
      have A22 := Aside0.mk A220
      clear A220
      by_cases c23 : t324 = true
      · subst c23
        have H1 : (laws_FnExactFromParents.j0 k l0 a1 t313 t315 t322 (t322 != t313) t309 t312 t318 t321) = some r := by rw [if_pos rfl] at H; exact H
        clear H
        have H := H1
        clear H1
        have H' := Aside0.mk H
        clear H
        have hnb24 := NB323_314.out
        have hnc24 := NB314_323.out
        have hcz25_0 : w18.cell? ⟨gb323, 0, none⟩ = some (.slice none 0 0) := (blk_cell BK323.out 0).trans rfl
        have hcz25_1 : w18.cell? ⟨gb323, 1, none⟩ = some (.bool false) := (blk_cell BK323.out 1).trans rfl
        have hfz25_0 := blk_frozen BK323.out 0
        have hfz25_1 := blk_frozen BK323.out 1
        have hcz26_0 : w18.cell? ⟨gb314, 0, none⟩ = some (.slice Ao13 t309.length co13) := (blk_cell BK314.out 0).trans rfl
        have hcz26_1 : w18.cell? ⟨gb314, 1, none⟩ = some (.bool t312) := (blk_cell BK314.out 1).trans rfl
        have hfz26_0 := blk_frozen BK314.out 0
        have hfz26_1 := blk_frozen BK314.out 1
        go_wp2_with (first | ((with_reducible refine gate_callee (f := 29) rfl ?_); refine goesL_ (some 35) rfl rfl Try.func29 (by kernel_rfl) rfl #[.agg #[.slice Ao19 t318.length co19, .bool t321], .agg #[.slice Ao13 t309.length co13, .bool t312]] rfl (by (try simp only [List.map_toArray, List.map_cons, List.map_nil]); first | done | rfl | (simp only [List.length_drop, List.length_take]; rfl)) ?_; (with_reducible refine (laws_eqGraph.calls k _ _ t318 t321 _ _ t309 t312 true _ ?side1 ?side2 ?side3 ?side4 A22.out).mono ?_); (case side1 => refine (Kd.R_reads' (e := 3) (base := w.heap.size) (ok := fun k_ => (((True ∧ some k_ ≠ (.slice Ao10 t306.length co10 : Value).ownBlock) ∧ some k_ ≠ (.slice Ao13 t309.length co13 : Value).ownBlock) ∧ some k_ ≠ (.slice Ao16 t315.length co16 : Value).ownBlock)) (n := t318.length) (c := co19) ?_).2.2; exact (by (with_reducible repeat (first | apply Kd.R_alloc | apply Kd.R_drewN | apply Kd.R_drew)); exact (Kd.R_mono (Kd.R_far (p := ⟨gb323, 1, none⟩) (Kd.R_far (p := ⟨gb323, 0, none⟩) (Kd.R_types HO320.out BK323.out (by decide)) (fun _ hk => hk.2) (.slice Ao19 t318.length co19)) (fun _ hk => hk.2) (.bool t321)) (fun _ h_ => h_.1)))); (case side2 => exact (Kd.R_reads' HO320.out).2.1); (case side3 => refine (Kd.R_reads' (e := 3) (base := w.heap.size) (ok := fun k_ => (((True ∧ some k_ ≠ (.slice Ao10 t306.length co10 : Value).ownBlock) ∧ some k_ ≠ (.slice Ao16 t315.length co16 : Value).ownBlock) ∧ some k_ ≠ (.slice Ao19 t318.length co19 : Value).ownBlock)) (n := t309.length) (c := co13) ?_).2.2; exact (by (with_reducible repeat (first | apply Kd.R_alloc | apply Kd.R_drewN | apply Kd.R_drew)); exact (Kd.R_mono (Kd.R_far (p := ⟨gb323, 1, none⟩) (Kd.R_far (p := ⟨gb323, 0, none⟩) (Kd.R_types HO311.out BK323.out (by decide)) (fun _ hk => hk.2) (.slice Ao19 t318.length co19)) (fun _ hk => hk.2) (.bool t321)) (fun _ h_ => h_.1)))); (case side4 => exact (Kd.R_reads' HO311.out).2.1); rintro e w27 ⟨rfl, hb⟩; refine ⟨_, rfl, ?_⟩; have n0_ := Aside0.mk (Kd.R_below (by (with_reducible repeat (first | apply Kd.R_alloc | apply Kd.R_drewN | apply Kd.R_drew)); exact (Kd.R_mono (Kd.R_far (p := ⟨gb323, 1, none⟩) (Kd.R_far (p := ⟨gb323, 0, none⟩) (Kd.R_types HO308.out BK323.out (by decide)) (fun _ hk => hk.2) (.slice Ao19 t318.length co19)) (fun _ hk => hk.2) (.bool t321)) (fun _ h_ => h_.1))) hb); have n1_ := Aside0.mk (Kd.R_below (by (with_reducible repeat (first | apply Kd.R_alloc | apply Kd.R_drewN | apply Kd.R_drew)); exact (Kd.R_mono (Kd.R_far (p := ⟨gb323, 1, none⟩) (Kd.R_far (p := ⟨gb323, 0, none⟩) (Kd.R_types HO311.out BK323.out (by decide)) (fun _ hk => hk.2) (.slice Ao19 t318.length co19)) (fun _ hk => hk.2) (.bool t321)) (fun _ h_ => h_.1))) hb); have n2_ := Aside0.mk (Kd.R_below (by (with_reducible repeat (first | apply Kd.R_alloc | apply Kd.R_drewN | apply Kd.R_drew)); exact (Kd.R_mono (Kd.R_far (p := ⟨gb323, 1, none⟩) (Kd.R_far (p := ⟨gb323, 0, none⟩) (Kd.R_types HO317.out BK323.out (by decide)) (fun _ hk => hk.2) (.slice Ao19 t318.length co19)) (fun _ hk => hk.2) (.bool t321)) (fun _ h_ => h_.1))) hb); have n3_ := Aside0.mk (Kd.R_below (by (with_reducible repeat (first | apply Kd.R_alloc | apply Kd.R_drewN | apply Kd.R_drew)); exact (Kd.R_mono (Kd.R_far (p := ⟨gb323, 1, none⟩) (Kd.R_far (p := ⟨gb323, 0, none⟩) (Kd.R_types HO320.out BK323.out (by decide)) (fun _ hk => hk.2) (.slice Ao19 t318.length co19)) (fun _ hk => hk.2) (.bool t321)) (fun _ h_ => h_.1))) hb); have n4_ := Aside0.mk (blk_below (g := gb314) (o := .cells #[.slice Ao13 t309.length co13, .bool t312] 36 (0, 0)) (by (with_reducible repeat (first | refine blk_drewN ?_ _ | refine blk_drew ?_ | refine blk_alloc ?_ _)); refine blk_far ?_ NB314_323.out _; (with_reducible repeat (first | refine blk_drewN ?_ _ | refine blk_drew ?_ | refine blk_alloc ?_ _)); refine blk_far ?_ NB314_323.out _; (with_reducible repeat (first | refine blk_drewN ?_ _ | refine blk_drew ?_ | refine blk_alloc ?_ _)); exact BK314.out) hb); have n5_ := Aside0.mk (blk_below (g := gb323) (o := .cells #[.slice Ao19 t318.length co19, .bool t321] 36 (0, 0)) (by (with_reducible repeat (first | refine blk_drewN ?_ _ | refine blk_drew ?_ | refine blk_alloc ?_ _)); refine blk_put (cs := #[.slice Ao19 t318.length co19, .bool false]) ?_ 1 _ rfl; (with_reducible repeat (first | refine blk_drewN ?_ _ | refine blk_drew ?_ | refine blk_alloc ?_ _)); refine blk_put (cs := #[.slice none 0 0, .bool false]) ?_ 0 _ rfl; (with_reducible repeat (first | refine blk_drewN ?_ _ | refine blk_drew ?_ | refine blk_alloc ?_ _)); exact BK323.out) hb); have n6_ := Aside0.mk (below_step (by repeat (first | (with_reducible first | exact HB.out | apply below_alloc | apply pw_below_drewN | apply below_drew1 | refine below_set ?_ GE314.out | refine below_set ?_ GE323.out) | exact HB.out)) hb); clear HO308; clear HO311; clear HO317; clear HO320; clear BK314; clear BK323; clear HB; have HO308 := n0_; have HO311 := n1_; have HO317 := n2_; have HO320 := n3_; have BK314 := n4_; have BK323 := n5_; have HB := n6_; clear n0_ n1_ n2_ n3_ n4_ n5_ n6_; (try clear hb); (try clear hb2); (try clear hk); (try clear hi)))
        go_meet
        case rel => exact ⟨_, ((t322 != t313)), (by first | rfl | (simp; done) | (simp [*]; done)), H', ⟨by first | omega | exact Nat.le_refl _⟩, ⟨by (with_reducible repeat (first | apply Kd.R_alloc | apply Kd.R_drewN | apply Kd.R_drew)); exact Kd.R_mono HO317.out (fun _ hk => ⟨hk.1.2, hk.2⟩)⟩, ⟨by (with_reducible repeat (first | apply Kd.R_alloc | apply Kd.R_drewN | apply Kd.R_drew)); exact Kd.R_mono HO311.out (fun _ hk => ⟨hk.1.2, hk.2⟩)⟩, ⟨by (with_reducible repeat (first | apply Kd.R_alloc | apply Kd.R_drewN | apply Kd.R_drew)); exact Kd.R_mono HO320.out (fun _ hk => ⟨hk.2, hk.1.2⟩)⟩, ⟨by (with_reducible repeat (first | refine blk_drewN ?_ _ | refine blk_drew ?_ | refine blk_alloc ?_ _)); exact BK314.out⟩, ⟨by (with_reducible repeat (first | refine blk_drewN ?_ _ | refine blk_drew ?_ | refine blk_alloc ?_ _)); exact BK323.out⟩, ⟨by repeat (first | (with_reducible first | exact HB.out | apply below_alloc | apply pw_below_drewN | apply below_drew1 | refine below_set ?_ GE314.out | refine below_set ?_ GE323.out) | exact HB.out)⟩⟩
      · replace c23 := Bool.eq_false_iff.mpr c23
        subst c23
        have H1 : (laws_FnExactFromParents.j0 k l0 a1 t313 t315 t322 true t309 t312 t318 t321) = some r := by rw [if_neg (show ¬ (false = true) by decide)] at H; exact H
        clear H
        have H := H1
        clear H1
        have H' := Aside0.mk H
        clear H
        have hnb28 := NB323_314.out
        have hnc28 := NB314_323.out
        have hcz29_0 : w18.cell? ⟨gb323, 0, none⟩ = some (.slice none 0 0) := (blk_cell BK323.out 0).trans rfl
        have hcz29_1 : w18.cell? ⟨gb323, 1, none⟩ = some (.bool false) := (blk_cell BK323.out 1).trans rfl
        have hfz29_0 := blk_frozen BK323.out 0
        have hfz29_1 := blk_frozen BK323.out 1
        have hcz30_0 : w18.cell? ⟨gb314, 0, none⟩ = some (.slice Ao13 t309.length co13) := (blk_cell BK314.out 0).trans rfl
        have hcz30_1 : w18.cell? ⟨gb314, 1, none⟩ = some (.bool t312) := (blk_cell BK314.out 1).trans rfl
        have hfz30_0 := blk_frozen BK314.out 0
        have hfz30_1 := blk_frozen BK314.out 1
        go_wp2_with (first | ((with_reducible refine gate_callee (f := 29) rfl ?_); refine goesL_ (some 35) rfl rfl Try.func29 (by kernel_rfl) rfl #[.agg #[.slice Ao19 t318.length co19, .bool t321], .agg #[.slice Ao13 t309.length co13, .bool t312]] rfl (by (try simp only [List.map_toArray, List.map_cons, List.map_nil]); first | done | rfl | (simp only [List.length_drop, List.length_take]; rfl)) ?_; (with_reducible refine (laws_eqGraph.calls k _ _ t318 t321 _ _ t309 t312 false _ ?side1 ?side2 ?side3 ?side4 A22.out).mono ?_); (case side1 => refine (Kd.R_reads' (e := 3) (base := w.heap.size) (ok := fun k_ => (((True ∧ some k_ ≠ (.slice Ao10 t306.length co10 : Value).ownBlock) ∧ some k_ ≠ (.slice Ao13 t309.length co13 : Value).ownBlock) ∧ some k_ ≠ (.slice Ao16 t315.length co16 : Value).ownBlock)) (n := t318.length) (c := co19) ?_).2.2; exact (by (with_reducible repeat (first | apply Kd.R_alloc | apply Kd.R_drewN | apply Kd.R_drew)); exact (Kd.R_mono (Kd.R_far (p := ⟨gb323, 1, none⟩) (Kd.R_far (p := ⟨gb323, 0, none⟩) (Kd.R_types HO320.out BK323.out (by decide)) (fun _ hk => hk.2) (.slice Ao19 t318.length co19)) (fun _ hk => hk.2) (.bool t321)) (fun _ h_ => h_.1)))); (case side2 => exact (Kd.R_reads' HO320.out).2.1); (case side3 => refine (Kd.R_reads' (e := 3) (base := w.heap.size) (ok := fun k_ => (((True ∧ some k_ ≠ (.slice Ao10 t306.length co10 : Value).ownBlock) ∧ some k_ ≠ (.slice Ao16 t315.length co16 : Value).ownBlock) ∧ some k_ ≠ (.slice Ao19 t318.length co19 : Value).ownBlock)) (n := t309.length) (c := co13) ?_).2.2; exact (by (with_reducible repeat (first | apply Kd.R_alloc | apply Kd.R_drewN | apply Kd.R_drew)); exact (Kd.R_mono (Kd.R_far (p := ⟨gb323, 1, none⟩) (Kd.R_far (p := ⟨gb323, 0, none⟩) (Kd.R_types HO311.out BK323.out (by decide)) (fun _ hk => hk.2) (.slice Ao19 t318.length co19)) (fun _ hk => hk.2) (.bool t321)) (fun _ h_ => h_.1)))); (case side4 => exact (Kd.R_reads' HO311.out).2.1); rintro e w31 ⟨rfl, hb⟩; refine ⟨_, rfl, ?_⟩; have n0_ := Aside0.mk (Kd.R_below (by (with_reducible repeat (first | apply Kd.R_alloc | apply Kd.R_drewN | apply Kd.R_drew)); exact (Kd.R_mono (Kd.R_far (p := ⟨gb323, 1, none⟩) (Kd.R_far (p := ⟨gb323, 0, none⟩) (Kd.R_types HO308.out BK323.out (by decide)) (fun _ hk => hk.2) (.slice Ao19 t318.length co19)) (fun _ hk => hk.2) (.bool t321)) (fun _ h_ => h_.1))) hb); have n1_ := Aside0.mk (Kd.R_below (by (with_reducible repeat (first | apply Kd.R_alloc | apply Kd.R_drewN | apply Kd.R_drew)); exact (Kd.R_mono (Kd.R_far (p := ⟨gb323, 1, none⟩) (Kd.R_far (p := ⟨gb323, 0, none⟩) (Kd.R_types HO311.out BK323.out (by decide)) (fun _ hk => hk.2) (.slice Ao19 t318.length co19)) (fun _ hk => hk.2) (.bool t321)) (fun _ h_ => h_.1))) hb); have n2_ := Aside0.mk (Kd.R_below (by (with_reducible repeat (first | apply Kd.R_alloc | apply Kd.R_drewN | apply Kd.R_drew)); exact (Kd.R_mono (Kd.R_far (p := ⟨gb323, 1, none⟩) (Kd.R_far (p := ⟨gb323, 0, none⟩) (Kd.R_types HO317.out BK323.out (by decide)) (fun _ hk => hk.2) (.slice Ao19 t318.length co19)) (fun _ hk => hk.2) (.bool t321)) (fun _ h_ => h_.1))) hb); have n3_ := Aside0.mk (Kd.R_below (by (with_reducible repeat (first | apply Kd.R_alloc | apply Kd.R_drewN | apply Kd.R_drew)); exact (Kd.R_mono (Kd.R_far (p := ⟨gb323, 1, none⟩) (Kd.R_far (p := ⟨gb323, 0, none⟩) (Kd.R_types HO320.out BK323.out (by decide)) (fun _ hk => hk.2) (.slice Ao19 t318.length co19)) (fun _ hk => hk.2) (.bool t321)) (fun _ h_ => h_.1))) hb); have n4_ := Aside0.mk (blk_below (g := gb314) (o := .cells #[.slice Ao13 t309.length co13, .bool t312] 36 (0, 0)) (by (with_reducible repeat (first | refine blk_drewN ?_ _ | refine blk_drew ?_ | refine blk_alloc ?_ _)); refine blk_far ?_ NB314_323.out _; (with_reducible repeat (first | refine blk_drewN ?_ _ | refine blk_drew ?_ | refine blk_alloc ?_ _)); refine blk_far ?_ NB314_323.out _; (with_reducible repeat (first | refine blk_drewN ?_ _ | refine blk_drew ?_ | refine blk_alloc ?_ _)); exact BK314.out) hb); have n5_ := Aside0.mk (blk_below (g := gb323) (o := .cells #[.slice Ao19 t318.length co19, .bool t321] 36 (0, 0)) (by (with_reducible repeat (first | refine blk_drewN ?_ _ | refine blk_drew ?_ | refine blk_alloc ?_ _)); refine blk_put (cs := #[.slice Ao19 t318.length co19, .bool false]) ?_ 1 _ rfl; (with_reducible repeat (first | refine blk_drewN ?_ _ | refine blk_drew ?_ | refine blk_alloc ?_ _)); refine blk_put (cs := #[.slice none 0 0, .bool false]) ?_ 0 _ rfl; (with_reducible repeat (first | refine blk_drewN ?_ _ | refine blk_drew ?_ | refine blk_alloc ?_ _)); exact BK323.out) hb); have n6_ := Aside0.mk (below_step (by repeat (first | (with_reducible first | exact HB.out | apply below_alloc | apply pw_below_drewN | apply below_drew1 | refine below_set ?_ GE314.out | refine below_set ?_ GE323.out) | exact HB.out)) hb); clear HO308; clear HO311; clear HO317; clear HO320; clear BK314; clear BK323; clear HB; have HO308 := n0_; have HO311 := n1_; have HO317 := n2_; have HO320 := n3_; have BK314 := n4_; have BK323 := n5_; have HB := n6_; clear n0_ n1_ n2_ n3_ n4_ n5_ n6_; (try clear hb); (try clear hb2); (try clear hk); (try clear hi)))
        go_meet
        case rel => exact ⟨_, (true), (by first | rfl | (simp; done) | (simp [*]; done)), H', ⟨by first | omega | exact Nat.le_refl _⟩, ⟨by (with_reducible repeat (first | apply Kd.R_alloc | apply Kd.R_drewN | apply Kd.R_drew)); exact Kd.R_mono HO317.out (fun _ hk => ⟨hk.1.2, hk.2⟩)⟩, ⟨by (with_reducible repeat (first | apply Kd.R_alloc | apply Kd.R_drewN | apply Kd.R_drew)); exact Kd.R_mono HO311.out (fun _ hk => ⟨hk.1.2, hk.2⟩)⟩, ⟨by (with_reducible repeat (first | apply Kd.R_alloc | apply Kd.R_drewN | apply Kd.R_drew)); exact Kd.R_mono HO320.out (fun _ hk => ⟨hk.2, hk.1.2⟩)⟩, ⟨by (with_reducible repeat (first | refine blk_drewN ?_ _ | refine blk_drew ?_ | refine blk_alloc ?_ _)); exact BK314.out⟩, ⟨by (with_reducible repeat (first | refine blk_drewN ?_ _ | refine blk_drew ?_ | refine blk_alloc ?_ _)); exact BK323.out⟩, ⟨by repeat (first | (with_reducible first | exact HB.out | apply below_alloc | apply pw_below_drewN | apply below_drew1 | refine below_set ?_ GE314.out | refine below_set ?_ GE323.out) | exact HB.out)⟩⟩
    case rest =>
      clear HC8
      try clear c2
      try clear p2
      try clear c3
      try clear c3b0
      try clear c3b1
      try clear c9
      try clear c20
      try clear c23
      try clear c24
      try clear c28
      try clear c29
      try clear hcz14_0
      try clear hcz14_1
      try clear hcz21_0
      try clear hcz21_1
      try clear hcz25_0
      try clear hcz25_1
      try clear hcz26_0
      try clear hcz26_1
      try clear hcz29_0
      try clear hcz29_1
      try clear hcz30_0
      try clear hcz30_1
      try clear hfz14_0
      try clear hfz14_1
      try clear hfz21_0
      try clear hfz21_1
      try clear hfz25_0
      try clear hfz25_1
      try clear hfz26_0
      try clear hfz26_1
      try clear hfz29_0
      try clear hfz29_1
      try clear hfz30_0
      try clear hfz30_1
      obtain ⟨kq, x41_7, rfl, HA, HJ7, HO_7, HO_315000, HO_324000, BK314, BK323, HB⟩ := hcut
      cases kq with
      | zero => exact absurd HA.out (by simp [laws_FnExactFromParents.j0])
      | succ kj7 =>
        have H := HA.out
        clear HA
        simp only [laws_FnExactFromParents.j0] at H
        by_cases c32 : x41_7 = true
        · subst c32
          have H1 : (some false) = some r := by rw [if_pos rfl] at H; exact H
          clear H
          have H := H1
          clear H1
          obtain rfl := Option.some.inj H
          go_wp2
          go_ret
          exact ⟨by first | rfl | (simp [errW_none, errW_some] <;> rfl) | (simp [*, errW_none, errW_some] <;> rfl), by repeat (first | (with_reducible first | exact HB.out | apply below_alloc | apply pw_below_drewN | apply below_drew1 | refine below_set ?_ GE314.out | refine below_set ?_ GE323.out) | exact HB.out)⟩
        · replace c32 := Bool.eq_false_iff.mpr c32
          subst c32
          have H1 : ((laws_toIntS.f kj7 l0).bind fun t325 => ((laws_eqIntS.f kj7 t315 t325).bind fun t328 => (if t328 = true then ((laws_markIntS.f kj7 t315 1).bind fun bt329 => (if bt329.1 < 0 then (laws_FnExactFromParents.j1 kj7 l0 a1 t313 true t309 t312 t318 t321) else ((laws_eqGraph.f kj7 t318 t321 t309 t312).bind fun t331 => (if t331 = true then (laws_FnExactFromParents.j1 kj7 l0 a1 t313 (t322 != t313) t309 t312 t318 t321) else (laws_FnExactFromParents.j1 kj7 l0 a1 t313 true t309 t312 t318 t321))))) else (some false)))) = some r := by rw [if_neg (show ¬ (false = true) by decide)] at H; exact H
          clear H
          have H := H1
          clear H1
          replace H := Option.bind_eq_some_iff.mp H
          obtain ⟨t325, A330, H⟩ := H
          replace H : ((laws_eqIntS.f kj7 t315 t325).bind fun t328 => (if t328 = true then ((laws_markIntS.f kj7 t315 1).bind fun bt329 => (if bt329.1 < 0 then (laws_FnExactFromParents.j1 kj7 l0 a1 t313 true t309 t312 t318 t321) else ((laws_eqGraph.f kj7 t318 t321 t309 t312).bind fun t331 => (if t331 = true then (laws_FnExactFromParents.j1 kj7 l0 a1 t313 (t322 != t313) t309 t312 t318 t321) else (laws_FnExactFromParents.j1 kj7 l0 a1 t313 true t309 t312 t318 t321))))) else (some false))) = some r := H
          have A33 := Aside0.mk A330
          clear A330
          replace H := Option.bind_eq_some_iff.mp H
          obtain ⟨t328, A340, H⟩ := H
          replace H : (if t328 = true then ((laws_markIntS.f kj7 t315 1).bind fun bt329 => (if bt329.1 < 0 then (laws_FnExactFromParents.j1 kj7 l0 a1 t313 true t309 t312 t318 t321) else ((laws_eqGraph.f kj7 t318 t321 t309 t312).bind fun t331 => (if t331 = true then (laws_FnExactFromParents.j1 kj7 l0 a1 t313 (t322 != t313) t309 t312 t318 t321) else (laws_FnExactFromParents.j1 kj7 l0 a1 t313 true t309 t312 t318 t321))))) else (some false)) = some r := H
          have A34 := Aside0.mk A340
          clear A340
          by_cases c35 : t328 = true
          · subst c35
            have H1 : ((laws_markIntS.f kj7 t315 1).bind fun bt329 => (if bt329.1 < 0 then (laws_FnExactFromParents.j1 kj7 l0 a1 t313 true t309 t312 t318 t321) else ((laws_eqGraph.f kj7 t318 t321 t309 t312).bind fun t331 => (if t331 = true then (laws_FnExactFromParents.j1 kj7 l0 a1 t313 (t322 != t313) t309 t312 t318 t321) else (laws_FnExactFromParents.j1 kj7 l0 a1 t313 true t309 t312 t318 t321))))) = some r := by rw [if_pos rfl] at H; exact H
            clear H
            have H := H1
            clear H1
            replace H := Option.bind_eq_some_iff.mp H
            obtain ⟨⟨t329, t330⟩, A360, H⟩ := H
            replace H : (if t329 < 0 then (laws_FnExactFromParents.j1 kj7 l0 a1 t313 true t309 t312 t318 t321) else ((laws_eqGraph.f kj7 t318 t321 t309 t312).bind fun t331 => (if t331 = true then (laws_FnExactFromParents.j1 kj7 l0 a1 t313 (t322 != t313) t309 t312 t318 t321) else (laws_FnExactFromParents.j1 kj7 l0 a1 t313 true t309 t312 t318 t321)))) = some r := H
            have A36 := Aside0.mk A360
            clear A360
            have HC37 := Aside0.mk H
            clear H
            go_upto_region 12 with (first | ((with_reducible refine gate_callee (f := 20) rfl ?_); refine goesL_ (some 44) rfl rfl Try.func20 (by kernel_rfl) rfl #[.slice A0 l0.length c0] rfl (by (try simp only [List.map_toArray, List.map_cons, List.map_nil]); first | done | rfl | (simp only [List.length_drop, List.length_take]; rfl)) ?_; (with_reducible refine (laws_toIntS.calls kj7 _ _ l0 t325 _ ?side1 ?side2 A33.out).mono ?_); (case side1 => repeat (first | exact (Kd.C_below HR0.out HB.out) | (with_reducible refine Kd.C_alloc ?_ _) | (with_reducible refine Kd.C_drewN ?_ _) | (with_reducible refine Kd.C_drew ?_))); (case side2 => exact HC0.out); rintro e w38 ⟨v326, rfl, ho0, hb⟩; refine ⟨_, rfl, ?_⟩; have n0_ := Aside0.mk (Kd.R_elder' (by (with_reducible repeat (first | apply Kd.R_alloc | apply Kd.R_drewN | apply Kd.R_drew)); exact HO_7.out) (Kd.R_base ho0) hb); have n1_ := Aside0.mk (Kd.R_elder' (by (with_reducible repeat (first | apply Kd.R_alloc | apply Kd.R_drewN | apply Kd.R_drew)); exact HO_315000.out) (Kd.R_base ho0) hb); have n2_ := Aside0.mk (Kd.R_elder' (by (with_reducible repeat (first | apply Kd.R_alloc | apply Kd.R_drewN | apply Kd.R_drew)); exact HO_324000.out) (Kd.R_base ho0) hb); have n3_ := Aside0.mk (Kd.R_lower (Kd.R_new' (Kd.R_new' (Kd.R_new' ho0 (Kd.R_lt (by (with_reducible repeat (first | apply Kd.R_alloc | apply Kd.R_drewN | apply Kd.R_drew)); exact HO_7.out))) (Kd.R_lt (by (with_reducible repeat (first | apply Kd.R_alloc | apply Kd.R_drewN | apply Kd.R_drew)); exact HO_315000.out))) (Kd.R_lt (by (with_reducible repeat (first | apply Kd.R_alloc | apply Kd.R_drewN | apply Kd.R_drew)); exact HO_324000.out))) (below_size (by repeat (first | (with_reducible first | exact HB.out | apply below_alloc | apply pw_below_drewN | apply below_drew1 | refine below_set ?_ GE314.out | refine below_set ?_ GE323.out) | exact HB.out)))); have n4_ := Aside0.mk (blk_below (g := gb314) (o := .cells #[.slice Ao13 t309.length co13, .bool t312] 36 (0, 0)) (by (with_reducible repeat (first | refine blk_drewN ?_ _ | refine blk_drew ?_ | refine blk_alloc ?_ _)); exact BK314.out) hb); have n5_ := Aside0.mk (blk_below (g := gb323) (o := .cells #[.slice Ao19 t318.length co19, .bool t321] 36 (0, 0)) (by (with_reducible repeat (first | refine blk_drewN ?_ _ | refine blk_drew ?_ | refine blk_alloc ?_ _)); exact BK323.out) hb); have n6_ := Aside0.mk (below_step (by repeat (first | (with_reducible first | exact HB.out | apply below_alloc | apply pw_below_drewN | apply below_drew1 | refine below_set ?_ GE314.out | refine below_set ?_ GE323.out) | exact HB.out)) hb); clear HO_7; clear HO_315000; clear HO_324000; clear BK314; clear BK323; clear HB; have HO_7 := n0_; have HO_315000 := n1_; have HO_324000 := n2_; have HO327 := n3_; have BK314 := n4_; have BK323 := n5_; have HB := n6_; clear n0_ n1_ n2_ n3_ n4_ n5_ n6_; (try clear hb); (try clear hb2); (try clear hk); (try clear hi); (try clear ho0); obtain ⟨Ao39, co39, eo39⟩ := Kd.R_slice HO327.out; subst eo39) | ((with_reducible refine gate_callee (f := 22) rfl ?_); refine goesL_ (some 45) rfl rfl Try.func22 (by kernel_rfl) rfl #[.slice Ao16 t315.length co16, .slice Ao39 t325.length co39] rfl (by (try simp only [List.map_toArray, List.map_cons, List.map_nil]); first | done | rfl | (simp only [List.length_drop, List.length_take]; rfl)) ?_; (with_reducible refine (laws_eqIntS.calls kj7 _ _ t315 _ _ t325 true _ ?side1 ?side2 ?side3 ?side4 A34.out).mono ?_); (case side1 => repeat (first | exact (Kd.R_reads' HO_7.out).2.2 | (with_reducible refine Kd.C_alloc ?_ _) | (with_reducible refine Kd.C_drewN ?_ _) | (with_reducible refine Kd.C_drew ?_))); (case side2 => exact (Kd.R_reads' HO_7.out).2.1); (case side3 => repeat (first | exact (Kd.R_reads' HO327.out).2.2 | (with_reducible refine Kd.C_alloc ?_ _) | (with_reducible refine Kd.C_drewN ?_ _) | (with_reducible refine Kd.C_drew ?_))); (case side4 => exact (Kd.R_reads' HO327.out).2.1); rintro e w' ⟨rfl, ⟨nd, rfl⟩⟩; refine ⟨_, rfl, ?_⟩) | ((with_reducible refine gate_callee (f := 25) rfl ?_); refine goesL_ (some 49) rfl rfl Try.func25 (by kernel_rfl) rfl #[.slice Ao16 t315.length co16, .int .i64 1] rfl (by (try simp only [List.map_toArray, List.map_cons, List.map_nil]); first | done | rfl | (simp only [List.length_drop, List.length_take]; rfl)) ?_; (with_reducible refine (laws_markIntS.calls kj7 (fun k_ => some k_ = (.slice Ao16 t315.length co16 : Value).ownBlock) (.slice Ao16 t315.length co16) t315 1 t329 t330 w _ ?side1 ?side2 A36.out).mono ?_); (case side1 => repeat (first | (with_reducible first | exact HB.out | apply below_alloc | apply pw_below_drewN | apply below_drew1 | refine below_set ?_ GE314.out | refine below_set ?_ GE323.out) | exact HB.out)); (case side2 => exact Kd.R_tight rfl HO_7.out); rintro e w40 ⟨rfl, hy0, hb, hkp⟩; refine ⟨_, rfl, ?_⟩; have n0_ := Aside0.mk (Kd.R_reok rfl hy0 (fun k_ e_ => HO_7.out.1 k_ e_)); have n1_ := Aside0.mk (Kd.R_mono (ok' := fun k_ => some k_ ≠ (.slice Ao16 t315.length co16 : Value).ownBlock ∧ some k_ ≠ (.slice Ao19 t318.length co19 : Value).ownBlock ∧ some k_ ≠ (.slice Ao39 t325.length co39 : Value).ownBlock) (Kd.R_keptB (HO_315000.out) hkp (fun k_ hk_ hs_ => (hk_.1.1) hs_)) (fun k_ hk_ => ⟨hk_.1.1.1, hk_.1.1.2, hk_.1.2⟩)); have n2_ := Aside0.mk (Kd.R_mono (ok' := fun k_ => some k_ ≠ (.slice Ao16 t315.length co16 : Value).ownBlock ∧ some k_ ≠ (.slice Ao13 t309.length co13 : Value).ownBlock ∧ some k_ ≠ (.slice Ao39 t325.length co39 : Value).ownBlock) (Kd.R_keptB (HO_324000.out) hkp (fun k_ hk_ hs_ => (hk_.1.1) hs_)) (fun k_ hk_ => ⟨hk_.1.1.1, hk_.1.1.2, hk_.1.2⟩)); have n3_ := Aside0.mk (blk_kept (by (with_reducible repeat (first | refine blk_drewN ?_ _ | refine blk_drew ?_ | refine blk_alloc ?_ _)); exact BK314.out) hkp (fun hs_ => (fun e_ => (Kd.R_ne HO_7.out BK314.out (by decide)) e_) hs_)); have n4_ := Aside0.mk (blk_kept (by (with_reducible repeat (first | refine blk_drewN ?_ _ | refine blk_drew ?_ | refine blk_alloc ?_ _)); exact BK323.out) hkp (fun hs_ => (fun e_ => (Kd.R_ne HO_7.out BK323.out (by decide)) e_) hs_)); have n5_ := Aside0.mk (Kd.R_mono (ok' := fun k_ => some k_ ≠ (.slice Ao16 t315.length co16 : Value).ownBlock ∧ some k_ ≠ (.slice Ao13 t309.length co13 : Value).ownBlock ∧ some k_ ≠ (.slice Ao19 t318.length co19 : Value).ownBlock) (Kd.R_keptB (HO327.out) hkp (fun k_ hk_ hs_ => (hk_.1.1.2) hs_)) (fun k_ hk_ => ⟨hk_.1.1.1.2, hk_.1.1.2, hk_.1.2⟩)); have n6_ := Aside0.mk (hb); clear HO_7; clear HO_315000; clear HO_324000; clear BK314; clear BK323; clear HO327; clear HB; have HO_7 := n0_; have HO_315000 := n1_; have HO_324000 := n2_; have BK314 := n3_; have BK323 := n4_; have HO327 := n5_; have HB := n6_; clear n0_ n1_ n2_ n3_ n4_ n5_ n6_; (try clear hb); (try clear hkp); (try clear hy0)))
            (try simp only [Act.put, List.setIfInBounds_toArray, List.set_cons_zero, List.set_cons_succ])
            go_cut [62] (fun v62 wc => ∃ (kq : Nat) (x62_36 : Bool), v62 = .bool x62_36 ∧ Aside0 (laws_FnExactFromParents.j1 kq l0 a1 t313 x62_36 t309 t312 t318 t321 = some r) ∧ Aside0 (kq ≤ kj7) ∧ Aside0 (Kd.R (Kd.int .i64) 3 wc w.heap.size (fun k_ => some k_ ≠ ((.slice Ao19 t318.length co19) : Value).ownBlock) (.slice Ao13 t309.length co13) t309) ∧ Aside0 (Kd.R (Kd.int .i64) 3 wc w.heap.size (fun k_ => some k_ ≠ ((.slice Ao13 t309.length co13) : Value).ownBlock) (.slice Ao19 t318.length co19) t318) ∧ Aside0 (wc.heap[gb314]? = some (.cells #[(.slice Ao13 t309.length co13), .bool t312] 36 (0, 0))) ∧ Aside0 (wc.heap[gb323]? = some (.cells #[(.slice Ao19 t318.length co19), .bool t321] 36 (0, 0))) ∧ Aside0 (Below w.heap.size w wc))
            case first =>
              have H := HC37.out
              clear HC37
              by_cases c41 : t329 < 0
              · rw [if_pos c41] at H
                have c41b0 : decide (t329 < 0) = true := decide_eq_true c41
                clear c41
                (first | rw [c41b0] | (simp only [i64_w, i32_w]; rw [c41b0]) | skip)
                have H' := Aside0.mk H
                clear H
                go_wp2
                go_meet
                case rel => exact ⟨_, (true), (by first | rfl | (simp; done) | (simp [*]; done)), H', ⟨by have := HJ7.out; first | omega | exact Nat.le_refl _⟩, ⟨by (with_reducible repeat (first | apply Kd.R_alloc | apply Kd.R_drewN | apply Kd.R_drew)); exact Kd.R_mono HO_315000.out (fun _ hk => hk.2.1)⟩, ⟨by (with_reducible repeat (first | apply Kd.R_alloc | apply Kd.R_drewN | apply Kd.R_drew)); exact Kd.R_mono HO_324000.out (fun _ hk => hk.2.1)⟩, ⟨by (with_reducible repeat (first | refine blk_drewN ?_ _ | refine blk_drew ?_ | refine blk_alloc ?_ _)); exact BK314.out⟩, ⟨by (with_reducible repeat (first | refine blk_drewN ?_ _ | refine blk_drew ?_ | refine blk_alloc ?_ _)); exact BK323.out⟩, ⟨by repeat (first | (with_reducible first | exact HB.out | apply below_alloc | apply pw_below_drewN | apply below_drew1 | refine below_set ?_ GE314.out | refine below_set ?_ GE323.out) | exact HB.out)⟩⟩
              · rw [if_neg c41] at H
                have c41b0 : decide (t329 < 0) = false := decide_eq_false c41
                clear c41
                (first | rw [c41b0] | (simp only [i64_w, i32_w]; rw [c41b0]) | skip)
                replace H := Option.bind_eq_some_iff.mp H
                obtain ⟨t331, A420, H⟩ := H
                replace H : (if t331 = true then (laws_FnExactFromParents.j1 kj7 l0 a1 t313 (t322 != t313) t309 t312 t318 t321) else (laws_FnExactFromParents.j1 kj7 l0 a1 t313 true t309 t312 t318 t321)) = some r := H
                have A42 := Aside0.mk A420
                clear A420
                by_cases c43 : t331 = true
                · subst c43
                  have H1 : (laws_FnExactFromParents.j1 kj7 l0 a1 t313 (t322 != t313) t309 t312 t318 t321) = some r := by rw [if_pos rfl] at H; exact H
                  clear H
                  have H := H1
                  clear H1
                  have H' := Aside0.mk H
                  clear H
                  have hnb44 := NB323_314.out
                  have hnc44 := NB314_323.out
                  have hcz45_0 : w40.cell? ⟨gb323, 0, none⟩ = some (.slice Ao19 t318.length co19) := (blk_cell BK323.out 0).trans rfl
                  have hcz45_1 : w40.cell? ⟨gb323, 1, none⟩ = some (.bool t321) := (blk_cell BK323.out 1).trans rfl
                  have hfz45_0 := blk_frozen BK323.out 0
                  have hfz45_1 := blk_frozen BK323.out 1
                  have hcz46_0 : w40.cell? ⟨gb314, 0, none⟩ = some (.slice Ao13 t309.length co13) := (blk_cell BK314.out 0).trans rfl
                  have hcz46_1 : w40.cell? ⟨gb314, 1, none⟩ = some (.bool t312) := (blk_cell BK314.out 1).trans rfl
                  have hfz46_0 := blk_frozen BK314.out 0
                  have hfz46_1 := blk_frozen BK314.out 1
                  go_wp2_with (first | (go_at_call 29; (with_reducible refine (laws_eqGraph.calls kj7 _ _ t318 t321 _ _ t309 t312 true _ ?side1 ?side2 ?side3 ?side4 A42.out).mono ?_); (case side1 => repeat (first | exact (Kd.R_reads' HO_324000.out).2.2 | (with_reducible refine Kd.C_alloc ?_ _) | (with_reducible refine Kd.C_drewN ?_ _) | (with_reducible refine Kd.C_drew ?_))); (case side2 => exact (Kd.R_reads' HO_324000.out).2.1); (case side3 => repeat (first | exact (Kd.R_reads' HO_315000.out).2.2 | (with_reducible refine Kd.C_alloc ?_ _) | (with_reducible refine Kd.C_drewN ?_ _) | (with_reducible refine Kd.C_drew ?_))); (case side4 => exact (Kd.R_reads' HO_315000.out).2.1); rintro e w47 ⟨rfl, hb⟩; have n0_ := Aside0.mk (Kd.R_below (by (with_reducible repeat (first | apply Kd.R_alloc | apply Kd.R_drewN | apply Kd.R_drew)); exact HO_7.out) hb); have n1_ := Aside0.mk (Kd.R_below (by (with_reducible repeat (first | apply Kd.R_alloc | apply Kd.R_drewN | apply Kd.R_drew)); exact HO_315000.out) hb); have n2_ := Aside0.mk (Kd.R_below (by (with_reducible repeat (first | apply Kd.R_alloc | apply Kd.R_drewN | apply Kd.R_drew)); exact HO_324000.out) hb); have n3_ := Aside0.mk (Kd.R_below (by (with_reducible repeat (first | apply Kd.R_alloc | apply Kd.R_drewN | apply Kd.R_drew)); exact HO327.out) hb); have n4_ := Aside0.mk (blk_below (g := gb314) (o := .cells #[.slice Ao13 t309.length co13, .bool t312] 36 (0, 0)) (by (with_reducible repeat (first | refine blk_drewN ?_ _ | refine blk_drew ?_ | refine blk_alloc ?_ _)); exact BK314.out) hb); have n5_ := Aside0.mk (blk_below (g := gb323) (o := .cells #[.slice Ao19 t318.length co19, .bool t321] 36 (0, 0)) (by (with_reducible repeat (first | refine blk_drewN ?_ _ | refine blk_drew ?_ | refine blk_alloc ?_ _)); exact BK323.out) hb); have n6_ := Aside0.mk (below_step (by repeat (first | (with_reducible first | exact HB.out | apply below_alloc | apply pw_below_drewN | apply below_drew1 | refine below_set ?_ GE314.out | refine below_set ?_ GE323.out) | exact HB.out)) hb); clear HO_7; clear HO_315000; clear HO_324000; clear HO327; clear BK314; clear BK323; clear HB; have HO_7 := n0_; have HO_315000 := n1_; have HO_324000 := n2_; have HO327 := n3_; have BK314 := n4_; have BK323 := n5_; have HB := n6_; clear n0_ n1_ n2_ n3_ n4_ n5_ n6_; (try clear hb); (try clear hb2); (try clear hk); (try clear hi)))
                  go_meet
                  case rel => exact ⟨_, ((t322 != t313)), (by first | rfl | (simp; done) | (simp [*]; done)), H', ⟨by have := HJ7.out; first | omega | exact Nat.le_refl _⟩, ⟨by (with_reducible repeat (first | apply Kd.R_alloc | apply Kd.R_drewN | apply Kd.R_drew)); exact Kd.R_mono HO_315000.out (fun _ hk => hk.2.1)⟩, ⟨by (with_reducible repeat (first | apply Kd.R_alloc | apply Kd.R_drewN | apply Kd.R_drew)); exact Kd.R_mono HO_324000.out (fun _ hk => hk.2.1)⟩, ⟨by (with_reducible repeat (first | refine blk_drewN ?_ _ | refine blk_drew ?_ | refine blk_alloc ?_ _)); exact BK314.out⟩, ⟨by (with_reducible repeat (first | refine blk_drewN ?_ _ | refine blk_drew ?_ | refine blk_alloc ?_ _)); exact BK323.out⟩, ⟨by repeat (first | (with_reducible first | exact HB.out | apply below_alloc | apply pw_below_drewN | apply below_drew1 | refine below_set ?_ GE314.out | refine below_set ?_ GE323.out) | exact HB.out)⟩⟩
                · replace c43 := Bool.eq_false_iff.mpr c43
                  subst c43
                  have H1 : (laws_FnExactFromParents.j1 kj7 l0 a1 t313 true t309 t312 t318 t321) = some r := by rw [if_neg (show ¬ (false = true) by decide)] at H; exact H
                  clear H
                  have H := H1
                  clear H1
                  have H' := Aside0.mk H
                  clear H
                  have hnb48 := NB323_314.out
                  have hnc48 := NB314_323.out
                  have hcz49_0 : w40.cell? ⟨gb323, 0, none⟩ = some (.slice Ao19 t318.length co19) := (blk_cell BK323.out 0).trans rfl
                  have hcz49_1 : w40.cell? ⟨gb323, 1, none⟩ = some (.bool t321) := (blk_cell BK323.out 1).trans rfl
                  have hfz49_0 := blk_frozen BK323.out 0
                  have hfz49_1 := blk_frozen BK323.out 1
                  have hcz50_0 : w40.cell? ⟨gb314, 0, none⟩ = some (.slice Ao13 t309.length co13) := (blk_cell BK314.out 0).trans rfl
                  have hcz50_1 : w40.cell? ⟨gb314, 1, none⟩ = some (.bool t312) := (blk_cell BK314.out 1).trans rfl
                  have hfz50_0 := blk_frozen BK314.out 0
                  have hfz50_1 := blk_frozen BK314.out 1
                  go_wp2_with (first | (go_at_call 29; (with_reducible refine (laws_eqGraph.calls kj7 _ _ t318 t321 _ _ t309 t312 false _ ?side1 ?side2 ?side3 ?side4 A42.out).mono ?_); (case side1 => repeat (first | exact (Kd.R_reads' HO_324000.out).2.2 | (with_reducible refine Kd.C_alloc ?_ _) | (with_reducible refine Kd.C_drewN ?_ _) | (with_reducible refine Kd.C_drew ?_))); (case side2 => exact (Kd.R_reads' HO_324000.out).2.1); (case side3 => repeat (first | exact (Kd.R_reads' HO_315000.out).2.2 | (with_reducible refine Kd.C_alloc ?_ _) | (with_reducible refine Kd.C_drewN ?_ _) | (with_reducible refine Kd.C_drew ?_))); (case side4 => exact (Kd.R_reads' HO_315000.out).2.1); rintro e w51 ⟨rfl, hb⟩; have n0_ := Aside0.mk (Kd.R_below (by (with_reducible repeat (first | apply Kd.R_alloc | apply Kd.R_drewN | apply Kd.R_drew)); exact HO_7.out) hb); have n1_ := Aside0.mk (Kd.R_below (by (with_reducible repeat (first | apply Kd.R_alloc | apply Kd.R_drewN | apply Kd.R_drew)); exact HO_315000.out) hb); have n2_ := Aside0.mk (Kd.R_below (by (with_reducible repeat (first | apply Kd.R_alloc | apply Kd.R_drewN | apply Kd.R_drew)); exact HO_324000.out) hb); have n3_ := Aside0.mk (Kd.R_below (by (with_reducible repeat (first | apply Kd.R_alloc | apply Kd.R_drewN | apply Kd.R_drew)); exact HO327.out) hb); have n4_ := Aside0.mk (blk_below (g := gb314) (o := .cells #[.slice Ao13 t309.length co13, .bool t312] 36 (0, 0)) (by (with_reducible repeat (first | refine blk_drewN ?_ _ | refine blk_drew ?_ | refine blk_alloc ?_ _)); exact BK314.out) hb); have n5_ := Aside0.mk (blk_below (g := gb323) (o := .cells #[.slice Ao19 t318.length co19, .bool t321] 36 (0, 0)) (by (with_reducible repeat (first | refine blk_drewN ?_ _ | refine blk_drew ?_ | refine blk_alloc ?_ _)); exact BK323.out) hb); have n6_ := Aside0.mk (below_step (by repeat (first | (with_reducible first | exact HB.out | apply below_alloc | apply pw_below_drewN | apply below_drew1 | refine below_set ?_ GE314.out | refine below_set ?_ GE323.out) | exact HB.out)) hb); clear HO_7; clear HO_315000; clear HO_324000; clear HO327; clear BK314; clear BK323; clear HB; have HO_7 := n0_; have HO_315000 := n1_; have HO_324000 := n2_; have HO327 := n3_; have BK314 := n4_; have BK323 := n5_; have HB := n6_; clear n0_ n1_ n2_ n3_ n4_ n5_ n6_; (try clear hb); (try clear hb2); (try clear hk); (try clear hi)))
                  go_meet
                  case rel => exact ⟨_, (true), (by first | rfl | (simp; done) | (simp [*]; done)), H', ⟨by have := HJ7.out; first | omega | exact Nat.le_refl _⟩, ⟨by (with_reducible repeat (first | apply Kd.R_alloc | apply Kd.R_drewN | apply Kd.R_drew)); exact Kd.R_mono HO_315000.out (fun _ hk => hk.2.1)⟩, ⟨by (with_reducible repeat (first | apply Kd.R_alloc | apply Kd.R_drewN | apply Kd.R_drew)); exact Kd.R_mono HO_324000.out (fun _ hk => hk.2.1)⟩, ⟨by (with_reducible repeat (first | refine blk_drewN ?_ _ | refine blk_drew ?_ | refine blk_alloc ?_ _)); exact BK314.out⟩, ⟨by (with_reducible repeat (first | refine blk_drewN ?_ _ | refine blk_drew ?_ | refine blk_alloc ?_ _)); exact BK323.out⟩, ⟨by repeat (first | (with_reducible first | exact HB.out | apply below_alloc | apply pw_below_drewN | apply below_drew1 | refine below_set ?_ GE314.out | refine below_set ?_ GE323.out) | exact HB.out)⟩⟩
            case rest =>
              clear HC37
              try clear c2
              try clear p2
              try clear c3
              try clear c3b0
              try clear c3b1
              try clear c4
              try clear c9
              try clear c20
              try clear c22
              try clear c23
              try clear c24
              try clear c25
              try clear c28
              try clear c29
              try clear c32
              try clear c34
              try clear c35
              try clear c41
              try clear c41b0
              try clear c43
              try clear c44
              try clear c48
              try clear hcz14_0
              try clear hcz14_1
              try clear hcz21_0
              try clear hcz21_1
              try clear hcz25_0
              try clear hcz25_1
              try clear hcz26_0
              try clear hcz26_1
              try clear hcz29_0
              try clear hcz29_1
              try clear hcz30_0
              try clear hcz30_1
              try clear hcz45_0
              try clear hcz45_1
              try clear hcz46_0
              try clear hcz46_1
              try clear hcz49_0
              try clear hcz49_1
              try clear hcz50_0
              try clear hcz50_1
              try clear hfz14_0
              try clear hfz14_1
              try clear hfz21_0
              try clear hfz21_1
              try clear hfz25_0
              try clear hfz25_1
              try clear hfz26_0
              try clear hfz26_1
              try clear hfz29_0
              try clear hfz29_1
              try clear hfz30_0
              try clear hfz30_1
              try clear hfz45_0
              try clear hfz45_1
              try clear hfz46_0
              try clear hfz46_1
              try clear hfz49_0
              try clear hfz49_1
              try clear hfz50_0
              try clear hfz50_1
              try clear p2
              obtain ⟨kq, x62_36, rfl, HA, HJ36, HO_315000, HO_324000, BK314, BK323, HB⟩ := hcut
              cases kq with
              | zero => exact absurd HA.out (by simp [laws_FnExactFromParents.j1])
              | succ kj36 =>
                have H := HA.out
                clear HA
                simp only [laws_FnExactFromParents.j1] at H
                by_cases c52 : x62_36 = true
                · subst c52
                  have H1 : (some false) = some r := by rw [if_pos rfl] at H; exact H
                  clear H
                  have H := H1
                  clear H1
                  obtain rfl := Option.some.inj H
                  go_wp2
                  go_ret
                  exact ⟨by first | rfl | (simp [errW_none, errW_some] <;> rfl) | (simp [*, errW_none, errW_some] <;> rfl), by repeat (first | (with_reducible first | exact HB.out | apply below_alloc | apply pw_below_drewN | apply below_drew1 | refine below_set ?_ GE314.out | refine below_set ?_ GE323.out) | exact HB.out)⟩
                · replace c52 := Bool.eq_false_iff.mpr c52
                  subst c52
                  have H1 : ((laws_markGraph.f kj36 t318 t321 1).bind fun bt332 => ((laws_heldGraph.f kj36 bt332.2 t321 1).bind fun t334 => (if t334 < 0 then (some false) else (if t334 = bt332.1 then ((laws_toIntS.f kj36 l0).bind fun t335 => ((impl_FromParents.f kj36 t335 a1).bind fun bt338 => ((laws_eqGraph.f kj36 bt338.1 bt338.2.1 t309 t312).bind fun t344 => (if t344 = true then (laws_FnExactFromParents.j2 kj36 bt332.1 (bt338.2.2 != t313) bt332.2 t321) else (laws_FnExactFromParents.j2 kj36 bt332.1 true bt332.2 t321))))) else (some false))))) = some r := by rw [if_neg (show ¬ (false = true) by decide)] at H; exact H
                  clear H
                  have H := H1
                  clear H1
                  replace H := Option.bind_eq_some_iff.mp H
                  obtain ⟨⟨t332, t333⟩, A530, H⟩ := H
                  replace H : ((laws_heldGraph.f kj36 t333 t321 1).bind fun t334 => (if t334 < 0 then (some false) else (if t334 = t332 then ((laws_toIntS.f kj36 l0).bind fun t335 => ((impl_FromParents.f kj36 t335 a1).bind fun bt338 => ((laws_eqGraph.f kj36 bt338.1 bt338.2.1 t309 t312).bind fun t344 => (if t344 = true then (laws_FnExactFromParents.j2 kj36 t332 (bt338.2.2 != t313) t333 t321) else (laws_FnExactFromParents.j2 kj36 t332 true t333 t321))))) else (some false)))) = some r := H
                  have A53 := Aside0.mk A530
                  clear A530
                  replace H := Option.bind_eq_some_iff.mp H
                  obtain ⟨t334, A540, H⟩ := H
                  replace H : (if t334 < 0 then (some false) else (if t334 = t332 then ((laws_toIntS.f kj36 l0).bind fun t335 => ((impl_FromParents.f kj36 t335 a1).bind fun bt338 => ((laws_eqGraph.f kj36 bt338.1 bt338.2.1 t309 t312).bind fun t344 => (if t344 = true then (laws_FnExactFromParents.j2 kj36 t332 (bt338.2.2 != t313) t333 t321) else (laws_FnExactFromParents.j2 kj36 t332 true t333 t321))))) else (some false))) = some r := H
                  have A54 := Aside0.mk A540
                  clear A540
                  by_cases c55 : t334 < 0
                  · rw [if_pos c55] at H
                    have c55b0 : decide (t334 < 0) = true := decide_eq_true c55
                    clear c55
                    obtain rfl := Option.some.inj H
                    have hnb56 := NB323_314.out
                    have hnc56 := NB314_323.out
                    have hcz57_0 : wc.cell? ⟨gb323, 0, none⟩ = some (.slice Ao19 t318.length co19) := (blk_cell BK323.out 0).trans rfl
                    have hcz57_1 : wc.cell? ⟨gb323, 1, none⟩ = some (.bool t321) := (blk_cell BK323.out 1).trans rfl
                    have hfz57_0 := blk_frozen BK323.out 0
                    have hfz57_1 := blk_frozen BK323.out 1
                    go_wp2_with (first | ((with_reducible refine gate_callee (f := 30) rfl ?_); refine goesL_ (some 65) rfl rfl Try.func30 (by kernel_rfl) rfl #[.agg #[.slice Ao19 t318.length co19, .bool t321], .int .i64 1] rfl (by (try simp only [List.map_toArray, List.map_cons, List.map_nil]); first | done | rfl | (simp only [List.length_drop, List.length_take]; rfl)) ?_; (with_reducible refine (laws_markGraph.calls kj36 (fun k_ => some k_ = (.slice Ao19 t318.length co19 : Value).ownBlock) (.slice Ao19 t318.length co19) t318 t321 1 t332 t333 w _ ?side1 ?side2 A53.out).mono ?_); (case side1 => repeat (first | (with_reducible first | exact HB.out | apply below_alloc | apply pw_below_drewN | apply below_drew1 | refine below_set ?_ GE314.out | refine below_set ?_ GE323.out) | exact HB.out)); (case side2 => exact Kd.R_tight rfl HO_324000.out); rintro e w58 ⟨rfl, hy0, hb, hkp⟩; refine ⟨_, rfl, ?_⟩; have n0_ := Aside0.mk (Kd.R_mono (ok' := fun k_ => some k_ ≠ (.slice Ao19 t318.length co19 : Value).ownBlock) (Kd.R_keptB (HO_315000.out) hkp (fun k_ hk_ hs_ => (hk_) hs_)) (fun k_ hk_ => hk_.1)); have n1_ := Aside0.mk (Kd.R_reok rfl hy0 (fun k_ e_ => HO_324000.out.1 k_ e_)); have n2_ := Aside0.mk (blk_kept (by (with_reducible repeat (first | refine blk_drewN ?_ _ | refine blk_drew ?_ | refine blk_alloc ?_ _)); exact BK314.out) hkp (fun hs_ => (fun e_ => (Kd.R_ne HO_324000.out BK314.out (by decide)) e_) hs_)); have n3_ := Aside0.mk (blk_kept (by (with_reducible repeat (first | refine blk_drewN ?_ _ | refine blk_drew ?_ | refine blk_alloc ?_ _)); exact BK323.out) hkp (fun hs_ => (fun e_ => (Kd.R_ne HO_324000.out BK323.out (by decide)) e_) hs_)); have n4_ := Aside0.mk (hb); clear HO_315000; clear HO_324000; clear BK314; clear BK323; clear HB; have HO_315000 := n0_; have HO_324000 := n1_; have BK314 := n2_; have BK323 := n3_; have HB := n4_; clear n0_ n1_ n2_ n3_ n4_; (try clear hb); (try clear hkp); (try clear hy0); have hcz59_0 : w58.cell? ⟨gb323, 0, none⟩ = some (.slice Ao19 t318.length co19) := (blk_cell BK323.out 0).trans rfl; have hcz59_1 : w58.cell? ⟨gb323, 1, none⟩ = some (.bool t321) := (blk_cell BK323.out 1).trans rfl; have hfz59_0 := blk_frozen BK323.out 0; have hfz59_1 := blk_frozen BK323.out 1) | ((with_reducible refine gate_callee (f := 31) rfl ?_); refine goesL_ (some 68) rfl rfl Try.func31 (by kernel_rfl) rfl #[.agg #[.slice Ao19 t333.length co19, .bool t321], .int .i64 1] rfl (by (try simp only [List.map_toArray, List.map_cons, List.map_nil]); first | done | (rw [show t333.length = t318.length from (Kd.R_reads' HO_324000.out).1.symm] <;> rfl) | rfl | (simp only [List.length_drop, List.length_take]; rfl)) ?_; (with_reducible refine (laws_heldGraph.calls kj36 _ _ t333 t321 1 t334 _ ?side1 ?side2 A54.out).mono ?_); (case side1 => repeat (first | exact (Kd.R_reads' HO_324000.out).2.2 | (with_reducible refine Kd.C_alloc ?_ _) | (with_reducible refine Kd.C_drewN ?_ _) | (with_reducible refine Kd.C_drew ?_))); (case side2 => rw [show t333.length = t318.length from (Kd.R_reads' HO_324000.out).1.symm]; exact (Kd.R_reads' HO_324000.out).2.1); rintro e w60 ⟨rfl, hb⟩; refine ⟨_, rfl, ?_⟩; have n0_ := Aside0.mk (Kd.R_below (by (with_reducible repeat (first | apply Kd.R_alloc | apply Kd.R_drewN | apply Kd.R_drew)); exact HO_315000.out) hb); have n1_ := Aside0.mk (Kd.R_below (by (with_reducible repeat (first | apply Kd.R_alloc | apply Kd.R_drewN | apply Kd.R_drew)); exact HO_324000.out) hb); have n2_ := Aside0.mk (blk_below (g := gb314) (o := .cells #[.slice Ao13 t309.length co13, .bool t312] 36 (0, 0)) (by (with_reducible repeat (first | refine blk_drewN ?_ _ | refine blk_drew ?_ | refine blk_alloc ?_ _)); exact BK314.out) hb); have n3_ := Aside0.mk (blk_below (g := gb323) (o := .cells #[.slice Ao19 t318.length co19, .bool t321] 36 (0, 0)) (by (with_reducible repeat (first | refine blk_drewN ?_ _ | refine blk_drew ?_ | refine blk_alloc ?_ _)); exact BK323.out) hb); have n4_ := Aside0.mk (below_step (by repeat (first | (with_reducible first | exact HB.out | apply below_alloc | apply pw_below_drewN | apply below_drew1 | refine below_set ?_ GE314.out | refine below_set ?_ GE323.out) | exact HB.out)) hb); clear HO_315000; clear HO_324000; clear BK314; clear BK323; clear HB; have HO_315000 := n0_; have HO_324000 := n1_; have BK314 := n2_; have BK323 := n3_; have HB := n4_; clear n0_ n1_ n2_ n3_ n4_; (try clear hb); (try clear hb2); (try clear hk); (try clear hi)))
                    go_ret
                    exact ⟨by first | rfl | (simp [errW_none, errW_some] <;> rfl) | (simp [*, errW_none, errW_some] <;> rfl), by repeat (first | (with_reducible first | exact HB.out | apply below_alloc | apply pw_below_drewN | apply below_drew1 | refine below_set ?_ GE314.out | refine below_set ?_ GE323.out) | exact HB.out)⟩
                  · rw [if_neg c55] at H
                    have c55b0 : decide (t334 < 0) = false := decide_eq_false c55
                    clear c55
                    by_cases c61 : t334 = t332
                    · rw [if_pos c61] at H
                      have c61b0 : (t334 == t332) = true := beq_iff_eq.mpr c61
                      have c61b1 : (t334 != t332) = false := bne_eq_false_iff_eq.mpr c61
                      clear c61
                      replace H := Option.bind_eq_some_iff.mp H
                      obtain ⟨t335, A620, H⟩ := H
                      replace H : ((impl_FromParents.f kj36 t335 a1).bind fun bt338 => ((laws_eqGraph.f kj36 bt338.1 bt338.2.1 t309 t312).bind fun t344 => (if t344 = true then (laws_FnExactFromParents.j2 kj36 t332 (bt338.2.2 != t313) t333 t321) else (laws_FnExactFromParents.j2 kj36 t332 true t333 t321)))) = some r := H
                      have A62 := Aside0.mk A620
                      clear A620
                      replace H := Option.bind_eq_some_iff.mp H
                      obtain ⟨⟨t338, t341, t342⟩, A630, H⟩ := H
                      replace H : ((laws_eqGraph.f kj36 t338 t341 t309 t312).bind fun t344 => (if t344 = true then (laws_FnExactFromParents.j2 kj36 t332 (t342 != t313) t333 t321) else (laws_FnExactFromParents.j2 kj36 t332 true t333 t321))) = some r := H
                      have A63 := Aside0.mk A630
                      clear A630
                      have HC64 := Aside0.mk H
                      clear H
                      have hnb65 := NB323_314.out
                      have hnc65 := NB314_323.out
                      have hcz66_0 : wc.cell? ⟨gb323, 0, none⟩ = some (.slice Ao19 t318.length co19) := (blk_cell BK323.out 0).trans rfl
                      have hcz66_1 : wc.cell? ⟨gb323, 1, none⟩ = some (.bool t321) := (blk_cell BK323.out 1).trans rfl
                      have hfz66_0 := blk_frozen BK323.out 0
                      have hfz66_1 := blk_frozen BK323.out 1
                      go_upto_region 23 with (first | ((with_reducible refine gate_callee (f := 30) rfl ?_); refine goesL_ (some 65) rfl rfl Try.func30 (by kernel_rfl) rfl #[.agg #[.slice Ao19 t318.length co19, .bool t321], .int .i64 1] rfl (by (try simp only [List.map_toArray, List.map_cons, List.map_nil]); first | done | rfl | (simp only [List.length_drop, List.length_take]; rfl)) ?_; (with_reducible refine (laws_markGraph.calls kj36 (fun k_ => some k_ = (.slice Ao19 t318.length co19 : Value).ownBlock) (.slice Ao19 t318.length co19) t318 t321 1 t332 t333 w _ ?side1 ?side2 A53.out).mono ?_); (case side1 => repeat (first | (with_reducible first | exact HB.out | apply below_alloc | apply pw_below_drewN | apply below_drew1 | refine below_set ?_ GE314.out | refine below_set ?_ GE323.out) | exact HB.out)); (case side2 => exact Kd.R_tight rfl HO_324000.out); rintro e w67 ⟨rfl, hy0, hb, hkp⟩; refine ⟨_, rfl, ?_⟩; have n0_ := Aside0.mk (Kd.R_mono (ok' := fun k_ => some k_ ≠ (.slice Ao19 t318.length co19 : Value).ownBlock) (Kd.R_keptB (HO_315000.out) hkp (fun k_ hk_ hs_ => (hk_) hs_)) (fun k_ hk_ => hk_.1)); have n1_ := Aside0.mk (Kd.R_reok rfl hy0 (fun k_ e_ => HO_324000.out.1 k_ e_)); have n2_ := Aside0.mk (blk_kept (by (with_reducible repeat (first | refine blk_drewN ?_ _ | refine blk_drew ?_ | refine blk_alloc ?_ _)); exact BK314.out) hkp (fun hs_ => (fun e_ => (Kd.R_ne HO_324000.out BK314.out (by decide)) e_) hs_)); have n3_ := Aside0.mk (blk_kept (by (with_reducible repeat (first | refine blk_drewN ?_ _ | refine blk_drew ?_ | refine blk_alloc ?_ _)); exact BK323.out) hkp (fun hs_ => (fun e_ => (Kd.R_ne HO_324000.out BK323.out (by decide)) e_) hs_)); have n4_ := Aside0.mk (hb); clear HO_315000; clear HO_324000; clear BK314; clear BK323; clear HB; have HO_315000 := n0_; have HO_324000 := n1_; have BK314 := n2_; have BK323 := n3_; have HB := n4_; clear n0_ n1_ n2_ n3_ n4_; (try clear hb); (try clear hkp); (try clear hy0); have hcz68_0 : w67.cell? ⟨gb323, 0, none⟩ = some (.slice Ao19 t318.length co19) := (blk_cell BK323.out 0).trans rfl; have hcz68_1 : w67.cell? ⟨gb323, 1, none⟩ = some (.bool t321) := (blk_cell BK323.out 1).trans rfl; have hfz68_0 := blk_frozen BK323.out 0; have hfz68_1 := blk_frozen BK323.out 1) | ((with_reducible refine gate_callee (f := 31) rfl ?_); refine goesL_ (some 68) rfl rfl Try.func31 (by kernel_rfl) rfl #[.agg #[.slice Ao19 t333.length co19, .bool t321], .int .i64 1] rfl (by (try simp only [List.map_toArray, List.map_cons, List.map_nil]); first | done | (rw [show t333.length = t318.length from (Kd.R_reads' HO_324000.out).1.symm] <;> rfl) | rfl | (simp only [List.length_drop, List.length_take]; rfl)) ?_; (with_reducible refine (laws_heldGraph.calls kj36 _ _ t333 t321 1 t334 _ ?side1 ?side2 A54.out).mono ?_); (case side1 => repeat (first | exact (Kd.R_reads' HO_324000.out).2.2 | (with_reducible refine Kd.C_alloc ?_ _) | (with_reducible refine Kd.C_drewN ?_ _) | (with_reducible refine Kd.C_drew ?_))); (case side2 => rw [show t333.length = t318.length from (Kd.R_reads' HO_324000.out).1.symm]; exact (Kd.R_reads' HO_324000.out).2.1); rintro e w69 ⟨rfl, hb⟩; refine ⟨_, rfl, ?_⟩; have n0_ := Aside0.mk (Kd.R_below (by (with_reducible repeat (first | apply Kd.R_alloc | apply Kd.R_drewN | apply Kd.R_drew)); exact HO_315000.out) hb); have n1_ := Aside0.mk (Kd.R_below (by (with_reducible repeat (first | apply Kd.R_alloc | apply Kd.R_drewN | apply Kd.R_drew)); exact HO_324000.out) hb); have n2_ := Aside0.mk (blk_below (g := gb314) (o := .cells #[.slice Ao13 t309.length co13, .bool t312] 36 (0, 0)) (by (with_reducible repeat (first | refine blk_drewN ?_ _ | refine blk_drew ?_ | refine blk_alloc ?_ _)); exact BK314.out) hb); have n3_ := Aside0.mk (blk_below (g := gb323) (o := .cells #[.slice Ao19 t318.length co19, .bool t321] 36 (0, 0)) (by (with_reducible repeat (first | refine blk_drewN ?_ _ | refine blk_drew ?_ | refine blk_alloc ?_ _)); exact BK323.out) hb); have n4_ := Aside0.mk (below_step (by repeat (first | (with_reducible first | exact HB.out | apply below_alloc | apply pw_below_drewN | apply below_drew1 | refine below_set ?_ GE314.out | refine below_set ?_ GE323.out) | exact HB.out)) hb); clear HO_315000; clear HO_324000; clear BK314; clear BK323; clear HB; have HO_315000 := n0_; have HO_324000 := n1_; have BK314 := n2_; have BK323 := n3_; have HB := n4_; clear n0_ n1_ n2_ n3_ n4_; (try clear hb); (try clear hb2); (try clear hk); (try clear hi)) | ((with_reducible refine gate_callee (f := 20) rfl ?_); refine goesL_ (some 76) rfl rfl Try.func20 (by kernel_rfl) rfl #[.slice A0 l0.length c0] rfl (by (try simp only [List.map_toArray, List.map_cons, List.map_nil]); first | done | rfl | (simp only [List.length_drop, List.length_take]; rfl)) ?_; (with_reducible refine (laws_toIntS.calls kj36 _ _ l0 t335 _ ?side1 ?side2 A62.out).mono ?_); (case side1 => repeat (first | exact (Kd.C_below HR0.out HB.out) | (with_reducible refine Kd.C_alloc ?_ _) | (with_reducible refine Kd.C_drewN ?_ _) | (with_reducible refine Kd.C_drew ?_))); (case side2 => exact HC0.out); rintro e w70 ⟨v336, rfl, ho0, hb⟩; refine ⟨_, rfl, ?_⟩; have n0_ := Aside0.mk (Kd.R_elder' (by (with_reducible repeat (first | apply Kd.R_alloc | apply Kd.R_drewN | apply Kd.R_drew)); exact HO_315000.out) (Kd.R_base ho0) hb); have n1_ := Aside0.mk (Kd.R_elder' (by (with_reducible repeat (first | apply Kd.R_alloc | apply Kd.R_drewN | apply Kd.R_drew)); exact HO_324000.out) (Kd.R_base ho0) hb); have n2_ := Aside0.mk (Kd.R_lower (Kd.R_new' (Kd.R_new' ho0 (Kd.R_lt (by (with_reducible repeat (first | apply Kd.R_alloc | apply Kd.R_drewN | apply Kd.R_drew)); exact HO_315000.out))) (Kd.R_lt (by (with_reducible repeat (first | apply Kd.R_alloc | apply Kd.R_drewN | apply Kd.R_drew)); exact HO_324000.out))) (below_size (by repeat (first | (with_reducible first | exact HB.out | apply below_alloc | apply pw_below_drewN | apply below_drew1 | refine below_set ?_ GE314.out | refine below_set ?_ GE323.out) | exact HB.out)))); have n3_ := Aside0.mk (blk_below (g := gb314) (o := .cells #[.slice Ao13 t309.length co13, .bool t312] 36 (0, 0)) (by (with_reducible repeat (first | refine blk_drewN ?_ _ | refine blk_drew ?_ | refine blk_alloc ?_ _)); exact BK314.out) hb); have n4_ := Aside0.mk (blk_below (g := gb323) (o := .cells #[.slice Ao19 t318.length co19, .bool t321] 36 (0, 0)) (by (with_reducible repeat (first | refine blk_drewN ?_ _ | refine blk_drew ?_ | refine blk_alloc ?_ _)); exact BK323.out) hb); have n5_ := Aside0.mk (below_step (by repeat (first | (with_reducible first | exact HB.out | apply below_alloc | apply pw_below_drewN | apply below_drew1 | refine below_set ?_ GE314.out | refine below_set ?_ GE323.out) | exact HB.out)) hb); clear HO_315000; clear HO_324000; clear BK314; clear BK323; clear HB; have HO_315000 := n0_; have HO_324000 := n1_; have HO337 := n2_; have BK314 := n3_; have BK323 := n4_; have HB := n5_; clear n0_ n1_ n2_ n3_ n4_ n5_; (try clear hb); (try clear hb2); (try clear hk); (try clear hi); (try clear ho0); obtain ⟨Ao71, co71, eo71⟩ := Kd.R_slice HO337.out; subst eo71) | ((with_reducible refine gate_callee (f := 35) rfl ?_); refine goesL_ (some 78) rfl rfl Try.func35 (by kernel_rfl) rfl #[.slice Ao71 t335.length co71, .bool a1] rfl (by (try simp only [List.map_toArray, List.map_cons, List.map_nil]); first | done | rfl | (simp only [List.length_drop, List.length_take]; rfl)) ?_; (with_reducible refine (impl_FromParents.calls kj36 _ _ t335 a1 t338 t341 t342 _ ?side1 ?side2 A63.out).mono ?_); (case side1 => repeat (first | exact (Kd.R_reads' HO337.out).2.2 | (with_reducible refine Kd.C_alloc ?_ _) | (with_reducible refine Kd.C_drewN ?_ _) | (with_reducible refine Kd.C_drew ?_))); (case side2 => exact (Kd.R_reads' HO337.out).2.1); rintro e w72 ⟨v339, rfl, ho0, hb⟩; refine ⟨_, rfl, ?_⟩; have n0_ := Aside0.mk (Kd.R_elder' (by (with_reducible repeat (first | apply Kd.R_alloc | apply Kd.R_drewN | apply Kd.R_drew)); exact HO_315000.out) (Kd.R_base ho0) hb); have n1_ := Aside0.mk (Kd.R_elder' (by (with_reducible repeat (first | apply Kd.R_alloc | apply Kd.R_drewN | apply Kd.R_drew)); exact HO_324000.out) (Kd.R_base ho0) hb); have n2_ := Aside0.mk (Kd.R_elder' (by (with_reducible repeat (first | apply Kd.R_alloc | apply Kd.R_drewN | apply Kd.R_drew)); exact HO337.out) (Kd.R_base ho0) hb); have n3_ := Aside0.mk (Kd.R_lower (Kd.R_new' (Kd.R_new' (Kd.R_new' ho0 (Kd.R_lt (by (with_reducible repeat (first | apply Kd.R_alloc | apply Kd.R_drewN | apply Kd.R_drew)); exact HO_315000.out))) (Kd.R_lt (by (with_reducible repeat (first | apply Kd.R_alloc | apply Kd.R_drewN | apply Kd.R_drew)); exact HO_324000.out))) (Kd.R_lt (by (with_reducible repeat (first | apply Kd.R_alloc | apply Kd.R_drewN | apply Kd.R_drew)); exact HO337.out))) (below_size (by repeat (first | (with_reducible first | exact HB.out | apply below_alloc | apply pw_below_drewN | apply below_drew1 | refine below_set ?_ GE314.out | refine below_set ?_ GE323.out) | exact HB.out)))); have n4_ := Aside0.mk (blk_below (g := gb314) (o := .cells #[.slice Ao13 t309.length co13, .bool t312] 36 (0, 0)) (by (with_reducible repeat (first | refine blk_drewN ?_ _ | refine blk_drew ?_ | refine blk_alloc ?_ _)); exact BK314.out) hb); have n5_ := Aside0.mk (blk_below (g := gb323) (o := .cells #[.slice Ao19 t318.length co19, .bool t321] 36 (0, 0)) (by (with_reducible repeat (first | refine blk_drewN ?_ _ | refine blk_drew ?_ | refine blk_alloc ?_ _)); exact BK323.out) hb); have n6_ := Aside0.mk (below_step (by repeat (first | (with_reducible first | exact HB.out | apply below_alloc | apply pw_below_drewN | apply below_drew1 | refine below_set ?_ GE314.out | refine below_set ?_ GE323.out) | exact HB.out)) hb); clear HO_315000; clear HO_324000; clear HO337; clear BK314; clear BK323; clear HB; have HO_315000 := n0_; have HO_324000 := n1_; have HO337 := n2_; have HO340 := n3_; have BK314 := n4_; have BK323 := n5_; have HB := n6_; clear n0_ n1_ n2_ n3_ n4_ n5_ n6_; (try clear hb); (try clear hb2); (try clear hk); (try clear hi); (try clear ho0)) | ((with_reducible refine gate_dst (N := 13) rfl ?_); refine box_event ?hg (N := 13) ?hd (cs := #[.slice none 0 0, .bool false]) (t := 36) ?hr ?_; (case hd => rfl); (case hg => rfl); (case hr => first | (go_simp; done) | (go_simp; rfl)); intro gb343 hg w73 hbox hb; have n0_ := Aside0.mk (Kd.R_below (by (with_reducible repeat (first | apply Kd.R_alloc | apply Kd.R_drewN | apply Kd.R_drew)); exact HO_315000.out) hb); have n1_ := Aside0.mk (Kd.R_below (by (with_reducible repeat (first | apply Kd.R_alloc | apply Kd.R_drewN | apply Kd.R_drew)); exact HO_324000.out) hb); have n2_ := Aside0.mk (Kd.R_below (by (with_reducible repeat (first | apply Kd.R_alloc | apply Kd.R_drewN | apply Kd.R_drew)); exact HO337.out) hb); have n3_ := Aside0.mk (Kd.R_below (by (with_reducible repeat (first | apply Kd.R_alloc | apply Kd.R_drewN | apply Kd.R_drew)); exact HO340.out) hb); have n4_ := Aside0.mk (blk_below (g := gb314) (o := .cells #[.slice Ao13 t309.length co13, .bool t312] 36 (0, 0)) (by (with_reducible repeat (first | refine blk_drewN ?_ _ | refine blk_drew ?_ | refine blk_alloc ?_ _)); exact BK314.out) hb); have n5_ := Aside0.mk (blk_below (g := gb323) (o := .cells #[.slice Ao19 t318.length co19, .bool t321] 36 (0, 0)) (by (with_reducible repeat (first | refine blk_drewN ?_ _ | refine blk_drew ?_ | refine blk_alloc ?_ _)); exact BK323.out) hb); have n6_ := Aside0.mk (below_step (by repeat (first | (with_reducible first | exact HB.out | apply below_alloc | apply pw_below_drewN | apply below_drew1 | refine below_set ?_ GE314.out | refine below_set ?_ GE323.out) | exact HB.out)) hb); have n7_ := Aside0.mk (hbox); have n8_ := Aside0.mk ((by rw [hg]; exact (below_size (by repeat (first | (with_reducible first | exact HB.out | apply below_alloc | apply pw_below_drewN | apply below_drew1 | refine below_set ?_ GE314.out | refine below_set ?_ GE323.out) | exact HB.out))) : w.heap.size ≤ gb343)); have n9_ := Aside0.mk ((by rw [hg]; exact (below_size (by repeat (first | (with_reducible first | exact HB.out | apply below_alloc | apply pw_below_drewN | apply below_drew1 | refine below_set ?_ GE314.out | refine below_set ?_ GE323.out) | exact HB.out))) : w.heap.size ≤ gb343)); have n10_ := Aside0.mk ((by rw [hg]; exact Nat.ne_of_lt (blk_lt (g := gb314) (o := .cells #[.slice Ao13 t309.length co13, .bool t312] 36 (0, 0)) (by (with_reducible repeat (first | refine blk_drewN ?_ _ | refine blk_drew ?_ | refine blk_alloc ?_ _)); exact BK314.out)) : gb314 ≠ gb343)); have n11_ := Aside0.mk ((by rw [hg]; exact Nat.ne_of_gt (blk_lt (g := gb314) (o := .cells #[.slice Ao13 t309.length co13, .bool t312] 36 (0, 0)) (by (with_reducible repeat (first | refine blk_drewN ?_ _ | refine blk_drew ?_ | refine blk_alloc ?_ _)); exact BK314.out)) : gb343 ≠ gb314)); have n12_ := Aside0.mk ((by rw [hg]; exact Nat.ne_of_lt (blk_lt (g := gb323) (o := .cells #[.slice Ao19 t318.length co19, .bool t321] 36 (0, 0)) (by (with_reducible repeat (first | refine blk_drewN ?_ _ | refine blk_drew ?_ | refine blk_alloc ?_ _)); exact BK323.out)) : gb323 ≠ gb343)); have n13_ := Aside0.mk ((by rw [hg]; exact Nat.ne_of_gt (blk_lt (g := gb323) (o := .cells #[.slice Ao19 t318.length co19, .bool t321] 36 (0, 0)) (by (with_reducible repeat (first | refine blk_drewN ?_ _ | refine blk_drew ?_ | refine blk_alloc ?_ _)); exact BK323.out)) : gb343 ≠ gb323)); clear HO_315000; clear HO_324000; clear HO337; clear HO340; clear BK314; clear BK323; clear HB; have HO_315000 := n0_; have HO_324000 := n1_; have HO337 := n2_; have HO340 := n3_; have BK314 := n4_; have BK323 := n5_; have HB := n6_; have BK343 := n7_; have GW343 := n8_; have GE343 := n9_; have NB314_343 := n10_; have NB343_314 := n11_; have NB323_343 := n12_; have NB343_323 := n13_; clear n0_ n1_ n2_ n3_ n4_ n5_ n6_ n7_ n8_ n9_ n10_ n11_ n12_ n13_; clear hb hbox hg; obtain ⟨Ao74, co74, eo74⟩ := Kd.R_slice HO340.out; subst eo74; have hnb75 := NB343_314.out; have hnc75 := NB314_343.out; have hnb76 := NB343_323.out; have hnc76 := NB323_343.out; have hcz77_0 : w73.cell? ⟨gb343, 0, none⟩ = some (.slice none 0 0) := (blk_cell BK343.out 0).trans rfl; have hcz77_1 : w73.cell? ⟨gb343, 1, none⟩ = some (.bool false) := (blk_cell BK343.out 1).trans rfl; have hfz77_0 := blk_frozen BK343.out 0; have hfz77_1 := blk_frozen BK343.out 1))
                      (try simp only [Act.put, List.setIfInBounds_toArray, List.set_cons_zero, List.set_cons_succ])
                      go_cut [89] (fun v89 wc => ∃ (kq : Nat) (x89_63 : Bool), v89 = .bool x89_63 ∧ Aside0 (laws_FnExactFromParents.j2 kq t332 x89_63 t333 t321 = some r) ∧ Aside0 (kq ≤ kj36) ∧ Aside0 (Kd.R (Kd.int .i64) 3 wc w.heap.size (fun k_ => some k_ ≠ ((.slice Ao19 t318.length co19) : Value).ownBlock ∧ some k_ ≠ ((.slice Ao74 t338.length co74) : Value).ownBlock) (.slice Ao13 t309.length co13) t309) ∧ Aside0 (Kd.R (Kd.int .i64) 3 wc w.heap.size (fun k_ => some k_ ≠ ((.slice Ao13 t309.length co13) : Value).ownBlock ∧ some k_ ≠ ((.slice Ao74 t338.length co74) : Value).ownBlock) (.slice Ao19 t318.length co19) t333) ∧ Aside0 (Kd.R (Kd.int .i64) 3 wc w.heap.size (fun k_ => some k_ ≠ ((.slice Ao13 t309.length co13) : Value).ownBlock ∧ some k_ ≠ ((.slice Ao19 t318.length co19) : Value).ownBlock) (.slice Ao74 t338.length co74) t338) ∧ Aside0 (wc.heap[gb314]? = some (.cells #[(.slice Ao13 t309.length co13), .bool t312] 36 (0, 0))) ∧ Aside0 (wc.heap[gb323]? = some (.cells #[(.slice Ao19 t318.length co19), .bool t321] 36 (0, 0))) ∧ Aside0 (wc.heap[gb343]? = some (.cells #[(.slice Ao74 t338.length co74), .bool t341] 36 (0, 0))) ∧ Aside0 (Below w.heap.size w wc))
                      case first =>
                        have H := HC64.out
                        clear HC64
                        replace H := Option.bind_eq_some_iff.mp H
                        obtain ⟨t344, A780, H⟩ := H
                        replace H : (if t344 = true then (laws_FnExactFromParents.j2 kj36 t332 (t342 != t313) t333 t321) else (laws_FnExactFromParents.j2 kj36 t332 true t333 t321)) = some r := H
                        have A78 := Aside0.mk A780
                        clear A780
                        by_cases c79 : t344 = true
                        · subst c79
                          have H1 : (laws_FnExactFromParents.j2 kj36 t332 (t342 != t313) t333 t321) = some r := by rw [if_pos rfl] at H; exact H
                          clear H
                          have H := H1
                          clear H1
                          have H' := Aside0.mk H
                          clear H
                          have hnb80 := NB343_314.out
                          have hnc80 := NB314_343.out
                          have hnb81 := NB343_323.out
                          have hnc81 := NB323_343.out
                          have hcz82_0 : w73.cell? ⟨gb343, 0, none⟩ = some (.slice none 0 0) := (blk_cell BK343.out 0).trans rfl
                          have hcz82_1 : w73.cell? ⟨gb343, 1, none⟩ = some (.bool false) := (blk_cell BK343.out 1).trans rfl
                          have hfz82_0 := blk_frozen BK343.out 0
                          have hfz82_1 := blk_frozen BK343.out 1
                          have hnb83 := NB314_323.out
                          have hnc83 := NB323_314.out
                          have hcz84_0 : w73.cell? ⟨gb314, 0, none⟩ = some (.slice Ao13 t309.length co13) := (blk_cell BK314.out 0).trans rfl
                          have hcz84_1 : w73.cell? ⟨gb314, 1, none⟩ = some (.bool t312) := (blk_cell BK314.out 1).trans rfl
                          have hfz84_0 := blk_frozen BK314.out 0
                          have hfz84_1 := blk_frozen BK314.out 1
                          go_wp2_with (first | ((with_reducible refine gate_callee (f := 29) rfl ?_); refine goesL_ (some 83) rfl rfl Try.func29 (by kernel_rfl) rfl #[.agg #[.slice Ao74 t338.length co74, .bool t341], .agg #[.slice Ao13 t309.length co13, .bool t312]] rfl (by (try simp only [List.map_toArray, List.map_cons, List.map_nil]); first | done | rfl | (simp only [List.length_drop, List.length_take]; rfl)) ?_; (with_reducible refine (laws_eqGraph.calls kj36 _ _ t338 t341 _ _ t309 t312 true _ ?side1 ?side2 ?side3 ?side4 A78.out).mono ?_); (case side1 => refine (Kd.R_reads' (e := 3) (base := w.heap.size) (ok := fun k_ => (((True ∧ some k_ ≠ (.slice Ao13 t309.length co13 : Value).ownBlock) ∧ some k_ ≠ (.slice Ao19 t318.length co19 : Value).ownBlock) ∧ some k_ ≠ (.slice Ao71 t335.length co71 : Value).ownBlock)) (n := t338.length) (c := co74) ?_).2.2; exact (by (with_reducible repeat (first | apply Kd.R_alloc | apply Kd.R_drewN | apply Kd.R_drew)); exact (Kd.R_mono (Kd.R_far (p := ⟨gb343, 1, none⟩) (Kd.R_far (p := ⟨gb343, 0, none⟩) (Kd.R_types HO340.out BK343.out (by decide)) (fun _ hk => hk.2) (.slice Ao74 t338.length co74)) (fun _ hk => hk.2) (.bool t341)) (fun _ h_ => h_.1)))); (case side2 => exact (Kd.R_reads' HO340.out).2.1); (case side3 => refine (Kd.R_reads' (e := 3) (base := w.heap.size) (ok := fun k_ => ((some k_ ≠ (.slice Ao19 t318.length co19 : Value).ownBlock ∧ some k_ ≠ (.slice Ao71 t335.length co71 : Value).ownBlock) ∧ some k_ ≠ (.slice Ao74 t338.length co74 : Value).ownBlock)) (n := t309.length) (c := co13) ?_).2.2; exact (by (with_reducible repeat (first | apply Kd.R_alloc | apply Kd.R_drewN | apply Kd.R_drew)); exact (Kd.R_mono (Kd.R_far (p := ⟨gb343, 1, none⟩) (Kd.R_far (p := ⟨gb343, 0, none⟩) (Kd.R_types HO_315000.out BK343.out (by decide)) (fun _ hk => hk.2) (.slice Ao74 t338.length co74)) (fun _ hk => hk.2) (.bool t341)) (fun _ h_ => h_.1)))); (case side4 => exact (Kd.R_reads' HO_315000.out).2.1); rintro e w85 ⟨rfl, hb⟩; refine ⟨_, rfl, ?_⟩; have n0_ := Aside0.mk (Kd.R_below (by (with_reducible repeat (first | apply Kd.R_alloc | apply Kd.R_drewN | apply Kd.R_drew)); exact (Kd.R_mono (Kd.R_far (p := ⟨gb343, 1, none⟩) (Kd.R_far (p := ⟨gb343, 0, none⟩) (Kd.R_types HO_315000.out BK343.out (by decide)) (fun _ hk => hk.2) (.slice Ao74 t338.length co74)) (fun _ hk => hk.2) (.bool t341)) (fun _ h_ => h_.1))) hb); have n1_ := Aside0.mk (Kd.R_below (by (with_reducible repeat (first | apply Kd.R_alloc | apply Kd.R_drewN | apply Kd.R_drew)); exact (Kd.R_mono (Kd.R_far (p := ⟨gb343, 1, none⟩) (Kd.R_far (p := ⟨gb343, 0, none⟩) (Kd.R_types HO_324000.out BK343.out (by decide)) (fun _ hk => hk.2) (.slice Ao74 t338.length co74)) (fun _ hk => hk.2) (.bool t341)) (fun _ h_ => h_.1))) hb); have n2_ := Aside0.mk (Kd.R_below (by (with_reducible repeat (first | apply Kd.R_alloc | apply Kd.R_drewN | apply Kd.R_drew)); exact (Kd.R_mono (Kd.R_far (p := ⟨gb343, 1, none⟩) (Kd.R_far (p := ⟨gb343, 0, none⟩) (Kd.R_types HO337.out BK343.out (by decide)) (fun _ hk => hk.2) (.slice Ao74 t338.length co74)) (fun _ hk => hk.2) (.bool t341)) (fun _ h_ => h_.1))) hb); have n3_ := Aside0.mk (Kd.R_below (by (with_reducible repeat (first | apply Kd.R_alloc | apply Kd.R_drewN | apply Kd.R_drew)); exact (Kd.R_mono (Kd.R_far (p := ⟨gb343, 1, none⟩) (Kd.R_far (p := ⟨gb343, 0, none⟩) (Kd.R_types HO340.out BK343.out (by decide)) (fun _ hk => hk.2) (.slice Ao74 t338.length co74)) (fun _ hk => hk.2) (.bool t341)) (fun _ h_ => h_.1))) hb); have n4_ := Aside0.mk (blk_below (g := gb314) (o := .cells #[.slice Ao13 t309.length co13, .bool t312] 36 (0, 0)) (by (with_reducible repeat (first | refine blk_drewN ?_ _ | refine blk_drew ?_ | refine blk_alloc ?_ _)); refine blk_far ?_ NB314_343.out _; (with_reducible repeat (first | refine blk_drewN ?_ _ | refine blk_drew ?_ | refine blk_alloc ?_ _)); refine blk_far ?_ NB314_343.out _; (with_reducible repeat (first | refine blk_drewN ?_ _ | refine blk_drew ?_ | refine blk_alloc ?_ _)); exact BK314.out) hb); have n5_ := Aside0.mk (blk_below (g := gb323) (o := .cells #[.slice Ao19 t318.length co19, .bool t321] 36 (0, 0)) (by (with_reducible repeat (first | refine blk_drewN ?_ _ | refine blk_drew ?_ | refine blk_alloc ?_ _)); refine blk_far ?_ NB323_343.out _; (with_reducible repeat (first | refine blk_drewN ?_ _ | refine blk_drew ?_ | refine blk_alloc ?_ _)); refine blk_far ?_ NB323_343.out _; (with_reducible repeat (first | refine blk_drewN ?_ _ | refine blk_drew ?_ | refine blk_alloc ?_ _)); exact BK323.out) hb); have n6_ := Aside0.mk (blk_below (g := gb343) (o := .cells #[.slice Ao74 t338.length co74, .bool t341] 36 (0, 0)) (by (with_reducible repeat (first | refine blk_drewN ?_ _ | refine blk_drew ?_ | refine blk_alloc ?_ _)); refine blk_put (cs := #[.slice Ao74 t338.length co74, .bool false]) ?_ 1 _ rfl; (with_reducible repeat (first | refine blk_drewN ?_ _ | refine blk_drew ?_ | refine blk_alloc ?_ _)); refine blk_put (cs := #[.slice none 0 0, .bool false]) ?_ 0 _ rfl; (with_reducible repeat (first | refine blk_drewN ?_ _ | refine blk_drew ?_ | refine blk_alloc ?_ _)); exact BK343.out) hb); have n7_ := Aside0.mk (below_step (by repeat (first | (with_reducible first | exact HB.out | apply below_alloc | apply pw_below_drewN | apply below_drew1 | refine below_set ?_ GE314.out | refine below_set ?_ GE323.out | refine below_set ?_ GE343.out) | exact HB.out)) hb); clear HO_315000; clear HO_324000; clear HO337; clear HO340; clear BK314; clear BK323; clear BK343; clear HB; have HO_315000 := n0_; have HO_324000 := n1_; have HO337 := n2_; have HO340 := n3_; have BK314 := n4_; have BK323 := n5_; have BK343 := n6_; have HB := n7_; clear n0_ n1_ n2_ n3_ n4_ n5_ n6_ n7_; (try clear hb); (try clear hb2); (try clear hk); (try clear hi)))
                          go_meet
                          case rel => exact ⟨_, ((t342 != t313)), (by first | rfl | (simp; done) | (simp [*]; done)), H', ⟨by have := HJ7.out; have := HJ36.out; first | omega | exact Nat.le_refl _⟩, ⟨by (with_reducible repeat (first | apply Kd.R_alloc | apply Kd.R_drewN | apply Kd.R_drew)); exact Kd.R_mono HO_315000.out (fun _ hk => ⟨hk.1.1, hk.2⟩)⟩, ⟨by (with_reducible repeat (first | apply Kd.R_alloc | apply Kd.R_drewN | apply Kd.R_drew)); exact Kd.R_mono HO_324000.out (fun _ hk => ⟨hk.1.1, hk.2⟩)⟩, ⟨by (with_reducible repeat (first | apply Kd.R_alloc | apply Kd.R_drewN | apply Kd.R_drew)); exact Kd.R_mono HO340.out (fun _ hk => ⟨hk.1.1.2, hk.1.2⟩)⟩, ⟨by (with_reducible repeat (first | refine blk_drewN ?_ _ | refine blk_drew ?_ | refine blk_alloc ?_ _)); exact BK314.out⟩, ⟨by (with_reducible repeat (first | refine blk_drewN ?_ _ | refine blk_drew ?_ | refine blk_alloc ?_ _)); exact BK323.out⟩, ⟨by (with_reducible repeat (first | refine blk_drewN ?_ _ | refine blk_drew ?_ | refine blk_alloc ?_ _)); exact BK343.out⟩, ⟨by repeat (first | (with_reducible first | exact HB.out | apply below_alloc | apply pw_below_drewN | apply below_drew1 | refine below_set ?_ GE314.out | refine below_set ?_ GE323.out | refine below_set ?_ GE343.out) | exact HB.out)⟩⟩
                        · replace c79 := Bool.eq_false_iff.mpr c79
                          subst c79
                          have H1 : (laws_FnExactFromParents.j2 kj36 t332 true t333 t321) = some r := by rw [if_neg (show ¬ (false = true) by decide)] at H; exact H
                          clear H
                          have H := H1
                          clear H1
                          have H' := Aside0.mk H
                          clear H
                          have hnb86 := NB343_314.out
                          have hnc86 := NB314_343.out
                          have hnb87 := NB343_323.out
                          have hnc87 := NB323_343.out
                          have hcz88_0 : w73.cell? ⟨gb343, 0, none⟩ = some (.slice none 0 0) := (blk_cell BK343.out 0).trans rfl
                          have hcz88_1 : w73.cell? ⟨gb343, 1, none⟩ = some (.bool false) := (blk_cell BK343.out 1).trans rfl
                          have hfz88_0 := blk_frozen BK343.out 0
                          have hfz88_1 := blk_frozen BK343.out 1
                          have hnb89 := NB314_323.out
                          have hnc89 := NB323_314.out
                          have hcz90_0 : w73.cell? ⟨gb314, 0, none⟩ = some (.slice Ao13 t309.length co13) := (blk_cell BK314.out 0).trans rfl
                          have hcz90_1 : w73.cell? ⟨gb314, 1, none⟩ = some (.bool t312) := (blk_cell BK314.out 1).trans rfl
                          have hfz90_0 := blk_frozen BK314.out 0
                          have hfz90_1 := blk_frozen BK314.out 1
                          go_wp2_with (first | ((with_reducible refine gate_callee (f := 29) rfl ?_); refine goesL_ (some 83) rfl rfl Try.func29 (by kernel_rfl) rfl #[.agg #[.slice Ao74 t338.length co74, .bool t341], .agg #[.slice Ao13 t309.length co13, .bool t312]] rfl (by (try simp only [List.map_toArray, List.map_cons, List.map_nil]); first | done | rfl | (simp only [List.length_drop, List.length_take]; rfl)) ?_; (with_reducible refine (laws_eqGraph.calls kj36 _ _ t338 t341 _ _ t309 t312 false _ ?side1 ?side2 ?side3 ?side4 A78.out).mono ?_); (case side1 => refine (Kd.R_reads' (e := 3) (base := w.heap.size) (ok := fun k_ => (((True ∧ some k_ ≠ (.slice Ao13 t309.length co13 : Value).ownBlock) ∧ some k_ ≠ (.slice Ao19 t318.length co19 : Value).ownBlock) ∧ some k_ ≠ (.slice Ao71 t335.length co71 : Value).ownBlock)) (n := t338.length) (c := co74) ?_).2.2; exact (by (with_reducible repeat (first | apply Kd.R_alloc | apply Kd.R_drewN | apply Kd.R_drew)); exact (Kd.R_mono (Kd.R_far (p := ⟨gb343, 1, none⟩) (Kd.R_far (p := ⟨gb343, 0, none⟩) (Kd.R_types HO340.out BK343.out (by decide)) (fun _ hk => hk.2) (.slice Ao74 t338.length co74)) (fun _ hk => hk.2) (.bool t341)) (fun _ h_ => h_.1)))); (case side2 => exact (Kd.R_reads' HO340.out).2.1); (case side3 => refine (Kd.R_reads' (e := 3) (base := w.heap.size) (ok := fun k_ => ((some k_ ≠ (.slice Ao19 t318.length co19 : Value).ownBlock ∧ some k_ ≠ (.slice Ao71 t335.length co71 : Value).ownBlock) ∧ some k_ ≠ (.slice Ao74 t338.length co74 : Value).ownBlock)) (n := t309.length) (c := co13) ?_).2.2; exact (by (with_reducible repeat (first | apply Kd.R_alloc | apply Kd.R_drewN | apply Kd.R_drew)); exact (Kd.R_mono (Kd.R_far (p := ⟨gb343, 1, none⟩) (Kd.R_far (p := ⟨gb343, 0, none⟩) (Kd.R_types HO_315000.out BK343.out (by decide)) (fun _ hk => hk.2) (.slice Ao74 t338.length co74)) (fun _ hk => hk.2) (.bool t341)) (fun _ h_ => h_.1)))); (case side4 => exact (Kd.R_reads' HO_315000.out).2.1); rintro e w91 ⟨rfl, hb⟩; refine ⟨_, rfl, ?_⟩; have n0_ := Aside0.mk (Kd.R_below (by (with_reducible repeat (first | apply Kd.R_alloc | apply Kd.R_drewN | apply Kd.R_drew)); exact (Kd.R_mono (Kd.R_far (p := ⟨gb343, 1, none⟩) (Kd.R_far (p := ⟨gb343, 0, none⟩) (Kd.R_types HO_315000.out BK343.out (by decide)) (fun _ hk => hk.2) (.slice Ao74 t338.length co74)) (fun _ hk => hk.2) (.bool t341)) (fun _ h_ => h_.1))) hb); have n1_ := Aside0.mk (Kd.R_below (by (with_reducible repeat (first | apply Kd.R_alloc | apply Kd.R_drewN | apply Kd.R_drew)); exact (Kd.R_mono (Kd.R_far (p := ⟨gb343, 1, none⟩) (Kd.R_far (p := ⟨gb343, 0, none⟩) (Kd.R_types HO_324000.out BK343.out (by decide)) (fun _ hk => hk.2) (.slice Ao74 t338.length co74)) (fun _ hk => hk.2) (.bool t341)) (fun _ h_ => h_.1))) hb); have n2_ := Aside0.mk (Kd.R_below (by (with_reducible repeat (first | apply Kd.R_alloc | apply Kd.R_drewN | apply Kd.R_drew)); exact (Kd.R_mono (Kd.R_far (p := ⟨gb343, 1, none⟩) (Kd.R_far (p := ⟨gb343, 0, none⟩) (Kd.R_types HO337.out BK343.out (by decide)) (fun _ hk => hk.2) (.slice Ao74 t338.length co74)) (fun _ hk => hk.2) (.bool t341)) (fun _ h_ => h_.1))) hb); have n3_ := Aside0.mk (Kd.R_below (by (with_reducible repeat (first | apply Kd.R_alloc | apply Kd.R_drewN | apply Kd.R_drew)); exact (Kd.R_mono (Kd.R_far (p := ⟨gb343, 1, none⟩) (Kd.R_far (p := ⟨gb343, 0, none⟩) (Kd.R_types HO340.out BK343.out (by decide)) (fun _ hk => hk.2) (.slice Ao74 t338.length co74)) (fun _ hk => hk.2) (.bool t341)) (fun _ h_ => h_.1))) hb); have n4_ := Aside0.mk (blk_below (g := gb314) (o := .cells #[.slice Ao13 t309.length co13, .bool t312] 36 (0, 0)) (by (with_reducible repeat (first | refine blk_drewN ?_ _ | refine blk_drew ?_ | refine blk_alloc ?_ _)); refine blk_far ?_ NB314_343.out _; (with_reducible repeat (first | refine blk_drewN ?_ _ | refine blk_drew ?_ | refine blk_alloc ?_ _)); refine blk_far ?_ NB314_343.out _; (with_reducible repeat (first | refine blk_drewN ?_ _ | refine blk_drew ?_ | refine blk_alloc ?_ _)); exact BK314.out) hb); have n5_ := Aside0.mk (blk_below (g := gb323) (o := .cells #[.slice Ao19 t318.length co19, .bool t321] 36 (0, 0)) (by (with_reducible repeat (first | refine blk_drewN ?_ _ | refine blk_drew ?_ | refine blk_alloc ?_ _)); refine blk_far ?_ NB323_343.out _; (with_reducible repeat (first | refine blk_drewN ?_ _ | refine blk_drew ?_ | refine blk_alloc ?_ _)); refine blk_far ?_ NB323_343.out _; (with_reducible repeat (first | refine blk_drewN ?_ _ | refine blk_drew ?_ | refine blk_alloc ?_ _)); exact BK323.out) hb); have n6_ := Aside0.mk (blk_below (g := gb343) (o := .cells #[.slice Ao74 t338.length co74, .bool t341] 36 (0, 0)) (by (with_reducible repeat (first | refine blk_drewN ?_ _ | refine blk_drew ?_ | refine blk_alloc ?_ _)); refine blk_put (cs := #[.slice Ao74 t338.length co74, .bool false]) ?_ 1 _ rfl; (with_reducible repeat (first | refine blk_drewN ?_ _ | refine blk_drew ?_ | refine blk_alloc ?_ _)); refine blk_put (cs := #[.slice none 0 0, .bool false]) ?_ 0 _ rfl; (with_reducible repeat (first | refine blk_drewN ?_ _ | refine blk_drew ?_ | refine blk_alloc ?_ _)); exact BK343.out) hb); have n7_ := Aside0.mk (below_step (by repeat (first | (with_reducible first | exact HB.out | apply below_alloc | apply pw_below_drewN | apply below_drew1 | refine below_set ?_ GE314.out | refine below_set ?_ GE323.out | refine below_set ?_ GE343.out) | exact HB.out)) hb); clear HO_315000; clear HO_324000; clear HO337; clear HO340; clear BK314; clear BK323; clear BK343; clear HB; have HO_315000 := n0_; have HO_324000 := n1_; have HO337 := n2_; have HO340 := n3_; have BK314 := n4_; have BK323 := n5_; have BK343 := n6_; have HB := n7_; clear n0_ n1_ n2_ n3_ n4_ n5_ n6_ n7_; (try clear hb); (try clear hb2); (try clear hk); (try clear hi)))
                          go_meet
                          case rel => exact ⟨_, (true), (by first | rfl | (simp; done) | (simp [*]; done)), H', ⟨by have := HJ7.out; have := HJ36.out; first | omega | exact Nat.le_refl _⟩, ⟨by (with_reducible repeat (first | apply Kd.R_alloc | apply Kd.R_drewN | apply Kd.R_drew)); exact Kd.R_mono HO_315000.out (fun _ hk => ⟨hk.1.1, hk.2⟩)⟩, ⟨by (with_reducible repeat (first | apply Kd.R_alloc | apply Kd.R_drewN | apply Kd.R_drew)); exact Kd.R_mono HO_324000.out (fun _ hk => ⟨hk.1.1, hk.2⟩)⟩, ⟨by (with_reducible repeat (first | apply Kd.R_alloc | apply Kd.R_drewN | apply Kd.R_drew)); exact Kd.R_mono HO340.out (fun _ hk => ⟨hk.1.1.2, hk.1.2⟩)⟩, ⟨by (with_reducible repeat (first | refine blk_drewN ?_ _ | refine blk_drew ?_ | refine blk_alloc ?_ _)); exact BK314.out⟩, ⟨by (with_reducible repeat (first | refine blk_drewN ?_ _ | refine blk_drew ?_ | refine blk_alloc ?_ _)); exact BK323.out⟩, ⟨by (with_reducible repeat (first | refine blk_drewN ?_ _ | refine blk_drew ?_ | refine blk_alloc ?_ _)); exact BK343.out⟩, ⟨by repeat (first | (with_reducible first | exact HB.out | apply below_alloc | apply pw_below_drewN | apply below_drew1 | refine below_set ?_ GE314.out | refine below_set ?_ GE323.out | refine below_set ?_ GE343.out) | exact HB.out)⟩⟩
                      case rest =>
                        clear HC64
                        try clear c2
                        try clear p2
                        try clear c3
                        try clear c3b0
                        try clear c3b1
                        try clear c4
                        try clear c5
                        try clear c6
                        try clear c7
                        try clear c8
                        try clear c9
                        try clear c20
                        try clear c22
                        try clear c23
                        try clear c24
                        try clear c25
                        try clear c28
                        try clear c29
                        try clear c30
                        try clear c31
                        try clear c32
                        try clear c34
                        try clear c35
                        try clear c41
                        try clear c41b0
                        try clear c43
                        try clear c44
                        try clear c48
                        try clear c52
                        try clear c55
                        try clear c55b0
                        try clear c56
                        try clear c61
                        try clear c61b0
                        try clear c61b1
                        try clear c65
                        try clear c75
                        try clear c76
                        try clear c79
                        try clear c80
                        try clear c81
                        try clear c83
                        try clear c86
                        try clear c87
                        try clear c89
                        try clear hcz14_0
                        try clear hcz14_1
                        try clear hcz21_0
                        try clear hcz21_1
                        try clear hcz25_0
                        try clear hcz25_1
                        try clear hcz26_0
                        try clear hcz26_1
                        try clear hcz29_0
                        try clear hcz29_1
                        try clear hcz30_0
                        try clear hcz30_1
                        try clear hcz45_0
                        try clear hcz45_1
                        try clear hcz46_0
                        try clear hcz46_1
                        try clear hcz49_0
                        try clear hcz49_1
                        try clear hcz50_0
                        try clear hcz50_1
                        try clear hcz57_0
                        try clear hcz57_1
                        try clear hcz59_0
                        try clear hcz59_1
                        try clear hcz66_0
                        try clear hcz66_1
                        try clear hcz68_0
                        try clear hcz68_1
                        try clear hcz77_0
                        try clear hcz77_1
                        try clear hcz82_0
                        try clear hcz82_1
                        try clear hcz84_0
                        try clear hcz84_1
                        try clear hcz88_0
                        try clear hcz88_1
                        try clear hcz90_0
                        try clear hcz90_1
                        try clear hfz14_0
                        try clear hfz14_1
                        try clear hfz21_0
                        try clear hfz21_1
                        try clear hfz25_0
                        try clear hfz25_1
                        try clear hfz26_0
                        try clear hfz26_1
                        try clear hfz29_0
                        try clear hfz29_1
                        try clear hfz30_0
                        try clear hfz30_1
                        try clear hfz45_0
                        try clear hfz45_1
                        try clear hfz46_0
                        try clear hfz46_1
                        try clear hfz49_0
                        try clear hfz49_1
                        try clear hfz50_0
                        try clear hfz50_1
                        try clear hfz57_0
                        try clear hfz57_1
                        try clear hfz59_0
                        try clear hfz59_1
                        try clear hfz66_0
                        try clear hfz66_1
                        try clear hfz68_0
                        try clear hfz68_1
                        try clear hfz77_0
                        try clear hfz77_1
                        try clear hfz82_0
                        try clear hfz82_1
                        try clear hfz84_0
                        try clear hfz84_1
                        try clear hfz88_0
                        try clear hfz88_1
                        try clear hfz90_0
                        try clear hfz90_1
                        try clear p2
                        obtain ⟨kq, x89_63, rfl, HA, HJ63, HO_315000, HO_324000, HO_344000, BK314, BK323, BK343, HB⟩ := hcut
                        have hl324000_63 := (Kd.R_reads' HO_324000.out).1
                        rw [hl324000_63] at HO_324000
                        (try simp only [hl324000_63])
                        (try simp only [hl324000_63] at BK314)
                        (try simp only [hl324000_63] at BK323)
                        (try simp only [hl324000_63] at BK343)
                        (try simp only [hl324000_63] at HO_315000)
                        (try simp only [hl324000_63] at HO_344000)
                        cases kq with
                        | zero => exact absurd HA.out (by simp [laws_FnExactFromParents.j2])
                        | succ kj63 =>
                          have H := HA.out
                          clear HA
                          simp only [laws_FnExactFromParents.j2] at H
                          by_cases c92 : x89_63 = true
                          · subst c92
                            have H1 : (some false) = some r := by rw [if_pos rfl] at H; exact H
                            clear H
                            have H := H1
                            clear H1
                            obtain rfl := Option.some.inj H
                            go_wp2
                            go_ret
                            exact ⟨by first | rfl | (simp [errW_none, errW_some] <;> rfl) | (simp [*, errW_none, errW_some] <;> rfl), by repeat (first | (with_reducible first | exact HB.out | apply below_alloc | apply pw_below_drewN | apply below_drew1 | refine below_set ?_ GE314.out | refine below_set ?_ GE323.out | refine below_set ?_ GE343.out) | exact HB.out)⟩
                          · replace c92 := Bool.eq_false_iff.mpr c92
                            subst c92
                            have H1 : ((laws_heldGraph.f kj63 t333 t321 1).bind fun t345 => (if t345 < 0 then (some false) else (if t345 = t332 then (some true) else (some false)))) = some r := by rw [if_neg (show ¬ (false = true) by decide)] at H; exact H
                            clear H
                            have H := H1
                            clear H1
                            replace H := Option.bind_eq_some_iff.mp H
                            obtain ⟨t345, A930, H⟩ := H
                            replace H : (if t345 < 0 then (some false) else (if t345 = t332 then (some true) else (some false))) = some r := H
                            have A93 := Aside0.mk A930
                            clear A930
                            by_cases c94 : t345 < 0
                            · rw [if_pos c94] at H
                              have c94b0 : decide (t345 < 0) = true := decide_eq_true c94
                              clear c94
                              obtain rfl := Option.some.inj H
                              have hnb95 := NB323_314.out
                              have hnc95 := NB314_323.out
                              have hnb96 := NB323_343.out
                              have hnc96 := NB343_323.out
                              have hcz97_0 : wc.cell? ⟨gb323, 0, none⟩ = some (.slice Ao19 t333.length co19) := (blk_cell BK323.out 0).trans rfl
                              have hcz97_1 : wc.cell? ⟨gb323, 1, none⟩ = some (.bool t321) := (blk_cell BK323.out 1).trans rfl
                              have hfz97_0 := blk_frozen BK323.out 0
                              have hfz97_1 := blk_frozen BK323.out 1
                              go_wp2_with (first | ((with_reducible refine gate_callee (f := 31) rfl ?_); refine goesL_ (some 92) rfl rfl Try.func31 (by kernel_rfl) rfl #[.agg #[.slice Ao19 t333.length co19, .bool t321], .int .i64 1] rfl (by (try simp only [List.map_toArray, List.map_cons, List.map_nil]); first | done | rfl | (simp only [List.length_drop, List.length_take]; rfl)) ?_; (with_reducible refine (laws_heldGraph.calls kj63 _ _ t333 t321 1 t345 _ ?side1 ?side2 A93.out).mono ?_); (case side1 => repeat (first | exact (Kd.R_reads' HO_324000.out).2.2 | (with_reducible refine Kd.C_alloc ?_ _) | (with_reducible refine Kd.C_drewN ?_ _) | (with_reducible refine Kd.C_drew ?_))); (case side2 => exact (Kd.R_reads' HO_324000.out).2.1); rintro e w98 ⟨rfl, hb⟩; refine ⟨_, rfl, ?_⟩; have n0_ := Aside0.mk (Kd.R_below (by (with_reducible repeat (first | apply Kd.R_alloc | apply Kd.R_drewN | apply Kd.R_drew)); exact HO_315000.out) hb); have n1_ := Aside0.mk (Kd.R_below (by (with_reducible repeat (first | apply Kd.R_alloc | apply Kd.R_drewN | apply Kd.R_drew)); exact HO_324000.out) hb); have n2_ := Aside0.mk (Kd.R_below (by (with_reducible repeat (first | apply Kd.R_alloc | apply Kd.R_drewN | apply Kd.R_drew)); exact HO_344000.out) hb); have n3_ := Aside0.mk (blk_below (g := gb314) (o := .cells #[.slice Ao13 t309.length co13, .bool t312] 36 (0, 0)) (by (with_reducible repeat (first | refine blk_drewN ?_ _ | refine blk_drew ?_ | refine blk_alloc ?_ _)); exact BK314.out) hb); have n4_ := Aside0.mk (blk_below (g := gb323) (o := .cells #[.slice Ao19 t333.length co19, .bool t321] 36 (0, 0)) (by (with_reducible repeat (first | refine blk_drewN ?_ _ | refine blk_drew ?_ | refine blk_alloc ?_ _)); exact BK323.out) hb); have n5_ := Aside0.mk (blk_below (g := gb343) (o := .cells #[.slice Ao74 t338.length co74, .bool t341] 36 (0, 0)) (by (with_reducible repeat (first | refine blk_drewN ?_ _ | refine blk_drew ?_ | refine blk_alloc ?_ _)); exact BK343.out) hb); have n6_ := Aside0.mk (below_step (by repeat (first | (with_reducible first | exact HB.out | apply below_alloc | apply pw_below_drewN | apply below_drew1 | refine below_set ?_ GE314.out | refine below_set ?_ GE323.out | refine below_set ?_ GE343.out) | exact HB.out)) hb); clear HO_315000; clear HO_324000; clear HO_344000; clear BK314; clear BK323; clear BK343; clear HB; have HO_315000 := n0_; have HO_324000 := n1_; have HO_344000 := n2_; have BK314 := n3_; have BK323 := n4_; have BK343 := n5_; have HB := n6_; clear n0_ n1_ n2_ n3_ n4_ n5_ n6_; (try clear hb); (try clear hb2); (try clear hk); (try clear hi)))
                              go_ret
                              exact ⟨by first | rfl | (simp [errW_none, errW_some] <;> rfl) | (simp [*, errW_none, errW_some] <;> rfl), by repeat (first | (with_reducible first | exact HB.out | apply below_alloc | apply pw_below_drewN | apply below_drew1 | refine below_set ?_ GE314.out | refine below_set ?_ GE323.out | refine below_set ?_ GE343.out) | exact HB.out)⟩
                            · rw [if_neg c94] at H
                              have c94b0 : decide (t345 < 0) = false := decide_eq_false c94
                              clear c94
                              by_cases c99 : t345 = t332
                              · rw [if_pos c99] at H
                                have c99b0 : (t345 == t332) = true := beq_iff_eq.mpr c99
                                have c99b1 : (t345 != t332) = false := bne_eq_false_iff_eq.mpr c99
                                clear c99
                                obtain rfl := Option.some.inj H
                                have hnb100 := NB323_314.out
                                have hnc100 := NB314_323.out
                                have hnb101 := NB323_343.out
                                have hnc101 := NB343_323.out
                                have hcz102_0 : wc.cell? ⟨gb323, 0, none⟩ = some (.slice Ao19 t333.length co19) := (blk_cell BK323.out 0).trans rfl
                                have hcz102_1 : wc.cell? ⟨gb323, 1, none⟩ = some (.bool t321) := (blk_cell BK323.out 1).trans rfl
                                have hfz102_0 := blk_frozen BK323.out 0
                                have hfz102_1 := blk_frozen BK323.out 1
                                go_wp2_with (first | ((with_reducible refine gate_callee (f := 31) rfl ?_); refine goesL_ (some 92) rfl rfl Try.func31 (by kernel_rfl) rfl #[.agg #[.slice Ao19 t333.length co19, .bool t321], .int .i64 1] rfl (by (try simp only [List.map_toArray, List.map_cons, List.map_nil]); first | done | rfl | (simp only [List.length_drop, List.length_take]; rfl)) ?_; (with_reducible refine (laws_heldGraph.calls kj63 _ _ t333 t321 1 t345 _ ?side1 ?side2 A93.out).mono ?_); (case side1 => repeat (first | exact (Kd.R_reads' HO_324000.out).2.2 | (with_reducible refine Kd.C_alloc ?_ _) | (with_reducible refine Kd.C_drewN ?_ _) | (with_reducible refine Kd.C_drew ?_))); (case side2 => exact (Kd.R_reads' HO_324000.out).2.1); rintro e w103 ⟨rfl, hb⟩; refine ⟨_, rfl, ?_⟩; have n0_ := Aside0.mk (Kd.R_below (by (with_reducible repeat (first | apply Kd.R_alloc | apply Kd.R_drewN | apply Kd.R_drew)); exact HO_315000.out) hb); have n1_ := Aside0.mk (Kd.R_below (by (with_reducible repeat (first | apply Kd.R_alloc | apply Kd.R_drewN | apply Kd.R_drew)); exact HO_324000.out) hb); have n2_ := Aside0.mk (Kd.R_below (by (with_reducible repeat (first | apply Kd.R_alloc | apply Kd.R_drewN | apply Kd.R_drew)); exact HO_344000.out) hb); have n3_ := Aside0.mk (blk_below (g := gb314) (o := .cells #[.slice Ao13 t309.length co13, .bool t312] 36 (0, 0)) (by (with_reducible repeat (first | refine blk_drewN ?_ _ | refine blk_drew ?_ | refine blk_alloc ?_ _)); exact BK314.out) hb); have n4_ := Aside0.mk (blk_below (g := gb323) (o := .cells #[.slice Ao19 t333.length co19, .bool t321] 36 (0, 0)) (by (with_reducible repeat (first | refine blk_drewN ?_ _ | refine blk_drew ?_ | refine blk_alloc ?_ _)); exact BK323.out) hb); have n5_ := Aside0.mk (blk_below (g := gb343) (o := .cells #[.slice Ao74 t338.length co74, .bool t341] 36 (0, 0)) (by (with_reducible repeat (first | refine blk_drewN ?_ _ | refine blk_drew ?_ | refine blk_alloc ?_ _)); exact BK343.out) hb); have n6_ := Aside0.mk (below_step (by repeat (first | (with_reducible first | exact HB.out | apply below_alloc | apply pw_below_drewN | apply below_drew1 | refine below_set ?_ GE314.out | refine below_set ?_ GE323.out | refine below_set ?_ GE343.out) | exact HB.out)) hb); clear HO_315000; clear HO_324000; clear HO_344000; clear BK314; clear BK323; clear BK343; clear HB; have HO_315000 := n0_; have HO_324000 := n1_; have HO_344000 := n2_; have BK314 := n3_; have BK323 := n4_; have BK343 := n5_; have HB := n6_; clear n0_ n1_ n2_ n3_ n4_ n5_ n6_; (try clear hb); (try clear hb2); (try clear hk); (try clear hi)))
                                go_ret
                                exact ⟨by first | rfl | (simp [errW_none, errW_some] <;> rfl) | (simp [*, errW_none, errW_some] <;> rfl), by repeat (first | (with_reducible first | exact HB.out | apply below_alloc | apply pw_below_drewN | apply below_drew1 | refine below_set ?_ GE314.out | refine below_set ?_ GE323.out | refine below_set ?_ GE343.out) | exact HB.out)⟩
                              · rw [if_neg c99] at H
                                have c99b0 : (t345 == t332) = false := beq_eq_false_iff_ne.mpr c99
                                have c99b1 : (t345 != t332) = true := bne_iff_ne.mpr c99
                                obtain rfl := Option.some.inj H
                                have hnb104 := NB323_314.out
                                have hnc104 := NB314_323.out
                                have hnb105 := NB323_343.out
                                have hnc105 := NB343_323.out
                                have hcz106_0 : wc.cell? ⟨gb323, 0, none⟩ = some (.slice Ao19 t333.length co19) := (blk_cell BK323.out 0).trans rfl
                                have hcz106_1 : wc.cell? ⟨gb323, 1, none⟩ = some (.bool t321) := (blk_cell BK323.out 1).trans rfl
                                have hfz106_0 := blk_frozen BK323.out 0
                                have hfz106_1 := blk_frozen BK323.out 1
                                go_wp2_with (first | ((with_reducible refine gate_callee (f := 31) rfl ?_); refine goesL_ (some 92) rfl rfl Try.func31 (by kernel_rfl) rfl #[.agg #[.slice Ao19 t333.length co19, .bool t321], .int .i64 1] rfl (by (try simp only [List.map_toArray, List.map_cons, List.map_nil]); first | done | rfl | (simp only [List.length_drop, List.length_take]; rfl)) ?_; (with_reducible refine (laws_heldGraph.calls kj63 _ _ t333 t321 1 t345 _ ?side1 ?side2 A93.out).mono ?_); (case side1 => repeat (first | exact (Kd.R_reads' HO_324000.out).2.2 | (with_reducible refine Kd.C_alloc ?_ _) | (with_reducible refine Kd.C_drewN ?_ _) | (with_reducible refine Kd.C_drew ?_))); (case side2 => exact (Kd.R_reads' HO_324000.out).2.1); rintro e w107 ⟨rfl, hb⟩; refine ⟨_, rfl, ?_⟩; have n0_ := Aside0.mk (Kd.R_below (by (with_reducible repeat (first | apply Kd.R_alloc | apply Kd.R_drewN | apply Kd.R_drew)); exact HO_315000.out) hb); have n1_ := Aside0.mk (Kd.R_below (by (with_reducible repeat (first | apply Kd.R_alloc | apply Kd.R_drewN | apply Kd.R_drew)); exact HO_324000.out) hb); have n2_ := Aside0.mk (Kd.R_below (by (with_reducible repeat (first | apply Kd.R_alloc | apply Kd.R_drewN | apply Kd.R_drew)); exact HO_344000.out) hb); have n3_ := Aside0.mk (blk_below (g := gb314) (o := .cells #[.slice Ao13 t309.length co13, .bool t312] 36 (0, 0)) (by (with_reducible repeat (first | refine blk_drewN ?_ _ | refine blk_drew ?_ | refine blk_alloc ?_ _)); exact BK314.out) hb); have n4_ := Aside0.mk (blk_below (g := gb323) (o := .cells #[.slice Ao19 t333.length co19, .bool t321] 36 (0, 0)) (by (with_reducible repeat (first | refine blk_drewN ?_ _ | refine blk_drew ?_ | refine blk_alloc ?_ _)); exact BK323.out) hb); have n5_ := Aside0.mk (blk_below (g := gb343) (o := .cells #[.slice Ao74 t338.length co74, .bool t341] 36 (0, 0)) (by (with_reducible repeat (first | refine blk_drewN ?_ _ | refine blk_drew ?_ | refine blk_alloc ?_ _)); exact BK343.out) hb); have n6_ := Aside0.mk (below_step (by repeat (first | (with_reducible first | exact HB.out | apply below_alloc | apply pw_below_drewN | apply below_drew1 | refine below_set ?_ GE314.out | refine below_set ?_ GE323.out | refine below_set ?_ GE343.out) | exact HB.out)) hb); clear HO_315000; clear HO_324000; clear HO_344000; clear BK314; clear BK323; clear BK343; clear HB; have HO_315000 := n0_; have HO_324000 := n1_; have HO_344000 := n2_; have BK314 := n3_; have BK323 := n4_; have BK343 := n5_; have HB := n6_; clear n0_ n1_ n2_ n3_ n4_ n5_ n6_; (try clear hb); (try clear hb2); (try clear hk); (try clear hi)))
                                go_ret
                                exact ⟨by first | rfl | (simp [errW_none, errW_some] <;> rfl) | (simp [*, errW_none, errW_some] <;> rfl), by repeat (first | (with_reducible first | exact HB.out | apply below_alloc | apply pw_below_drewN | apply below_drew1 | refine below_set ?_ GE314.out | refine below_set ?_ GE323.out | refine below_set ?_ GE343.out) | exact HB.out)⟩
                    · rw [if_neg c61] at H
                      have c61b0 : (t334 == t332) = false := beq_eq_false_iff_ne.mpr c61
                      have c61b1 : (t334 != t332) = true := bne_iff_ne.mpr c61
                      obtain rfl := Option.some.inj H
                      have hnb108 := NB323_314.out
                      have hnc108 := NB314_323.out
                      have hcz109_0 : wc.cell? ⟨gb323, 0, none⟩ = some (.slice Ao19 t318.length co19) := (blk_cell BK323.out 0).trans rfl
                      have hcz109_1 : wc.cell? ⟨gb323, 1, none⟩ = some (.bool t321) := (blk_cell BK323.out 1).trans rfl
                      have hfz109_0 := blk_frozen BK323.out 0
                      have hfz109_1 := blk_frozen BK323.out 1
                      go_wp2_with (first | ((with_reducible refine gate_callee (f := 30) rfl ?_); refine goesL_ (some 65) rfl rfl Try.func30 (by kernel_rfl) rfl #[.agg #[.slice Ao19 t318.length co19, .bool t321], .int .i64 1] rfl (by (try simp only [List.map_toArray, List.map_cons, List.map_nil]); first | done | rfl | (simp only [List.length_drop, List.length_take]; rfl)) ?_; (with_reducible refine (laws_markGraph.calls kj36 (fun k_ => some k_ = (.slice Ao19 t318.length co19 : Value).ownBlock) (.slice Ao19 t318.length co19) t318 t321 1 t332 t333 w _ ?side1 ?side2 A53.out).mono ?_); (case side1 => repeat (first | (with_reducible first | exact HB.out | apply below_alloc | apply pw_below_drewN | apply below_drew1 | refine below_set ?_ GE314.out | refine below_set ?_ GE323.out) | exact HB.out)); (case side2 => exact Kd.R_tight rfl HO_324000.out); rintro e w110 ⟨rfl, hy0, hb, hkp⟩; refine ⟨_, rfl, ?_⟩; have n0_ := Aside0.mk (Kd.R_mono (ok' := fun k_ => some k_ ≠ (.slice Ao19 t318.length co19 : Value).ownBlock) (Kd.R_keptB (HO_315000.out) hkp (fun k_ hk_ hs_ => (hk_) hs_)) (fun k_ hk_ => hk_.1)); have n1_ := Aside0.mk (Kd.R_reok rfl hy0 (fun k_ e_ => HO_324000.out.1 k_ e_)); have n2_ := Aside0.mk (blk_kept (by (with_reducible repeat (first | refine blk_drewN ?_ _ | refine blk_drew ?_ | refine blk_alloc ?_ _)); exact BK314.out) hkp (fun hs_ => (fun e_ => (Kd.R_ne HO_324000.out BK314.out (by decide)) e_) hs_)); have n3_ := Aside0.mk (blk_kept (by (with_reducible repeat (first | refine blk_drewN ?_ _ | refine blk_drew ?_ | refine blk_alloc ?_ _)); exact BK323.out) hkp (fun hs_ => (fun e_ => (Kd.R_ne HO_324000.out BK323.out (by decide)) e_) hs_)); have n4_ := Aside0.mk (hb); clear HO_315000; clear HO_324000; clear BK314; clear BK323; clear HB; have HO_315000 := n0_; have HO_324000 := n1_; have BK314 := n2_; have BK323 := n3_; have HB := n4_; clear n0_ n1_ n2_ n3_ n4_; (try clear hb); (try clear hkp); (try clear hy0); have hcz111_0 : w110.cell? ⟨gb323, 0, none⟩ = some (.slice Ao19 t318.length co19) := (blk_cell BK323.out 0).trans rfl; have hcz111_1 : w110.cell? ⟨gb323, 1, none⟩ = some (.bool t321) := (blk_cell BK323.out 1).trans rfl; have hfz111_0 := blk_frozen BK323.out 0; have hfz111_1 := blk_frozen BK323.out 1) | ((with_reducible refine gate_callee (f := 31) rfl ?_); refine goesL_ (some 68) rfl rfl Try.func31 (by kernel_rfl) rfl #[.agg #[.slice Ao19 t333.length co19, .bool t321], .int .i64 1] rfl (by (try simp only [List.map_toArray, List.map_cons, List.map_nil]); first | done | (rw [show t333.length = t318.length from (Kd.R_reads' HO_324000.out).1.symm] <;> rfl) | rfl | (simp only [List.length_drop, List.length_take]; rfl)) ?_; (with_reducible refine (laws_heldGraph.calls kj36 _ _ t333 t321 1 t334 _ ?side1 ?side2 A54.out).mono ?_); (case side1 => repeat (first | exact (Kd.R_reads' HO_324000.out).2.2 | (with_reducible refine Kd.C_alloc ?_ _) | (with_reducible refine Kd.C_drewN ?_ _) | (with_reducible refine Kd.C_drew ?_))); (case side2 => rw [show t333.length = t318.length from (Kd.R_reads' HO_324000.out).1.symm]; exact (Kd.R_reads' HO_324000.out).2.1); rintro e w112 ⟨rfl, hb⟩; refine ⟨_, rfl, ?_⟩; have n0_ := Aside0.mk (Kd.R_below (by (with_reducible repeat (first | apply Kd.R_alloc | apply Kd.R_drewN | apply Kd.R_drew)); exact HO_315000.out) hb); have n1_ := Aside0.mk (Kd.R_below (by (with_reducible repeat (first | apply Kd.R_alloc | apply Kd.R_drewN | apply Kd.R_drew)); exact HO_324000.out) hb); have n2_ := Aside0.mk (blk_below (g := gb314) (o := .cells #[.slice Ao13 t309.length co13, .bool t312] 36 (0, 0)) (by (with_reducible repeat (first | refine blk_drewN ?_ _ | refine blk_drew ?_ | refine blk_alloc ?_ _)); exact BK314.out) hb); have n3_ := Aside0.mk (blk_below (g := gb323) (o := .cells #[.slice Ao19 t318.length co19, .bool t321] 36 (0, 0)) (by (with_reducible repeat (first | refine blk_drewN ?_ _ | refine blk_drew ?_ | refine blk_alloc ?_ _)); exact BK323.out) hb); have n4_ := Aside0.mk (below_step (by repeat (first | (with_reducible first | exact HB.out | apply below_alloc | apply pw_below_drewN | apply below_drew1 | refine below_set ?_ GE314.out | refine below_set ?_ GE323.out) | exact HB.out)) hb); clear HO_315000; clear HO_324000; clear BK314; clear BK323; clear HB; have HO_315000 := n0_; have HO_324000 := n1_; have BK314 := n2_; have BK323 := n3_; have HB := n4_; clear n0_ n1_ n2_ n3_ n4_; (try clear hb); (try clear hb2); (try clear hk); (try clear hi)))
                      go_ret
                      exact ⟨by first | rfl | (simp [errW_none, errW_some] <;> rfl) | (simp [*, errW_none, errW_some] <;> rfl), by repeat (first | (with_reducible first | exact HB.out | apply below_alloc | apply pw_below_drewN | apply below_drew1 | refine below_set ?_ GE314.out | refine below_set ?_ GE323.out) | exact HB.out)⟩
          · replace c35 := Bool.eq_false_iff.mpr c35
            subst c35
            have H1 : (some false) = some r := by rw [if_neg (show ¬ (false = true) by decide)] at H; exact H
            clear H
            have H := H1
            clear H1
            obtain rfl := Option.some.inj H
            go_wp2_with (first | ((with_reducible refine gate_callee (f := 20) rfl ?_); refine goesL_ (some 44) rfl rfl Try.func20 (by kernel_rfl) rfl #[.slice A0 l0.length c0] rfl (by (try simp only [List.map_toArray, List.map_cons, List.map_nil]); first | done | rfl | (simp only [List.length_drop, List.length_take]; rfl)) ?_; (with_reducible refine (laws_toIntS.calls kj7 _ _ l0 t325 _ ?side1 ?side2 A33.out).mono ?_); (case side1 => repeat (first | exact (Kd.C_below HR0.out HB.out) | (with_reducible refine Kd.C_alloc ?_ _) | (with_reducible refine Kd.C_drewN ?_ _) | (with_reducible refine Kd.C_drew ?_))); (case side2 => exact HC0.out); rintro e w113 ⟨v326, rfl, ho0, hb⟩; refine ⟨_, rfl, ?_⟩; have n0_ := Aside0.mk (Kd.R_elder' (by (with_reducible repeat (first | apply Kd.R_alloc | apply Kd.R_drewN | apply Kd.R_drew)); exact HO_7.out) (Kd.R_base ho0) hb); have n1_ := Aside0.mk (Kd.R_elder' (by (with_reducible repeat (first | apply Kd.R_alloc | apply Kd.R_drewN | apply Kd.R_drew)); exact HO_315000.out) (Kd.R_base ho0) hb); have n2_ := Aside0.mk (Kd.R_elder' (by (with_reducible repeat (first | apply Kd.R_alloc | apply Kd.R_drewN | apply Kd.R_drew)); exact HO_324000.out) (Kd.R_base ho0) hb); have n3_ := Aside0.mk (Kd.R_lower (Kd.R_new' (Kd.R_new' (Kd.R_new' ho0 (Kd.R_lt (by (with_reducible repeat (first | apply Kd.R_alloc | apply Kd.R_drewN | apply Kd.R_drew)); exact HO_7.out))) (Kd.R_lt (by (with_reducible repeat (first | apply Kd.R_alloc | apply Kd.R_drewN | apply Kd.R_drew)); exact HO_315000.out))) (Kd.R_lt (by (with_reducible repeat (first | apply Kd.R_alloc | apply Kd.R_drewN | apply Kd.R_drew)); exact HO_324000.out))) (below_size (by repeat (first | (with_reducible first | exact HB.out | apply below_alloc | apply pw_below_drewN | apply below_drew1 | refine below_set ?_ GE314.out | refine below_set ?_ GE323.out) | exact HB.out)))); have n4_ := Aside0.mk (blk_below (g := gb314) (o := .cells #[.slice Ao13 t309.length co13, .bool t312] 36 (0, 0)) (by (with_reducible repeat (first | refine blk_drewN ?_ _ | refine blk_drew ?_ | refine blk_alloc ?_ _)); exact BK314.out) hb); have n5_ := Aside0.mk (blk_below (g := gb323) (o := .cells #[.slice Ao19 t318.length co19, .bool t321] 36 (0, 0)) (by (with_reducible repeat (first | refine blk_drewN ?_ _ | refine blk_drew ?_ | refine blk_alloc ?_ _)); exact BK323.out) hb); have n6_ := Aside0.mk (below_step (by repeat (first | (with_reducible first | exact HB.out | apply below_alloc | apply pw_below_drewN | apply below_drew1 | refine below_set ?_ GE314.out | refine below_set ?_ GE323.out) | exact HB.out)) hb); clear HO_7; clear HO_315000; clear HO_324000; clear BK314; clear BK323; clear HB; have HO_7 := n0_; have HO_315000 := n1_; have HO_324000 := n2_; have HO327 := n3_; have BK314 := n4_; have BK323 := n5_; have HB := n6_; clear n0_ n1_ n2_ n3_ n4_ n5_ n6_; (try clear hb); (try clear hb2); (try clear hk); (try clear hi); (try clear ho0); obtain ⟨Ao114, co114, eo114⟩ := Kd.R_slice HO327.out; subst eo114) | ((with_reducible refine gate_callee (f := 22) rfl ?_); refine goesL_ (some 45) rfl rfl Try.func22 (by kernel_rfl) rfl #[.slice Ao16 t315.length co16, .slice Ao114 t325.length co114] rfl (by (try simp only [List.map_toArray, List.map_cons, List.map_nil]); first | done | rfl | (simp only [List.length_drop, List.length_take]; rfl)) ?_; (with_reducible refine (laws_eqIntS.calls kj7 _ _ t315 _ _ t325 false _ ?side1 ?side2 ?side3 ?side4 A34.out).mono ?_); (case side1 => repeat (first | exact (Kd.R_reads' HO_7.out).2.2 | (with_reducible refine Kd.C_alloc ?_ _) | (with_reducible refine Kd.C_drewN ?_ _) | (with_reducible refine Kd.C_drew ?_))); (case side2 => exact (Kd.R_reads' HO_7.out).2.1); (case side3 => repeat (first | exact (Kd.R_reads' HO327.out).2.2 | (with_reducible refine Kd.C_alloc ?_ _) | (with_reducible refine Kd.C_drewN ?_ _) | (with_reducible refine Kd.C_drew ?_))); (case side4 => exact (Kd.R_reads' HO327.out).2.1); rintro e w' ⟨rfl, ⟨nd, rfl⟩⟩; refine ⟨_, rfl, ?_⟩))
            go_ret
            exact ⟨by first | rfl | (simp [errW_none, errW_some] <;> rfl) | (simp [*, errW_none, errW_some] <;> rfl), by repeat (first | (with_reducible first | exact HB.out | apply below_alloc | apply pw_below_drewN | apply below_drew1 | refine below_set ?_ GE314.out | refine below_set ?_ GE323.out) | exact HB.out)⟩

/-- THE ONE PURE STATEMENT of laws_FnExactFromParents: yours. -/
def laws_FnExactFromParents.Pure : Prop := ∀ (l0 : List Int) (a1 : Bool), l0.length ≤ maxLen → l0.length * 8 ≤ 140737488351232 → (∀ x ∈ l0, (Lit.int .i64 x).wf = true) → ∃ k, laws_FnExactFromParents.f k l0 a1 = some true
theorem laws_FnExactFromParents.walk (P : laws_FnExactFromParents.Pure) (a0 : Option Addr) (len0 cap0 : Nat) (z0 : List Int) (a1 : Bool) (w : World) (w0 : (a0 = none ∧ len0 = 0 ∧ cap0 = 0 ∧ z0 = []) ∨ ∃ x, a0 = some x ∧ len0 ≤ cap0 ∧ cap0 ≤ maxLen ∧ z0.length = cap0 ∧ (∀ i, i < z0.length → w.cell? (x.add i) = some (.int .i64 (z0.getD i 0))) ∧ ∀ n ∈ z0, (Lit.int .i64 n).wf = true) (y0 : len0 * 8 ≤ 140737488351232) :
    Calls Try.prog 9 #[.slice a0 len0 cap0, .bool a1] w fun e w' => e = .returned (.bool true) ∧ Below w.heap.size w w' := by
  obtain ⟨l0, rfl, hr0, hm0, hw0, hc0⟩ := ReadsInt.ofRowC w0
  obtain ⟨k, h⟩ := P l0 a1 hm0 y0 hw0
  refine (laws_FnExactFromParents.calls k _ _ l0 a1 true w (Kd.C_of_reads (d := (0 : Int)) (h1 := fun _ => rfl) hr0) hc0 h).mono ?_
  rintro e w' ⟨rfl, hd⟩
  exact ⟨rfl, hd⟩

/-! ### spec_poGood: function 57 -/
def spec_poGood.f (a0 : Int) : Option (Bool) := (spec_l1In.f a0 0 2199023255551).bind fun t346 => (some t346)
set_option maxHeartbeats 8000000 in
set_option maxRecDepth 100000 in
theorem spec_poGood.calls (a0 : Int) (r : Bool) (w : World) (h : spec_poGood.f a0 = some r) :
    Calls Try.prog 57 #[.int .i64 a0] w fun e w' => e = .returned (.bool r) ∧ Drawn0 w w' := by
  have H : ((spec_l1In.f a0 0 2199023255551).bind fun t346 => (some t346)) = some r := h
  clear h
  replace H := Option.bind_eq_some_iff.mp H
  obtain ⟨t346, A20, H⟩ := H
  replace H : (some t346) = some r := H
  have A2 := Aside0.mk A20
  clear A20
  obtain rfl := Option.some.inj H
  go_enter Try.func57, Try.ntmps57
  go_wp2_with (first | ((with_reducible refine gate_callee (f := 46) rfl ?_); refine goesL_ (some 4) rfl rfl Try.func46 (by kernel_rfl) rfl #[.int .i64 a0, .int .i64 0, .int .i64 2199023255551] rfl (by (try simp only [List.map_toArray, List.map_cons, List.map_nil]); first | done | rfl | (simp only [List.length_drop, List.length_take]; rfl)) ?_; (with_reducible refine (spec_l1In.calls a0 0 2199023255551 t346 _ A2.out).mono ?_); rintro e w' ⟨rfl, ⟨nd, rfl⟩⟩; refine ⟨_, rfl, ?_⟩))
  go_ret
  exact ⟨by first | rfl | (simp; done) | (simp [*]; done), by repeat (first | exact Drawn0.refl _ | apply Drawn0.step)⟩

end Go.Proofs.Ytcdobojoijmaaaa.P
