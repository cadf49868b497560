-- Written by a program of this session out of the loaded functions' print; helper lemmas as print.sh lays them.
import Derived.Test.YtlfejohlehkbgaaUp2
import Derived.Test.YtlfejohlehkbgaaUp
import Derived.Test.YtlfejohlehkbgaaRFnExactRootStepx0
import Derived.Test.YtlfejohlehkbgaaRFnExactRootStepx1
import Derived.Test.YtlfejohlehkbgaaRFnExactRootStepx4
import Derived.Test.YtlfejohlehkbgaaRFnExactRootStepx9
import Derived.Test.YtlfejohlehkbgaaRFnExactRootStepx10
import Derived.Test.YtlfejohlehkbgaaRFnExactRootStepx11
namespace Go.Proofs.Ytlfejohlehkbgaa.PFnExactRootStep
open Go.RowKit Go.Proofs.YtlfejohlehkbgaaW.PrintWords Go.Proofs.YtlfejohlehkbgaaW.PrintLast Go.Proofs.YtlfejohlehkbgaaW.PrintMore
attribute [local go_sem] max2_int min2_int max_two min_two max_three min_three max_four min_four go_fstore go_fneg go_fadd go_fsub go_fmul go_fquo go_fmax go_fmin go_fconv go_bits go_frombits  -- for this text's walks alone
set_option linter.unusedVariables false
set_option linter.unusedSimpArgs false

/-! ### laws_FnExactRootStep: function 3 -/
mutual
def laws_FnExactRootStep.j0 : Nat → List Nat → List (S44) → List (S42) → Bool → List Nat → List (S42) → List (S42) → Bool → Bool → Option (Bool)
 | 0, _, _, _, _, _, _, _, _, _ => none
 | k + 1, x0, x1, x6, x7, x8, x9, x10, x11, x51 => if x51 = true then (none) else ((laws_toFloat64S.f k x0).bind fun t326 => ((laws_eqFloat64S.f k x8 t326).bind fun t329 => (if t329 = true then ((laws_toPointS.f k x1).bind fun t330 => ((laws_eqPointS.f k x9 t330).bind fun t333 => (if t333 = true then ((laws_markFloat64S.f k x8 1).bind fun bt334 => ((laws_markPointS.f k x9 bt334.1).bind fun bt336 => (if bt336.1 < 0 then (laws_FnExactRootStep.j1 k x0 x1 x6 x7 x10 true) else ((laws_eqPointS.f k x10 x6).bind fun t338 => (if t338 = true then (laws_FnExactRootStep.j1 k x0 x1 x6 x7 x10 (x11 != x7)) else (laws_FnExactRootStep.j1 k x0 x1 x6 x7 x10 true)))))) else (none)))) else (none))))
def laws_FnExactRootStep.j1 : Nat → List Nat → List (S44) → List (S42) → Bool → List (S42) → Bool → Option (Bool)
 | 0, _, _, _, _, _, _ => none
 | k + 1, x0, x1, x6, x7, x10, x80 => if x80 = true then (none) else ((laws_markPointS.f k x10 1).bind fun bt339 => ((laws_heldPointS.f k bt339.2 1).bind fun t341 => (if t341 < 0 then (none) else (if t341 = bt339.1 then ((laws_toFloat64S.f k x0).bind fun t342 => ((laws_toPointS.f k x1).bind fun t345 => ((impl_RootStep.f k t342 t345).bind fun bt348 => ((laws_eqPointS.f k bt348.1 x6).bind fun t352 => (if t352 = true then (laws_FnExactRootStep.j2 k bt339.2 bt339.1 (bt348.2 != x7)) else (laws_FnExactRootStep.j2 k bt339.2 bt339.1 true)))))) else (none)))))
def laws_FnExactRootStep.j2 : Nat → List (S42) → Int → Bool → Option (Bool)
 | 0, _, _, _ => none
 | k + 1, x10, x13, x108 => if x108 = true then (none) else ((laws_heldPointS.f k x10 1).bind fun t353 => (if t353 < 0 then (none) else (if t353 = x13 then (some true) else (none))))
end
def laws_FnExactRootStep.f (k : Nat) (l0 : List Nat) (l1 : List (S44)) : Option (Bool) := if (l0.length : Int) > 1048576 then (some true) else ((laws_szPointS.f l1 1048576).bind fun t304 => (if t304 < 0 then (some true) else ((laws_toFloat64S.f k l0).bind fun t305 => ((laws_toPointS.f k l1).bind fun t308 => ((spec_RootStep.f k t305 t308).bind fun bt311 => ((laws_toFloat64S.f k l0).bind fun t315 => ((laws_toPointS.f k l1).bind fun t318 => ((impl_RootStep.f k t315 t318).bind fun bt321 => ((laws_eqPointS.f k bt321.1 bt311.1).bind fun t325 => (if t325 = true then (laws_FnExactRootStep.j0 k l0 l1 bt311.1 bt311.2 t315 t318 bt321.1 bt321.2 (bt321.2 != bt311.2)) else (laws_FnExactRootStep.j0 k l0 l1 bt311.1 bt311.2 t315 t318 bt321.1 bt321.2 true)))))))))))
theorem laws_FnExactRootStep.mono_l : ∀ k, (∀ y0 y1 y2 y3 y4 y5 y6 y7 y8, LeO (laws_FnExactRootStep.j0 k y0 y1 y2 y3 y4 y5 y6 y7 y8) (laws_FnExactRootStep.j0 (k + 1) y0 y1 y2 y3 y4 y5 y6 y7 y8)) ∧ (∀ y0 y1 y2 y3 y4 y5, LeO (laws_FnExactRootStep.j1 k y0 y1 y2 y3 y4 y5) (laws_FnExactRootStep.j1 (k + 1) y0 y1 y2 y3 y4 y5)) ∧ (∀ y0 y1 y2, LeO (laws_FnExactRootStep.j2 k y0 y1 y2) (laws_FnExactRootStep.j2 (k + 1) y0 y1 y2))
 | 0 => ⟨fun _ _ _ _ _ _ _ _ _ r h => by simp [laws_FnExactRootStep.j0] at h, fun _ _ _ _ _ _ r h => by simp [laws_FnExactRootStep.j1] at h, fun _ _ _ r h => by simp [laws_FnExactRootStep.j2] at h⟩
 | k + 1 => by
  obtain ⟨ih0, ih1, ih2⟩ := laws_FnExactRootStep.mono_l k
  refine ⟨?_, ?_, ?_⟩
  ·intro y0 y1 y2 y3 y4 y5 y6 y7 y8
   unfold laws_FnExactRootStep.j0
   repeat' first
   | (with_reducible exact ih0 _ _ _ _ _ _ _ _ _)
   | (with_reducible exact ih1 _ _ _ _ _ _)
   | (with_reducible exact ih2 _ _ _)
   | (with_reducible exact impl_RootStep.mono _ _ _)
   | (with_reducible exact laws_eqFloat64S.mono _ _ _)
   | (with_reducible exact laws_eqPointS.mono _ _ _)
   | (with_reducible exact laws_heldPointS.mono _ _ _)
   | (with_reducible exact laws_markFloat64S.mono _ _ _)
   | (with_reducible exact laws_markPointS.mono _ _ _)
   | (with_reducible exact laws_toFloat64S.mono _ _)
   | (with_reducible exact laws_toPointS.mono _ _)
   | (with_reducible exact spec_RootStep.mono _ _ _)
   | (with_reducible exact LeO.refl _)
   | (with_reducible exact LeO.none _)
   | (with_reducible refine LeO.ite ?_ ?_)
   | (with_reducible refine LeO.bind ?_ (fun _ => ?_))
   | exact ih0 _ _ _ _ _ _ _ _ _
   | exact ih1 _ _ _ _ _ _
   | exact ih2 _ _ _
   | exact impl_RootStep.mono _ _ _
   | exact laws_eqFloat64S.mono _ _ _
   | exact laws_eqPointS.mono _ _ _
   | exact laws_heldPointS.mono _ _ _
   | exact laws_markFloat64S.mono _ _ _
   | exact laws_markPointS.mono _ _ _
   | exact laws_toFloat64S.mono _ _
   | exact laws_toPointS.mono _ _
   | exact spec_RootStep.mono _ _ _
   | exact LeO.none _
   | refine LeO.ite ?_ ?_
   | refine LeO.bind ?_ (fun _ => ?_)
  ·intro y0 y1 y2 y3 y4 y5
   unfold laws_FnExactRootStep.j1
   repeat' first
   | (with_reducible exact ih0 _ _ _ _ _ _ _ _ _)
   | (with_reducible exact ih1 _ _ _ _ _ _)
   | (with_reducible exact ih2 _ _ _)
   | (with_reducible exact impl_RootStep.mono _ _ _)
   | (with_reducible exact laws_eqFloat64S.mono _ _ _)
   | (with_reducible exact laws_eqPointS.mono _ _ _)
   | (with_reducible exact laws_heldPointS.mono _ _ _)
   | (with_reducible exact laws_markFloat64S.mono _ _ _)
   | (with_reducible exact laws_markPointS.mono _ _ _)
   | (with_reducible exact laws_toFloat64S.mono _ _)
   | (with_reducible exact laws_toPointS.mono _ _)
   | (with_reducible exact spec_RootStep.mono _ _ _)
   | (with_reducible exact LeO.refl _)
   | (with_reducible exact LeO.none _)
   | (with_reducible refine LeO.ite ?_ ?_)
   | (with_reducible refine LeO.bind ?_ (fun _ => ?_))
   | exact ih0 _ _ _ _ _ _ _ _ _
   | exact ih1 _ _ _ _ _ _
   | exact ih2 _ _ _
   | exact impl_RootStep.mono _ _ _
   | exact laws_eqFloat64S.mono _ _ _
   | exact laws_eqPointS.mono _ _ _
   | exact laws_heldPointS.mono _ _ _
   | exact laws_markFloat64S.mono _ _ _
   | exact laws_markPointS.mono _ _ _
   | exact laws_toFloat64S.mono _ _
   | exact laws_toPointS.mono _ _
   | exact spec_RootStep.mono _ _ _
   | exact LeO.none _
   | refine LeO.ite ?_ ?_
   | refine LeO.bind ?_ (fun _ => ?_)
  ·intro y0 y1 y2
   unfold laws_FnExactRootStep.j2
   repeat' first
   | (with_reducible exact ih0 _ _ _ _ _ _ _ _ _)
   | (with_reducible exact ih1 _ _ _ _ _ _)
   | (with_reducible exact ih2 _ _ _)
   | (with_reducible exact impl_RootStep.mono _ _ _)
   | (with_reducible exact laws_eqFloat64S.mono _ _ _)
   | (with_reducible exact laws_eqPointS.mono _ _ _)
   | (with_reducible exact laws_heldPointS.mono _ _ _)
   | (with_reducible exact laws_markFloat64S.mono _ _ _)
   | (with_reducible exact laws_markPointS.mono _ _ _)
   | (with_reducible exact laws_toFloat64S.mono _ _)
   | (with_reducible exact laws_toPointS.mono _ _)
   | (with_reducible exact spec_RootStep.mono _ _ _)
   | (with_reducible exact LeO.refl _)
   | (with_reducible exact LeO.none _)
   | (with_reducible refine LeO.ite ?_ ?_)
   | (with_reducible refine LeO.bind ?_ (fun _ => ?_))
   | exact ih0 _ _ _ _ _ _ _ _ _
   | exact ih1 _ _ _ _ _ _
   | exact ih2 _ _ _
   | exact impl_RootStep.mono _ _ _
   | exact laws_eqFloat64S.mono _ _ _
   | exact laws_eqPointS.mono _ _ _
   | exact laws_heldPointS.mono _ _ _
   | exact laws_markFloat64S.mono _ _ _
   | exact laws_markPointS.mono _ _ _
   | exact laws_toFloat64S.mono _ _
   | exact laws_toPointS.mono _ _
   | exact spec_RootStep.mono _ _ _
   | exact LeO.none _
   | refine LeO.ite ?_ ?_
   | refine LeO.bind ?_ (fun _ => ?_)
theorem laws_FnExactRootStep.mono : ∀ a0 a1 k, LeO (laws_FnExactRootStep.f k a0 a1) (laws_FnExactRootStep.f (k + 1) a0 a1) := by
 intro a0 a1 k
 obtain ⟨ih0, ih1, ih2⟩ := laws_FnExactRootStep.mono_l k
 unfold laws_FnExactRootStep.f
 repeat' first
   | (with_reducible exact ih0 _ _ _ _ _ _ _ _ _)
   | (with_reducible exact ih1 _ _ _ _ _ _)
   | (with_reducible exact ih2 _ _ _)
   | (with_reducible exact impl_RootStep.mono _ _ _)
   | (with_reducible exact laws_eqFloat64S.mono _ _ _)
   | (with_reducible exact laws_eqPointS.mono _ _ _)
   | (with_reducible exact laws_heldPointS.mono _ _ _)
   | (with_reducible exact laws_markFloat64S.mono _ _ _)
   | (with_reducible exact laws_markPointS.mono _ _ _)
   | (with_reducible exact laws_toFloat64S.mono _ _)
   | (with_reducible exact laws_toPointS.mono _ _)
   | (with_reducible exact spec_RootStep.mono _ _ _)
   | (with_reducible exact LeO.refl _)
   | (with_reducible exact LeO.none _)
   | (with_reducible refine LeO.ite ?_ ?_)
   | (with_reducible refine LeO.bind ?_ (fun _ => ?_))
   | exact ih0 _ _ _ _ _ _ _ _ _
   | exact ih1 _ _ _ _ _ _
   | exact ih2 _ _ _
   | exact impl_RootStep.mono _ _ _
   | exact laws_eqFloat64S.mono _ _ _
   | exact laws_eqPointS.mono _ _ _
   | exact laws_heldPointS.mono _ _ _
   | exact laws_markFloat64S.mono _ _ _
   | exact laws_markPointS.mono _ _ _
   | exact laws_toFloat64S.mono _ _
   | exact laws_toPointS.mono _ _
   | exact spec_RootStep.mono _ _ _
   | exact LeO.none _
   | refine LeO.ite ?_ ?_
   | refine LeO.bind ?_ (fun _ => ?_)
set_option maxHeartbeats 8000000 in
set_option maxRecDepth 100000 in
theorem laws_FnExactRootStep.calls (k : Nat) (A0 : Option Addr) (c0 : Nat) (l0 : List Nat) (A1 : Option Addr) (c1 : Nat) (l1 : List (S44)) (r : Bool) (w : World) (hr0 : Kd.C Kd.flt w A0 l0.length l0) (hc0 : l0.length ≤ c0) (hr1 : Kd.C k44 w A1 l1.length l1) (hc1 : l1.length ≤ c1) (h : laws_FnExactRootStep.f k l0 l1 = some r) :
  Calls Try.prog 3 #[.slice A0 l0.length c0, .slice A1 l1.length c1] w fun e w' => e = .returned (.bool r) ∧ Below w.heap.size w w' := by
 have HR0 := Aside0.mk hr0
 have HC0 := Aside0.mk hc0
 clear hr0 hc0
 have HR1 := Aside0.mk hr1
 have HC1 := Aside0.mk hc1
 clear hr1 hc1
 have HB := a_ (Below.refl w.heap.size w)
 have H : (if (l0.length : Int) > 1048576 then (some true) else ((laws_szPointS.f l1 1048576).bind fun t304 => (if t304 < 0 then (some true) else ((laws_toFloat64S.f k l0).bind fun t305 => ((laws_toPointS.f k l1).bind fun t308 => ((spec_RootStep.f k t305 t308).bind fun bt311 => ((laws_toFloat64S.f k l0).bind fun t315 => ((laws_toPointS.f k l1).bind fun t318 => ((impl_RootStep.f k t315 t318).bind fun bt321 => ((laws_eqPointS.f k bt321.1 bt311.1).bind fun t325 => (if t325 = true then (laws_FnExactRootStep.j0 k l0 l1 bt311.1 bt311.2 t315 t318 bt321.1 bt321.2 (bt321.2 != bt311.2)) else (laws_FnExactRootStep.j0 k l0 l1 bt311.1 bt311.2 t315 t318 bt321.1 bt321.2 true)))))))))))) = some r := h
 clear h
 by_cases c3 : (l0.length : Int) > 1048576
 ·rw [if_pos c3] at H
  have c3b0 : decide (1048576 < (l0.length : Int)) = true := decide_eq_true c3
  have c3b1 : decide (1048576 < l0.length) = true := decide_eq_true (by omega)
  clear c3
  obtain rfl := Option.some.inj H
  go_enter Try.func3, Try.ntmps3
  go_wp2
  go_ret
  exact ⟨by first | rfl | (simp [errW_none, errW_some] <;> rfl) | (simp [*, errW_none, errW_some] <;> rfl), un HB.out⟩
 ·rw [if_neg c3] at H
  have c3b0 : decide (1048576 < (l0.length : Int)) = false := decide_eq_false c3
  have c3b1 : decide (1048576 < l0.length) = false := decide_eq_false (by omega)
  clear c3
  replace H := Option.bind_eq_some_iff.mp H
  obtain ⟨t304, A40, H⟩ := H
  have A4 := Aside0.mk A40
  clear A40
  by_cases c5 : t304 < 0
  ·rw [if_pos c5] at H
   have c5b0 : decide (t304 < 0) = true := decide_eq_true c5
   clear c5
   obtain rfl := Option.some.inj H
   go_enter Try.func3, Try.ntmps3
   go_wp2_with (first | ((with_reducible refine gate_callee (f := 5) rfl ?_); refine goesL_ (some 22) rfl rfl Try.func5 (by kernel_rfl) rfl #[.slice A1 l1.length c1, .int .i64 1048576] rfl (by (try simp only [lA, lB, lC]); first | done | rfl | (simp only [lD, lE]; rfl)) ?_; (with_reducible refine (laws_szPointS.calls _ _ l1 1048576 t304 _ ?side1 ?side2 A4.out).mono ?_); (case side1 => repeat (first | exact HR1.out | (with_reducible refine Kd.C_alloc ?_ _) | (with_reducible refine Kd.C_drewN ?_ _) | (with_reducible refine Kd.C_drew ?_))); (case side2 => exact HC1.out); rintro e w' ⟨rfl, ⟨nd, rfl⟩⟩; refine ⟨_, rfl, ?_⟩))
   go_ret
   exact ⟨by first | rfl | (simp [errW_none, errW_some] <;> rfl) | (simp [*, errW_none, errW_some] <;> rfl), un HB.out⟩
  ·rw [if_neg c5] at H
   have c5b0 : decide (t304 < 0) = false := decide_eq_false c5
   clear c5
   replace H := Option.bind_eq_some_iff.mp H
   obtain ⟨t305, A60, H⟩ := H
   have A6 := Aside0.mk A60
   clear A60
   replace H := Option.bind_eq_some_iff.mp H
   obtain ⟨t308, A70, H⟩ := H
   have A7 := Aside0.mk A70
   clear A70
   replace H := Option.bind_eq_some_iff.mp H
   obtain ⟨⟨t311, t312⟩, A80, H⟩ := H
   replace H : ((laws_toFloat64S.f k l0).bind fun t315 => ((laws_toPointS.f k l1).bind fun t318 => ((impl_RootStep.f k t315 t318).bind fun bt321 => ((laws_eqPointS.f k bt321.1 t311).bind fun t325 => (if t325 = true then (laws_FnExactRootStep.j0 k l0 l1 t311 t312 t315 t318 bt321.1 bt321.2 (bt321.2 != t312)) else (laws_FnExactRootStep.j0 k l0 l1 t311 t312 t315 t318 bt321.1 bt321.2 true)))))) = some r := H
   have A8 := Aside0.mk A80
   clear A80
   replace H := Option.bind_eq_some_iff.mp H
   obtain ⟨t315, A90, H⟩ := H
   have A9 := Aside0.mk A90
   clear A90
   replace H := Option.bind_eq_some_iff.mp H
   obtain ⟨t318, A100, H⟩ := H
   have A10 := Aside0.mk A100
   clear A100
   replace H := Option.bind_eq_some_iff.mp H
   obtain ⟨⟨t321, t322⟩, A110, H⟩ := H
   replace H : ((laws_eqPointS.f k t321 t311).bind fun t325 => (if t325 = true then (laws_FnExactRootStep.j0 k l0 l1 t311 t312 t315 t318 t321 t322 (t322 != t312)) else (laws_FnExactRootStep.j0 k l0 l1 t311 t312 t315 t318 t321 t322 true))) = some r := H
   have A11 := Aside0.mk A110
   clear A110
   have HC12 := Aside0.mk H
   clear H
   go_enter Try.func3, Try.ntmps3
   go_upto_region 11 with (first | ((with_reducible refine gate_callee (f := 5) rfl ?_); refine goesL_ (some 22) rfl rfl Try.func5 (by kernel_rfl) rfl #[.slice A1 l1.length c1, .int .i64 1048576] rfl (by (try simp only [lA, lB, lC]); first | done | rfl | (simp only [lD, lE]; rfl)) ?_; (with_reducible refine (laws_szPointS.calls _ _ l1 1048576 t304 _ ?side1 ?side2 A4.out).mono ?_); (case side1 => repeat (first | exact HR1.out | (with_reducible refine Kd.C_alloc ?_ _) | (with_reducible refine Kd.C_drewN ?_ _) | (with_reducible refine Kd.C_drew ?_))); (case side2 => exact HC1.out); rintro e w' ⟨rfl, ⟨nd, rfl⟩⟩; refine ⟨_, rfl, ?_⟩) | ((with_reducible refine gate_callee (f := 7) rfl ?_); refine goesL_ (some 27) rfl rfl Try.func7 (by kernel_rfl) rfl #[.slice A0 l0.length c0] rfl (by (try simp only [lA, lB, lC]); first | done | rfl | (simp only [lD, lE]; rfl)) ?_; (with_reducible refine (laws_toFloat64S.calls k _ _ l0 t305 _ ?side1 ?side2 A6.out).mono ?_); (case side1 => repeat (first | exact HR0.out | (with_reducible refine Kd.C_alloc ?_ _) | (with_reducible refine Kd.C_drewN ?_ _) | (with_reducible refine Kd.C_drew ?_))); (case side2 => exact HC0.out); rintro e w13 ⟨v306, rfl, ho0, hb⟩; refine ⟨_, rfl, ?_⟩; have HO307 := a_ (Kd.R_lower ho0 (bs HB.out)); replace HB := a_ (below_step (un HB.out) hb); clear hb ho0) | ((with_reducible refine gate_callee (f := 8) rfl ?_); refine goesL_ (some 29) rfl rfl Try.func8 (by kernel_rfl) rfl #[.slice A1 l1.length c1] rfl (by (try simp only [lA, lB, lC]); first | done | rfl | (simp only [lD, lE]; rfl)) ?_; (with_reducible refine (laws_toPointS.calls k _ _ l1 t308 _ ?side1 ?side2 A7.out).mono ?_); (case side1 => exact Kd.C_below HR1.out (un HB.out)); (case side2 => exact HC1.out); rintro e w14 ⟨v309, rfl, ho0, hb⟩; refine ⟨_, rfl, ?_⟩; replace HO307 := a_ (Kd.R_below (rk HO307.out) hb); have HO310 := a_ (Kd.R_lower ho0 (bs HB.out)); replace HB := a_ (below_step (un HB.out) hb); clear hb ho0; obtain ⟨Ao15, co15, eo15⟩ := Kd.R_slice HO307.out; subst eo15; obtain ⟨Ao16, co16, eo16⟩ := Kd.R_slice HO310.out; subst eo16) | ((with_reducible refine gate_callee (f := 6) rfl ?_); refine goesL_ (some 30) rfl rfl Try.func6 (by kernel_rfl) rfl #[.slice Ao15 t305.length co15, .slice Ao16 t308.length co16] rfl (by (try simp only [lA, lB, lC]); first | done | rfl | (simp only [lD, lE]; rfl)) ?_; (with_reducible refine (spec_RootStep.calls k _ _ t305 _ _ t308 t311 t312 _ ?side1 ?side2 ?side3 ?side4 A8.out).mono ?_); (case side1 => exact cu (Kd.R_reads' HO307.out).2.2); (case side2 => exact (Kd.R_reads' HO307.out).2.1); (case side3 => exact cu (Kd.R_reads' HO310.out).2.2); (case side4 => exact (Kd.R_reads' HO310.out).2.1); rintro e w17 ⟨v313, rfl, ho0, hb⟩; refine ⟨_, rfl, ?_⟩; replace HO307 := a_ (Kd.R_below (rk HO307.out) hb); have HO314 := a_ (Kd.R_lower (nw ho0 HO310.out) (bs HB.out)); replace HO310 := a_ (Kd.R_elder' (rk HO310.out) (Kd.R_base ho0) hb); replace HB := a_ (below_step (un HB.out) hb); clear hb ho0) | ((with_reducible refine gate_callee (f := 7) rfl ?_); refine goesL_ (some 34) rfl rfl Try.func7 (by kernel_rfl) rfl #[.slice A0 l0.length c0] rfl (by (try simp only [lA, lB, lC]); first | done | rfl | (simp only [lD, lE]; rfl)) ?_; (with_reducible refine (laws_toFloat64S.calls k _ _ l0 t315 _ ?side1 ?side2 A9.out).mono ?_); (case side1 => exact Kd.C_below HR0.out (un HB.out)); (case side2 => exact HC0.out); rintro e w18 ⟨v316, rfl, ho0, hb⟩; refine ⟨_, rfl, ?_⟩; replace HO310 := a_ (Kd.R_below (rk HO310.out) hb); replace HO314 := a_ (Kd.R_below (rk HO314.out) hb); have HO317 := a_ (Kd.R_lower (nw ho0 HO307.out) (bs HB.out)); replace HO307 := a_ (Kd.R_elder' (rk HO307.out) (Kd.R_base ho0) hb); replace HB := a_ (below_step (un HB.out) hb); clear hb ho0) | ((with_reducible refine gate_callee (f := 8) rfl ?_); refine goesL_ (some 36) rfl rfl Try.func8 (by kernel_rfl) rfl #[.slice A1 l1.length c1] rfl (by (try simp only [lA, lB, lC]); first | done | rfl | (simp only [lD, lE]; rfl)) ?_; (with_reducible refine (laws_toPointS.calls k _ _ l1 t318 _ ?side1 ?side2 A10.out).mono ?_); (case side1 => exact Kd.C_below HR1.out (un HB.out)); (case side2 => exact HC1.out); rintro e w19 ⟨v319, rfl, ho0, hb⟩; refine ⟨_, rfl, ?_⟩; replace HO307 := a_ (Kd.R_below (rk HO307.out) hb); replace HO317 := a_ (Kd.R_below (rk HO317.out) hb); have HO320 := a_ (Kd.R_lower (nw (nw ho0 HO310.out) HO314.out) (bs HB.out)); replace HO310 := a_ (Kd.R_elder' (rk HO310.out) (Kd.R_base ho0) hb); replace HO314 := a_ (Kd.R_elder' (rk HO314.out) (Kd.R_base ho0) hb); replace HB := a_ (below_step (un HB.out) hb); clear hb ho0; obtain ⟨Ao20, co20, eo20⟩ := Kd.R_slice HO317.out; subst eo20; obtain ⟨Ao21, co21, eo21⟩ := Kd.R_slice HO320.out; subst eo21) | ((with_reducible refine gate_callee (f := 9) rfl ?_); refine goesL_ (some 40) rfl rfl Try.func9 (by kernel_rfl) rfl #[.slice Ao20 t315.length co20, .slice Ao21 t318.length co21] rfl (by (try simp only [lA, lB, lC]); first | done | rfl | (simp only [lD, lE]; rfl)) ?_; (with_reducible refine (impl_RootStep.calls k _ _ t315 _ _ t318 t321 t322 _ ?side1 ?side2 ?side3 ?side4 A11.out).mono ?_); (case side1 => exact cu (Kd.R_reads' HO317.out).2.2); (case side2 => exact (Kd.R_reads' HO317.out).2.1); (case side3 => exact cu (Kd.R_reads' HO320.out).2.2); (case side4 => exact (Kd.R_reads' HO320.out).2.1); rintro e w22 ⟨v323, rfl, ho0, hb⟩; refine ⟨_, rfl, ?_⟩; replace HO307 := a_ (Kd.R_below (rk HO307.out) hb); replace HO317 := a_ (Kd.R_below (rk HO317.out) hb); have HO324 := a_ (Kd.R_lower (nw (nw (nw ho0 HO310.out) HO314.out) HO320.out) (bs HB.out)); replace HO310 := a_ (Kd.R_elder' (rk HO310.out) (Kd.R_base ho0) hb); replace HO314 := a_ (Kd.R_elder' (rk HO314.out) (Kd.R_base ho0) hb); replace HO320 := a_ (Kd.R_elder' (rk HO320.out) (Kd.R_base ho0) hb); replace HB := a_ (below_step (un HB.out) hb); clear hb ho0))
   (try simp only [Act.put, sB, sC, sD])
   go_cut [51] (fun v51 wc => ∃ (kq : Nat) (x51_11 : Bool), v51 = .bool x51_11 ∧ Aside0 (laws_FnExactRootStep.j0 kq l0 l1 t311 t312 t315 t318 t321 t322 x51_11 = some r) ∧ Aside0 (kq ≤ k) ∧ Aside0 (Kd.R k42 42 wc w.heap.size (fun k_ => some k_ ≠ ((.slice Ao21 t318.length co21) : Value).ownBlock ∧ N_ v323 k_) v313 t311) ∧ Aside0 (Kd.R Kd.flt 40 wc w.heap.size (fun _ => True) (.slice Ao20 t315.length co20) t315) ∧ Aside0 (Kd.R k42 42 wc w.heap.size (fun k_ => N_ v313 k_ ∧ N_ v323 k_) (.slice Ao21 t318.length co21) t318) ∧ Aside0 (Kd.R k42 42 wc w.heap.size (fun k_ => N_ v313 k_ ∧ some k_ ≠ ((.slice Ao21 t318.length co21) : Value).ownBlock) v323 t321) ∧ Aside0 (Below w.heap.size w wc))
   case first =>
    have H := HC12.out
    clear HC12
    replace H := Option.bind_eq_some_iff.mp H
    obtain ⟨t325, A230, H⟩ := H
    have A23 := Aside0.mk A230
    clear A230
    by_cases c24 : t325 = true
    ·subst c24
     have H1 : (laws_FnExactRootStep.j0 k l0 l1 t311 t312 t315 t318 t321 t322 (t322 != t312)) = some r := by rw [if_pos rfl] at H; exact H
     clear H
     have H := H1
     clear H1
     have H' := Aside0.mk H
     clear H
     obtain ⟨Ao25, co25, eo25⟩ := Kd.R_slice HO324.out
     subst eo25
     obtain ⟨Ao26, co26, eo26⟩ := Kd.R_slice HO314.out
     subst eo26
     go_wp2_with (first | ((with_reducible refine gate_callee (f := 10) rfl ?_); refine goesL_ (some 45) rfl rfl Try.func10 (by kernel_rfl) rfl #[.slice Ao25 t321.length co25, .slice Ao26 t311.length co26] rfl (by (try simp only [lA, lB, lC]); first | done | rfl | (simp only [lD, lE]; rfl)) ?_; (with_reducible refine (laws_eqPointS.calls k _ _ t321 _ _ t311 true _ ?side1 ?side2 ?side3 ?side4 A23.out).mono ?_); (case side1 => exact cu (Kd.R_reads' HO324.out).2.2); (case side2 => exact (Kd.R_reads' HO324.out).2.1); (case side3 => exact cu (Kd.R_reads' HO314.out).2.2); (case side4 => exact (Kd.R_reads' HO314.out).2.1); rintro e w27 ⟨rfl, hb⟩; refine ⟨_, rfl, ?_⟩; replace HO307 := a_ (Kd.R_below (rk HO307.out) hb); replace HO310 := a_ (Kd.R_below (rk HO310.out) hb); replace HO314 := a_ (Kd.R_below (rk HO314.out) hb); replace HO317 := a_ (Kd.R_below (rk HO317.out) hb); replace HO320 := a_ (Kd.R_below (rk HO320.out) hb); replace HO324 := a_ (Kd.R_below (rk HO324.out) hb); replace HB := a_ (below_step (un HB.out) hb); clear hb))
     go_meet
     case rel => exact ⟨_, ((t322 != t312)), (by first | rfl | (simp; done) | (simp [*]; done)), H', ⟨by first | omega | exact Nat.le_refl _⟩, ⟨rk (Kd.R_mono HO314.out (fun _ hk => ⟨hk.1.2, hk.2⟩))⟩, ⟨rk (Kd.R_mono HO317.out (fun _ hk => trivial))⟩, ⟨rk (Kd.R_mono HO320.out (fun _ hk => ⟨hk.1.2, hk.2⟩))⟩, ⟨rk (Kd.R_mono HO324.out (fun _ hk => ⟨hk.1.2, hk.2⟩))⟩, ⟨un HB.out⟩⟩
    ·replace c24 := Bool.eq_false_iff.mpr c24
     subst c24
     have H1 : (laws_FnExactRootStep.j0 k l0 l1 t311 t312 t315 t318 t321 t322 true) = some r := by rw [if_neg (show ¬ (false = true) by decide)] at H; exact H
     clear H
     have H := H1
     clear H1
     have H' := Aside0.mk H
     clear H
     obtain ⟨Ao28, co28, eo28⟩ := Kd.R_slice HO324.out
     subst eo28
     obtain ⟨Ao29, co29, eo29⟩ := Kd.R_slice HO314.out
     subst eo29
     go_wp2_with (first | ((with_reducible refine gate_callee (f := 10) rfl ?_); refine goesL_ (some 45) rfl rfl Try.func10 (by kernel_rfl) rfl #[.slice Ao28 t321.length co28, .slice Ao29 t311.length co29] rfl (by (try simp only [lA, lB, lC]); first | done | rfl | (simp only [lD, lE]; rfl)) ?_; (with_reducible refine (laws_eqPointS.calls k _ _ t321 _ _ t311 false _ ?side1 ?side2 ?side3 ?side4 A23.out).mono ?_); (case side1 => exact cu (Kd.R_reads' HO324.out).2.2); (case side2 => exact (Kd.R_reads' HO324.out).2.1); (case side3 => exact cu (Kd.R_reads' HO314.out).2.2); (case side4 => exact (Kd.R_reads' HO314.out).2.1); rintro e w30 ⟨rfl, hb⟩; refine ⟨_, rfl, ?_⟩; replace HO307 := a_ (Kd.R_below (rk HO307.out) hb); replace HO310 := a_ (Kd.R_below (rk HO310.out) hb); replace HO314 := a_ (Kd.R_below (rk HO314.out) hb); replace HO317 := a_ (Kd.R_below (rk HO317.out) hb); replace HO320 := a_ (Kd.R_below (rk HO320.out) hb); replace HO324 := a_ (Kd.R_below (rk HO324.out) hb); replace HB := a_ (below_step (un HB.out) hb); clear hb))
     go_meet
     case rel => exact ⟨_, (true), (by first | rfl | (simp; done) | (simp [*]; done)), H', ⟨by first | omega | exact Nat.le_refl _⟩, ⟨rk (Kd.R_mono HO314.out (fun _ hk => ⟨hk.1.2, hk.2⟩))⟩, ⟨rk (Kd.R_mono HO317.out (fun _ hk => trivial))⟩, ⟨rk (Kd.R_mono HO320.out (fun _ hk => ⟨hk.1.2, hk.2⟩))⟩, ⟨rk (Kd.R_mono HO324.out (fun _ hk => ⟨hk.1.2, hk.2⟩))⟩, ⟨un HB.out⟩⟩
   case rest =>
    clear HC12
    try clear c1; try clear c2; try clear p2; try clear c3; try clear c3b0; try clear c3b1; try clear c5; try clear c5b0; try clear c6; try clear c7; try clear c8; try clear c9; try clear c10; try clear c24
    obtain ⟨kq, x51_11, rfl, HA, HJ11, HO_6, HO_8, HO_9, HO_10, HB⟩ := hcut
    cases kq with
    | zero => exact absurd HA.out (by simp [laws_FnExactRootStep.j0])
    | succ kj11 =>
     have H := HA.out
     clear HA
     simp only [laws_FnExactRootStep.j0] at H
     by_cases c31 : x51_11 = true
     ·subst c31
      have H1 : (none) = some r := by rw [if_pos rfl] at H; exact H
      clear H
      have H := H1
      clear H1
      exact absurd H (by simp)
     ·replace c31 := Bool.eq_false_iff.mpr c31
      subst c31
      have H1 : ((laws_toFloat64S.f kj11 l0).bind fun t326 => ((laws_eqFloat64S.f kj11 t315 t326).bind fun t329 => (if t329 = true then ((laws_toPointS.f kj11 l1).bind fun t330 => ((laws_eqPointS.f kj11 t318 t330).bind fun t333 => (if t333 = true then ((laws_markFloat64S.f kj11 t315 1).bind fun bt334 => ((laws_markPointS.f kj11 t318 bt334.1).bind fun bt336 => (if bt336.1 < 0 then (laws_FnExactRootStep.j1 kj11 l0 l1 t311 t312 t321 true) else ((laws_eqPointS.f kj11 t321 t311).bind fun t338 => (if t338 = true then (laws_FnExactRootStep.j1 kj11 l0 l1 t311 t312 t321 (t322 != t312)) else (laws_FnExactRootStep.j1 kj11 l0 l1 t311 t312 t321 true)))))) else (none)))) else (none)))) = some r := by rw [if_neg (show ¬ (false = true) by decide)] at H; exact H
      clear H
      have H := H1
      clear H1
      replace H := Option.bind_eq_some_iff.mp H
      obtain ⟨t326, A320, H⟩ := H
      have A32 := Aside0.mk A320
      clear A320
      replace H := Option.bind_eq_some_iff.mp H
      obtain ⟨t329, A330, H⟩ := H
      have A33 := Aside0.mk A330
      clear A330
      by_cases c34 : t329 = true
      ·subst c34
       have H1 : ((laws_toPointS.f kj11 l1).bind fun t330 => ((laws_eqPointS.f kj11 t318 t330).bind fun t333 => (if t333 = true then ((laws_markFloat64S.f kj11 t315 1).bind fun bt334 => ((laws_markPointS.f kj11 t318 bt334.1).bind fun bt336 => (if bt336.1 < 0 then (laws_FnExactRootStep.j1 kj11 l0 l1 t311 t312 t321 true) else ((laws_eqPointS.f kj11 t321 t311).bind fun t338 => (if t338 = true then (laws_FnExactRootStep.j1 kj11 l0 l1 t311 t312 t321 (t322 != t312)) else (laws_FnExactRootStep.j1 kj11 l0 l1 t311 t312 t321 true)))))) else (none)))) = some r := by rw [if_pos rfl] at H; exact H
       clear H
       have H := H1
       clear H1
       replace H := Option.bind_eq_some_iff.mp H
       obtain ⟨t330, A350, H⟩ := H
       have A35 := Aside0.mk A350
       clear A350
       replace H := Option.bind_eq_some_iff.mp H
       obtain ⟨t333, A360, H⟩ := H
       have A36 := Aside0.mk A360
       clear A360
       by_cases c37 : t333 = true
       ·subst c37
        have H1 : ((laws_markFloat64S.f kj11 t315 1).bind fun bt334 => ((laws_markPointS.f kj11 t318 bt334.1).bind fun bt336 => (if bt336.1 < 0 then (laws_FnExactRootStep.j1 kj11 l0 l1 t311 t312 t321 true) else ((laws_eqPointS.f kj11 t321 t311).bind fun t338 => (if t338 = true then (laws_FnExactRootStep.j1 kj11 l0 l1 t311 t312 t321 (t322 != t312)) else (laws_FnExactRootStep.j1 kj11 l0 l1 t311 t312 t321 true)))))) = some r := by rw [if_pos rfl] at H; exact H
        clear H
        have H := H1
        clear H1
        replace H := Option.bind_eq_some_iff.mp H
        obtain ⟨⟨t334, t335⟩, A380, H⟩ := H
        replace H : ((laws_markPointS.f kj11 t318 t334).bind fun bt336 => (if bt336.1 < 0 then (laws_FnExactRootStep.j1 kj11 l0 l1 t311 t312 t321 true) else ((laws_eqPointS.f kj11 t321 t311).bind fun t338 => (if t338 = true then (laws_FnExactRootStep.j1 kj11 l0 l1 t311 t312 t321 (t322 != t312)) else (laws_FnExactRootStep.j1 kj11 l0 l1 t311 t312 t321 true))))) = some r := H
        have A38 := Aside0.mk A380
        clear A380
        replace H := Option.bind_eq_some_iff.mp H
        obtain ⟨⟨t336, t337⟩, A390, H⟩ := H
        replace H : (if t336 < 0 then (laws_FnExactRootStep.j1 kj11 l0 l1 t311 t312 t321 true) else ((laws_eqPointS.f kj11 t321 t311).bind fun t338 => (if t338 = true then (laws_FnExactRootStep.j1 kj11 l0 l1 t311 t312 t321 (t322 != t312)) else (laws_FnExactRootStep.j1 kj11 l0 l1 t311 t312 t321 true)))) = some r := H
        have A39 := Aside0.mk A390
        clear A390
        have HC40 := Aside0.mk H
        clear H
        go_upto_region 20 with (first | ((with_reducible refine gate_callee (f := 7) rfl ?_); refine goesL_ (some 54) rfl rfl Try.func7 (by kernel_rfl) rfl #[.slice A0 l0.length c0] rfl (by (try simp only [lA, lB, lC]); first | done | rfl | (simp only [lD, lE]; rfl)) ?_; (with_reducible refine (laws_toFloat64S.calls kj11 _ _ l0 t326 _ ?side1 ?side2 A32.out).mono ?_); (case side1 => exact Kd.C_below HR0.out (un HB.out)); (case side2 => exact HC0.out); rintro e w41 ⟨v327, rfl, ho0, hb⟩; refine ⟨_, rfl, ?_⟩; replace HO_6 := a_ (Kd.R_below (rk HO_6.out) hb); replace HO_9 := a_ (Kd.R_below (rk HO_9.out) hb); replace HO_10 := a_ (Kd.R_below (rk HO_10.out) hb); have HO328 := a_ (Kd.R_lower (nw ho0 HO_8.out) (bs HB.out)); replace HO_8 := a_ (Kd.R_elder' (rk HO_8.out) (Kd.R_base ho0) hb); replace HB := a_ (below_step (un HB.out) hb); clear hb ho0; obtain ⟨Ao42, co42, eo42⟩ := Kd.R_slice HO328.out; subst eo42) | ((with_reducible refine gate_callee (f := 11) rfl ?_); refine goesL_ (some 55) rfl rfl Try.func11 (by kernel_rfl) rfl #[.slice Ao20 t315.length co20, .slice Ao42 t326.length co42] rfl (by (try simp only [lA, lB, lC]); first | done | rfl | (simp only [lD, lE]; rfl)) ?_; (with_reducible refine (laws_eqFloat64S.calls kj11 _ _ t315 _ _ t326 true _ ?side1 ?side2 ?side3 ?side4 A33.out).mono ?_); (case side1 => exact cu (Kd.R_reads' HO_8.out).2.2); (case side2 => exact (Kd.R_reads' HO_8.out).2.1); (case side3 => exact cu (Kd.R_reads' HO328.out).2.2); (case side4 => exact (Kd.R_reads' HO328.out).2.1); rintro e w' ⟨rfl, ⟨nd, rfl⟩⟩; refine ⟨_, rfl, ?_⟩) | ((with_reducible refine gate_callee (f := 8) rfl ?_); refine goesL_ (some 59) rfl rfl Try.func8 (by kernel_rfl) rfl #[.slice A1 l1.length c1] rfl (by (try simp only [lA, lB, lC]); first | done | rfl | (simp only [lD, lE]; rfl)) ?_; (with_reducible refine (laws_toPointS.calls kj11 _ _ l1 t330 _ ?side1 ?side2 A35.out).mono ?_); (case side1 => exact Kd.C_below HR1.out (un HB.out)); (case side2 => exact HC1.out); rintro e w43 ⟨v331, rfl, ho0, hb⟩; refine ⟨_, rfl, ?_⟩; replace HO_8 := a_ (Kd.R_below (rk HO_8.out) hb); replace HO328 := a_ (Kd.R_below (rk HO328.out) hb); have HO332 := a_ (Kd.R_lower (nw (nw (nw ho0 HO_6.out) HO_9.out) HO_10.out) (bs HB.out)); replace HO_6 := a_ (Kd.R_elder' (rk HO_6.out) (Kd.R_base ho0) hb); replace HO_9 := a_ (Kd.R_elder' (rk HO_9.out) (Kd.R_base ho0) hb); replace HO_10 := a_ (Kd.R_elder' (rk HO_10.out) (Kd.R_base ho0) hb); replace HB := a_ (below_step (un HB.out) hb); clear hb ho0; obtain ⟨Ao44, co44, eo44⟩ := Kd.R_slice HO332.out; subst eo44) | ((with_reducible refine gate_callee (f := 10) rfl ?_); refine goesL_ (some 60) rfl rfl Try.func10 (by kernel_rfl) rfl #[.slice Ao21 t318.length co21, .slice Ao44 t330.length co44] rfl (by (try simp only [lA, lB, lC]); first | done | rfl | (simp only [lD, lE]; rfl)) ?_; (with_reducible refine (laws_eqPointS.calls kj11 _ _ t318 _ _ t330 true _ ?side1 ?side2 ?side3 ?side4 A36.out).mono ?_); (case side1 => exact cu (Kd.R_reads' HO_9.out).2.2); (case side2 => exact (Kd.R_reads' HO_9.out).2.1); (case side3 => exact cu (Kd.R_reads' HO332.out).2.2); (case side4 => exact (Kd.R_reads' HO332.out).2.1); rintro e w45 ⟨rfl, hb⟩; refine ⟨_, rfl, ?_⟩; replace HO_6 := a_ (Kd.R_below (rk HO_6.out) hb); replace HO_8 := a_ (Kd.R_below (rk HO_8.out) hb); replace HO_9 := a_ (Kd.R_below (rk HO_9.out) hb); replace HO_10 := a_ (Kd.R_below (rk HO_10.out) hb); replace HO328 := a_ (Kd.R_below (rk HO328.out) hb); replace HO332 := a_ (Kd.R_below (rk HO332.out) hb); replace HB := a_ (below_step (un HB.out) hb); clear hb) | ((with_reducible refine gate_callee (f := 12) rfl ?_); refine goesL_ (some 64) rfl rfl Try.func12 (by kernel_rfl) rfl #[.slice Ao20 t315.length co20, .int .i64 1] rfl (by (try simp only [lA, lB, lC]); first | done | rfl | (simp only [lD, lE]; rfl)) ?_; (with_reducible refine (laws_markFloat64S.calls kj11 (fun k_ => some k_ = (.slice Ao20 t315.length co20 : Value).ownBlock) (.slice Ao20 t315.length co20) t315 1 t334 t335 w _ ?side1 ?side2 A38.out).mono ?_); (case side1 => exact un HB.out); (case side2 => exact Kd.R_tight rfl HO_8.out); rintro e w46 ⟨rfl, hy0, hb, hkp⟩; refine ⟨_, rfl, ?_⟩; replace HO_6 := a_ (Kd.R_mono (ok' := fun k_ => N_ (.slice Ao21 t318.length co21) k_ ∧ N_ v323 k_ ∧ N_ (.slice Ao44 t330.length co44) k_) (Kd.R_keptB (Kd.R_apart' HO_6.out (Kd.R_typed HO_8.out) (by decide)) hkp (fun k_ hk_ hs_ => (hk_.2) hs_)) (fun _ hk_ => ⟨hk_.1.1.1.1, hk_.1.1.1.2, hk_.1.1.2⟩)); replace HO_9 := a_ (Kd.R_mono (ok' := fun k_ => N_ v313 k_ ∧ N_ v323 k_ ∧ N_ (.slice Ao44 t330.length co44) k_) (Kd.R_keptB (Kd.R_apart' HO_9.out (Kd.R_typed HO_8.out) (by decide)) hkp (fun k_ hk_ hs_ => (hk_.2) hs_)) (fun _ hk_ => ⟨hk_.1.1.1.1, hk_.1.1.1.2, hk_.1.1.2⟩)); replace HO_10 := a_ (Kd.R_mono (ok' := fun k_ => N_ v313 k_ ∧ N_ (.slice Ao21 t318.length co21) k_ ∧ N_ (.slice Ao44 t330.length co44) k_) (Kd.R_keptB (Kd.R_apart' HO_10.out (Kd.R_typed HO_8.out) (by decide)) hkp (fun k_ hk_ hs_ => (hk_.2) hs_)) (fun _ hk_ => ⟨hk_.1.1.1.1, hk_.1.1.1.2, hk_.1.1.2⟩)); replace HO328 := a_ (Kd.R_mono (ok' := fun k_ => N_ (.slice Ao20 t315.length co20) k_) (Kd.R_keptB (HO328.out) hkp (fun k_ hk_ hs_ => (hk_.2) hs_)) (fun k_ hk_ => hk_.1.2)); replace HO332 := a_ (Kd.R_mono (ok' := fun k_ => N_ v313 k_ ∧ N_ (.slice Ao21 t318.length co21) k_ ∧ N_ v323 k_) (Kd.R_keptB (Kd.R_apart' HO332.out (Kd.R_typed HO_8.out) (by decide)) hkp (fun k_ hk_ hs_ => (hk_.2) hs_)) (fun _ hk_ => ⟨hk_.1.1.1.1.2, hk_.1.1.1.2, hk_.1.1.2⟩)); replace HO_8 := a_ (Kd.R_reok rfl hy0 (fun k_ e_ => HO_8.out.1 k_ e_)); replace HB := a_ (hb); clear hb hkp hy0) | ((with_reducible refine gate_callee (f := 13) rfl ?_); refine goesL_ (some 67) rfl rfl Try.func13 (by kernel_rfl) rfl #[.slice Ao21 t318.length co21, .int .i64 t334] rfl (by (try simp only [lA, lB, lC]); first | done | rfl | (simp only [lD, lE]; rfl)) ?_; (with_reducible refine (laws_markPointS.calls kj11 (fun k_ => some k_ = (.slice Ao21 t318.length co21 : Value).ownBlock) (.slice Ao21 t318.length co21) t318 t334 t336 t337 w _ ?side1 ?side2 A39.out).mono ?_); (case side1 => exact un HB.out); (case side2 => exact Kd.R_tight rfl HO_9.out); rintro e w47 ⟨rfl, hy0, hb, hkp⟩; refine ⟨_, rfl, ?_⟩; replace HO_6 := a_ (Kd.R_mono (ok' := fun k_ => N_ (.slice Ao21 t318.length co21) k_ ∧ N_ v323 k_ ∧ N_ (.slice Ao44 t330.length co44) k_) (Kd.R_keptB (HO_6.out) hkp (fun k_ hk_ hs_ => (hk_.1) hs_)) (fun _ hk_ => hk_.1)); replace HO_8 := a_ (Kd.R_mono (ok' := fun k_ => N_ (.slice Ao42 t326.length co42) k_) (Kd.R_keptB (Kd.R_apart' HO_8.out (Kd.R_typed HO_9.out) (by decide)) hkp (fun k_ hk_ hs_ => (hk_.2) hs_)) (fun k_ hk_ => hk_.1.1.2)); replace HO_10 := a_ (Kd.R_mono (ok' := fun k_ => N_ v313 k_ ∧ N_ (.slice Ao21 t318.length co21) k_ ∧ N_ (.slice Ao44 t330.length co44) k_) (Kd.R_keptB (HO_10.out) hkp (fun k_ hk_ hs_ => (hk_.2.1) hs_)) (fun _ hk_ => hk_.1)); replace HO328 := a_ (Kd.R_mono (ok' := fun k_ => N_ (.slice Ao20 t315.length co20) k_) (Kd.R_keptB (Kd.R_apart' HO328.out (Kd.R_typed HO_9.out) (by decide)) hkp (fun k_ hk_ hs_ => (hk_.2) hs_)) (fun k_ hk_ => hk_.1.1)); replace HO_9 := a_ (Kd.R_reok rfl hy0 (fun k_ e_ => HO_9.out.1 k_ e_)); replace HO332 := a_ (Kd.R_mono (ok' := fun k_ => N_ v313 k_ ∧ N_ (.slice Ao21 t318.length co21) k_ ∧ N_ v323 k_) (Kd.R_keptB (HO332.out) hkp (fun k_ hk_ hs_ => (hk_.2.1) hs_)) (fun _ hk_ => hk_.1)); replace HB := a_ (hb); clear hb hkp hy0))
        (try simp only [Act.put, sB, sC, sD])
        go_cut [80] (fun v80 wc => ∃ (kq : Nat) (x80_39 : Bool), v80 = .bool x80_39 ∧ Aside0 (laws_FnExactRootStep.j1 kq l0 l1 t311 t312 t321 x80_39 = some r) ∧ Aside0 (kq ≤ kj11) ∧ Aside0 (Kd.R k42 42 wc w.heap.size (fun k_ => N_ v323 k_) v313 t311) ∧ Aside0 (Kd.R k42 42 wc w.heap.size (fun k_ => N_ v313 k_) v323 t321) ∧ Aside0 (Below w.heap.size w wc))
        case first =>
         have H := HC40.out
         clear HC40
         by_cases c48 : t336 < 0
         ·rw [if_pos c48] at H
          have c48b0 : decide (t336 < 0) = true := decide_eq_true c48
          clear c48
          (first | rw [c48b0] | (simp only [i64_w, i32_w]; rw [c48b0]) | skip)
          have H' := Aside0.mk H
          clear H
          go_wp2
          go_meet
          case rel => exact ⟨_, (true), (by first | rfl | (simp; done) | (simp [*]; done)), H', ⟨by have := HJ11.out; first | omega | exact Nat.le_refl _⟩, ⟨rk (Kd.R_mono HO_6.out (fun _ hk => hk.2.1))⟩, ⟨rk (Kd.R_mono HO_10.out (fun _ hk => hk.1))⟩, ⟨un HB.out⟩⟩
         ·rw [if_neg c48] at H
          have c48b0 : decide (t336 < 0) = false := decide_eq_false c48
          clear c48
          (first | rw [c48b0] | (simp only [i64_w, i32_w]; rw [c48b0]) | skip)
          replace H := Option.bind_eq_some_iff.mp H
          obtain ⟨t338, A490, H⟩ := H
          have A49 := Aside0.mk A490
          clear A490
          by_cases c50 : t338 = true
          ·subst c50
           have H1 : (laws_FnExactRootStep.j1 kj11 l0 l1 t311 t312 t321 (t322 != t312)) = some r := by rw [if_pos rfl] at H; exact H
           clear H
           have H := H1
           clear H1
           have H' := Aside0.mk H
           clear H
           obtain ⟨Ao51, co51, eo51⟩ := Kd.R_slice HO_10.out
           subst eo51
           obtain ⟨Ao52, co52, eo52⟩ := Kd.R_slice HO_6.out
           subst eo52
           go_wp2_with (first | (go_at_call 10; (with_reducible refine (laws_eqPointS.calls kj11 _ _ t321 _ _ t311 true _ ?side1 ?side2 ?side3 ?side4 A49.out).mono ?_); (case side1 => exact cu (Kd.R_reads' HO_10.out).2.2); (case side2 => exact (Kd.R_reads' HO_10.out).2.1); (case side3 => exact cu (Kd.R_reads' HO_6.out).2.2); (case side4 => exact (Kd.R_reads' HO_6.out).2.1); rintro e w53 ⟨rfl, hb⟩; replace HO_6 := a_ (Kd.R_below (rk HO_6.out) hb); replace HO_8 := a_ (Kd.R_below (rk HO_8.out) hb); replace HO_9 := a_ (Kd.R_below (rk HO_9.out) hb); replace HO_10 := a_ (Kd.R_below (rk HO_10.out) hb); replace HO328 := a_ (Kd.R_below (rk HO328.out) hb); replace HO332 := a_ (Kd.R_below (rk HO332.out) hb); replace HB := a_ (below_step (un HB.out) hb); clear hb))
           go_meet
           case rel => exact ⟨_, ((t322 != t312)), (by first | rfl | (simp; done) | (simp [*]; done)), H', ⟨by have := HJ11.out; first | omega | exact Nat.le_refl _⟩, ⟨rk (Kd.R_mono HO_6.out (fun _ hk => hk.2.1))⟩, ⟨rk (Kd.R_mono HO_10.out (fun _ hk => hk.1))⟩, ⟨un HB.out⟩⟩
          ·replace c50 := Bool.eq_false_iff.mpr c50
           subst c50
           have H1 : (laws_FnExactRootStep.j1 kj11 l0 l1 t311 t312 t321 true) = some r := by rw [if_neg (show ¬ (false = true) by decide)] at H; exact H
           clear H
           have H := H1
           clear H1
           have H' := Aside0.mk H
           clear H
           obtain ⟨Ao54, co54, eo54⟩ := Kd.R_slice HO_10.out
           subst eo54
           obtain ⟨Ao55, co55, eo55⟩ := Kd.R_slice HO_6.out
           subst eo55
           go_wp2_with (first | (go_at_call 10; (with_reducible refine (laws_eqPointS.calls kj11 _ _ t321 _ _ t311 false _ ?side1 ?side2 ?side3 ?side4 A49.out).mono ?_); (case side1 => exact cu (Kd.R_reads' HO_10.out).2.2); (case side2 => exact (Kd.R_reads' HO_10.out).2.1); (case side3 => exact cu (Kd.R_reads' HO_6.out).2.2); (case side4 => exact (Kd.R_reads' HO_6.out).2.1); rintro e w56 ⟨rfl, hb⟩; replace HO_6 := a_ (Kd.R_below (rk HO_6.out) hb); replace HO_8 := a_ (Kd.R_below (rk HO_8.out) hb); replace HO_9 := a_ (Kd.R_below (rk HO_9.out) hb); replace HO_10 := a_ (Kd.R_below (rk HO_10.out) hb); replace HO328 := a_ (Kd.R_below (rk HO328.out) hb); replace HO332 := a_ (Kd.R_below (rk HO332.out) hb); replace HB := a_ (below_step (un HB.out) hb); clear hb))
           go_meet
           case rel => exact ⟨_, (true), (by first | rfl | (simp; done) | (simp [*]; done)), H', ⟨by have := HJ11.out; first | omega | exact Nat.le_refl _⟩, ⟨rk (Kd.R_mono HO_6.out (fun _ hk => hk.2.1))⟩, ⟨rk (Kd.R_mono HO_10.out (fun _ hk => hk.1))⟩, ⟨un HB.out⟩⟩
        case rest =>
         clear HC40
         try clear c1; try clear c2; try clear p2; try clear c3; try clear c3b0; try clear c3b1; try clear c4; try clear c5; try clear c5b0; try clear c6; try clear c7; try clear c8; try clear c9; try clear c10; try clear c11; try clear c12; try clear c13; try clear c24; try clear c31; try clear c34; try clear c37; try clear c48; try clear c48b0; try clear c50; try clear p2
         obtain ⟨kq, x80_39, rfl, HA, HJ39, HO_6, HO_10, HB⟩ := hcut
         cases kq with
         | zero => exact absurd HA.out (by simp [laws_FnExactRootStep.j1])
         | succ kj39 =>
          have H := HA.out
          clear HA
          simp only [laws_FnExactRootStep.j1] at H
          by_cases c57 : x80_39 = true
          ·subst c57
           have H1 : (none) = some r := by rw [if_pos rfl] at H; exact H
           clear H
           have H := H1
           clear H1
           exact absurd H (by simp)
          ·replace c57 := Bool.eq_false_iff.mpr c57
           subst c57
           have H1 : ((laws_markPointS.f kj39 t321 1).bind fun bt339 => ((laws_heldPointS.f kj39 bt339.2 1).bind fun t341 => (if t341 < 0 then (none) else (if t341 = bt339.1 then ((laws_toFloat64S.f kj39 l0).bind fun t342 => ((laws_toPointS.f kj39 l1).bind fun t345 => ((impl_RootStep.f kj39 t342 t345).bind fun bt348 => ((laws_eqPointS.f kj39 bt348.1 t311).bind fun t352 => (if t352 = true then (laws_FnExactRootStep.j2 kj39 bt339.2 bt339.1 (bt348.2 != t312)) else (laws_FnExactRootStep.j2 kj39 bt339.2 bt339.1 true)))))) else (none))))) = some r := by rw [if_neg (show ¬ (false = true) by decide)] at H; exact H
           clear H
           have H := H1
           clear H1
           replace H := Option.bind_eq_some_iff.mp H
           obtain ⟨⟨t339, t340⟩, A580, H⟩ := H
           replace H : ((laws_heldPointS.f kj39 t340 1).bind fun t341 => (if t341 < 0 then (none) else (if t341 = t339 then ((laws_toFloat64S.f kj39 l0).bind fun t342 => ((laws_toPointS.f kj39 l1).bind fun t345 => ((impl_RootStep.f kj39 t342 t345).bind fun bt348 => ((laws_eqPointS.f kj39 bt348.1 t311).bind fun t352 => (if t352 = true then (laws_FnExactRootStep.j2 kj39 t340 t339 (bt348.2 != t312)) else (laws_FnExactRootStep.j2 kj39 t340 t339 true)))))) else (none)))) = some r := H
           have A58 := Aside0.mk A580
           clear A580
           replace H := Option.bind_eq_some_iff.mp H
           obtain ⟨t341, A590, H⟩ := H
           have A59 := Aside0.mk A590
           clear A590
           by_cases c60 : t341 < 0
           ·rw [if_pos c60] at H
            exact absurd H (by simp)
           ·rw [if_neg c60] at H
            have c60b0 : decide (t341 < 0) = false := decide_eq_false c60
            clear c60
            by_cases c61 : t341 = t339
            ·rw [if_pos c61] at H
             have c61b0 : (t341 == t339) = true := beq_iff_eq.mpr c61
             have c61b1 : (t341 != t339) = false := bne_eq_false_iff_eq.mpr c61
             clear c61
             replace H := Option.bind_eq_some_iff.mp H
             obtain ⟨t342, A620, H⟩ := H
             have A62 := Aside0.mk A620
             clear A620
             replace H := Option.bind_eq_some_iff.mp H
             obtain ⟨t345, A630, H⟩ := H
             have A63 := Aside0.mk A630
             clear A630
             replace H := Option.bind_eq_some_iff.mp H
             obtain ⟨⟨t348, t349⟩, A640, H⟩ := H
             replace H : ((laws_eqPointS.f kj39 t348 t311).bind fun t352 => (if t352 = true then (laws_FnExactRootStep.j2 kj39 t340 t339 (t349 != t312)) else (laws_FnExactRootStep.j2 kj39 t340 t339 true))) = some r := H
             have A64 := Aside0.mk A640
             clear A640
             have HC65 := Aside0.mk H
             clear H
             obtain ⟨Ao66, co66, eo66⟩ := Kd.R_slice HO_10.out
             subst eo66
             go_upto_region 31 with (first | ((with_reducible refine gate_callee (f := 13) rfl ?_); refine goesL_ (some 83) rfl rfl Try.func13 (by kernel_rfl) rfl #[.slice Ao66 t321.length co66, .int .i64 1] rfl (by (try simp only [lA, lB, lC]); first | done | rfl | (simp only [lD, lE]; rfl)) ?_; (with_reducible refine (laws_markPointS.calls kj39 (fun k_ => some k_ = (.slice Ao66 t321.length co66 : Value).ownBlock) (.slice Ao66 t321.length co66) t321 1 t339 t340 w _ ?side1 ?side2 A58.out).mono ?_); (case side1 => exact un HB.out); (case side2 => exact Kd.R_tight rfl HO_10.out); rintro e w67 ⟨rfl, hy0, hb, hkp⟩; refine ⟨_, rfl, ?_⟩; replace HO_6 := a_ (Kd.R_mono (ok' := fun k_ => N_ (.slice Ao66 t321.length co66) k_) (Kd.R_keptB (HO_6.out) hkp (fun k_ hk_ hs_ => (hk_) hs_)) (fun k_ hk_ => hk_.1)); replace HO_10 := a_ (Kd.R_reok rfl hy0 (fun k_ e_ => HO_10.out.1 k_ e_)); replace HB := a_ (hb); clear hb hkp hy0) | ((with_reducible refine gate_callee (f := 14) rfl ?_); refine goesL_ (some 86) rfl rfl Try.func14 (by kernel_rfl) rfl #[.slice Ao66 t340.length co66, .int .i64 1] rfl (by (try simp only [lA, lB, lC]); first | done | (rw [show t340.length = t321.length from (Kd.R_reads' HO_10.out).1.symm] <;> rfl) | rfl | (simp only [lD, lE]; rfl)) ?_; (with_reducible refine (laws_heldPointS.calls kj39 _ _ t340 1 t341 _ ?side1 ?side2 A59.out).mono ?_); (case side1 => exact cu (Kd.R_reads' HO_10.out).2.2); (case side2 => rw [show t340.length = t321.length from (Kd.R_reads' HO_10.out).1.symm]; exact (Kd.R_reads' HO_10.out).2.1); rintro e w' ⟨rfl, ⟨nd, rfl⟩⟩; refine ⟨_, rfl, ?_⟩) | ((with_reducible refine gate_callee (f := 7) rfl ?_); refine goesL_ (some 94) rfl rfl Try.func7 (by kernel_rfl) rfl #[.slice A0 l0.length c0] rfl (by (try simp only [lA, lB, lC]); first | done | rfl | (simp only [lD, lE]; rfl)) ?_; (with_reducible refine (laws_toFloat64S.calls kj39 _ _ l0 t342 _ ?side1 ?side2 A62.out).mono ?_); (case side1 => exact Kd.C_below HR0.out (un HB.out)); (case side2 => exact HC0.out); rintro e w68 ⟨v343, rfl, ho0, hb⟩; refine ⟨_, rfl, ?_⟩; replace HO_6 := a_ (Kd.R_below (rk HO_6.out) hb); replace HO_10 := a_ (Kd.R_below (rk HO_10.out) hb); have HO344 := a_ (Kd.R_lower ho0 (bs HB.out)); replace HB := a_ (below_step (un HB.out) hb); clear hb ho0) | ((with_reducible refine gate_callee (f := 8) rfl ?_); refine goesL_ (some 96) rfl rfl Try.func8 (by kernel_rfl) rfl #[.slice A1 l1.length c1] rfl (by (try simp only [lA, lB, lC]); first | done | rfl | (simp only [lD, lE]; rfl)) ?_; (with_reducible refine (laws_toPointS.calls kj39 _ _ l1 t345 _ ?side1 ?side2 A63.out).mono ?_); (case side1 => exact Kd.C_below HR1.out (un HB.out)); (case side2 => exact HC1.out); rintro e w69 ⟨v346, rfl, ho0, hb⟩; refine ⟨_, rfl, ?_⟩; replace HO344 := a_ (Kd.R_below (rk HO344.out) hb); have HO347 := a_ (Kd.R_lower (nw (nw ho0 HO_6.out) HO_10.out) (bs HB.out)); replace HO_6 := a_ (Kd.R_elder' (rk HO_6.out) (Kd.R_base ho0) hb); replace HO_10 := a_ (Kd.R_elder' (rk HO_10.out) (Kd.R_base ho0) hb); replace HB := a_ (below_step (un HB.out) hb); clear hb ho0; obtain ⟨Ao70, co70, eo70⟩ := Kd.R_slice HO344.out; subst eo70; obtain ⟨Ao71, co71, eo71⟩ := Kd.R_slice HO347.out; subst eo71) | ((with_reducible refine gate_callee (f := 9) rfl ?_); refine goesL_ (some 97) rfl rfl Try.func9 (by kernel_rfl) rfl #[.slice Ao70 t342.length co70, .slice Ao71 t345.length co71] rfl (by (try simp only [lA, lB, lC]); first | done | rfl | (simp only [lD, lE]; rfl)) ?_; (with_reducible refine (impl_RootStep.calls kj39 _ _ t342 _ _ t345 t348 t349 _ ?side1 ?side2 ?side3 ?side4 A64.out).mono ?_); (case side1 => exact cu (Kd.R_reads' HO344.out).2.2); (case side2 => exact (Kd.R_reads' HO344.out).2.1); (case side3 => exact cu (Kd.R_reads' HO347.out).2.2); (case side4 => exact (Kd.R_reads' HO347.out).2.1); rintro e w72 ⟨v350, rfl, ho0, hb⟩; refine ⟨_, rfl, ?_⟩; replace HO344 := a_ (Kd.R_below (rk HO344.out) hb); have HO351 := a_ (Kd.R_lower (nw (nw (nw ho0 HO_6.out) HO_10.out) HO347.out) (bs HB.out)); replace HO_6 := a_ (Kd.R_elder' (rk HO_6.out) (Kd.R_base ho0) hb); replace HO_10 := a_ (Kd.R_elder' (rk HO_10.out) (Kd.R_base ho0) hb); replace HO347 := a_ (Kd.R_elder' (rk HO347.out) (Kd.R_base ho0) hb); replace HB := a_ (below_step (un HB.out) hb); clear hb ho0))
             (try simp only [Act.put, sB, sC, sD])
             go_cut [108] (fun v108 wc => ∃ (kq : Nat) (x108_64 : Bool), v108 = .bool x108_64 ∧ Aside0 (laws_FnExactRootStep.j2 kq t340 t339 x108_64 = some r) ∧ Aside0 (kq ≤ kj39) ∧ Aside0 (Kd.R k42 42 wc w.heap.size (fun _ => True) (.slice Ao66 t321.length co66) t340) ∧ Aside0 (Below w.heap.size w wc))
             case first =>
              have H := HC65.out
              clear HC65
              replace H := Option.bind_eq_some_iff.mp H
              obtain ⟨t352, A730, H⟩ := H
              have A73 := Aside0.mk A730
              clear A730
              by_cases c74 : t352 = true
              ·subst c74
               have H1 : (laws_FnExactRootStep.j2 kj39 t340 t339 (t349 != t312)) = some r := by rw [if_pos rfl] at H; exact H
               clear H
               have H := H1
               clear H1
               have H' := Aside0.mk H
               clear H
               obtain ⟨Ao75, co75, eo75⟩ := Kd.R_slice HO351.out
               subst eo75
               obtain ⟨Ao76, co76, eo76⟩ := Kd.R_slice HO_6.out
               subst eo76
               go_wp2_with (first | ((with_reducible refine gate_callee (f := 10) rfl ?_); refine goesL_ (some 102) rfl rfl Try.func10 (by kernel_rfl) rfl #[.slice Ao75 t348.length co75, .slice Ao76 t311.length co76] rfl (by (try simp only [lA, lB, lC]); first | done | rfl | (simp only [lD, lE]; rfl)) ?_; (with_reducible refine (laws_eqPointS.calls kj39 _ _ t348 _ _ t311 true _ ?side1 ?side2 ?side3 ?side4 A73.out).mono ?_); (case side1 => exact cu (Kd.R_reads' HO351.out).2.2); (case side2 => exact (Kd.R_reads' HO351.out).2.1); (case side3 => exact cu (Kd.R_reads' HO_6.out).2.2); (case side4 => exact (Kd.R_reads' HO_6.out).2.1); rintro e w77 ⟨rfl, hb⟩; refine ⟨_, rfl, ?_⟩; replace HO_6 := a_ (Kd.R_below (rk HO_6.out) hb); replace HO_10 := a_ (Kd.R_below (rk HO_10.out) hb); replace HO344 := a_ (Kd.R_below (rk HO344.out) hb); replace HO347 := a_ (Kd.R_below (rk HO347.out) hb); replace HO351 := a_ (Kd.R_below (rk HO351.out) hb); replace HB := a_ (below_step (un HB.out) hb); clear hb))
               go_meet
               case rel => exact ⟨_, ((t349 != t312)), (by first | rfl | (simp; done) | (simp [*]; done)), H', ⟨by have := HJ11.out; have := HJ39.out; first | omega | exact Nat.le_refl _⟩, ⟨rk (Kd.R_mono HO_10.out (fun _ hk => trivial))⟩, ⟨un HB.out⟩⟩
              ·replace c74 := Bool.eq_false_iff.mpr c74
               subst c74
               have H1 : (laws_FnExactRootStep.j2 kj39 t340 t339 true) = some r := by rw [if_neg (show ¬ (false = true) by decide)] at H; exact H
               clear H
               have H := H1
               clear H1
               have H' := Aside0.mk H
               clear H
               obtain ⟨Ao78, co78, eo78⟩ := Kd.R_slice HO351.out
               subst eo78
               obtain ⟨Ao79, co79, eo79⟩ := Kd.R_slice HO_6.out
               subst eo79
               go_wp2_with (first | ((with_reducible refine gate_callee (f := 10) rfl ?_); refine goesL_ (some 102) rfl rfl Try.func10 (by kernel_rfl) rfl #[.slice Ao78 t348.length co78, .slice Ao79 t311.length co79] rfl (by (try simp only [lA, lB, lC]); first | done | rfl | (simp only [lD, lE]; rfl)) ?_; (with_reducible refine (laws_eqPointS.calls kj39 _ _ t348 _ _ t311 false _ ?side1 ?side2 ?side3 ?side4 A73.out).mono ?_); (case side1 => exact cu (Kd.R_reads' HO351.out).2.2); (case side2 => exact (Kd.R_reads' HO351.out).2.1); (case side3 => exact cu (Kd.R_reads' HO_6.out).2.2); (case side4 => exact (Kd.R_reads' HO_6.out).2.1); rintro e w80 ⟨rfl, hb⟩; refine ⟨_, rfl, ?_⟩; replace HO_6 := a_ (Kd.R_below (rk HO_6.out) hb); replace HO_10 := a_ (Kd.R_below (rk HO_10.out) hb); replace HO344 := a_ (Kd.R_below (rk HO344.out) hb); replace HO347 := a_ (Kd.R_below (rk HO347.out) hb); replace HO351 := a_ (Kd.R_below (rk HO351.out) hb); replace HB := a_ (below_step (un HB.out) hb); clear hb))
               go_meet
               case rel => exact ⟨_, (true), (by first | rfl | (simp; done) | (simp [*]; done)), H', ⟨by have := HJ11.out; have := HJ39.out; first | omega | exact Nat.le_refl _⟩, ⟨rk (Kd.R_mono HO_10.out (fun _ hk => trivial))⟩, ⟨un HB.out⟩⟩
             case rest =>
              clear HC65
              try clear c1; try clear c2; try clear p2; try clear c3; try clear c3b0; try clear c3b1; try clear c4; try clear c5; try clear c5b0; try clear c6; try clear c7; try clear c8; try clear c9; try clear c10; try clear c11; try clear c12; try clear c13; try clear c14; try clear c24; try clear c31; try clear c34; try clear c37; try clear c48; try clear c48b0; try clear c50; try clear c57; try clear c60; try clear c60b0; try clear c61; try clear c61b0; try clear c61b1; try clear c74; try clear p2
              obtain ⟨kq, x108_64, rfl, HA, HJ64, HO_10, HB⟩ := hcut
              have hl10_64 := (Kd.R_reads' HO_10.out).1
              rw [hl10_64] at HO_10
              (try simp only [hl10_64])
              cases kq with
              | zero => exact absurd HA.out (by simp [laws_FnExactRootStep.j2])
              | succ kj64 =>
               have H := HA.out
               clear HA
               simp only [laws_FnExactRootStep.j2] at H
               by_cases c81 : x108_64 = true
               ·subst c81
                have H1 : (none) = some r := by rw [if_pos rfl] at H; exact H
                clear H
                have H := H1
                clear H1
                exact absurd H (by simp)
               ·replace c81 := Bool.eq_false_iff.mpr c81
                subst c81
                have H1 : ((laws_heldPointS.f kj64 t340 1).bind fun t353 => (if t353 < 0 then (none) else (if t353 = t339 then (some true) else (none)))) = some r := by rw [if_neg (show ¬ (false = true) by decide)] at H; exact H
                clear H
                have H := H1
                clear H1
                replace H := Option.bind_eq_some_iff.mp H
                obtain ⟨t353, A820, H⟩ := H
                have A82 := Aside0.mk A820
                clear A820
                by_cases c83 : t353 < 0
                ·rw [if_pos c83] at H
                 exact absurd H (by simp)
                ·rw [if_neg c83] at H
                 have c83b0 : decide (t353 < 0) = false := decide_eq_false c83
                 clear c83
                 by_cases c84 : t353 = t339
                 ·rw [if_pos c84] at H
                  have c84b0 : (t353 == t339) = true := beq_iff_eq.mpr c84
                  have c84b1 : (t353 != t339) = false := bne_eq_false_iff_eq.mpr c84
                  clear c84
                  obtain rfl := Option.some.inj H
                  go_wp2_with (first | ((with_reducible refine gate_callee (f := 14) rfl ?_); refine goesL_ (some 111) rfl rfl Try.func14 (by kernel_rfl) rfl #[.slice Ao66 t340.length co66, .int .i64 1] rfl (by (try simp only [lA, lB, lC]); first | done | rfl | (simp only [lD, lE]; rfl)) ?_; (with_reducible refine (laws_heldPointS.calls kj64 _ _ t340 1 t353 _ ?side1 ?side2 A82.out).mono ?_); (case side1 => exact cu (Kd.R_reads' HO_10.out).2.2); (case side2 => exact (Kd.R_reads' HO_10.out).2.1); rintro e w' ⟨rfl, ⟨nd, rfl⟩⟩; refine ⟨_, rfl, ?_⟩))
                  go_ret
                  exact ⟨by first | rfl | (simp [errW_none, errW_some] <;> rfl) | (simp [*, errW_none, errW_some] <;> rfl), un HB.out⟩
                 ·rw [if_neg c84] at H
                  exact absurd H (by simp)
            ·rw [if_neg c61] at H
             exact absurd H (by simp)
       ·replace c37 := Bool.eq_false_iff.mpr c37
        subst c37
        have H1 : (none) = some r := by rw [if_neg (show ¬ (false = true) by decide)] at H; exact H
        clear H
        have H := H1
        clear H1
        exact absurd H (by simp)
      ·replace c34 := Bool.eq_false_iff.mpr c34
       subst c34
       have H1 : (none) = some r := by rw [if_neg (show ¬ (false = true) by decide)] at H; exact H
       clear H
       have H := H1
       clear H1
       exact absurd H (by simp)

end Go.Proofs.Ytlfejohlehkbgaa.PFnExactRootStep
