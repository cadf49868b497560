-- Written by a program of this session out of the loaded functions' print; helper lemmas as print.sh lays them.
import Derived.Test.YtlfejohlehkbgaaUp2
import Derived.Test.YtlfejohlehkbgaaUp
import Derived.Test.YtlfejohlehkbgaaRFnExactRootsOfx0
import Derived.Test.YtlfejohlehkbgaaRFnExactRootsOfx1
import Derived.Test.YtlfejohlehkbgaaRFnExactRootsOfx2
import Derived.Test.YtlfejohlehkbgaaRFnExactRootsOfx6
import Derived.Test.YtlfejohlehkbgaaRFnExactRootsOfx12
namespace Go.Proofs.Ytlfejohlehkbgaa.PFnExactRootsOf
open Go.RowKit Go.Proofs.YtlfejohlehkbgaaW.PrintWords Go.Proofs.YtlfejohlehkbgaaW.PrintLast Go.Proofs.YtlfejohlehkbgaaW.PrintMore
attribute [local go_sem] max2_int min2_int max_two min_two max_three min_three max_four min_four go_fstore go_fneg go_fadd go_fsub go_fmul go_fquo go_fmax go_fmin go_fconv go_bits go_frombits  -- for this text's walks alone
set_option linter.unusedVariables false
set_option linter.unusedSimpArgs false

/-! ### laws_FnExactRootsOf: function 4 -/
mutual
def laws_FnExactRootsOf.j0 : Nat → List Nat → Int → List (S42) → Bool → List Nat → List (S42) → Bool → Bool → Option (Bool)
 | 0, _, _, _, _, _, _, _, _ => none
 | k + 1, x0, x1, x5, x6, x7, x8, x9, x41 => if x41 = true then (none) else ((laws_toFloat64S.f k x0).bind fun t327 => ((laws_eqFloat64S.f k x7 t327).bind fun t330 => (if t330 = true then ((laws_markFloat64S.f k x7 1).bind fun bt331 => (if bt331.1 < 0 then (laws_FnExactRootsOf.j1 k x0 x1 x5 x6 x8 true) else ((laws_eqPointS.f k x8 x5).bind fun t333 => (if t333 = true then (laws_FnExactRootsOf.j1 k x0 x1 x5 x6 x8 (x9 != x6)) else (laws_FnExactRootsOf.j1 k x0 x1 x5 x6 x8 true))))) else (none))))
def laws_FnExactRootsOf.j1 : Nat → List Nat → Int → List (S42) → Bool → List (S42) → Bool → Option (Bool)
 | 0, _, _, _, _, _, _ => none
 | k + 1, x0, x1, x5, x6, x8, x62 => if x62 = true then (none) else ((laws_markPointS.f k x8 1).bind fun bt334 => ((laws_heldPointS.f k bt334.2 1).bind fun t336 => (if t336 < 0 then (none) else (if t336 = bt334.1 then ((laws_toFloat64S.f k x0).bind fun t337 => ((impl_RootsOf.f k t337 x1).bind fun bt340 => ((laws_eqPointS.f k bt340.1 x5).bind fun t344 => (if t344 = true then (laws_FnExactRootsOf.j2 k bt334.2 bt334.1 (bt340.2 != x6)) else (laws_FnExactRootsOf.j2 k bt334.2 bt334.1 true))))) else (none)))))
def laws_FnExactRootsOf.j2 : Nat → List (S42) → Int → Bool → Option (Bool)
 | 0, _, _, _ => none
 | k + 1, x8, x11, x89 => if x89 = true then (none) else ((laws_heldPointS.f k x8 1).bind fun t345 => (if t345 < 0 then (none) else (if t345 = x11 then (some true) else (none))))
end
def laws_FnExactRootsOf.f (k : Nat) (l0 : List Nat) (a1 : Int) : Option (Bool) := if (l0.length : Int) > 1048576 then (some true) else ((laws_toFloat64S.f k l0).bind fun t312 => ((spec_RootsOf.f k t312 a1).bind fun bt315 => ((laws_toFloat64S.f k l0).bind fun t319 => ((impl_RootsOf.f k t319 a1).bind fun bt322 => ((laws_eqPointS.f k bt322.1 bt315.1).bind fun t326 => (if t326 = true then (laws_FnExactRootsOf.j0 k l0 a1 bt315.1 bt315.2 t319 bt322.1 bt322.2 (bt322.2 != bt315.2)) else (laws_FnExactRootsOf.j0 k l0 a1 bt315.1 bt315.2 t319 bt322.1 bt322.2 true)))))))
theorem laws_FnExactRootsOf.mono_l : ∀ k, (∀ y0 y1 y2 y3 y4 y5 y6 y7, LeO (laws_FnExactRootsOf.j0 k y0 y1 y2 y3 y4 y5 y6 y7) (laws_FnExactRootsOf.j0 (k + 1) y0 y1 y2 y3 y4 y5 y6 y7)) ∧ (∀ y0 y1 y2 y3 y4 y5, LeO (laws_FnExactRootsOf.j1 k y0 y1 y2 y3 y4 y5) (laws_FnExactRootsOf.j1 (k + 1) y0 y1 y2 y3 y4 y5)) ∧ (∀ y0 y1 y2, LeO (laws_FnExactRootsOf.j2 k y0 y1 y2) (laws_FnExactRootsOf.j2 (k + 1) y0 y1 y2))
 | 0 => ⟨fun _ _ _ _ _ _ _ _ r h => by simp [laws_FnExactRootsOf.j0] at h, fun _ _ _ _ _ _ r h => by simp [laws_FnExactRootsOf.j1] at h, fun _ _ _ r h => by simp [laws_FnExactRootsOf.j2] at h⟩
 | k + 1 => by
  obtain ⟨ih0, ih1, ih2⟩ := laws_FnExactRootsOf.mono_l k
  refine ⟨?_, ?_, ?_⟩
  ·intro y0 y1 y2 y3 y4 y5 y6 y7
   unfold laws_FnExactRootsOf.j0
   repeat' first
   | (with_reducible exact ih0 _ _ _ _ _ _ _ _)
   | (with_reducible exact ih1 _ _ _ _ _ _)
   | (with_reducible exact ih2 _ _ _)
   | (with_reducible exact impl_RootsOf.mono _ _ _)
   | (with_reducible exact laws_eqFloat64S.mono _ _ _)
   | (with_reducible exact laws_eqPointS.mono _ _ _)
   | (with_reducible exact laws_heldPointS.mono _ _ _)
   | (with_reducible exact laws_markFloat64S.mono _ _ _)
   | (with_reducible exact laws_markPointS.mono _ _ _)
   | (with_reducible exact laws_toFloat64S.mono _ _)
   | (with_reducible exact spec_RootsOf.mono _ _ _)
   | (with_reducible exact LeO.refl _)
   | (with_reducible exact LeO.none _)
   | (with_reducible refine LeO.ite ?_ ?_)
   | (with_reducible refine LeO.bind ?_ (fun _ => ?_))
   | exact ih0 _ _ _ _ _ _ _ _
   | exact ih1 _ _ _ _ _ _
   | exact ih2 _ _ _
   | exact impl_RootsOf.mono _ _ _
   | exact laws_eqFloat64S.mono _ _ _
   | exact laws_eqPointS.mono _ _ _
   | exact laws_heldPointS.mono _ _ _
   | exact laws_markFloat64S.mono _ _ _
   | exact laws_markPointS.mono _ _ _
   | exact laws_toFloat64S.mono _ _
   | exact spec_RootsOf.mono _ _ _
   | exact LeO.none _
   | refine LeO.ite ?_ ?_
   | refine LeO.bind ?_ (fun _ => ?_)
  ·intro y0 y1 y2 y3 y4 y5
   unfold laws_FnExactRootsOf.j1
   repeat' first
   | (with_reducible exact ih0 _ _ _ _ _ _ _ _)
   | (with_reducible exact ih1 _ _ _ _ _ _)
   | (with_reducible exact ih2 _ _ _)
   | (with_reducible exact impl_RootsOf.mono _ _ _)
   | (with_reducible exact laws_eqFloat64S.mono _ _ _)
   | (with_reducible exact laws_eqPointS.mono _ _ _)
   | (with_reducible exact laws_heldPointS.mono _ _ _)
   | (with_reducible exact laws_markFloat64S.mono _ _ _)
   | (with_reducible exact laws_markPointS.mono _ _ _)
   | (with_reducible exact laws_toFloat64S.mono _ _)
   | (with_reducible exact spec_RootsOf.mono _ _ _)
   | (with_reducible exact LeO.refl _)
   | (with_reducible exact LeO.none _)
   | (with_reducible refine LeO.ite ?_ ?_)
   | (with_reducible refine LeO.bind ?_ (fun _ => ?_))
   | exact ih0 _ _ _ _ _ _ _ _
   | exact ih1 _ _ _ _ _ _
   | exact ih2 _ _ _
   | exact impl_RootsOf.mono _ _ _
   | exact laws_eqFloat64S.mono _ _ _
   | exact laws_eqPointS.mono _ _ _
   | exact laws_heldPointS.mono _ _ _
   | exact laws_markFloat64S.mono _ _ _
   | exact laws_markPointS.mono _ _ _
   | exact laws_toFloat64S.mono _ _
   | exact spec_RootsOf.mono _ _ _
   | exact LeO.none _
   | refine LeO.ite ?_ ?_
   | refine LeO.bind ?_ (fun _ => ?_)
  ·intro y0 y1 y2
   unfold laws_FnExactRootsOf.j2
   repeat' first
   | (with_reducible exact ih0 _ _ _ _ _ _ _ _)
   | (with_reducible exact ih1 _ _ _ _ _ _)
   | (with_reducible exact ih2 _ _ _)
   | (with_reducible exact impl_RootsOf.mono _ _ _)
   | (with_reducible exact laws_eqFloat64S.mono _ _ _)
   | (with_reducible exact laws_eqPointS.mono _ _ _)
   | (with_reducible exact laws_heldPointS.mono _ _ _)
   | (with_reducible exact laws_markFloat64S.mono _ _ _)
   | (with_reducible exact laws_markPointS.mono _ _ _)
   | (with_reducible exact laws_toFloat64S.mono _ _)
   | (with_reducible exact spec_RootsOf.mono _ _ _)
   | (with_reducible exact LeO.refl _)
   | (with_reducible exact LeO.none _)
   | (with_reducible refine LeO.ite ?_ ?_)
   | (with_reducible refine LeO.bind ?_ (fun _ => ?_))
   | exact ih0 _ _ _ _ _ _ _ _
   | exact ih1 _ _ _ _ _ _
   | exact ih2 _ _ _
   | exact impl_RootsOf.mono _ _ _
   | exact laws_eqFloat64S.mono _ _ _
   | exact laws_eqPointS.mono _ _ _
   | exact laws_heldPointS.mono _ _ _
   | exact laws_markFloat64S.mono _ _ _
   | exact laws_markPointS.mono _ _ _
   | exact laws_toFloat64S.mono _ _
   | exact spec_RootsOf.mono _ _ _
   | exact LeO.none _
   | refine LeO.ite ?_ ?_
   | refine LeO.bind ?_ (fun _ => ?_)
theorem laws_FnExactRootsOf.mono : ∀ a0 a1 k, LeO (laws_FnExactRootsOf.f k a0 a1) (laws_FnExactRootsOf.f (k + 1) a0 a1) := by
 intro a0 a1 k
 obtain ⟨ih0, ih1, ih2⟩ := laws_FnExactRootsOf.mono_l k
 unfold laws_FnExactRootsOf.f
 repeat' first
   | (with_reducible exact ih0 _ _ _ _ _ _ _ _)
   | (with_reducible exact ih1 _ _ _ _ _ _)
   | (with_reducible exact ih2 _ _ _)
   | (with_reducible exact impl_RootsOf.mono _ _ _)
   | (with_reducible exact laws_eqFloat64S.mono _ _ _)
   | (with_reducible exact laws_eqPointS.mono _ _ _)
   | (with_reducible exact laws_heldPointS.mono _ _ _)
   | (with_reducible exact laws_markFloat64S.mono _ _ _)
   | (with_reducible exact laws_markPointS.mono _ _ _)
   | (with_reducible exact laws_toFloat64S.mono _ _)
   | (with_reducible exact spec_RootsOf.mono _ _ _)
   | (with_reducible exact LeO.refl _)
   | (with_reducible exact LeO.none _)
   | (with_reducible refine LeO.ite ?_ ?_)
   | (with_reducible refine LeO.bind ?_ (fun _ => ?_))
   | exact ih0 _ _ _ _ _ _ _ _
   | exact ih1 _ _ _ _ _ _
   | exact ih2 _ _ _
   | exact impl_RootsOf.mono _ _ _
   | exact laws_eqFloat64S.mono _ _ _
   | exact laws_eqPointS.mono _ _ _
   | exact laws_heldPointS.mono _ _ _
   | exact laws_markFloat64S.mono _ _ _
   | exact laws_markPointS.mono _ _ _
   | exact laws_toFloat64S.mono _ _
   | exact spec_RootsOf.mono _ _ _
   | exact LeO.none _
   | refine LeO.ite ?_ ?_
   | refine LeO.bind ?_ (fun _ => ?_)
set_option maxHeartbeats 8000000 in
set_option maxRecDepth 100000 in
theorem laws_FnExactRootsOf.calls (k : Nat) (A0 : Option Addr) (c0 : Nat) (l0 : List Nat) (a1 : Int) (r : Bool) (w : World) (hr0 : Kd.C Kd.flt w A0 l0.length l0) (hc0 : l0.length ≤ c0) (h : laws_FnExactRootsOf.f k l0 a1 = some r) :
  Calls Try.prog 4 #[.slice A0 l0.length c0, .int .i64 a1] w fun e w' => e = .returned (.bool r) ∧ Below w.heap.size w w' := by
 have HR0 := Aside0.mk hr0
 have HC0 := Aside0.mk hc0
 clear hr0 hc0
 have HB := a_ (Below.refl w.heap.size w)
 have H : (if (l0.length : Int) > 1048576 then (some true) else ((laws_toFloat64S.f k l0).bind fun t312 => ((spec_RootsOf.f k t312 a1).bind fun bt315 => ((laws_toFloat64S.f k l0).bind fun t319 => ((impl_RootsOf.f k t319 a1).bind fun bt322 => ((laws_eqPointS.f k bt322.1 bt315.1).bind fun t326 => (if t326 = true then (laws_FnExactRootsOf.j0 k l0 a1 bt315.1 bt315.2 t319 bt322.1 bt322.2 (bt322.2 != bt315.2)) else (laws_FnExactRootsOf.j0 k l0 a1 bt315.1 bt315.2 t319 bt322.1 bt322.2 true)))))))) = some r := h
 clear h
 by_cases c3 : (l0.length : Int) > 1048576
 ·rw [if_pos c3] at H
  have c3b0 : decide (1048576 < (l0.length : Int)) = true := decide_eq_true c3
  have c3b1 : decide (1048576 < l0.length) = true := decide_eq_true (by omega)
  clear c3
  obtain rfl := Option.some.inj H
  go_enter Try.func4, Try.ntmps4
  go_wp2
  go_ret
  exact ⟨by first | rfl | (simp [errW_none, errW_some] <;> rfl) | (simp [*, errW_none, errW_some] <;> rfl), un HB.out⟩
 ·rw [if_neg c3] at H
  have c3b0 : decide (1048576 < (l0.length : Int)) = false := decide_eq_false c3
  have c3b1 : decide (1048576 < l0.length) = false := decide_eq_false (by omega)
  clear c3
  replace H := Option.bind_eq_some_iff.mp H
  obtain ⟨t312, A40, H⟩ := H
  have A4 := Aside0.mk A40
  clear A40
  replace H := Option.bind_eq_some_iff.mp H
  obtain ⟨⟨t315, t316⟩, A50, H⟩ := H
  replace H : ((laws_toFloat64S.f k l0).bind fun t319 => ((impl_RootsOf.f k t319 a1).bind fun bt322 => ((laws_eqPointS.f k bt322.1 t315).bind fun t326 => (if t326 = true then (laws_FnExactRootsOf.j0 k l0 a1 t315 t316 t319 bt322.1 bt322.2 (bt322.2 != t316)) else (laws_FnExactRootsOf.j0 k l0 a1 t315 t316 t319 bt322.1 bt322.2 true))))) = some r := H
  have A5 := Aside0.mk A50
  clear A50
  replace H := Option.bind_eq_some_iff.mp H
  obtain ⟨t319, A60, H⟩ := H
  have A6 := Aside0.mk A60
  clear A60
  replace H := Option.bind_eq_some_iff.mp H
  obtain ⟨⟨t322, t323⟩, A70, H⟩ := H
  replace H : ((laws_eqPointS.f k t322 t315).bind fun t326 => (if t326 = true then (laws_FnExactRootsOf.j0 k l0 a1 t315 t316 t319 t322 t323 (t323 != t316)) else (laws_FnExactRootsOf.j0 k l0 a1 t315 t316 t319 t322 t323 true))) = some r := H
  have A7 := Aside0.mk A70
  clear A70
  have HC8 := Aside0.mk H
  clear H
  go_enter Try.func4, Try.ntmps4
  go_upto_region 6 with (first | ((with_reducible refine gate_callee (f := 7) rfl ?_); refine goesL_ (some 20) rfl rfl Try.func7 (by kernel_rfl) rfl #[.slice A0 l0.length c0] rfl (by (try simp only [lA, lB, lC]); first | done | rfl | (simp only [lD, lE]; rfl)) ?_; (with_reducible refine (laws_toFloat64S.calls k _ _ l0 t312 _ ?side1 ?side2 A4.out).mono ?_); (case side1 => repeat (first | exact HR0.out | (with_reducible refine Kd.C_alloc ?_ _) | (with_reducible refine Kd.C_drewN ?_ _) | (with_reducible refine Kd.C_drew ?_))); (case side2 => exact HC0.out); rintro e w9 ⟨v313, rfl, ho0, hb⟩; refine ⟨_, rfl, ?_⟩; have HO314 := a_ (Kd.R_lower ho0 (bs HB.out)); replace HB := a_ (below_step (un HB.out) hb); clear hb ho0; obtain ⟨Ao10, co10, eo10⟩ := Kd.R_slice HO314.out; subst eo10) | ((with_reducible refine gate_callee (f := 15) rfl ?_); refine goesL_ (some 22) rfl rfl Try.func15 (by kernel_rfl) rfl #[.slice Ao10 t312.length co10, .int .i64 a1] rfl (by (try simp only [lA, lB, lC]); first | done | rfl | (simp only [lD, lE]; rfl)) ?_; (with_reducible refine (spec_RootsOf.calls k _ _ t312 a1 t315 t316 _ ?side1 ?side2 A5.out).mono ?_); (case side1 => exact cu (Kd.R_reads' HO314.out).2.2); (case side2 => exact (Kd.R_reads' HO314.out).2.1); rintro e w11 ⟨v317, rfl, ho0, hb⟩; refine ⟨_, rfl, ?_⟩; replace HO314 := a_ (Kd.R_below (rk HO314.out) hb); have HO318 := a_ (Kd.R_lower ho0 (bs HB.out)); replace HB := a_ (below_step (un HB.out) hb); clear hb ho0) | ((with_reducible refine gate_callee (f := 7) rfl ?_); refine goesL_ (some 26) rfl rfl Try.func7 (by kernel_rfl) rfl #[.slice A0 l0.length c0] rfl (by (try simp only [lA, lB, lC]); first | done | rfl | (simp only [lD, lE]; rfl)) ?_; (with_reducible refine (laws_toFloat64S.calls k _ _ l0 t319 _ ?side1 ?side2 A6.out).mono ?_); (case side1 => exact Kd.C_below HR0.out (un HB.out)); (case side2 => exact HC0.out); rintro e w12 ⟨v320, rfl, ho0, hb⟩; refine ⟨_, rfl, ?_⟩; replace HO318 := a_ (Kd.R_below (rk HO318.out) hb); have HO321 := a_ (Kd.R_lower (nw ho0 HO314.out) (bs HB.out)); replace HO314 := a_ (Kd.R_elder' (rk HO314.out) (Kd.R_base ho0) hb); replace HB := a_ (below_step (un HB.out) hb); clear hb ho0; obtain ⟨Ao13, co13, eo13⟩ := Kd.R_slice HO321.out; subst eo13) | ((with_reducible refine gate_callee (f := 16) rfl ?_); refine goesL_ (some 30) rfl rfl Try.func16 (by kernel_rfl) rfl #[.slice Ao13 t319.length co13, .int .i64 a1] rfl (by (try simp only [lA, lB, lC]); first | done | rfl | (simp only [lD, lE]; rfl)) ?_; (with_reducible refine (impl_RootsOf.calls k _ _ t319 a1 t322 t323 _ ?side1 ?side2 A7.out).mono ?_); (case side1 => exact cu (Kd.R_reads' HO321.out).2.2); (case side2 => exact (Kd.R_reads' HO321.out).2.1); rintro e w14 ⟨v324, rfl, ho0, hb⟩; refine ⟨_, rfl, ?_⟩; replace HO314 := a_ (Kd.R_below (rk HO314.out) hb); replace HO321 := a_ (Kd.R_below (rk HO321.out) hb); have HO325 := a_ (Kd.R_lower (nw ho0 HO318.out) (bs HB.out)); replace HO318 := a_ (Kd.R_elder' (rk HO318.out) (Kd.R_base ho0) hb); replace HB := a_ (below_step (un HB.out) hb); clear hb ho0))
  (try simp only [Act.put, sB, sC, sD])
  go_cut [41] (fun v41 wc => ∃ (kq : Nat) (x41_7 : Bool), v41 = .bool x41_7 ∧ Aside0 (laws_FnExactRootsOf.j0 kq l0 a1 t315 t316 t319 t322 t323 x41_7 = some r) ∧ Aside0 (kq ≤ k) ∧ Aside0 (Kd.R k42 42 wc w.heap.size (fun k_ => N_ v324 k_) v317 t315) ∧ Aside0 (Kd.R Kd.flt 40 wc w.heap.size (fun _ => True) (.slice Ao13 t319.length co13) t319) ∧ Aside0 (Kd.R k42 42 wc w.heap.size (fun k_ => N_ v317 k_) v324 t322) ∧ Aside0 (Below w.heap.size w wc))
  case first =>
   have H := HC8.out
   clear HC8
   replace H := Option.bind_eq_some_iff.mp H
   obtain ⟨t326, A150, H⟩ := H
   have A15 := Aside0.mk A150
   clear A150
   by_cases c16 : t326 = true
   ·subst c16
    have H1 : (laws_FnExactRootsOf.j0 k l0 a1 t315 t316 t319 t322 t323 (t323 != t316)) = some r := by rw [if_pos rfl] at H; exact H
    clear H
    have H := H1
    clear H1
    have H' := Aside0.mk H
    clear H
    obtain ⟨Ao17, co17, eo17⟩ := Kd.R_slice HO325.out
    subst eo17
    obtain ⟨Ao18, co18, eo18⟩ := Kd.R_slice HO318.out
    subst eo18
    go_wp2_with (first | ((with_reducible refine gate_callee (f := 10) rfl ?_); refine goesL_ (some 35) rfl rfl Try.func10 (by kernel_rfl) rfl #[.slice Ao17 t322.length co17, .slice Ao18 t315.length co18] rfl (by (try simp only [lA, lB, lC]); first | done | rfl | (simp only [lD, lE]; rfl)) ?_; (with_reducible refine (laws_eqPointS.calls k _ _ t322 _ _ t315 true _ ?side1 ?side2 ?side3 ?side4 A15.out).mono ?_); (case side1 => exact cu (Kd.R_reads' HO325.out).2.2); (case side2 => exact (Kd.R_reads' HO325.out).2.1); (case side3 => exact cu (Kd.R_reads' HO318.out).2.2); (case side4 => exact (Kd.R_reads' HO318.out).2.1); rintro e w19 ⟨rfl, hb⟩; refine ⟨_, rfl, ?_⟩; replace HO314 := a_ (Kd.R_below (rk HO314.out) hb); replace HO318 := a_ (Kd.R_below (rk HO318.out) hb); replace HO321 := a_ (Kd.R_below (rk HO321.out) hb); replace HO325 := a_ (Kd.R_below (rk HO325.out) hb); replace HB := a_ (below_step (un HB.out) hb); clear hb))
    go_meet
    case rel => exact ⟨_, ((t323 != t316)), (by first | rfl | (simp; done) | (simp [*]; done)), H', ⟨by first | omega | exact Nat.le_refl _⟩, ⟨rk (Kd.R_mono HO318.out (fun _ hk => hk.2))⟩, ⟨rk (Kd.R_mono HO321.out (fun _ hk => trivial))⟩, ⟨rk (Kd.R_mono HO325.out (fun _ hk => hk.2))⟩, ⟨un HB.out⟩⟩
   ·replace c16 := Bool.eq_false_iff.mpr c16
    subst c16
    have H1 : (laws_FnExactRootsOf.j0 k l0 a1 t315 t316 t319 t322 t323 true) = some r := by rw [if_neg (show ¬ (false = true) by decide)] at H; exact H
    clear H
    have H := H1
    clear H1
    have H' := Aside0.mk H
    clear H
    obtain ⟨Ao20, co20, eo20⟩ := Kd.R_slice HO325.out
    subst eo20
    obtain ⟨Ao21, co21, eo21⟩ := Kd.R_slice HO318.out
    subst eo21
    go_wp2_with (first | ((with_reducible refine gate_callee (f := 10) rfl ?_); refine goesL_ (some 35) rfl rfl Try.func10 (by kernel_rfl) rfl #[.slice Ao20 t322.length co20, .slice Ao21 t315.length co21] rfl (by (try simp only [lA, lB, lC]); first | done | rfl | (simp only [lD, lE]; rfl)) ?_; (with_reducible refine (laws_eqPointS.calls k _ _ t322 _ _ t315 false _ ?side1 ?side2 ?side3 ?side4 A15.out).mono ?_); (case side1 => exact cu (Kd.R_reads' HO325.out).2.2); (case side2 => exact (Kd.R_reads' HO325.out).2.1); (case side3 => exact cu (Kd.R_reads' HO318.out).2.2); (case side4 => exact (Kd.R_reads' HO318.out).2.1); rintro e w22 ⟨rfl, hb⟩; refine ⟨_, rfl, ?_⟩; replace HO314 := a_ (Kd.R_below (rk HO314.out) hb); replace HO318 := a_ (Kd.R_below (rk HO318.out) hb); replace HO321 := a_ (Kd.R_below (rk HO321.out) hb); replace HO325 := a_ (Kd.R_below (rk HO325.out) hb); replace HB := a_ (below_step (un HB.out) hb); clear hb))
    go_meet
    case rel => exact ⟨_, (true), (by first | rfl | (simp; done) | (simp [*]; done)), H', ⟨by first | omega | exact Nat.le_refl _⟩, ⟨rk (Kd.R_mono HO318.out (fun _ hk => hk.2))⟩, ⟨rk (Kd.R_mono HO321.out (fun _ hk => trivial))⟩, ⟨rk (Kd.R_mono HO325.out (fun _ hk => hk.2))⟩, ⟨un HB.out⟩⟩
  case rest =>
   clear HC8
   try clear c1; try clear p2; try clear c3; try clear c3b0; try clear c3b1; try clear c4; try clear c7; try clear c10; try clear c15; try clear c16
   obtain ⟨kq, x41_7, rfl, HA, HJ7, HO_5, HO_7, HO_8, HB⟩ := hcut
   cases kq with
   | zero => exact absurd HA.out (by simp [laws_FnExactRootsOf.j0])
   | succ kj7 =>
    have H := HA.out
    clear HA
    simp only [laws_FnExactRootsOf.j0] at H
    by_cases c23 : x41_7 = true
    ·subst c23
     have H1 : (none) = some r := by rw [if_pos rfl] at H; exact H
     clear H
     have H := H1
     clear H1
     exact absurd H (by simp)
    ·replace c23 := Bool.eq_false_iff.mpr c23
     subst c23
     have H1 : ((laws_toFloat64S.f kj7 l0).bind fun t327 => ((laws_eqFloat64S.f kj7 t319 t327).bind fun t330 => (if t330 = true then ((laws_markFloat64S.f kj7 t319 1).bind fun bt331 => (if bt331.1 < 0 then (laws_FnExactRootsOf.j1 kj7 l0 a1 t315 t316 t322 true) else ((laws_eqPointS.f kj7 t322 t315).bind fun t333 => (if t333 = true then (laws_FnExactRootsOf.j1 kj7 l0 a1 t315 t316 t322 (t323 != t316)) else (laws_FnExactRootsOf.j1 kj7 l0 a1 t315 t316 t322 true))))) else (none)))) = some r := by rw [if_neg (show ¬ (false = true) by decide)] at H; exact H
     clear H
     have H := H1
     clear H1
     replace H := Option.bind_eq_some_iff.mp H
     obtain ⟨t327, A240, H⟩ := H
     have A24 := Aside0.mk A240
     clear A240
     replace H := Option.bind_eq_some_iff.mp H
     obtain ⟨t330, A250, H⟩ := H
     have A25 := Aside0.mk A250
     clear A250
     by_cases c26 : t330 = true
     ·subst c26
      have H1 : ((laws_markFloat64S.f kj7 t319 1).bind fun bt331 => (if bt331.1 < 0 then (laws_FnExactRootsOf.j1 kj7 l0 a1 t315 t316 t322 true) else ((laws_eqPointS.f kj7 t322 t315).bind fun t333 => (if t333 = true then (laws_FnExactRootsOf.j1 kj7 l0 a1 t315 t316 t322 (t323 != t316)) else (laws_FnExactRootsOf.j1 kj7 l0 a1 t315 t316 t322 true))))) = some r := by rw [if_pos rfl] at H; exact H
      clear H
      have H := H1
      clear H1
      replace H := Option.bind_eq_some_iff.mp H
      obtain ⟨⟨t331, t332⟩, A270, H⟩ := H
      replace H : (if t331 < 0 then (laws_FnExactRootsOf.j1 kj7 l0 a1 t315 t316 t322 true) else ((laws_eqPointS.f kj7 t322 t315).bind fun t333 => (if t333 = true then (laws_FnExactRootsOf.j1 kj7 l0 a1 t315 t316 t322 (t323 != t316)) else (laws_FnExactRootsOf.j1 kj7 l0 a1 t315 t316 t322 true)))) = some r := H
      have A27 := Aside0.mk A270
      clear A270
      have HC28 := Aside0.mk H
      clear H
      go_upto_region 12 with (first | ((with_reducible refine gate_callee (f := 7) rfl ?_); refine goesL_ (some 44) rfl rfl Try.func7 (by kernel_rfl) rfl #[.slice A0 l0.length c0] rfl (by (try simp only [lA, lB, lC]); first | done | rfl | (simp only [lD, lE]; rfl)) ?_; (with_reducible refine (laws_toFloat64S.calls kj7 _ _ l0 t327 _ ?side1 ?side2 A24.out).mono ?_); (case side1 => exact Kd.C_below HR0.out (un HB.out)); (case side2 => exact HC0.out); rintro e w29 ⟨v328, rfl, ho0, hb⟩; refine ⟨_, rfl, ?_⟩; replace HO_5 := a_ (Kd.R_below (rk HO_5.out) hb); replace HO_8 := a_ (Kd.R_below (rk HO_8.out) hb); have HO329 := a_ (Kd.R_lower (nw ho0 HO_7.out) (bs HB.out)); replace HO_7 := a_ (Kd.R_elder' (rk HO_7.out) (Kd.R_base ho0) hb); replace HB := a_ (below_step (un HB.out) hb); clear hb ho0; obtain ⟨Ao30, co30, eo30⟩ := Kd.R_slice HO329.out; subst eo30) | ((with_reducible refine gate_callee (f := 11) rfl ?_); refine goesL_ (some 45) rfl rfl Try.func11 (by kernel_rfl) rfl #[.slice Ao13 t319.length co13, .slice Ao30 t327.length co30] rfl (by (try simp only [lA, lB, lC]); first | done | rfl | (simp only [lD, lE]; rfl)) ?_; (with_reducible refine (laws_eqFloat64S.calls kj7 _ _ t319 _ _ t327 true _ ?side1 ?side2 ?side3 ?side4 A25.out).mono ?_); (case side1 => exact cu (Kd.R_reads' HO_7.out).2.2); (case side2 => exact (Kd.R_reads' HO_7.out).2.1); (case side3 => exact cu (Kd.R_reads' HO329.out).2.2); (case side4 => exact (Kd.R_reads' HO329.out).2.1); rintro e w' ⟨rfl, ⟨nd, rfl⟩⟩; refine ⟨_, rfl, ?_⟩) | ((with_reducible refine gate_callee (f := 12) rfl ?_); refine goesL_ (some 49) rfl rfl Try.func12 (by kernel_rfl) rfl #[.slice Ao13 t319.length co13, .int .i64 1] rfl (by (try simp only [lA, lB, lC]); first | done | rfl | (simp only [lD, lE]; rfl)) ?_; (with_reducible refine (laws_markFloat64S.calls kj7 (fun k_ => some k_ = (.slice Ao13 t319.length co13 : Value).ownBlock) (.slice Ao13 t319.length co13) t319 1 t331 t332 w _ ?side1 ?side2 A27.out).mono ?_); (case side1 => exact un HB.out); (case side2 => exact Kd.R_tight rfl HO_7.out); rintro e w31 ⟨rfl, hy0, hb, hkp⟩; refine ⟨_, rfl, ?_⟩; replace HO_5 := a_ (Kd.R_mono (ok' := fun k_ => N_ v324 k_) (Kd.R_keptB (Kd.R_apart' HO_5.out (Kd.R_typed HO_7.out) (by decide)) hkp (fun k_ hk_ hs_ => (hk_.2) hs_)) (fun k_ hk_ => hk_.1.1)); replace HO_8 := a_ (Kd.R_mono (ok' := fun k_ => N_ v317 k_) (Kd.R_keptB (Kd.R_apart' HO_8.out (Kd.R_typed HO_7.out) (by decide)) hkp (fun k_ hk_ hs_ => (hk_.2) hs_)) (fun k_ hk_ => hk_.1.1)); replace HO_7 := a_ (Kd.R_reok rfl hy0 (fun k_ e_ => HO_7.out.1 k_ e_)); replace HO329 := a_ (Kd.R_mono (ok' := fun k_ => N_ (.slice Ao13 t319.length co13) k_) (Kd.R_keptB (HO329.out) hkp (fun k_ hk_ hs_ => (hk_.2) hs_)) (fun k_ hk_ => hk_.1.2)); replace HB := a_ (hb); clear hb hkp hy0))
      (try simp only [Act.put, sB, sC, sD])
      go_cut [62] (fun v62 wc => ∃ (kq : Nat) (x62_27 : Bool), v62 = .bool x62_27 ∧ Aside0 (laws_FnExactRootsOf.j1 kq l0 a1 t315 t316 t322 x62_27 = some r) ∧ Aside0 (kq ≤ kj7) ∧ Aside0 (Kd.R k42 42 wc w.heap.size (fun k_ => N_ v324 k_) v317 t315) ∧ Aside0 (Kd.R k42 42 wc w.heap.size (fun k_ => N_ v317 k_) v324 t322) ∧ Aside0 (Below w.heap.size w wc))
      case first =>
       have H := HC28.out
       clear HC28
       by_cases c32 : t331 < 0
       ·rw [if_pos c32] at H
        have c32b0 : decide (t331 < 0) = true := decide_eq_true c32
        clear c32
        (first | rw [c32b0] | (simp only [i64_w, i32_w]; rw [c32b0]) | skip)
        have H' := Aside0.mk H
        clear H
        go_wp2
        go_meet
        case rel => exact ⟨_, (true), (by first | rfl | (simp; done) | (simp [*]; done)), H', ⟨by have := HJ7.out; first | omega | exact Nat.le_refl _⟩, ⟨rk (HO_5.out)⟩, ⟨rk (HO_8.out)⟩, ⟨un HB.out⟩⟩
       ·rw [if_neg c32] at H
        have c32b0 : decide (t331 < 0) = false := decide_eq_false c32
        clear c32
        (first | rw [c32b0] | (simp only [i64_w, i32_w]; rw [c32b0]) | skip)
        replace H := Option.bind_eq_some_iff.mp H
        obtain ⟨t333, A330, H⟩ := H
        have A33 := Aside0.mk A330
        clear A330
        by_cases c34 : t333 = true
        ·subst c34
         have H1 : (laws_FnExactRootsOf.j1 kj7 l0 a1 t315 t316 t322 (t323 != t316)) = some r := by rw [if_pos rfl] at H; exact H
         clear H
         have H := H1
         clear H1
         have H' := Aside0.mk H
         clear H
         obtain ⟨Ao35, co35, eo35⟩ := Kd.R_slice HO_8.out
         subst eo35
         obtain ⟨Ao36, co36, eo36⟩ := Kd.R_slice HO_5.out
         subst eo36
         go_wp2_with (first | (go_at_call 10; (with_reducible refine (laws_eqPointS.calls kj7 _ _ t322 _ _ t315 true _ ?side1 ?side2 ?side3 ?side4 A33.out).mono ?_); (case side1 => exact cu (Kd.R_reads' HO_8.out).2.2); (case side2 => exact (Kd.R_reads' HO_8.out).2.1); (case side3 => exact cu (Kd.R_reads' HO_5.out).2.2); (case side4 => exact (Kd.R_reads' HO_5.out).2.1); rintro e w37 ⟨rfl, hb⟩; replace HO_5 := a_ (Kd.R_below (rk HO_5.out) hb); replace HO_7 := a_ (Kd.R_below (rk HO_7.out) hb); replace HO_8 := a_ (Kd.R_below (rk HO_8.out) hb); replace HO329 := a_ (Kd.R_below (rk HO329.out) hb); replace HB := a_ (below_step (un HB.out) hb); clear hb))
         go_meet
         case rel => exact ⟨_, ((t323 != t316)), (by first | rfl | (simp; done) | (simp [*]; done)), H', ⟨by have := HJ7.out; first | omega | exact Nat.le_refl _⟩, ⟨rk (HO_5.out)⟩, ⟨rk (HO_8.out)⟩, ⟨un HB.out⟩⟩
        ·replace c34 := Bool.eq_false_iff.mpr c34
         subst c34
         have H1 : (laws_FnExactRootsOf.j1 kj7 l0 a1 t315 t316 t322 true) = some r := by rw [if_neg (show ¬ (false = true) by decide)] at H; exact H
         clear H
         have H := H1
         clear H1
         have H' := Aside0.mk H
         clear H
         obtain ⟨Ao38, co38, eo38⟩ := Kd.R_slice HO_8.out
         subst eo38
         obtain ⟨Ao39, co39, eo39⟩ := Kd.R_slice HO_5.out
         subst eo39
         go_wp2_with (first | (go_at_call 10; (with_reducible refine (laws_eqPointS.calls kj7 _ _ t322 _ _ t315 false _ ?side1 ?side2 ?side3 ?side4 A33.out).mono ?_); (case side1 => exact cu (Kd.R_reads' HO_8.out).2.2); (case side2 => exact (Kd.R_reads' HO_8.out).2.1); (case side3 => exact cu (Kd.R_reads' HO_5.out).2.2); (case side4 => exact (Kd.R_reads' HO_5.out).2.1); rintro e w40 ⟨rfl, hb⟩; replace HO_5 := a_ (Kd.R_below (rk HO_5.out) hb); replace HO_7 := a_ (Kd.R_below (rk HO_7.out) hb); replace HO_8 := a_ (Kd.R_below (rk HO_8.out) hb); replace HO329 := a_ (Kd.R_below (rk HO329.out) hb); replace HB := a_ (below_step (un HB.out) hb); clear hb))
         go_meet
         case rel => exact ⟨_, (true), (by first | rfl | (simp; done) | (simp [*]; done)), H', ⟨by have := HJ7.out; first | omega | exact Nat.le_refl _⟩, ⟨rk (HO_5.out)⟩, ⟨rk (HO_8.out)⟩, ⟨un HB.out⟩⟩
      case rest =>
       clear HC28
       try clear c1; try clear c2; try clear p2; try clear c3; try clear c3b0; try clear c3b1; try clear c4; try clear c7; try clear c10; try clear c11; try clear c12; try clear c15; try clear c16; try clear c23; try clear c26; try clear c32; try clear c32b0; try clear c34; try clear p2
       obtain ⟨kq, x62_27, rfl, HA, HJ27, HO_5, HO_8, HB⟩ := hcut
       cases kq with
       | zero => exact absurd HA.out (by simp [laws_FnExactRootsOf.j1])
       | succ kj27 =>
        have H := HA.out
        clear HA
        simp only [laws_FnExactRootsOf.j1] at H
        by_cases c41 : x62_27 = true
        ·subst c41
         have H1 : (none) = some r := by rw [if_pos rfl] at H; exact H
         clear H
         have H := H1
         clear H1
         exact absurd H (by simp)
        ·replace c41 := Bool.eq_false_iff.mpr c41
         subst c41
         have H1 : ((laws_markPointS.f kj27 t322 1).bind fun bt334 => ((laws_heldPointS.f kj27 bt334.2 1).bind fun t336 => (if t336 < 0 then (none) else (if t336 = bt334.1 then ((laws_toFloat64S.f kj27 l0).bind fun t337 => ((impl_RootsOf.f kj27 t337 a1).bind fun bt340 => ((laws_eqPointS.f kj27 bt340.1 t315).bind fun t344 => (if t344 = true then (laws_FnExactRootsOf.j2 kj27 bt334.2 bt334.1 (bt340.2 != t316)) else (laws_FnExactRootsOf.j2 kj27 bt334.2 bt334.1 true))))) else (none))))) = some r := by rw [if_neg (show ¬ (false = true) by decide)] at H; exact H
         clear H
         have H := H1
         clear H1
         replace H := Option.bind_eq_some_iff.mp H
         obtain ⟨⟨t334, t335⟩, A420, H⟩ := H
         replace H : ((laws_heldPointS.f kj27 t335 1).bind fun t336 => (if t336 < 0 then (none) else (if t336 = t334 then ((laws_toFloat64S.f kj27 l0).bind fun t337 => ((impl_RootsOf.f kj27 t337 a1).bind fun bt340 => ((laws_eqPointS.f kj27 bt340.1 t315).bind fun t344 => (if t344 = true then (laws_FnExactRootsOf.j2 kj27 t335 t334 (bt340.2 != t316)) else (laws_FnExactRootsOf.j2 kj27 t335 t334 true))))) else (none)))) = some r := H
         have A42 := Aside0.mk A420
         clear A420
         replace H := Option.bind_eq_some_iff.mp H
         obtain ⟨t336, A430, H⟩ := H
         have A43 := Aside0.mk A430
         clear A430
         by_cases c44 : t336 < 0
         ·rw [if_pos c44] at H
          exact absurd H (by simp)
         ·rw [if_neg c44] at H
          have c44b0 : decide (t336 < 0) = false := decide_eq_false c44
          clear c44
          by_cases c45 : t336 = t334
          ·rw [if_pos c45] at H
           have c45b0 : (t336 == t334) = true := beq_iff_eq.mpr c45
           have c45b1 : (t336 != t334) = false := bne_eq_false_iff_eq.mpr c45
           clear c45
           replace H := Option.bind_eq_some_iff.mp H
           obtain ⟨t337, A460, H⟩ := H
           have A46 := Aside0.mk A460
           clear A460
           replace H := Option.bind_eq_some_iff.mp H
           obtain ⟨⟨t340, t341⟩, A470, H⟩ := H
           replace H : ((laws_eqPointS.f kj27 t340 t315).bind fun t344 => (if t344 = true then (laws_FnExactRootsOf.j2 kj27 t335 t334 (t341 != t316)) else (laws_FnExactRootsOf.j2 kj27 t335 t334 true))) = some r := H
           have A47 := Aside0.mk A470
           clear A470
           have HC48 := Aside0.mk H
           clear H
           obtain ⟨Ao49, co49, eo49⟩ := Kd.R_slice HO_8.out
           subst eo49
           go_upto_region 23 with (first | ((with_reducible refine gate_callee (f := 13) rfl ?_); refine goesL_ (some 65) rfl rfl Try.func13 (by kernel_rfl) rfl #[.slice Ao49 t322.length co49, .int .i64 1] rfl (by (try simp only [lA, lB, lC]); first | done | rfl | (simp only [lD, lE]; rfl)) ?_; (with_reducible refine (laws_markPointS.calls kj27 (fun k_ => some k_ = (.slice Ao49 t322.length co49 : Value).ownBlock) (.slice Ao49 t322.length co49) t322 1 t334 t335 w _ ?side1 ?side2 A42.out).mono ?_); (case side1 => exact un HB.out); (case side2 => exact Kd.R_tight rfl HO_8.out); rintro e w50 ⟨rfl, hy0, hb, hkp⟩; refine ⟨_, rfl, ?_⟩; replace HO_5 := a_ (Kd.R_mono (ok' := fun k_ => N_ (.slice Ao49 t322.length co49) k_) (Kd.R_keptB (HO_5.out) hkp (fun k_ hk_ hs_ => (hk_) hs_)) (fun k_ hk_ => hk_.1)); replace HO_8 := a_ (Kd.R_reok rfl hy0 (fun k_ e_ => HO_8.out.1 k_ e_)); replace HB := a_ (hb); clear hb hkp hy0) | ((with_reducible refine gate_callee (f := 14) rfl ?_); refine goesL_ (some 68) rfl rfl Try.func14 (by kernel_rfl) rfl #[.slice Ao49 t335.length co49, .int .i64 1] rfl (by (try simp only [lA, lB, lC]); first | done | (rw [show t335.length = t322.length from (Kd.R_reads' HO_8.out).1.symm] <;> rfl) | rfl | (simp only [lD, lE]; rfl)) ?_; (with_reducible refine (laws_heldPointS.calls kj27 _ _ t335 1 t336 _ ?side1 ?side2 A43.out).mono ?_); (case side1 => exact cu (Kd.R_reads' HO_8.out).2.2); (case side2 => rw [show t335.length = t322.length from (Kd.R_reads' HO_8.out).1.symm]; exact (Kd.R_reads' HO_8.out).2.1); rintro e w' ⟨rfl, ⟨nd, rfl⟩⟩; refine ⟨_, rfl, ?_⟩) | ((with_reducible refine gate_callee (f := 7) rfl ?_); refine goesL_ (some 76) rfl rfl Try.func7 (by kernel_rfl) rfl #[.slice A0 l0.length c0] rfl (by (try simp only [lA, lB, lC]); first | done | rfl | (simp only [lD, lE]; rfl)) ?_; (with_reducible refine (laws_toFloat64S.calls kj27 _ _ l0 t337 _ ?side1 ?side2 A46.out).mono ?_); (case side1 => exact Kd.C_below HR0.out (un HB.out)); (case side2 => exact HC0.out); rintro e w51 ⟨v338, rfl, ho0, hb⟩; refine ⟨_, rfl, ?_⟩; replace HO_5 := a_ (Kd.R_below (rk HO_5.out) hb); replace HO_8 := a_ (Kd.R_below (rk HO_8.out) hb); have HO339 := a_ (Kd.R_lower ho0 (bs HB.out)); replace HB := a_ (below_step (un HB.out) hb); clear hb ho0; obtain ⟨Ao52, co52, eo52⟩ := Kd.R_slice HO339.out; subst eo52) | ((with_reducible refine gate_callee (f := 16) rfl ?_); refine goesL_ (some 78) rfl rfl Try.func16 (by kernel_rfl) rfl #[.slice Ao52 t337.length co52, .int .i64 a1] rfl (by (try simp only [lA, lB, lC]); first | done | rfl | (simp only [lD, lE]; rfl)) ?_; (with_reducible refine (impl_RootsOf.calls kj27 _ _ t337 a1 t340 t341 _ ?side1 ?side2 A47.out).mono ?_); (case side1 => exact cu (Kd.R_reads' HO339.out).2.2); (case side2 => exact (Kd.R_reads' HO339.out).2.1); rintro e w53 ⟨v342, rfl, ho0, hb⟩; refine ⟨_, rfl, ?_⟩; replace HO339 := a_ (Kd.R_below (rk HO339.out) hb); have HO343 := a_ (Kd.R_lower (nw (nw ho0 HO_5.out) HO_8.out) (bs HB.out)); replace HO_5 := a_ (Kd.R_elder' (rk HO_5.out) (Kd.R_base ho0) hb); replace HO_8 := a_ (Kd.R_elder' (rk HO_8.out) (Kd.R_base ho0) hb); replace HB := a_ (below_step (un HB.out) hb); clear hb ho0))
           (try simp only [Act.put, sB, sC, sD])
           go_cut [89] (fun v89 wc => ∃ (kq : Nat) (x89_47 : Bool), v89 = .bool x89_47 ∧ Aside0 (laws_FnExactRootsOf.j2 kq t335 t334 x89_47 = some r) ∧ Aside0 (kq ≤ kj27) ∧ Aside0 (Kd.R k42 42 wc w.heap.size (fun _ => True) (.slice Ao49 t322.length co49) t335) ∧ Aside0 (Below w.heap.size w wc))
           case first =>
            have H := HC48.out
            clear HC48
            replace H := Option.bind_eq_some_iff.mp H
            obtain ⟨t344, A540, H⟩ := H
            have A54 := Aside0.mk A540
            clear A540
            by_cases c55 : t344 = true
            ·subst c55
             have H1 : (laws_FnExactRootsOf.j2 kj27 t335 t334 (t341 != t316)) = some r := by rw [if_pos rfl] at H; exact H
             clear H
             have H := H1
             clear H1
             have H' := Aside0.mk H
             clear H
             obtain ⟨Ao56, co56, eo56⟩ := Kd.R_slice HO343.out
             subst eo56
             obtain ⟨Ao57, co57, eo57⟩ := Kd.R_slice HO_5.out
             subst eo57
             go_wp2_with (first | ((with_reducible refine gate_callee (f := 10) rfl ?_); refine goesL_ (some 83) rfl rfl Try.func10 (by kernel_rfl) rfl #[.slice Ao56 t340.length co56, .slice Ao57 t315.length co57] rfl (by (try simp only [lA, lB, lC]); first | done | rfl | (simp only [lD, lE]; rfl)) ?_; (with_reducible refine (laws_eqPointS.calls kj27 _ _ t340 _ _ t315 true _ ?side1 ?side2 ?side3 ?side4 A54.out).mono ?_); (case side1 => exact cu (Kd.R_reads' HO343.out).2.2); (case side2 => exact (Kd.R_reads' HO343.out).2.1); (case side3 => exact cu (Kd.R_reads' HO_5.out).2.2); (case side4 => exact (Kd.R_reads' HO_5.out).2.1); rintro e w58 ⟨rfl, hb⟩; refine ⟨_, rfl, ?_⟩; replace HO_5 := a_ (Kd.R_below (rk HO_5.out) hb); replace HO_8 := a_ (Kd.R_below (rk HO_8.out) hb); replace HO339 := a_ (Kd.R_below (rk HO339.out) hb); replace HO343 := a_ (Kd.R_below (rk HO343.out) hb); replace HB := a_ (below_step (un HB.out) hb); clear hb))
             go_meet
             case rel => exact ⟨_, ((t341 != t316)), (by first | rfl | (simp; done) | (simp [*]; done)), H', ⟨by have := HJ7.out; have := HJ27.out; first | omega | exact Nat.le_refl _⟩, ⟨rk (Kd.R_mono HO_8.out (fun _ hk => trivial))⟩, ⟨un HB.out⟩⟩
            ·replace c55 := Bool.eq_false_iff.mpr c55
             subst c55
             have H1 : (laws_FnExactRootsOf.j2 kj27 t335 t334 true) = some r := by rw [if_neg (show ¬ (false = true) by decide)] at H; exact H
             clear H
             have H := H1
             clear H1
             have H' := Aside0.mk H
             clear H
             obtain ⟨Ao59, co59, eo59⟩ := Kd.R_slice HO343.out
             subst eo59
             obtain ⟨Ao60, co60, eo60⟩ := Kd.R_slice HO_5.out
             subst eo60
             go_wp2_with (first | ((with_reducible refine gate_callee (f := 10) rfl ?_); refine goesL_ (some 83) rfl rfl Try.func10 (by kernel_rfl) rfl #[.slice Ao59 t340.length co59, .slice Ao60 t315.length co60] rfl (by (try simp only [lA, lB, lC]); first | done | rfl | (simp only [lD, lE]; rfl)) ?_; (with_reducible refine (laws_eqPointS.calls kj27 _ _ t340 _ _ t315 false _ ?side1 ?side2 ?side3 ?side4 A54.out).mono ?_); (case side1 => exact cu (Kd.R_reads' HO343.out).2.2); (case side2 => exact (Kd.R_reads' HO343.out).2.1); (case side3 => exact cu (Kd.R_reads' HO_5.out).2.2); (case side4 => exact (Kd.R_reads' HO_5.out).2.1); rintro e w61 ⟨rfl, hb⟩; refine ⟨_, rfl, ?_⟩; replace HO_5 := a_ (Kd.R_below (rk HO_5.out) hb); replace HO_8 := a_ (Kd.R_below (rk HO_8.out) hb); replace HO339 := a_ (Kd.R_below (rk HO339.out) hb); replace HO343 := a_ (Kd.R_below (rk HO343.out) hb); replace HB := a_ (below_step (un HB.out) hb); clear hb))
             go_meet
             case rel => exact ⟨_, (true), (by first | rfl | (simp; done) | (simp [*]; done)), H', ⟨by have := HJ7.out; have := HJ27.out; first | omega | exact Nat.le_refl _⟩, ⟨rk (Kd.R_mono HO_8.out (fun _ hk => trivial))⟩, ⟨un HB.out⟩⟩
           case rest =>
            clear HC48
            try clear c1; try clear c2; try clear p2; try clear c3; try clear c3b0; try clear c3b1; try clear c4; try clear c5; try clear c7; try clear c10; try clear c11; try clear c12; try clear c13; try clear c14; try clear c15; try clear c16; try clear c23; try clear c26; try clear c32; try clear c32b0; try clear c34; try clear c41; try clear c44; try clear c44b0; try clear c45; try clear c45b0; try clear c45b1; try clear c55; try clear p2
            obtain ⟨kq, x89_47, rfl, HA, HJ47, HO_8, HB⟩ := hcut
            have hl8_47 := (Kd.R_reads' HO_8.out).1
            rw [hl8_47] at HO_8
            (try simp only [hl8_47])
            cases kq with
            | zero => exact absurd HA.out (by simp [laws_FnExactRootsOf.j2])
            | succ kj47 =>
             have H := HA.out
             clear HA
             simp only [laws_FnExactRootsOf.j2] at H
             by_cases c62 : x89_47 = true
             ·subst c62
              have H1 : (none) = some r := by rw [if_pos rfl] at H; exact H
              clear H
              have H := H1
              clear H1
              exact absurd H (by simp)
             ·replace c62 := Bool.eq_false_iff.mpr c62
              subst c62
              have H1 : ((laws_heldPointS.f kj47 t335 1).bind fun t345 => (if t345 < 0 then (none) else (if t345 = t334 then (some true) else (none)))) = some r := by rw [if_neg (show ¬ (false = true) by decide)] at H; exact H
              clear H
              have H := H1
              clear H1
              replace H := Option.bind_eq_some_iff.mp H
              obtain ⟨t345, A630, H⟩ := H
              have A63 := Aside0.mk A630
              clear A630
              by_cases c64 : t345 < 0
              ·rw [if_pos c64] at H
               exact absurd H (by simp)
              ·rw [if_neg c64] at H
               have c64b0 : decide (t345 < 0) = false := decide_eq_false c64
               clear c64
               by_cases c65 : t345 = t334
               ·rw [if_pos c65] at H
                have c65b0 : (t345 == t334) = true := beq_iff_eq.mpr c65
                have c65b1 : (t345 != t334) = false := bne_eq_false_iff_eq.mpr c65
                clear c65
                obtain rfl := Option.some.inj H
                go_wp2_with (first | ((with_reducible refine gate_callee (f := 14) rfl ?_); refine goesL_ (some 92) rfl rfl Try.func14 (by kernel_rfl) rfl #[.slice Ao49 t335.length co49, .int .i64 1] rfl (by (try simp only [lA, lB, lC]); first | done | rfl | (simp only [lD, lE]; rfl)) ?_; (with_reducible refine (laws_heldPointS.calls kj47 _ _ t335 1 t345 _ ?side1 ?side2 A63.out).mono ?_); (case side1 => exact cu (Kd.R_reads' HO_8.out).2.2); (case side2 => exact (Kd.R_reads' HO_8.out).2.1); rintro e w' ⟨rfl, ⟨nd, rfl⟩⟩; refine ⟨_, rfl, ?_⟩))
                go_ret
                exact ⟨by first | rfl | (simp [errW_none, errW_some] <;> rfl) | (simp [*, errW_none, errW_some] <;> rfl), un HB.out⟩
               ·rw [if_neg c65] at H
                exact absurd H (by simp)
          ·rw [if_neg c45] at H
           exact absurd H (by simp)
     ·replace c26 := Bool.eq_false_iff.mpr c26
      subst c26
      have H1 : (none) = some r := by rw [if_neg (show ¬ (false = true) by decide)] at H; exact H
      clear H
      have H := H1
      clear H1
      exact absurd H (by simp)

end Go.Proofs.Ytlfejohlehkbgaa.PFnExactRootsOf
